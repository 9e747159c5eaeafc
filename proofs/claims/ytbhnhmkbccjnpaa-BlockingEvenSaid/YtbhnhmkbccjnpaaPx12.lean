-- own print
import Derived.Test.YtbhnhmkbccjnpaaPx0
namespace Go.Proofs.Ytbhnhmkbccjnpaa.P
open Go.RowKit Go.Proofs.YtbhnhmkbccjnpaaW.PrintWords Go.Proofs.YtbhnhmkbccjnpaaW.PrintLast Go.Proofs.YtbhnhmkbccjnpaaW.PrintErr Go.Proofs.YtbhnhmkbccjnpaaW.PrintMore
attribute [local go_sem] max2_int min2_int max_two min_two max_three min_three max_four min_four run_eql_errOf run_neq_errOf eqGuard_errOf   -- for this text's walks alone
set_option linter.unusedVariables false
set_option linter.unusedSimpArgs false

/-! ### blocking_up: function 28 -/
def blocking_up.f (a0 : Int) (a1 : Int) : Option (Int) := if 0 ≤ a0 ∧ 1 ≤ a1 ∧ a0 ≤ 9223372036854775807 then some (a0 / a1 + (if 0 < a0 % a1 then 1 else 0)) else none
theorem blocking_up.inner_pos (b : Nat) (n m : Int) (w : World) (h0 : 0 ≤ n) (h1 : 1 ≤ m) (ha : w.cell? ⟨b, 0, none⟩ = some (.int .i64 n)) (hb : w.cell? ⟨b + 1, 0, none⟩ = some (.int .i64 m)) (c : 0 < n % m) :
    Calls Try.prog 33 #[.pointer (some ⟨b, 0, none⟩), .pointer (some ⟨b + 1, 0, none⟩)] w fun e w' => e = .returned (.int .i64 1) ∧ w' = w := by
  have hz : (m == 0) = false := by simp; omega
  have c' : decide (n % m > 0) = true := by simpa using c
  go_enter Try.func33, Try.ntmps33
  go_wp2
  go_ret
  exact ⟨rfl, rfl⟩
theorem blocking_up.inner_zero (b : Nat) (n m : Int) (w : World) (h0 : 0 ≤ n) (h1 : 1 ≤ m) (ha : w.cell? ⟨b, 0, none⟩ = some (.int .i64 n)) (hb : w.cell? ⟨b + 1, 0, none⟩ = some (.int .i64 m)) (c : n % m ≤ 0) :
    Calls Try.prog 33 #[.pointer (some ⟨b, 0, none⟩), .pointer (some ⟨b + 1, 0, none⟩)] w fun e w' => e = .returned (.int .i64 0) ∧ w' = w := by
  have hz : (m == 0) = false := by simp; omega
  have c' : decide (n % m > 0) = false := by simp; omega
  go_enter Try.func33, Try.ntmps33
  go_wp2
  go_ret
  exact ⟨rfl, rfl⟩
theorem blocking_up.num (a b : Int) (h0 : 0 ≤ a) (h1 : 1 ≤ b) (h2 : a ≤ 9223372036854775807) (x : Int) (hx : x = (if 0 < a % b then 1 else 0)) : wrap64 (wrap64 (a.tdiv b) + x) = a / b + x := by
  have e1 : a.tdiv b = a / b := Int.tdiv_eq_ediv_of_nonneg h0
  have e2 := Int.mul_ediv_add_emod a b
  have e3 : 0 ≤ a / b := Int.ediv_nonneg h0 (by omega)
  have e4 := Int.emod_nonneg a (show b ≠ 0 by omega)
  have e5 := Int.emod_lt_of_pos a (show 0 < b by omega)
  have e6 : a / b ≤ b * (a / b) := by
    have := Int.mul_le_mul_of_nonneg_right h1 e3
    omega
  rw [e1]
  generalize a / b = q at *
  generalize a % b = r at *
  generalize b * q = p at *
  subst hx
  split <;> (unfold wrap64; omega)
theorem blocking_up.calls (a0 : Int) (a1 : Int) (r : Int) (w : World) (h : blocking_up.f a0 a1 = some r) :
    Calls Try.prog 28 #[.int .i64 a0, .int .i64 a1] w fun e w' => e = .returned (.int .i64 r) ∧ Below w.heap.size w w' := by
  unfold blocking_up.f at h
  split at h
  · rename_i hh
    obtain ⟨h0, h1, h2⟩ := hh
    obtain rfl := Option.some.inj h
    have hz : (a1 == 0) = false := by simp; omega
    have hn := blocking_up.num a0 a1 h0 h1 h2 _ rfl
    by_cases c : 0 < a0 % a1
    · rw [if_pos c] at hn ⊢
      have HN := Lib.hid hn
      have HC := Lib.hid c
      clear h h2 hn c
      go_enter Try.func28, Try.ntmps28
      go_wp2_with (fail)
      go_quiet ((go_at_call 33; exact Calls.quiet_of_same (blocking_up.inner_pos _ _ _ _ h0 h1 (by simp) (by simp) HC.out)))
      go_wp2
      go_ret
      refine ⟨?_, pw_below_drewN (below_alloc (below_alloc (Below.refl _ _) _) _) _⟩
      rw [← HN.out]; rfl
    · rw [if_neg c] at hn ⊢
      have HN := Lib.hid hn
      have HC := Lib.hid (show a0 % a1 ≤ 0 by omega)
      clear h h2 hn c
      go_enter Try.func28, Try.ntmps28
      go_wp2_with (fail)
      go_quiet ((go_at_call 33; exact Calls.quiet_of_same (blocking_up.inner_zero _ _ _ _ h0 h1 (by simp) (by simp) HC.out)))
      go_wp2
      go_ret
      refine ⟨?_, pw_below_drewN (below_alloc (below_alloc (Below.refl _ _) _) _) _⟩
      rw [← HN.out]; simp
  · cases h

end Go.Proofs.Ytbhnhmkbccjnpaa.P
