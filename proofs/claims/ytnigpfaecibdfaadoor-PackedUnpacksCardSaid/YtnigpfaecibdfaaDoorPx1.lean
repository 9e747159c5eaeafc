-- own print
import Derived.Test.YtnigpfaecibdfaaDoorPx0
namespace Go.Proofs.YtnigpfaecibdfaaDoor.P
open Go.RowKit Go.Proofs.YtnigpfaecibdfaaDoorW.PrintWords Go.Proofs.YtnigpfaecibdfaaDoorW.PrintLast Go.Proofs.YtnigpfaecibdfaaDoorW.PrintErr Go.Proofs.YtnigpfaecibdfaaDoorW.PrintMore
attribute [local go_sem] max2_int min2_int max_two min_two max_three min_three max_four min_four run_eql_errOf run_neq_errOf eqGuard_errOf   -- for this text's walks alone
set_option linter.unusedVariables false
set_option linter.unusedSimpArgs false

/-! ### geyserlaw02_cut: function 13 -/
def geyserlaw02_cut.f (l0 : List Int) : Option (List Int) := some (if (l0.length : Int) > 20 then l0.take 20 else l0)
theorem geyserlaw02_cut.view_read {A0 : Option Addr} {l0 r : List Int} {w : World} (hr0 : Kd.C (Kd.int .u64) w A0 l0.length l0) (h : geyserlaw02_cut.f l0 = some r) : Kd.C (Kd.int .u64) w A0 r.length r := by
  unfold geyserlaw02_cut.f at h
  obtain rfl := Option.some.inj h
  by_cases c : (l0.length : Int) > 20
  · rw [if_pos c]
    have hl : (l0.take 20).length = 20 := by rw [List.length_take]; omega
    have h2 := ReadsOf.take_ (d := (0 : Int)) (Kd.reads_of_C hr0) 20 (by omega)
    refine Kd.C_of_reads (d := (0 : Int)) (h1 := fun _ => rfl) ?_
    rw [hl]
    exact h2
  · rw [if_neg c]
    exact hr0
theorem geyserlaw02_cut.view_cap {c0 : Nat} {l0 r : List Int} (hc0 : l0.length ≤ c0) (h : geyserlaw02_cut.f l0 = some r) : r.length ≤ c0 := by
  unfold geyserlaw02_cut.f at h
  obtain rfl := Option.some.inj h
  split
  · rw [List.length_take]; omega
  · exact hc0
theorem geyserlaw02_cut.calls (A0 : Option Addr) (c0 : Nat) (l0 : List Int) (r : List Int) (w : World) (hr0 : Kd.C (Kd.int .u64) w A0 l0.length l0) (hc0 : l0.length ≤ c0) (h : geyserlaw02_cut.f l0 = some r) :
    Calls Tryd.prog 13 #[.slice A0 l0.length c0] w fun e w' => e = .returned (.slice A0 r.length c0) ∧ Drawn0 w w' := by
  unfold geyserlaw02_cut.f at h
  obtain rfl := Option.some.inj h
  by_cases c : (l0.length : Int) > 20
  · rw [if_pos c]
    have c1 : decide (20 < (l0.length : Int)) = true := decide_eq_true c
    have c2 : decide (20 < l0.length) = true := decide_eq_true (by omega)
    obtain ⟨i0, hi0, _, hsz, _⟩ := info_parts info64
    obtain ⟨hcut, hA, hC⟩ := print_take_of (P := Tryd.prog) (Value.int .u64) 0 22 64 .i64 Tryd.underlying22 hi0 hsz A0 c0 l0 20 (by omega) (by omega) hc0
    have e20 : (20 : Int).toNat = 20 := rfl
    rw [e20] at hcut
    clear c
    go_enter Tryd.func13, Tryd.ntmps13
    go_wp2
    go_ret
    exact ⟨by first | rfl | simp, by repeat (first | exact Drawn0.refl _ | apply Drawn0.step)⟩
  · rw [if_neg c]
    have c1 : decide (20 < (l0.length : Int)) = false := decide_eq_false c
    have c2 : decide (20 < l0.length) = false := decide_eq_false (by omega)
    clear c
    go_enter Tryd.func13, Tryd.ntmps13
    go_wp2
    go_ret
    exact ⟨by first | rfl | simp, by repeat (first | exact Drawn0.refl _ | apply Drawn0.step)⟩

end Go.Proofs.YtnigpfaecibdfaaDoor.P
