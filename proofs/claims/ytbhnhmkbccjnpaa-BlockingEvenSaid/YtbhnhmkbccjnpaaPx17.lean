-- own print
import Derived.Test.YtbhnhmkbccjnpaaPx0
namespace Go.Proofs.Ytbhnhmkbccjnpaa.P
open Go.RowKit Go.Proofs.YtbhnhmkbccjnpaaW.PrintWords Go.Proofs.YtbhnhmkbccjnpaaW.PrintLast Go.Proofs.YtbhnhmkbccjnpaaW.PrintErr Go.Proofs.YtbhnhmkbccjnpaaW.PrintMore
attribute [local go_sem] max2_int min2_int max_two min_two max_three min_three max_four min_four run_eql_errOf run_neq_errOf eqGuard_errOf   -- for this text's walks alone
set_option linter.unusedVariables false
set_option linter.unusedSimpArgs false

/-! ### fault_Wrap: function 30 -/
def fault_Wrap.f (a0 : ByteArray) (l1 : List FE) : Option (List FE) := some (if l1.length = 0 then [] else [⟨a0, false, 0⟩])
theorem fault_Wrap.calls (a0 : ByteArray) (A1 : Option Addr) (c1 : Nat) (l1 : List FE) (r : List FE) (w : World) (hr1 : Kd.C kF w A1 l1.length l1) (hc1 : l1.length ≤ c1) (h : fault_Wrap.f a0 l1 = some r) :
    Calls Try.prog 30 #[.string a0, errOf (.slice A1 l1.length c1)] w fun e w' => ∃ v0_ : Value, e = .returned (errOf v0_) ∧ Kd.R kF 67 w' w.heap.size (fun _ => True) v0_ r ∧ Below w.heap.size w w' := by
  unfold fault_Wrap.f at h
  clear hr1 hc1
  by_cases hz : l1.length = 0
  · rw [if_pos hz] at h
    obtain rfl := Option.some.inj h
    rw [hz, errOf_zero]
    clear hz
    go_enter Try.func30, Try.ntmps30
    go_wp2
    go_ret
    exact ⟨.slice none 0 0, rfl, fault_none _ _ _, Below.refl _ _⟩
  · rw [if_neg hz] at h
    obtain rfl := Option.some.inj h
    rw [errOf_pos _ _ _ hz]
    clear hz
    go_enter Try.func30, Try.ntmps30
    go_wp2
    go_ret
    exact ⟨.slice (some ⟨w.heap.size, 0, none⟩) 1 1, rfl, fault_row w _ _ ⟨a0, false, 0⟩ _ _ (Nat.le_refl _) trivial (fun h => by cases h), below_alloc (Below.refl _ _) _⟩

end Go.Proofs.Ytbhnhmkbccjnpaa.P
