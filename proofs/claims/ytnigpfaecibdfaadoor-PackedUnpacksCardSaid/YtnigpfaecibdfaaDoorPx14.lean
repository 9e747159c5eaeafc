-- own print
import Derived.Test.YtnigpfaecibdfaaDoorPx0
namespace Go.Proofs.YtnigpfaecibdfaaDoor.P
open Go.RowKit Go.Proofs.YtnigpfaecibdfaaDoorW.PrintWords Go.Proofs.YtnigpfaecibdfaaDoorW.PrintLast Go.Proofs.YtnigpfaecibdfaaDoorW.PrintErr Go.Proofs.YtnigpfaecibdfaaDoorW.PrintMore
attribute [local go_sem] max2_int min2_int max_two min_two max_three min_three max_four min_four run_eql_errOf run_neq_errOf eqGuard_errOf   -- for this text's walks alone
set_option linter.unusedVariables false
set_option linter.unusedSimpArgs false

/-! ### fault_New: function 53 -/
def fault_New.f (a0 : ByteArray) (a1 : Int) : Option (List FE) := some (if a1 = 0 then [] else [⟨a0, true, a1⟩])
theorem fault_New.calls (a0 : ByteArray) (a1 : Int) (r : List FE) (w : World) (h : fault_New.f a0 a1 = some r) :
    Calls Tryd.prog 53 #[.string a0, .int .i64 a1] w fun e w' => ∃ v0_ : Value, e = .returned (errOf v0_) ∧ Kd.R kF 79 w' w.heap.size (fun _ => True) v0_ r ∧ Below w.heap.size w w' := by
  unfold fault_New.f at h
  by_cases hz : a1 = 0
  · rw [if_pos hz] at h
    obtain rfl := Option.some.inj h
    subst hz
    go_enter Tryd.func53, Tryd.ntmps53
    go_wp2
    go_ret
    exact ⟨.slice none 0 0, rfl, fault_none _ _ _, Below.refl _ _⟩
  · rw [if_neg hz] at h
    obtain rfl := Option.some.inj h
    have hz' : (a1 == 0) = false := by simpa using hz
    clear hz
    go_enter Tryd.func53, Tryd.ntmps53
    go_wp2
    go_ret
    exact ⟨.slice (some ⟨w.heap.size, 0, none⟩) 1 1, rfl, fault_row w _ _ ⟨a0, true, a1⟩ 69 _ (Nat.le_refl _) trivial (fun _ => ⟨rfl, rfl⟩), below_alloc (Below.refl _ _) _⟩

end Go.Proofs.YtnigpfaecibdfaaDoor.P
