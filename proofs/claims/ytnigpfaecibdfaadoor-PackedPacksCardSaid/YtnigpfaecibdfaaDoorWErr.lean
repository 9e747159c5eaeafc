/-
  Words of this session's own for errors that are a pointer to api.Fault: such an error is told as a row of at most one Fault (its call's text; whether it wraps a bare number, and which).
-/
import Derived.Test.YtnigpfaecibdfaaDoorProg
import Derived.Test.YtnigpfaecibdfaaDoorWWords
import Derived.Test.YtnigpfaecibdfaaDoorWLast
import Derived.Test.YtnigpfaecibdfaaDoorWMore
import Derived.Test.YtnigpfaecibdfaaDoorWFoot
import Derived.Test.YtnigpfaecibdfaaDoorWFootNe
import Derived.Test.YtnigpfaecibdfaaDoorWKept
import Derived.WalkKit
import Derived.WideLaws
import Derived.Lib.Hide
namespace Go.Proofs.YtnigpfaecibdfaaDoorW.PrintErr
open Go.RowKit Go.Proofs.YtnigpfaecibdfaaDoorW.PrintWords Go.Proofs.YtnigpfaecibdfaaDoorW.PrintLast Go.Proofs.YtnigpfaecibdfaaDoorW.PrintMore

/-- What is told of a fault: its call; does it wrap a bare number, and which. -/
structure FE where
  call : ByteArray
  flat : Bool
  num : Int
def zFE : FE := ⟨⟨#[]⟩, false, 0⟩

def kFK (x : FE) (cs : List Value) : Prop := ∃ u y, cs = [.string x.call, .iface u y] ∧ (x.flat = true → u = 69 ∧ y = .int .i64 x.num)

def kF : Kd FE where
  sz := 2
  E := []
  K := fun _ x cs => kFK x cs
  M := fun _ _ _ x cs => kFK x cs
  K_len := by rintro w x cs ⟨u, y, rfl, _⟩; rfl
  K_one := by
    rintro w x cs ⟨u, y, rfl, _⟩ v hv
    simp at hv
    rcases hv with rfl | rfl <;> rfl
  K_below := fun _ h => h
  K_of_M := fun h => h
  M_mono := fun _ h => h
  M_bound := fun h => h
  M_move := fun _ h => h
  M_lower := fun _ h => h
theorem kF_heap : Kd.Heap kF := ⟨fun _ h => h⟩

/-- The error value of a row. -/
def errOf : Value → Value
  | .slice A n _ => if n = 0 then .nilIface else .iface 74 (.pointer A)
  | _ => .nilIface
theorem errOf_nil : errOf (.slice none 0 0) = .nilIface := rfl
theorem errOf_zero (A : Option Addr) (c : Nat) : errOf (.slice A 0 c) = .nilIface := rfl
theorem errOf_pos (A : Option Addr) (n c : Nat) (h : n ≠ 0) : errOf (.slice A n c) = .iface 74 (.pointer A) := by simp [errOf, h]

theorem run_eql_errOf (w : World) (A : Option Addr) (n c : Nat) : (binOp .eql 31 (errOf (.slice A n c)) .nilIface).run Tryd.prog w = .ok (.bool ((n : Int) == 0)) w := by
  by_cases h : n = 0
  · subst h; rw [errOf_zero]; exact run_eql_nil_nil w 31 (by kernel_rfl)
  · rw [errOf_pos _ _ _ h, run_eql_held_nil w 31 _ _ (by kernel_rfl)]
    have : ((n : Int) == 0) = false := by simp; omega
    rw [this]
theorem run_neq_errOf (w : World) (A : Option Addr) (n c : Nat) : (binOp .neq 31 (errOf (.slice A n c)) .nilIface).run Tryd.prog w = .ok (.bool ((n : Int) != 0)) w := by
  by_cases h : n = 0
  · subst h; rw [errOf_zero]; exact run_neq_nil_nil w 31 (by kernel_rfl)
  · rw [errOf_pos _ _ _ h, run_neq_held_nil w 31 _ _ (by kernel_rfl)]
    have : ((n : Int) != 0) = true := by simp; omega
    rw [this]

theorem eqGuard_errOf (op : BinOp) (t : TypeId) (x : Operand) (c v : Value) : eqGuard op t x (.const c) (errOf v) .nilIface = pure () := by
  unfold errOf
  split
  · split
    · exact eqGuard_nil_constR ..
    · exact eqGuard_at_iface ..
  · exact eqGuard_nil_constR ..

/-- A new fault is a row of one. -/
theorem fault_row (W : World) (base : Nat) (ok : Nat → Prop) (x : FE) (u : TypeId) (y : Value) (hb : base ≤ W.heap.size) (hok : ok W.heap.size) (hx : x.flat = true → u = 69 ∧ y = .int .i64 x.num) :
    Kd.R kF 79 (W.alloc (.cells #[.string x.call, .iface u y] 79)) base ok (.slice (some ⟨W.heap.size, 0, none⟩) 1 1) [x] := by
  refine ⟨fun k hk => ?_, [.string x.call, .iface u y], ?_, ?_⟩
  · have : W.heap.size = k := by simpa [Value.ownBlock] using hk
    subst this; exact hok
  · exact ⟨rfl, .inr ⟨_, 1, _, rfl, hb, heap_alloc_new W _, Nat.le_refl _, by unfold maxLen; omega, rfl, rfl⟩⟩
  · refine ⟨rfl, fun j p hp => ?_⟩
    match j, hp with
    | 0, hp => obtain rfl : x = p := by simpa using hp
               exact ⟨u, y, rfl, hx⟩
    | j + 1, hp => simp at hp
theorem fault_none (W : World) (base : Nat) (ok : Nat → Prop) : Kd.R kF 79 W base ok (.slice none 0 0) [] := Kd.R_nil _ _ _ _ _

theorem reads_len {α : Type} {R : α → List Value → Prop} {size m n : Nat} {w : World} {A : Option Addr} {ps : List α} (e : m = n) (h : ReadsRow R size w A m ps) : ReadsRow R size w A n ps := by subst e; exact h
/-- An element's row of what came in, beside rows that are written: it is read at whatever world keeps all else. -/
theorem foot_elem {α : Type} {d : Kd α} {e : Nat} {S : Nat → Prop} {w W : World} {ad : Addr} {n : Nat} {xs : List (List α)} (h : ∀ W_, Kept w W_ S → (Kd.slice e d).C W_ (some ad) n xs) (hk : Kept w W S) (i : Int) (h0 : 0 ≤ i) (h1 : i < n)
    {A : Option Addr} {m c : Nat} (hx : W.cell? (ad.add i.toNat) = some (.slice A m c)) : ∀ W_, Kept w W_ S → d.C W_ A (xs.getD i.toNat []).length (xs.getD i.toNat []) := by
  intro W_ hk'
  have hne : ¬ S ad.block := Kd.foot_neS h (by omega) Nat.one_pos
  have cell : ∀ W1, Kept w W1 S → ∃ A1 c1, W1.cell? (ad.add i.toNat) = some (.slice A1 (xs.getD i.toNat []).length c1) ∧ d.C W1 A1 (xs.getD i.toNat []).length (xs.getD i.toNat []) := by
    intro W1 hk1
    obtain ⟨ad1, cs, e1, _, hK, hc⟩ := Kd.C_get (h W1 hk1) ([] : List α) i h0 h1
    cases e1
    obtain ⟨A1, c1, rfl, l1, g1⟩ := hK
    refine ⟨A1, c1, ?_, g1⟩
    have hq := hc 0 _ rfl
    rwa [show (Kd.slice e d).sz = 1 from rfl, Nat.mul_one, Nat.add_zero] at hq
  obtain ⟨A0, c0, k0, _⟩ := cell w (Kept.refl w S)
  obtain ⟨A2, c2, k2, g2⟩ := cell W_ hk'
  have hb : ¬ S (ad.add i.toNat).block := by rw [add_block]; exact hne
  have e1 := (cell_kept k0 hk hb).symm.trans hx
  have e2 := (cell_kept k0 hk' hb).symm.trans k2
  injection e1 with e1
  injection e1 with e1
  injection e2 with e2
  injection e2 with e2
  rw [← e1, e2]
  exact g2
end Go.Proofs.YtnigpfaecibdfaaDoorW.PrintErr
