/-
  Words of this session's own for errors that are a pointer to api.Fault: such an error is told as a row of at most one Fault (its call's text; whether it wraps a bare number, and which).
-/
import Derived.Test.YtomeefngdnmdaaaDoorProg
import Derived.Test.YtomeefngdnmdaaaDoorWWords
import Derived.Test.YtomeefngdnmdaaaDoorWLast
import Derived.Test.YtomeefngdnmdaaaDoorWMore
import Derived.Test.YtomeefngdnmdaaaDoorWFoot
import Derived.Test.YtomeefngdnmdaaaDoorWFootNe
import Derived.Test.YtomeefngdnmdaaaDoorWKept
import Derived.WalkKit
import Derived.WideLaws
import Derived.Lib.Hide
namespace Go.Proofs.YtomeefngdnmdaaaDoorW.PrintErr
open Go.RowKit Go.Proofs.YtomeefngdnmdaaaDoorW.PrintWords Go.Proofs.YtomeefngdnmdaaaDoorW.PrintLast Go.Proofs.YtomeefngdnmdaaaDoorW.PrintMore

/-- What is told of a fault: its call; does it wrap a bare number, and which. -/
structure FE where
  call : ByteArray
  flat : Bool
  num : Int
def zFE : FE := ⟨⟨#[]⟩, false, 0⟩

/-- The inner fault of a wrap: a block of its own that wraps a bare number. -/
def kFI (w : World) (g : Nat) (n : Int) : Prop := ∃ c2 cells, w.heap[g]? = some (.cells cells 61 (0, 0)) ∧ cells.toList.take 2 = [.string c2, .iface 54 (.int .i64 n)]
theorem kFI.lt {w : World} {g : Nat} {n : Int} (h : kFI w g n) : g < w.heap.size := by
  obtain ⟨c2, cells, hh, _⟩ := h
  exact blk_lt hh
theorem kFI.at {w w1 : World} {g : Nat} {n : Int} (h : kFI w g n) (hk : w1.heap[g]? = w.heap[g]?) : kFI w1 g n := by
  obtain ⟨c2, cells, hh, hc⟩ := h
  exact ⟨c2, cells, hk.trans hh, hc⟩
/-- The cells of a fault: its call; a bare number (flat), or (not flat, the number not 0) a fault that wraps that number, or whatever (not flat, 0). I: what is asked of the inner fault's block. -/
def kFK (I : Nat → Prop) (w : World) (x : FE) (cs : List Value) : Prop :=
  ∃ u y, cs = [.string x.call, .iface u y] ∧ (x.flat = true → u = 54 ∧ y = .int .i64 x.num) ∧ (x.flat = false → x.num ≠ 0 → ∃ g, I g ∧ u = 56 ∧ y = .pointer (some ⟨g, 0, none⟩) ∧ kFI w g x.num)
theorem kFK.imp {I J : Nat → Prop} {w w1 : World} {x : FE} {cs : List Value} (h : kFK I w x cs) (hi : ∀ g, I g → kFI w g x.num → J g ∧ kFI w1 g x.num) : kFK J w1 x cs := by
  obtain ⟨u, y, e, h1, h2⟩ := h
  refine ⟨u, y, e, h1, fun a b => ?_⟩
  obtain ⟨g, hg, e1, e2, h3⟩ := h2 a b
  exact ⟨g, (hi g hg h3).1, e1, e2, (hi g hg h3).2⟩
def kF : Kd FE where
  sz := 2
  E := [61]
  K := fun w x cs => kFK (fun _ => True) w x cs
  M := fun w base ok x cs => kFK (fun g => base ≤ g ∧ ok g) w x cs
  K_len := by rintro w x cs ⟨u, y, rfl, _⟩; rfl
  K_one := by
    rintro w x cs ⟨u, y, rfl, _⟩ v hv
    simp at hv
    rcases hv with rfl | rfl <;> rfl
  K_below := fun hb h => h.imp fun g _ hg => ⟨trivial, hg.at (hb.block g hg.lt)⟩
  K_of_M := fun h => h.imp fun g _ hg => ⟨trivial, hg⟩
  M_mono := fun hok h => h.imp fun g hi hg => ⟨⟨hi.1, hok g hi.2⟩, hg⟩
  M_bound := fun h => h.imp fun g hi hg => ⟨⟨hi.1, hi.2, hi.1, hg.lt, _, List.mem_singleton.2 rfl, by obtain ⟨_, cells, hh, _⟩ := hg; exact ⟨cells, hh⟩⟩, hg⟩
  M_move := fun hm h => h.imp fun g hi hg => ⟨hi, hg.at (hm g hi.2)⟩
  M_lower := fun hl h => h.imp fun g hi hg => ⟨⟨Nat.le_trans hl hi.1, hi.2⟩, hg⟩
theorem kF_heap : Kd.Heap kF := ⟨fun hb h => h.imp fun g _ hg => ⟨trivial, hg.at (hb g hg.lt)⟩⟩

/-- The same, where nothing is told of an inner fault: such a row leads to nothing. -/
def kF0K (x : FE) (cs : List Value) : Prop := ∃ u y, cs = [.string x.call, .iface u y] ∧ (x.flat = true → u = 54 ∧ y = .int .i64 x.num)
def kF0 : Kd FE where
  sz := 2
  E := []
  K := fun _ x cs => kF0K x cs
  M := fun _ _ _ x cs => kF0K x cs
  K_len := by rintro w x cs ⟨u, y, rfl, _⟩; rfl
  K_one := by
    rintro w x cs ⟨u, y, rfl, _⟩ v hv
    simp at hv
    rcases hv with rfl | rfl <;> rfl
  K_below := fun _ h => h
  K_of_M := fun h => h
  M_mono := fun _ h => h
  M_bound := fun h => h
  M_move := fun _ h => h
  M_lower := fun _ h => h
theorem kF0_of {e : Nat} {w : World} {base : Nat} {ok : Nat → Prop} {v : Value} {xs : List FE} (h : Kd.R kF e w base ok v xs) : Kd.R kF0 e w base ok v xs := by
  obtain ⟨h0, inner, ho, hr⟩ := h
  refine ⟨h0, inner, ho, hr.imp_ fun p c hp => ?_⟩
  obtain ⟨u, y, e1, h1, _⟩ := hp
  exact ⟨u, y, e1, h1⟩

/-- The error value of a row. -/
def errOf : Value → Value
  | .slice A n _ => if n = 0 then .nilIface else .iface 56 (.pointer A)
  | _ => .nilIface
theorem errOf_nil : errOf (.slice none 0 0) = .nilIface := rfl
theorem errOf_zero (A : Option Addr) (c : Nat) : errOf (.slice A 0 c) = .nilIface := rfl
theorem errOf_pos (A : Option Addr) (n c : Nat) (h : n ≠ 0) : errOf (.slice A n c) = .iface 56 (.pointer A) := by simp [errOf, h]

theorem run_eql_errOf (w : World) (A : Option Addr) (n c : Nat) : (binOp .eql 25 (errOf (.slice A n c)) .nilIface).run Tryd.prog w = .ok (.bool ((n : Int) == 0)) w := by
  by_cases h : n = 0
  · subst h; rw [errOf_zero]; exact run_eql_nil_nil w 25 (by kernel_rfl)
  · rw [errOf_pos _ _ _ h, run_eql_held_nil w 25 _ _ (by kernel_rfl)]
    have : ((n : Int) == 0) = false := by simp; omega
    rw [this]
theorem run_neq_errOf (w : World) (A : Option Addr) (n c : Nat) : (binOp .neq 25 (errOf (.slice A n c)) .nilIface).run Tryd.prog w = .ok (.bool ((n : Int) != 0)) w := by
  by_cases h : n = 0
  · subst h; rw [errOf_zero]; exact run_neq_nil_nil w 25 (by kernel_rfl)
  · rw [errOf_pos _ _ _ h, run_neq_held_nil w 25 _ _ (by kernel_rfl)]
    have : ((n : Int) != 0) = true := by simp; omega
    rw [this]

theorem eqGuard_errOf (op : BinOp) (t : TypeId) (x : Operand) (c v : Value) : eqGuard op t x (.const c) (errOf v) .nilIface = pure () := by
  unfold errOf
  split
  · split
    · exact eqGuard_nil_constR ..
    · exact eqGuard_at_iface ..
  · exact eqGuard_nil_constR ..

/-- A new fault is a row of one. -/
theorem fault_row (W : World) (base : Nat) (ok : Nat → Prop) (x : FE) (u : TypeId) (y : Value) (hb : base ≤ W.heap.size) (hok : ok W.heap.size) (hx : x.flat = true → u = 54 ∧ y = .int .i64 x.num) (hx2 : x.flat = false → x.num = 0) :
    Kd.R kF 61 (W.alloc (.cells #[.string x.call, .iface u y] 61)) base ok (.slice (some ⟨W.heap.size, 0, none⟩) 1 1) [x] := by
  refine ⟨fun k hk => ?_, [.string x.call, .iface u y], ?_, ?_⟩
  · have : W.heap.size = k := by simpa [Value.ownBlock] using hk
    subst this; exact hok
  · exact ⟨rfl, .inr ⟨_, 1, _, rfl, hb, heap_alloc_new W _, Nat.le_refl _, by unfold maxLen; omega, rfl, rfl⟩⟩
  · refine ⟨rfl, fun j p hp => ?_⟩
    match j, hp with
    | 0, hp => obtain rfl : x = p := by simpa using hp
               exact ⟨u, y, rfl, hx, fun a b => absurd (hx2 a) b⟩
    | j + 1, hp => simp at hp
theorem fault_none (W : World) (base : Nat) (ok : Nat → Prop) : Kd.R kF 61 W base ok (.slice none 0 0) [] := Kd.R_nil _ _ _ _ _

/-- What a wrap round an error tells: of a flat one its number; of what is deeper nothing. -/
def wrapNum (x : FE) : Int := if x.flat = true then x.num else 0
/-- A new fault round an own one. -/
theorem wrap_row (W w0 : World) (P : Nat → Prop) (call : ByteArray) (x : FE) (A : Option Addr) (n c : Nat) (hB : w0.heap.size ≤ W.heap.size) (h : Kd.R kF0 61 W w0.heap.size P (.slice A n c) [x]) :
    Kd.R kF 61 (W.alloc (.cells #[.string call, .iface 56 (.pointer A)] 61)) w0.heap.size (fun k => P k ∨ W.heap.size ≤ k) (.slice (some ⟨W.heap.size, 0, none⟩) 1 1) [⟨call, false, wrapNum x⟩] := by
  obtain ⟨h0, inner, ⟨hlen, ho⟩, hr⟩ := h
  rcases ho with ⟨_, e0⟩ | ⟨g, cap, cur, hv, hg, hh, h1, h2, h3, h4⟩
  · simp at e0
  · injection hv with e1 e2 e3
    subst e1
    have hP : P g := h0 g (by simp [Value.ownBlock])
    refine ⟨fun k hk => ?_, [.string call, .iface 56 (.pointer (some ⟨g, 0, none⟩))], ?_, ?_⟩
    · have : W.heap.size = k := by simpa [Value.ownBlock] using hk
      subst this; exact .inr (Nat.le_refl _)
    · exact ⟨rfl, .inr ⟨_, 1, _, rfl, hB, heap_alloc_new W _, Nat.le_refl _, by unfold maxLen; omega, rfl, rfl⟩⟩
    · refine ⟨rfl, fun j p hp => ?_⟩
      match j, hp with
      | j + 1, hp => simp at hp
      | 0, hp =>
        obtain rfl : ⟨call, false, wrapNum x⟩ = p := by simpa using hp
        refine ⟨56, .pointer (some ⟨g, 0, none⟩), rfl, And.intro (fun h => by cases h) (fun _ hn => ?_)⟩
        have hf : x.flat = true := by
          by_cases hf : x.flat = true
          · exact hf
          · exact absurd (show wrapNum x = 0 from if_neg hf) hn
        have hnum : wrapNum x = x.num := if_pos hf
        have hlt : g < W.heap.size := blk_lt hh
        refine ⟨g, ⟨hg, .inl hP, by
          intro e
          have : g = W.heap.size := by simpa [Value.ownBlock] using e
          omega⟩, rfl, rfl, ?_⟩
        have hx := hr.2 0 x rfl
        obtain ⟨u, y, hc, hu⟩ := hx
        obtain ⟨rfl, rfl⟩ := hu hf
        have hi : inner.length = 2 := by rw [hlen]; rfl
        have hin : inner = [.string x.call, .iface 54 (.int .i64 x.num)] := by
          have hc2 : (inner.drop (0 * kF0.sz)).take kF0.sz = inner := by
            rw [Nat.zero_mul, List.drop_zero, List.take_of_length_le (by rw [hi]; exact Nat.le_refl _)]
          rw [← hc2]; exact hc
        rw [hnum]
        refine ⟨x.call, cur, ?_, ?_⟩
        · rw [Below.heap_alloc W _ g hlt]; exact hh
        · have h5 : cur.toList.take 2 = inner := h4
          rw [h5, hin]
theorem reads_len {α : Type} {R : α → List Value → Prop} {size m n : Nat} {w : World} {A : Option Addr} {ps : List α} (e : m = n) (h : ReadsRow R size w A m ps) : ReadsRow R size w A n ps := by subst e; exact h
/-- An element's row of what came in, beside rows that are written: it is read at whatever world keeps all else. -/
theorem foot_elem {α : Type} {d : Kd α} {e : Nat} {S : Nat → Prop} {w W : World} {ad : Addr} {n : Nat} {xs : List (List α)} (h : ∀ W_, Kept w W_ S → (Kd.slice e d).C W_ (some ad) n xs) (hk : Kept w W S) (i : Int) (h0 : 0 ≤ i) (h1 : i < n)
    {A : Option Addr} {m c : Nat} (hx : W.cell? (ad.add i.toNat) = some (.slice A m c)) : ∀ W_, Kept w W_ S → d.C W_ A (xs.getD i.toNat []).length (xs.getD i.toNat []) := by
  intro W_ hk'
  have hne : ¬ S ad.block := Kd.foot_neS h (by omega) Nat.one_pos
  have cell : ∀ W1, Kept w W1 S → ∃ A1 c1, W1.cell? (ad.add i.toNat) = some (.slice A1 (xs.getD i.toNat []).length c1) ∧ d.C W1 A1 (xs.getD i.toNat []).length (xs.getD i.toNat []) := by
    intro W1 hk1
    obtain ⟨ad1, cs, e1, _, hK, hc⟩ := Kd.C_get (h W1 hk1) ([] : List α) i h0 h1
    cases e1
    obtain ⟨A1, c1, rfl, l1, g1⟩ := hK
    refine ⟨A1, c1, ?_, g1⟩
    have hq := hc 0 _ rfl
    rwa [show (Kd.slice e d).sz = 1 from rfl, Nat.mul_one, Nat.add_zero] at hq
  obtain ⟨A0, c0, k0, _⟩ := cell w (Kept.refl w S)
  obtain ⟨A2, c2, k2, g2⟩ := cell W_ hk'
  have hb : ¬ S (ad.add i.toNat).block := by rw [add_block]; exact hne
  have e1 := (cell_kept k0 hk hb).symm.trans hx
  have e2 := (cell_kept k0 hk' hb).symm.trans k2
  injection e1 with e1
  injection e1 with e1
  injection e2 with e2
  injection e2 with e2
  rw [← e1, e2]
  exact g2
end Go.Proofs.YtomeefngdnmdaaaDoorW.PrintErr
