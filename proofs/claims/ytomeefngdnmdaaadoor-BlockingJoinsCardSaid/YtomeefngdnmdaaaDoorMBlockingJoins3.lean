-- joined by merge.py: Px33 PureBlockingJoins
import Derived.RegionTactic
import Derived.BigRegion
import Derived.Test.YtomeefngdnmdaaaDoorMBlockingJoins2
namespace Go.Proofs.YtomeefngdnmdaaaDoor.P
open Go.RowKit Go.Proofs.YtomeefngdnmdaaaDoorW.PrintWords Go.Proofs.YtomeefngdnmdaaaDoorW.PrintLast Go.Proofs.YtomeefngdnmdaaaDoorW.PrintErr Go.Proofs.YtomeefngdnmdaaaDoorW.PrintMore
attribute [local go_sem] max2_int min2_int max_two min_two max_three min_three max_four min_four run_eql_errOf run_neq_errOf eqGuard_errOf   -- for this text's walks alone
set_option linter.unusedVariables false
set_option linter.unusedSimpArgs false

-- IMPORT Derived.RegionTactic
-- IMPORT Derived.BigRegion
/-- A row of bytes of one's own, below m: its shape alone. -/
def blocking_Joins_loop.Leaf (W : World) (base m : Nat) (A : Option Addr) (n : Nat) : Prop :=
 n ≤ 9223372036854775807 ∧ (0 < n → ∃ g cells, A = some ⟨g, 0, none⟩ ∧ base ≤ g ∧ g < m ∧ W.heap[g]? = some (.cells cells 5 (0, 0)) ∧ ∀ j, j < n → ∃ z, W.cell? ⟨g, j, none⟩ = some (.int .u8 z))
def blocking_Joins_loop.Mid (W : World) (base m : Nat) (A : Option Addr) (n : Nat) : Prop :=
 n ≤ 9223372036854775807 ∧ (0 < n → ∃ g cells, A = some ⟨g, 0, none⟩ ∧ W.heap[g]? = some (.cells cells 42 (0, 0)) ∧ ∀ j, j < n → ∃ A' n' c', W.cell? ⟨g, j, none⟩ = some (.slice A' n' c') ∧ blocking_Joins_loop.Leaf W base m A' n')
def blocking_Joins_loop.Top (W : World) (base m : Nat) (A : Option Addr) (n : Nat) : Prop :=
 n ≤ 9223372036854775807 ∧ (0 < n → ∃ g cells, A = some ⟨g, 0, none⟩ ∧ W.heap[g]? = some (.cells cells 40 (0, 0)) ∧ ∀ j, j < n → ∃ A' n' c', W.cell? ⟨g, j, none⟩ = some (.slice A' n' c') ∧ blocking_Joins_loop.Mid W base m A' n')
section
variable {m base gb n c : Nat} {cs : Array Value} {A : Option Addr} {v7 v8 : Value} {x7 : List Int} {x8 : List FE} {W0 W W' : World} {ok ok' : Nat → Prop}
theorem blocking_Joins_loop.leaf_of {xs : List Int} (h : Kd.R (Kd.int .u8) 5 W base ok (.slice A n c) xs) (hok : ∀ k, ok k → k < m) : blocking_Joins_loop.Leaf W base m A n := by
 obtain ⟨hn, _, hC⟩ := Kd.R_reads' h
 have hmax := hC.2.1
 have h0 := h.1
 refine ⟨by omega, fun hp => ?_⟩
 obtain ⟨g, cap, he, hbase, hlt, cells, hcells⟩ := Kd.R_form h (by omega)
 injection he with ha hb hc
 subst ha
 refine ⟨g, cells, rfl, hbase, hok _ (h0 g rfl), hcells, fun j hj => ?_⟩
 obtain ⟨c', hcl, hM, hcc, hfr⟩ := Kd.R_elem h 0 (j : Int) (by omega) (by omega)
 rw [Int.toNat_natCast] at hcc hM
 have hM3 : c' = [.int .u8 (xs.getD j 0)] := hM
 have e2 : j * Kd.sz (Kd.int .u8) + 0 = j := by show j * 1 + 0 = j; omega
 have h7' := hcc 0 _ (by rw [hM3]; rfl)
 rw [e2] at h7'
 exact ⟨_, h7'⟩
theorem blocking_Joins_loop.mid_of {xs : List (List Int)} (h : Kd.R (Kd.slice 5 (Kd.int .u8)) 42 W base ok (.slice A n c) xs) (hok : ∀ k, ok k → k < m) : blocking_Joins_loop.Mid W base m A n := by
 obtain ⟨hn, _, hC⟩ := Kd.R_reads' h
 have hmax := hC.2.1
 refine ⟨by omega, fun hp => ?_⟩
 obtain ⟨g, cap, he, hbase, hlt, cells, hcells⟩ := Kd.R_form h (by omega)
 injection he with ha hb hc
 subst ha
 refine ⟨g, cells, rfl, hcells, fun j hj => ?_⟩
 obtain ⟨c', hcl, hM, hcc, hfr⟩ := Kd.R_elem h [] (j : Int) (by omega) (by omega)
 rw [Int.toNat_natCast] at hcc hM
 obtain ⟨u, hu, hR⟩ := hM
 obtain ⟨A', cc, rfl⟩ := Kd.R_slice hR
 have e2 : j * Kd.sz (Kd.slice 5 (Kd.int .u8)) + 0 = j := by show j * 1 + 0 = j; omega
 have h7' := hcc 0 _ (by rw [hu]; rfl)
 rw [e2] at h7'
 exact ⟨_, _, _, h7', blocking_Joins_loop.leaf_of hR (fun k hk => hok k hk.1)⟩
theorem blocking_Joins_loop.top_of {xs : List (List (List Int))} (h : Kd.R (Kd.slice 42 (Kd.slice 5 (Kd.int .u8))) 40 W base ok (.slice A n c) xs) (hok : ∀ k, ok k → k < m) : blocking_Joins_loop.Top W base m A n := by
 obtain ⟨hn, _, hC⟩ := Kd.R_reads' h
 have hmax := hC.2.1
 refine ⟨by omega, fun hp => ?_⟩
 obtain ⟨g, cap, he, hbase, hlt, cells, hcells⟩ := Kd.R_form h (by omega)
 injection he with ha hb hc
 subst ha
 refine ⟨g, cells, rfl, hcells, fun j hj => ?_⟩
 obtain ⟨c', hcl, hM, hcc, hfr⟩ := Kd.R_elem h [] (j : Int) (by omega) (by omega)
 rw [Int.toNat_natCast] at hcc hM
 obtain ⟨u, hu, hR⟩ := hM
 obtain ⟨A', cc, rfl⟩ := Kd.R_slice hR
 have e2 : j * Kd.sz (Kd.slice 42 (Kd.slice 5 (Kd.int .u8))) + 0 = j := by show j * 1 + 0 = j; omega
 have h7' := hcc 0 _ (by rw [hu]; rfl)
 rw [e2] at h7'
 exact ⟨_, _, _, h7', blocking_Joins_loop.mid_of hR (fun k hk => hok k hk.1)⟩
theorem blocking_Joins_loop.Leaf.at_ (h : blocking_Joins_loop.Leaf W0 base m A n) {j : Nat} (hj : j < n) : ∃ g cells z, A = some ⟨g, 0, none⟩ ∧ n ≤ 9223372036854775807 ∧ base ≤ g ∧ g < m ∧ W0.heap[g]? = some (.cells cells 5 (0, 0)) ∧ W0.cell? ⟨g, j, none⟩ = some (.int .u8 z) := by
 obtain ⟨h0, h1⟩ := h
 obtain ⟨g, cells, e, h2, h3, h4, h5⟩ := h1 (by omega)
 obtain ⟨z, hz⟩ := h5 j hj
 exact ⟨g, cells, z, e, h0, h2, h3, h4, hz⟩
theorem blocking_Joins_loop.Mid.at_ (h : blocking_Joins_loop.Mid W0 base m A n) {j : Nat} (hj : j < n) : ∃ g cells A' n' c', A = some ⟨g, 0, none⟩ ∧ n ≤ 9223372036854775807 ∧ W0.heap[g]? = some (.cells cells 42 (0, 0)) ∧ W0.cell? ⟨g, j, none⟩ = some (.slice A' n' c') ∧ blocking_Joins_loop.Leaf W0 base m A' n' := by
 obtain ⟨h0, h1⟩ := h
 obtain ⟨g, cells, e, h4, h5⟩ := h1 (by omega)
 obtain ⟨A', n', c', hz, hL⟩ := h5 j hj
 exact ⟨g, cells, A', n', c', e, h0, h4, hz, hL⟩
theorem blocking_Joins_loop.Top.at_ (h : blocking_Joins_loop.Top W0 base m A n) {j : Nat} (hj : j < n) : ∃ g cells A' n' c', A = some ⟨g, 0, none⟩ ∧ n ≤ 9223372036854775807 ∧ W0.heap[g]? = some (.cells cells 40 (0, 0)) ∧ W0.cell? ⟨g, j, none⟩ = some (.slice A' n' c') ∧ blocking_Joins_loop.Mid W0 base m A' n' := by
 obtain ⟨h0, h1⟩ := h
 obtain ⟨g, cells, e, h4, h5⟩ := h1 (by omega)
 obtain ⟨A', n', c', hz, hL⟩ := h5 j hj
 exact ⟨g, cells, A', n', c', e, h0, h4, hz, hL⟩
/-- What is held while the blocks' copy is turned over: only blocks of bytes below m change. -/
def blocking_Joins_loop.Inv (m base gb : Nat) (cs : Array Value) (W0 : World) (v7 : Value) (x7 : List Int) (v8 : Value) (x8 : List FE) (W : World) : Prop :=
 base ≤ m ∧ gb < m ∧ (∀ (g : Nat) (cells : Array Value) (t : Nat), W0.heap[g]? = some (.cells cells t (0, 0)) → t ≠ 5 → W.heap[g]? = W0.heap[g]?) ∧ (∀ (g : Nat) (cells : Array Value), W0.heap[g]? = some (.cells cells 5 (0, 0)) → ∃ cells' : Array Value, W.heap[g]? = some (.cells cells' 5 (0, 0))) ∧
 (∀ (g j : Nat) (z : Int), W0.cell? ⟨g, j, none⟩ = some (.int .u8 z) → ∃ z' : Int, W.cell? ⟨g, j, none⟩ = some (.int .u8 z')) ∧
 Kd.V (Kd.int .u8) 5 W base (fun k => m ≤ k) v7 x7 ∧ Kd.R kF 61 W base (fun _ => True) v8 x8 ∧ W.heap[gb]? = some (.cells cs 23 (0, 0))
theorem blocking_Joins_loop.Inv.drewN (h : blocking_Joins_loop.Inv m base gb cs W0 v7 x7 v8 x8 W) (n : Nat) : blocking_Joins_loop.Inv m base gb cs W0 v7 x7 v8 x8 (W.drewN n) :=
 ⟨h.1, h.2.1, h.2.2.1, h.2.2.2.1, h.2.2.2.2.1, Kd.V_drewN h.2.2.2.2.2.1 n, Kd.R_drewN h.2.2.2.2.2.2.1 n, h.2.2.2.2.2.2.2⟩
theorem blocking_Joins_loop.Inv.drew (h : blocking_Joins_loop.Inv m base gb cs W0 v7 x7 v8 x8 W) : blocking_Joins_loop.Inv m base gb cs W0 v7 x7 v8 x8 W.drew :=
 ⟨h.1, h.2.1, h.2.2.1, h.2.2.2.1, h.2.2.2.2.1, Kd.V_drew h.2.2.2.2.2.1, Kd.R_drew h.2.2.2.2.2.2.1, h.2.2.2.2.2.2.2⟩
theorem blocking_Joins_loop.start {xs : List (List (List Int))} (h5 : Kd.R (Kd.slice 42 (Kd.slice 5 (Kd.int .u8))) 40 W base ok (.slice A n c) xs) (hg : W.heap[gb]? = some (.cells cs 23 (0, 0))) (hb : Below W.heap.size W W') (h7 : Kd.V (Kd.int .u8) 5 W' W.heap.size (fun k_ => (W.heap.size ≤ k_) ∧ some k_ ≠ (v8 : Value).ownBlock) v7 x7)
  (h8 : Kd.R kF 61 W' W.heap.size ok' v8 x8) (hB : base ≤ W.heap.size) : ∃ m W0, blocking_Joins_loop.Top W0 base m A n ∧ blocking_Joins_loop.Inv m base gb cs W0 v7 x7 v8 x8 W' :=
 ⟨W.heap.size, W, blocking_Joins_loop.top_of (Kd.R_bound h5) (fun _ h => h.2.2.1), hB, blk_lt hg, fun g cells t h _ => hb.block g (blk_lt h), fun g cells h => ⟨cells, (hb.block g (blk_lt h)).trans h⟩, fun g j z h => ⟨z, pw_cell_below hb h⟩,
  Kd.V_lower (Kd.V_mono h7 (fun _ h => h.1)) hB, Kd.R_lower (Kd.R_mono h8 (fun _ _ => trivial)) hB, (hb.block gb (blk_lt hg)).trans hg⟩
theorem blocking_Joins_loop.Inv.cell (h : blocking_Joins_loop.Inv m base gb cs W0 v7 x7 v8 x8 W) {g j t : Nat} {cells : Array Value} {u : Value} (hb : W0.heap[g]? = some (.cells cells t (0, 0))) (ht : t ≠ 5) (hc : W0.cell? ⟨g, j, none⟩ = some u) : W.cell? ⟨g, j, none⟩ = some u :=
 (blk_cell ((h.2.2.1 g cells t hb ht).trans hb) j).trans ((blk_cell hb j).symm.trans hc)
theorem blocking_Joins_loop.Inv.byte (h : blocking_Joins_loop.Inv m base gb cs W0 v7 x7 v8 x8 W) {g j : Nat} {cells : Array Value} {z : Int} (hb : W0.heap[g]? = some (.cells cells 5 (0, 0))) (hc : W0.cell? ⟨g, j, none⟩ = some (.int .u8 z)) :
  ∃ z' cells', W.cell? ⟨g, j, none⟩ = some (.int .u8 z') ∧ W.frozen? ⟨g, j, none⟩ = false ∧ W.heap[g]? = some (.cells cells' 5 (0, 0)) := by
 obtain ⟨cells', h1⟩ := h.2.2.2.1 g cells hb
 obtain ⟨z', h2⟩ := h.2.2.2.2.1 g j z hc
 exact ⟨z', cells', h2, blk_frozen h1 j, h1⟩
theorem blocking_Joins_loop.Inv.store (h : blocking_Joins_loop.Inv m base gb cs W0 v7 x7 v8 x8 W) {g j : Nat} {cells : Array Value} (hg : W.heap[g]? = some (.cells cells 5 (0, 0))) (hm : g < m) (u : Int) :
  blocking_Joins_loop.Inv m base gb cs W0 v7 x7 v8 x8 (W.setCell ⟨g, j, none⟩ (.int .u8 u)) := by
 obtain ⟨h0, h1, h2, h3, h4, h5, h6, h7⟩ := h
 have hty : ∀ (g' : Nat) (cells' : Array Value) (t : Nat), W.heap[g']? = some (.cells cells' t (0, 0)) → t ≠ 5 → g' ≠ g := by
  intro g' cells' t h ht e
  rw [e, hg] at h
  injection h with h
  injection h with _ h _
  exact ht h.symm
 refine ⟨h0, h1, fun g' cells' t hb ht => ?_, fun g' cells' hb => ?_, fun g' j' z hz => ?_, Kd.V_far (p := ⟨g, j, none⟩) h5 (fun k hk e => by have : k = g := e; omega) _, Kd.R_set h6 hg (by decide) j _, ?_⟩
 ·have hW := h2 g' cells' t hb ht
  exact (Below.heap_setCell W ⟨g, j, none⟩ _ g' (hty g' cells' t (hW.trans hb) ht)).trans hW
 ·obtain ⟨c2, hc2⟩ := h3 g' cells' hb
  by_cases e : g' = g
  ·subst e
   exact ⟨_, blk_set hc2 j _⟩
  ·exact ⟨c2, (Below.heap_setCell W ⟨g, j, none⟩ _ g' e).trans hc2⟩
 ·obtain ⟨z', hz'⟩ := h4 g' j' z hz
  by_cases e : (⟨g, j, none⟩ : Addr) = ⟨g', j', none⟩
  ·rw [← e] at hz' ⊢
   exact ⟨u, World.cell?_setCell_same W _ _ hz'⟩
  ·exact ⟨z', (World.cell?_setCell_other W _ _ _ e).trans hz'⟩
 ·rw [Below.heap_setCell W ⟨g, j, none⟩ _ gb (hty gb cs _ h7 (by decide))]
  exact h7
theorem blocking_Joins_loop.Inv.nil (_ : blocking_Joins_loop.Inv m base gb cs W0 v7 x7 v8 x8 W) : Kd.R (Kd.int .u8) 5 W base (fun _ => True) (.slice none 0 0) [] := Kd.R_nil _ _ _ _ _
end

/-! ### geyserlaw14_BlockingJoins: function 5 -/
def geyserlaw14_BlockingJoins.l0 : Nat → List (List (List Int)) → List (List (List Int)) → Int → Int → Int → Int → Int → Int → Option (Bool)
 | 0, _, _, _, _, _, _, _, _ => none
 | k + 1, x1, x5, x6, x254000, x254001, x254002, x254003, x254004 => if x6 < (x1.length : Int) then (if 0 ≤ x6 then ((geyserref04_Copy.f k (rd_Lssu8 x1 x6)).bind fun t258 => (if x5.length < 5864062014805 then (geyserlaw14_BlockingJoins.l0 k x1 (x5 ++ [t258]) (wrap64 (x6 + 1)) x254000 x254001 x254002 x254003 x254004) else (none))) else (none)) else ((blocking_Join.f k x254000 x254001 x254002 x254003 x254004 x5).bind fun bt264 => ((geyserref14_Check.f k x254000 x254001 x254002 x254003 x254004).bind fun t270 => (if t270 = 0 then ((geyserref14_Join.f k x254000 x254001 x254002 x254003 x254004 x1).bind fun bt271 => ((geyserlaw14_tells.f bt264.2 bt271.2 (⟨#[98, 108, 111, 99, 107, 105, 110, 103, 46, 74, 111, 105, 110]⟩ : ByteArray)).bind fun t275 => (if t275 = true then (if (strOfNums bt264.1).toList = (strOfNums bt271.1).toList then ((geyserlaw14_awake.f k).bind fun t276 => (some t276)) else (some false)) else (some false)))) else ((geyserlaw14_tells.f bt264.2 t270 (⟨#[98, 108, 111, 99, 107, 105, 110, 103, 46, 74, 111, 105, 110]⟩ : ByteArray)).bind fun t277 => (if t277 = true then (if (bt264.1.length : Int) = 0 then ((geyserlaw14_awake.f k).bind fun t278 => (some t278)) else (some false)) else (some false))))))
def geyserlaw14_BlockingJoins.f (k : Nat) (a0_0 : Int) (a0_1 : Int) (a0_2 : Int) (a0_3 : Int) (a0_4 : Int) (l1 : List (List (List Int))) : Option (Bool) := geyserlaw14_BlockingJoins.l0 k l1 (([] : List (List (List Int)))) 0 a0_0 a0_1 a0_2 a0_3 a0_4
theorem geyserlaw14_BlockingJoins.mono_l : ∀ k, (∀ y0 y1 y2 y3 y4 y5 y6 y7, LeO (geyserlaw14_BlockingJoins.l0 k y0 y1 y2 y3 y4 y5 y6 y7) (geyserlaw14_BlockingJoins.l0 (k + 1) y0 y1 y2 y3 y4 y5 y6 y7))
 | 0 => fun _ _ _ _ _ _ _ _ r h => by simp [geyserlaw14_BlockingJoins.l0] at h
 | k + 1 => by
  have ih0 := geyserlaw14_BlockingJoins.mono_l k
  ·intro y0 y1 y2 y3 y4 y5 y6 y7
   unfold geyserlaw14_BlockingJoins.l0
   repeat' first
   | (with_reducible exact ih0 _ _ _ _ _ _ _ _)
   | (with_reducible exact blocking_Join.mono _ _ _ _ _ _ _)
   | (with_reducible exact geyserlaw14_awake.mono _)
   | (with_reducible exact geyserref04_Copy.mono _ _)
   | (with_reducible exact geyserref14_Check.mono _ _ _ _ _ _)
   | (with_reducible exact geyserref14_Join.mono _ _ _ _ _ _ _)
   | (with_reducible exact LeO.refl _)
   | (with_reducible exact LeO.none _)
   | (with_reducible refine LeO.ite ?_ ?_)
   | (with_reducible refine LeO.bind ?_ (fun _ => ?_))
   | exact ih0 _ _ _ _ _ _ _ _
   | exact blocking_Join.mono _ _ _ _ _ _ _
   | exact geyserlaw14_awake.mono _
   | exact geyserref04_Copy.mono _ _
   | exact geyserref14_Check.mono _ _ _ _ _ _
   | exact geyserref14_Join.mono _ _ _ _ _ _ _
   | exact LeO.none _
   | refine LeO.ite ?_ ?_
   | refine LeO.bind ?_ (fun _ => ?_)
theorem geyserlaw14_BlockingJoins.mono : ∀ a0 a1 a2 a3 a4 a5 k, LeO (geyserlaw14_BlockingJoins.f k a0 a1 a2 a3 a4 a5) (geyserlaw14_BlockingJoins.f (k + 1) a0 a1 a2 a3 a4 a5) := by
 intro a0 a1 a2 a3 a4 a5 k
 have ih0 := geyserlaw14_BlockingJoins.mono_l k
 unfold geyserlaw14_BlockingJoins.f
 repeat' first
   | (with_reducible exact ih0 _ _ _ _ _ _ _ _)
   | (with_reducible exact blocking_Join.mono _ _ _ _ _ _ _)
   | (with_reducible exact geyserlaw14_awake.mono _)
   | (with_reducible exact geyserref04_Copy.mono _ _)
   | (with_reducible exact geyserref14_Check.mono _ _ _ _ _ _)
   | (with_reducible exact geyserref14_Join.mono _ _ _ _ _ _ _)
   | (with_reducible exact LeO.refl _)
   | (with_reducible exact LeO.none _)
   | (with_reducible refine LeO.ite ?_ ?_)
   | (with_reducible refine LeO.bind ?_ (fun _ => ?_))
   | exact ih0 _ _ _ _ _ _ _ _
   | exact blocking_Join.mono _ _ _ _ _ _ _
   | exact geyserlaw14_awake.mono _
   | exact geyserref04_Copy.mono _ _
   | exact geyserref14_Check.mono _ _ _ _ _ _
   | exact geyserref14_Join.mono _ _ _ _ _ _ _
   | exact LeO.none _
   | refine LeO.ite ?_ ?_
   | refine LeO.bind ?_ (fun _ => ?_)
set_option maxHeartbeats 8000000 in
set_option maxRecDepth 100000 in
theorem geyserlaw14_BlockingJoins.calls (k : Nat) (a0_0 : Int) (a0_1 : Int) (a0_2 : Int) (a0_3 : Int) (a0_4 : Int) (A1 : Option Addr) (c1 : Nat) (l1 : List (List (List Int))) (r : Bool) (w : World) (he : ErrIn w) (hr1 : Kd.C (Kd.slice 42 (Kd.slice 5 (Kd.int .u8))) w A1 l1.length l1) (hc1 : l1.length ≤ c1) (h : geyserlaw14_BlockingJoins.f k a0_0 a0_1 a0_2 a0_3 a0_4 l1 = some r) :
  Calls Tryd.prog 5 #[.agg #[.int .i64 a0_0, .int .i64 a0_1, .int .i64 a0_2, .int .i64 a0_3, .int .i64 a0_4], .slice A1 l1.length c1] w fun e w' => e = .returned (.bool r) ∧ Below w.heap.size w w' := by
 have hu23 := Tryd.underlying23
 have HR1 := Aside0.mk hr1
 have HC1 := Aside0.mk hc1
 clear hr1 hc1
 have HB := Aside0.mk (Below.refl w.heap.size w)
 have HEI := Aside0.mk he
 clear he
 have H : (geyserlaw14_BlockingJoins.l0 k l1 (([] : List (List (List Int)))) 0 a0_0 a0_1 a0_2 a0_3 a0_4) = some r := h
 clear h
 obtain ⟨y254, hy254⟩ : ∃ y_ : List (List (List Int)), y_ = (([] : List (List (List Int)))) := ⟨_, rfl⟩
 replace H : (geyserlaw14_BlockingJoins.l0 k l1 y254 0 a0_0 a0_1 a0_2 a0_3 a0_4) = some r := by first | (rw [hy254]; with_reducible exact H) | (have H2_ := (Option.bind_some _ _).symm.trans H; rw [hy254]; with_reducible exact H2_) | (have H2_ := (Option.bind_some _ _).symm.trans H; with_reducible exact H2_) | with_reducible exact H | (rw [hy254]; exact H) | exact H
 have Ny254 := Aside0.mk hy254
 clear hy254
 have H' := Aside0.mk H
 clear H
 go_enter Tryd.func5, Tryd.ntmps5
 go_wp2_with (first | ((with_reducible refine gate_dst (N := 2) rfl ?_); (try (refine gate_guard (by rfl) ?_; dsimp only)); refine box_event ?hg (N := 2) ?hd (cs := #[.int .i64 a0_0, .int .i64 a0_1, .int .i64 a0_2, .int .i64 a0_3, .int .i64 a0_4]) (t := 23) ?hr ?_; (case hd => rfl); (case hg => rfl); (case hr => first | (go_simp; done) | (go_simp; rfl)); intro gb253 hg w3 hbox hb; have n0_ := Aside0.mk (below_step (by repeat (first | (with_reducible first | exact HB.out | apply below_alloc | apply pw_below_drewN | apply below_drew1) | exact HB.out)) hb); have n1_ := Aside0.mk (hbox); have n2_ := Aside0.mk ((by rw [hg]; exact (below_size (by repeat (first | (with_reducible first | exact HB.out | apply below_alloc | apply pw_below_drewN | apply below_drew1) | exact HB.out))) : w.heap.size ≤ gb253)); have n3_ := Aside0.mk ((by rw [hg]; exact (below_size (by repeat (first | (with_reducible first | exact HB.out | apply below_alloc | apply pw_below_drewN | apply below_drew1) | exact HB.out))) : w.heap.size ≤ gb253)); clear HB; have HB := n0_; have BK253 := n1_; have GW253 := n2_; have GE253 := n3_; clear n0_ n1_ n2_ n3_; clear hb hbox hg) | ((with_reducible refine gate_dst (N := 15) rfl ?_); (try (refine gate_guard (by rfl) ?_; dsimp only)); refine Kd.R_lit (Kd.slice 42 (Kd.slice 5 (Kd.int .u8))) _ 40 ?hg (N := 15) ?hd (xs := ([] : List (List (List Int)))) (inner := []) (ok := fun _ => True) (okp := fun _ => True) ?hr ?hp (fun _ hk => hk) trivial (Below.refl _ _) (Nat.le_refl _) (by simp) ?_; (case hd => rfl); (case hg => rfl); (case hr => first | (go_simp; done) | (go_simp; rfl)); (case hp => exact (Reps.none _ _)); intro v255 w4 ho5 hb hg_ hnew_; clear hg_ hnew_; (first | rw [← Ny254.out] at ho5 | (simp only [Int.reduceToNat] at ho5; rw [← Ny254.out] at ho5)); have n0_ := Aside0.mk (Kd.R_lower ho5 (below_size (by repeat (first | (with_reducible first | exact HB.out | apply below_alloc | apply pw_below_drewN | apply below_drew1 | refine below_set ?_ GE253.out) | exact HB.out)))); have n1_ := Aside0.mk (blk_below (g := gb253) (o := .cells #[.int .i64 a0_0, .int .i64 a0_1, .int .i64 a0_2, .int .i64 a0_3, .int .i64 a0_4] 23 (0, 0)) (by (with_reducible repeat (first | refine blk_drewN ?_ _ | refine blk_drew ?_ | refine blk_alloc ?_ _)); exact BK253.out) hb); have n2_ := Aside0.mk (below_step (by repeat (first | (with_reducible first | exact HB.out | apply below_alloc | apply pw_below_drewN | apply below_drew1 | refine below_set ?_ GE253.out) | exact HB.out)) hb); clear BK253; clear HB; have HO256 := n0_; have BK253 := n1_; have HB := n2_; clear n0_ n1_ n2_; clear hb ho5))
 go_loopg [5, 6] k (fun kq v5 v6 w' => ∃ (x5_1 : List (List (List Int))) (x6_1 : Int), v6 = .int .i64 x6_1 ∧ Aside0 (geyserlaw14_BlockingJoins.l0 kq l1 x5_1 x6_1 a0_0 a0_1 a0_2 a0_3 a0_4 = some r) ∧ Aside0 (kq ≤ k) ∧ Aside0 (Kd.R (Kd.slice 42 (Kd.slice 5 (Kd.int .u8))) 40 w' w.heap.size (fun _ => True) v5 x5_1) ∧ Aside0 (w'.heap[gb253]? = some (.cells #[.int .i64 a0_0, .int .i64 a0_1, .int .i64 a0_2, .int .i64 a0_3, .int .i64 a0_4] 23 (0, 0))) ∧ Aside0 (Below w.heap.size w w'))
 case atStart => exact ⟨(y254), (0), (by first | rfl | (simp; done) | (simp [*]; done)), H', ⟨Nat.le_refl _⟩, ⟨by (with_reducible repeat (first | apply Kd.R_alloc | apply Kd.R_drewN | apply Kd.R_drew)); exact HO256.out⟩, ⟨by (with_reducible repeat (first | refine blk_drewN ?_ _ | refine blk_drew ?_ | refine blk_alloc ?_ _)); exact BK253.out⟩, ⟨by repeat (first | (with_reducible first | exact HB.out | apply below_alloc | apply pw_below_drewN | apply below_drew1 | refine below_set ?_ GE253.out) | exact HB.out)⟩⟩
 case round =>
  clear H'
  try clear c1
  try clear p2
  try clear c5
  obtain ⟨x5_1, x6_1, rfl, HA, HK1, HO_5, BK253, HB⟩ := hrel
  cases gk with
  | zero => exact absurd HA.out (by simp [geyserlaw14_BlockingJoins.l0])
  | succ k1 =>
   have H := HA.out
   clear HA
   simp only [geyserlaw14_BlockingJoins.l0] at H
   by_cases c6 : x6_1 < (l1.length : Int)
   ·rw [if_pos c6] at H
    have c6b0 : decide (x6_1 < (l1.length : Int)) = true := decide_eq_true c6
    clear c6
    by_cases c7 : 0 ≤ x6_1
    ·rw [if_pos c7] at H
     have c7b0 : decide (0 ≤ x6_1) = true := decide_eq_true c7
     clear c7
     replace H := Option.bind_eq_some_iff.mp H
     obtain ⟨t258, A80, H⟩ := H
     replace H : (if x5_1.length < 5864062014805 then (geyserlaw14_BlockingJoins.l0 k1 l1 (x5_1 ++ [t258]) (wrap64 (x6_1 + 1)) a0_0 a0_1 a0_2 a0_3 a0_4) else (none)) = some r := H
     have A8 := Aside0.mk A80
     clear A80
     by_cases c9 : x5_1.length < 5864062014805
     ·rw [if_pos c9] at H
      have LMc9 := Aside0.mk c9
      clear c9
      obtain ⟨y261, hy261⟩ : ∃ y_ : List (List (List Int)), y_ = (x5_1 ++ [t258]) := ⟨_, rfl⟩
      replace H : (geyserlaw14_BlockingJoins.l0 k1 l1 y261 (wrap64 (x6_1 + 1)) a0_0 a0_1 a0_2 a0_3 a0_4) = some r := by first | (rw [hy261]; with_reducible exact H) | (have H2_ := (Option.bind_some _ _).symm.trans H; rw [hy261]; with_reducible exact H2_) | (have H2_ := (Option.bind_some _ _).symm.trans H; with_reducible exact H2_) | with_reducible exact H | (rw [hy261]; exact H) | exact H
      have Ny261 := Aside0.mk hy261
      clear hy261
      have H' := Aside0.mk H
      clear H
      have p257 : 0 ≤ (x6_1 : Int) := of_decide_eq_true (by first | (with_reducible assumption) | assumption)
      have q257 : x6_1 < (l1.length : Int) := of_decide_eq_true (by first | (with_reducible assumption) | assumption)
      obtain ⟨ad257, A257_0, c257_0, e257, hx257_0, hl257_0, hi257_0⟩ := at_Lssu8 HR1.out x6_1 p257 q257
      cases e257
      (first | replace hx257_0 := (HB.out.cell (World.block_lt_of_cell? w _ hx257_0)).trans hx257_0 | skip)
      have HR257_0 := Aside0.mk hi257_0
      have HC257_0 := Aside0.mk hl257_0
      clear hi257_0 hl257_0
      replace p257 := eq_true p257
      replace q257 := eq_true q257
      go_wp2_with (first | ((with_reducible refine gate_callee (f := 15) rfl ?_); refine goesL_ (some 27) rfl rfl Tryd.func15 (by kernel_rfl) rfl #[.slice A257_0 (rd_Lssu8 l1 x6_1).length c257_0] rfl (by (try simp only [List.map_toArray, List.map_cons, List.map_nil]); first | done | rfl | (simp only [List.length_drop, List.length_take]; rfl)) ?_; (with_reducible refine (geyserref04_Copy.calls k1 _ _ (rd_Lssu8 l1 x6_1) t258 _ ?side1 ?side2 A8.out).mono ?_); (case side1 => repeat (first | exact (Kd.C_below HR257_0.out HB.out) | (with_reducible refine Kd.C_alloc ?_ _) | (with_reducible refine Kd.C_drewN ?_ _) | (with_reducible refine Kd.C_drew ?_))); (case side2 => exact HC257_0.out); rintro e w10 ⟨v259, rfl, ho0, hb⟩; refine ⟨_, rfl, ?_⟩; have n0_ := Aside0.mk (Kd.R_elder' (by (with_reducible repeat (first | apply Kd.R_alloc | apply Kd.R_drewN | apply Kd.R_drew)); exact HO_5.out) (Kd.S_base ho0) hb); have n1_ := Aside0.mk (Kd.S_lower ho0 (below_size (by repeat (first | (with_reducible first | exact HB.out | apply below_alloc | apply pw_below_drewN | apply below_drew1 | refine below_set ?_ GE253.out) | exact HB.out)))); have n2_ := Aside0.mk (blk_below (g := gb253) (o := .cells #[.int .i64 a0_0, .int .i64 a0_1, .int .i64 a0_2, .int .i64 a0_3, .int .i64 a0_4] 23 (0, 0)) (by (with_reducible repeat (first | refine blk_drewN ?_ _ | refine blk_drew ?_ | refine blk_alloc ?_ _)); exact BK253.out) hb); have n3_ := Aside0.mk (below_step (by repeat (first | (with_reducible first | exact HB.out | apply below_alloc | apply pw_below_drewN | apply below_drew1 | refine below_set ?_ GE253.out) | exact HB.out)) hb); clear HO_5; clear BK253; clear HB; have HO_5 := n0_; have HO260 := n1_; have BK253 := n2_; have HB := n3_; clear n0_ n1_ n2_ n3_; (try clear hb); (try clear hb2); (try clear hk); (try clear hi); (try clear ho0); obtain ⟨Ao12, co12, eo12⟩ := Kd.S_slice HO260.out; subst eo12) | ((with_reducible refine gate_builtin (b := .append) (xs := #[.tmp 22, .tmp 28]) rfl ?_); (try (refine gate_guard (by rfl) ?_; dsimp only)); at_builtin; refine Kd.R_append (Kd.slice 42 (Kd.slice 5 (Kd.int .u8))) (w0 := w) w.heap.size rfl (.tmp 22) (.tmp 28) 39 40 (.slice none 0 0) 24 rfl Tryd.underlying39 info40 rfl (by decide) (by omega) u5 x5_1 t258 [.slice Ao12 t258.length co12] (fun _ => True) (fun k_ => ((fun _ => True)) k_ ∧ some k_ ≠ (u5 : Value).ownBlock) rfl rfl ?aP (fun _ hk => hk) ?aF ?aO ?aB ?aS ?aL ?_; (case aP => exact Kd.M_row (Kd.R_mono (Kd.R_apart' ((Kd.S_R HO260.out)) (Kd.R_typed HO_5.out) (by decide)) (fun k_ hk => ⟨trivial, hk.2⟩))); (case aB => exact (by repeat (first | (with_reducible first | exact HB.out | apply below_alloc | apply pw_below_drewN | apply below_drew1 | refine below_set ?_ GE253.out) | exact HB.out))); (case aF => exact (fun _ _ => trivial)); (case aO => exact (by (with_reducible repeat (first | apply Kd.R_alloc | apply Kd.R_drewN | apply Kd.R_drew)); exact Kd.R_mono HO_5.out (fun _ hk => trivial))); (case aS => exact (below_size (by repeat (first | (with_reducible first | exact HB.out | apply below_alloc | apply pw_below_drewN | apply below_drew1 | refine below_set ?_ GE253.out) | exact HB.out)))); (case aL => have := LMc9.out; omega); intro v262 w11 ho hb hg hat; rw [← Ny261.out] at ho; have n0_ := Aside0.mk (blk_grown (g := gb253) (o := .cells #[.int .i64 a0_0, .int .i64 a0_1, .int .i64 a0_2, .int .i64 a0_3, .int .i64 a0_4] 23 (0, 0)) (by (with_reducible repeat (first | refine blk_drewN ?_ _ | refine blk_drew ?_ | refine blk_alloc ?_ _)); exact BK253.out) hg (Kd.R_ne HO_5.out BK253.out (by decide))); have n1_ := Aside0.mk (hb); have n2_ := Aside0.mk (ho); clear BK253; clear HB; clear HO_5; clear HO260; have BK253 := n0_; have HB := n1_; have HO263 := n2_; clear n0_ n1_ n2_; clear ho hb hg hat))
      go_roundg k1
      case measure => have := HK1.out; omega
      case rel => exact ⟨(y261), (wrap64 (x6_1 + 1)), (by first | rfl | (simp; done) | (simp [*]; done)), H', ⟨by have := HK1.out; omega⟩, ⟨by (with_reducible repeat (first | apply Kd.R_alloc | apply Kd.R_drewN | apply Kd.R_drew)); exact HO263.out⟩, ⟨by (with_reducible repeat (first | refine blk_drewN ?_ _ | refine blk_drew ?_ | refine blk_alloc ?_ _)); exact BK253.out⟩, ⟨by repeat (first | (with_reducible first | exact HB.out | apply below_alloc | apply pw_below_drewN | apply below_drew1 | refine below_set ?_ GE253.out) | exact HB.out)⟩⟩
     ·rw [if_neg c9] at H
      exact absurd H (by simp)
    ·rw [if_neg c7] at H
     exact absurd H (by simp)
   ·rw [if_neg c6] at H
    have c6b0 : decide (x6_1 < (l1.length : Int)) = false := decide_eq_false c6
    clear c6
    replace H := Option.bind_eq_some_iff.mp H
    obtain ⟨⟨t264, t267⟩, A130, H⟩ := H
    replace H : ((geyserref14_Check.f k1 a0_0 a0_1 a0_2 a0_3 a0_4).bind fun t270 => (if t270 = 0 then ((geyserref14_Join.f k1 a0_0 a0_1 a0_2 a0_3 a0_4 l1).bind fun bt271 => ((geyserlaw14_tells.f t267 bt271.2 (⟨#[98, 108, 111, 99, 107, 105, 110, 103, 46, 74, 111, 105, 110]⟩ : ByteArray)).bind fun t275 => (if t275 = true then (if (strOfNums t264).toList = (strOfNums bt271.1).toList then ((geyserlaw14_awake.f k1).bind fun t276 => (some t276)) else (some false)) else (some false)))) else ((geyserlaw14_tells.f t267 t270 (⟨#[98, 108, 111, 99, 107, 105, 110, 103, 46, 74, 111, 105, 110]⟩ : ByteArray)).bind fun t277 => (if t277 = true then (if (t264.length : Int) = 0 then ((geyserlaw14_awake.f k1).bind fun t278 => (some t278)) else (some false)) else (some false))))) = some r := H
    have A13 := Aside0.mk A130
    clear A130
    replace H := Option.bind_eq_some_iff.mp H
    obtain ⟨t270, A140, H⟩ := H
    replace H : (if t270 = 0 then ((geyserref14_Join.f k1 a0_0 a0_1 a0_2 a0_3 a0_4 l1).bind fun bt271 => ((geyserlaw14_tells.f t267 bt271.2 (⟨#[98, 108, 111, 99, 107, 105, 110, 103, 46, 74, 111, 105, 110]⟩ : ByteArray)).bind fun t275 => (if t275 = true then (if (strOfNums t264).toList = (strOfNums bt271.1).toList then ((geyserlaw14_awake.f k1).bind fun t276 => (some t276)) else (some false)) else (some false)))) else ((geyserlaw14_tells.f t267 t270 (⟨#[98, 108, 111, 99, 107, 105, 110, 103, 46, 74, 111, 105, 110]⟩ : ByteArray)).bind fun t277 => (if t277 = true then (if (t264.length : Int) = 0 then ((geyserlaw14_awake.f k1).bind fun t278 => (some t278)) else (some false)) else (some false)))) = some r := H
    have A14 := Aside0.mk A140
    clear A140
    by_cases c15 : t270 = 0
    ·rw [if_pos c15] at H
     have c15b0 : (t270 == 0) = true := beq_iff_eq.mpr c15
     have c15b1 : (t270 != 0) = false := bne_eq_false_iff_eq.mpr c15
     clear c15
     replace H := Option.bind_eq_some_iff.mp H
     obtain ⟨⟨t271, t274⟩, A160, H⟩ := H
     replace H : ((geyserlaw14_tells.f t267 t274 (⟨#[98, 108, 111, 99, 107, 105, 110, 103, 46, 74, 111, 105, 110]⟩ : ByteArray)).bind fun t275 => (if t275 = true then (if (strOfNums t264).toList = (strOfNums t271).toList then ((geyserlaw14_awake.f k1).bind fun t276 => (some t276)) else (some false)) else (some false))) = some r := H
     have A16 := Aside0.mk A160
     clear A160
     replace H := Option.bind_eq_some_iff.mp H
     obtain ⟨t275, A170, H⟩ := H
     replace H : (if t275 = true then (if (strOfNums t264).toList = (strOfNums t271).toList then ((geyserlaw14_awake.f k1).bind fun t276 => (some t276)) else (some false)) else (some false)) = some r := H
     have A17 := Aside0.mk A170
     clear A170
     by_cases c18 : t275 = true
     ·subst c18
      have H1 : (if (strOfNums t264).toList = (strOfNums t271).toList then ((geyserlaw14_awake.f k1).bind fun t276 => (some t276)) else (some false)) = some r := by rw [if_pos rfl] at H; exact H
      clear H
      have H := H1
      clear H1
      by_cases c19 : (strOfNums t264).toList = (strOfNums t271).toList
      ·rw [if_pos c19] at H
       have c19b0 : ((strOfNums t264).toList == (strOfNums t271).toList) = true := beq_iff_eq.mpr c19
       have c19b1 : ((strOfNums t264).toList != (strOfNums t271).toList) = false := bne_eq_false_iff_eq.mpr c19
       clear c19
       replace H := Option.bind_eq_some_iff.mp H
       obtain ⟨t276, A200, H⟩ := H
       replace H : (some t276) = some r := H
       have A20 := Aside0.mk A200
       clear A200
       obtain rfl := Option.some.inj H
       have hcz21_0 : wr.cell? ⟨gb253, 0, none⟩ = some (.int .i64 a0_0) := (blk_cell BK253.out 0).trans rfl
       have hcz21_1 : wr.cell? ⟨gb253, 1, none⟩ = some (.int .i64 a0_1) := (blk_cell BK253.out 1).trans rfl
       have hcz21_2 : wr.cell? ⟨gb253, 2, none⟩ = some (.int .i64 a0_2) := (blk_cell BK253.out 2).trans rfl
       have hcz21_3 : wr.cell? ⟨gb253, 3, none⟩ = some (.int .i64 a0_3) := (blk_cell BK253.out 3).trans rfl
       have hcz21_4 : wr.cell? ⟨gb253, 4, none⟩ = some (.int .i64 a0_4) := (blk_cell BK253.out 4).trans rfl
       have hfz21_0 := blk_frozen BK253.out 0
       have hfz21_1 := blk_frozen BK253.out 1
       have hfz21_2 := blk_frozen BK253.out 2
       have hfz21_3 := blk_frozen BK253.out 3
       have hfz21_4 := blk_frozen BK253.out 4
       obtain ⟨Ao22, co22, eo22⟩ := Kd.R_slice HO_5.out
       subst eo22
       go_wp2_with (first | ((with_reducible refine gate_callee (f := 16) rfl ?_); refine goesL_ (some 33) rfl rfl Tryd.func16 (by kernel_rfl) rfl #[.agg #[.int .i64 a0_0, .int .i64 a0_1, .int .i64 a0_2, .int .i64 a0_3, .int .i64 a0_4], .slice Ao22 x5_1.length co22] rfl (by (try simp only [List.map_toArray, List.map_cons, List.map_nil]); first | done | rfl | (simp only [List.length_drop, List.length_take]; rfl)) ?_; (with_reducible refine (blocking_Join.calls k1 a0_0 a0_1 a0_2 a0_3 a0_4 _ _ x5_1 t264 t267 _ ?side1 ?side2 A13.out).mono ?_); (case side1 => repeat (first | exact (Kd.R_reads' HO_5.out).2.2 | (with_reducible refine Kd.C_alloc ?_ _) | (with_reducible refine Kd.C_drewN ?_ _) | (with_reducible refine Kd.C_drew ?_))); (case side2 => exact (Kd.R_reads' HO_5.out).2.1); rintro e w23 ⟨v265, v268, rfl, ho0, ho1, hb⟩; refine ⟨_, rfl, ?_⟩; have HI := Aside0.mk (blocking_Joins_loop.start (base := w.heap.size) (by (with_reducible repeat (first | apply Kd.R_alloc | apply Kd.R_drewN | apply Kd.R_drew)); exact HO_5.out) (by (with_reducible repeat (first | refine blk_drewN ?_ _ | refine blk_drew ?_ | refine blk_alloc ?_ _)); exact BK253.out) hb ho0 ho1 (below_size (by repeat (first | (with_reducible first | exact HB.out | apply below_alloc | apply pw_below_drewN | apply below_drew1 | refine below_set ?_ GE253.out) | exact HB.out)))); replace ho0 := Kd.V_mono (ok' := fun k_ => _ ≤ k_) ho0 (fun _ hk => hk.1); have n0_ := Aside0.mk (Kd.R_below (by (with_reducible repeat (first | apply Kd.R_alloc | apply Kd.R_drewN | apply Kd.R_drew)); exact HO_5.out) hb); have n1_ := Aside0.mk (Kd.V_lower (Kd.V_mono (ok' := fun k_ => some k_ ≠ (.slice Ao22 x5_1.length co22 : Value).ownBlock ∧ k_ ≠ gb253) ho0 (fun k_ hk_ => ⟨(Kd.fresh' (Kd.R_lt (by (with_reducible repeat (first | apply Kd.R_alloc | apply Kd.R_drewN | apply Kd.R_drew)); exact HO_5.out)) k_ hk_), (Kd.freshB (g := gb253) (o := .cells #[.int .i64 a0_0, .int .i64 a0_1, .int .i64 a0_2, .int .i64 a0_3, .int .i64 a0_4] 23 (0, 0)) (by (with_reducible repeat (first | refine blk_drewN ?_ _ | refine blk_drew ?_ | refine blk_alloc ?_ _)); exact BK253.out) k_ hk_)⟩)) (below_size (by repeat (first | (with_reducible first | exact HB.out | apply below_alloc | apply pw_below_drewN | apply below_drew1 | refine below_set ?_ GE253.out) | exact HB.out)))); have n2_ := Aside0.mk (Kd.R_lower (Kd.R_mono (ok' := fun k_ => True) ho1 (fun _ hk_ => trivial)) (below_size (by repeat (first | (with_reducible first | exact HB.out | apply below_alloc | apply pw_below_drewN | apply below_drew1 | refine below_set ?_ GE253.out) | exact HB.out)))); have n3_ := Aside0.mk (blk_below (g := gb253) (o := .cells #[.int .i64 a0_0, .int .i64 a0_1, .int .i64 a0_2, .int .i64 a0_3, .int .i64 a0_4] 23 (0, 0)) (by (with_reducible repeat (first | refine blk_drewN ?_ _ | refine blk_drew ?_ | refine blk_alloc ?_ _)); exact BK253.out) hb); have n4_ := Aside0.mk (below_step (by repeat (first | (with_reducible first | exact HB.out | apply below_alloc | apply pw_below_drewN | apply below_drew1 | refine below_set ?_ GE253.out) | exact HB.out)) hb); clear HO_5; clear BK253; clear HB; have HO_5 := n0_; have HO266 := n1_; have HO269 := n2_; have BK253 := n3_; have HB := n4_; clear n0_ n1_ n2_ n3_ n4_; (try clear hb); (try clear hb2); (try clear hk); (try clear hi); (try clear ho0); (try clear ho1); have hcz24_0 : w23.cell? ⟨gb253, 0, none⟩ = some (.int .i64 a0_0) := (blk_cell BK253.out 0).trans rfl; have hcz24_1 : w23.cell? ⟨gb253, 1, none⟩ = some (.int .i64 a0_1) := (blk_cell BK253.out 1).trans rfl; have hcz24_2 : w23.cell? ⟨gb253, 2, none⟩ = some (.int .i64 a0_2) := (blk_cell BK253.out 2).trans rfl; have hcz24_3 : w23.cell? ⟨gb253, 3, none⟩ = some (.int .i64 a0_3) := (blk_cell BK253.out 3).trans rfl; have hcz24_4 : w23.cell? ⟨gb253, 4, none⟩ = some (.int .i64 a0_4) := (blk_cell BK253.out 4).trans rfl; have hfz24_0 := blk_frozen BK253.out 0; have hfz24_1 := blk_frozen BK253.out 1; have hfz24_2 := blk_frozen BK253.out 2; have hfz24_3 := blk_frozen BK253.out 3; have hfz24_4 := blk_frozen BK253.out 4) | ((with_reducible refine gate_callee (f := 11) rfl ?_); refine goesL_ (some 84) rfl rfl Tryd.func11 (by kernel_rfl) rfl #[.agg #[.int .i64 a0_0, .int .i64 a0_1, .int .i64 a0_2, .int .i64 a0_3, .int .i64 a0_4]] rfl (by (try simp only [List.map_toArray, List.map_cons, List.map_nil]); first | done | rfl | (simp only [List.length_drop, List.length_take]; rfl)) ?_; (with_reducible refine (geyserref14_Check.calls k1 a0_0 a0_1 a0_2 a0_3 a0_4 t270 _ A14.out).mono ?_); rintro e w25 ⟨rfl, hb⟩; refine ⟨_, rfl, ?_⟩; have n0_ := Aside0.mk (Kd.R_below (by (with_reducible repeat (first | apply Kd.R_alloc | apply Kd.R_drewN | apply Kd.R_drew)); exact HO_5.out) hb); have n1_ := Aside0.mk (Kd.V_below (by (with_reducible repeat (first | apply Kd.V_alloc | apply Kd.V_drewN | apply Kd.V_drew)); exact HO266.out) hb); have n2_ := Aside0.mk (Kd.R_below (by (with_reducible repeat (first | apply Kd.R_alloc | apply Kd.R_drewN | apply Kd.R_drew)); exact HO269.out) hb); have n3_ := Aside0.mk (blk_below (g := gb253) (o := .cells #[.int .i64 a0_0, .int .i64 a0_1, .int .i64 a0_2, .int .i64 a0_3, .int .i64 a0_4] 23 (0, 0)) (by (with_reducible repeat (first | refine blk_drewN ?_ _ | refine blk_drew ?_ | refine blk_alloc ?_ _)); exact BK253.out) hb); have n4_ := Aside0.mk (below_step (by repeat (first | (with_reducible first | exact HB.out | apply below_alloc | apply pw_below_drewN | apply below_drew1 | refine below_set ?_ GE253.out) | exact HB.out)) hb); clear HO_5; clear HO266; clear HO269; clear BK253; clear HB; have HO_5 := n0_; have HO266 := n1_; have HO269 := n2_; have BK253 := n3_; have HB := n4_; clear n0_ n1_ n2_ n3_ n4_; (try clear hb); (try clear hb2); (try clear hk); (try clear hi); have hcz26_0 : w25.cell? ⟨gb253, 0, none⟩ = some (.int .i64 a0_0) := (blk_cell BK253.out 0).trans rfl; have hcz26_1 : w25.cell? ⟨gb253, 1, none⟩ = some (.int .i64 a0_1) := (blk_cell BK253.out 1).trans rfl; have hcz26_2 : w25.cell? ⟨gb253, 2, none⟩ = some (.int .i64 a0_2) := (blk_cell BK253.out 2).trans rfl; have hcz26_3 : w25.cell? ⟨gb253, 3, none⟩ = some (.int .i64 a0_3) := (blk_cell BK253.out 3).trans rfl; have hcz26_4 : w25.cell? ⟨gb253, 4, none⟩ = some (.int .i64 a0_4) := (blk_cell BK253.out 4).trans rfl; have hfz26_0 := blk_frozen BK253.out 0; have hfz26_1 := blk_frozen BK253.out 1; have hfz26_2 := blk_frozen BK253.out 2; have hfz26_3 := blk_frozen BK253.out 3; have hfz26_4 := blk_frozen BK253.out 4) | ((with_reducible refine gate_callee (f := 17) rfl ?_); refine goesL_ (some 101) rfl rfl Tryd.func17 (by kernel_rfl) rfl #[.agg #[.int .i64 a0_0, .int .i64 a0_1, .int .i64 a0_2, .int .i64 a0_3, .int .i64 a0_4], .slice A1 l1.length c1] rfl (by (try simp only [List.map_toArray, List.map_cons, List.map_nil]); first | done | rfl | (simp only [List.length_drop, List.length_take]; rfl)) ?_; (with_reducible refine (geyserref14_Join.calls k1 a0_0 a0_1 a0_2 a0_3 a0_4 _ _ l1 t271 t274 _ ?side1 ?side2 A16.out).mono ?_); (case side1 => repeat (first | exact (Kd.C_below HR1.out HB.out) | (with_reducible refine Kd.C_alloc ?_ _) | (with_reducible refine Kd.C_drewN ?_ _) | (with_reducible refine Kd.C_drew ?_))); (case side2 => exact HC1.out); rintro e w27 ⟨v272, rfl, ho0, hb⟩; refine ⟨_, rfl, ?_⟩; have n0_ := Aside0.mk (Kd.R_elder' (by (with_reducible repeat (first | apply Kd.R_alloc | apply Kd.R_drewN | apply Kd.R_drew)); exact HO_5.out) (Kd.R_base ho0) hb); have n1_ := Aside0.mk (Kd.V_elder' (by (with_reducible repeat (first | apply Kd.V_alloc | apply Kd.V_drewN | apply Kd.V_drew)); exact HO266.out) (Kd.R_base ho0) hb); have n2_ := Aside0.mk (Kd.R_below (by (with_reducible repeat (first | apply Kd.R_alloc | apply Kd.R_drewN | apply Kd.R_drew)); exact HO269.out) hb); have n3_ := Aside0.mk (Kd.R_lower ho0 (below_size (by repeat (first | (with_reducible first | exact HB.out | apply below_alloc | apply pw_below_drewN | apply below_drew1 | refine below_set ?_ GE253.out) | exact HB.out)))); have n4_ := Aside0.mk (blk_below (g := gb253) (o := .cells #[.int .i64 a0_0, .int .i64 a0_1, .int .i64 a0_2, .int .i64 a0_3, .int .i64 a0_4] 23 (0, 0)) (by (with_reducible repeat (first | refine blk_drewN ?_ _ | refine blk_drew ?_ | refine blk_alloc ?_ _)); exact BK253.out) hb); have n5_ := Aside0.mk (below_step (by repeat (first | (with_reducible first | exact HB.out | apply below_alloc | apply pw_below_drewN | apply below_drew1 | refine below_set ?_ GE253.out) | exact HB.out)) hb); clear HO_5; clear HO266; clear HO269; clear BK253; clear HB; have HO_5 := n0_; have HO266 := n1_; have HO269 := n2_; have HO273 := n3_; have BK253 := n4_; have HB := n5_; clear n0_ n1_ n2_ n3_ n4_ n5_; (try clear hb); (try clear hb2); (try clear hk); (try clear hi); (try clear ho0); obtain ⟨Ao28, co28, eo28⟩ := Kd.R_slice HO269.out; subst eo28) | ((with_reducible refine gate_callee (f := 9) rfl ?_); refine goesL_ (some 106) rfl rfl Tryd.func9 (by kernel_rfl) rfl #[errOf (.slice Ao28 t267.length co28), .int .i64 t274, .string (⟨#[98, 108, 111, 99, 107, 105, 110, 103, 46, 74, 111, 105, 110]⟩ : ByteArray)] rfl (by (try simp only [List.map_toArray, List.map_cons, List.map_nil]); first | done | rfl | (simp only [List.length_drop, List.length_take]; rfl)) ?_; (with_reducible refine (geyserlaw14_tells.calls _ _ t267 t274 (⟨#[98, 108, 111, 99, 107, 105, 110, 103, 46, 74, 111, 105, 110]⟩ : ByteArray) true _ ?side1 ?side2 ?side3 A17.out).mono ?_); (case side1 => first | exact HEI.out | exact ErrIn.below HEI.out (by repeat (first | (with_reducible first | exact HB.out | apply below_alloc | apply pw_below_drewN | apply below_drew1 | refine below_set ?_ GE253.out) | exact HB.out)) | (repeat (first | apply ErrIn.drewN | apply ErrIn.drew | exact HEI.out))); (case side2 => repeat (first | exact (Kd.R_reads' HO269.out).2.2 | (with_reducible refine Kd.C_alloc ?_ _) | (with_reducible refine Kd.C_drewN ?_ _) | (with_reducible refine Kd.C_drew ?_))); (case side3 => exact (Kd.R_reads' HO269.out).2.1); rintro e w29 ⟨rfl, hb⟩; refine ⟨_, rfl, ?_⟩; have n0_ := Aside0.mk (Kd.R_below (by (with_reducible repeat (first | apply Kd.R_alloc | apply Kd.R_drewN | apply Kd.R_drew)); exact HO_5.out) hb); have n1_ := Aside0.mk (Kd.V_below (by (with_reducible repeat (first | apply Kd.V_alloc | apply Kd.V_drewN | apply Kd.V_drew)); exact HO266.out) hb); have n2_ := Aside0.mk (Kd.R_below (by (with_reducible repeat (first | apply Kd.R_alloc | apply Kd.R_drewN | apply Kd.R_drew)); exact HO269.out) hb); have n3_ := Aside0.mk (Kd.R_below (by (with_reducible repeat (first | apply Kd.R_alloc | apply Kd.R_drewN | apply Kd.R_drew)); exact HO273.out) hb); have n4_ := Aside0.mk (blk_below (g := gb253) (o := .cells #[.int .i64 a0_0, .int .i64 a0_1, .int .i64 a0_2, .int .i64 a0_3, .int .i64 a0_4] 23 (0, 0)) (by (with_reducible repeat (first | refine blk_drewN ?_ _ | refine blk_drew ?_ | refine blk_alloc ?_ _)); exact BK253.out) hb); have n5_ := Aside0.mk (below_step (by repeat (first | (with_reducible first | exact HB.out | apply below_alloc | apply pw_below_drewN | apply below_drew1 | refine below_set ?_ GE253.out) | exact HB.out)) hb); clear HO_5; clear HO266; clear HO269; clear HO273; clear BK253; clear HB; have HO_5 := n0_; have HO266 := n1_; have HO269 := n2_; have HO273 := n3_; have BK253 := n4_; have HB := n5_; clear n0_ n1_ n2_ n3_ n4_ n5_; (try clear hb); (try clear hb2); (try clear hk); (try clear hi); obtain ⟨Ao30, co30, eo30⟩ := Kd.V_slice HO266.out; subst eo30; have hcv31 := Kd.C_string (P := Tryd.prog) (A := Ao30) (c := co30) Tryd.underlying42 Tryd.underlying5 Tryd.underlying9 (Kd.V_reads' HO266.out).2.2; have hcv32 := own_string (P := Tryd.prog) Tryd.underlying42 Tryd.underlying5 Tryd.underlying9 (Kd.own_of_R HO273.out)) | (go_at_call 10; (with_reducible refine (geyserlaw14_awake.calls k1  t276 _ A20.out).mono ?_); rintro e w33 ⟨rfl, hb⟩; have n0_ := Aside0.mk (Kd.R_below (by (with_reducible repeat (first | apply Kd.R_alloc | apply Kd.R_drewN | apply Kd.R_drew)); exact HO_5.out) hb); have n1_ := Aside0.mk (Kd.V_below (by (with_reducible repeat (first | apply Kd.V_alloc | apply Kd.V_drewN | apply Kd.V_drew)); exact HO266.out) hb); have n2_ := Aside0.mk (Kd.R_below (by (with_reducible repeat (first | apply Kd.R_alloc | apply Kd.R_drewN | apply Kd.R_drew)); exact HO269.out) hb); have n3_ := Aside0.mk (Kd.R_below (by (with_reducible repeat (first | apply Kd.R_alloc | apply Kd.R_drewN | apply Kd.R_drew)); exact HO273.out) hb); have n4_ := Aside0.mk (blk_below (g := gb253) (o := .cells #[.int .i64 a0_0, .int .i64 a0_1, .int .i64 a0_2, .int .i64 a0_3, .int .i64 a0_4] 23 (0, 0)) (by (with_reducible repeat (first | refine blk_drewN ?_ _ | refine blk_drew ?_ | refine blk_alloc ?_ _)); exact BK253.out) hb); have n5_ := Aside0.mk (below_step (by repeat (first | (with_reducible first | exact HB.out | apply below_alloc | apply pw_below_drewN | apply below_drew1 | refine below_set ?_ GE253.out) | exact HB.out)) hb); clear HO_5; clear HO266; clear HO269; clear HO273; clear BK253; clear HB; have HO_5 := n0_; have HO266 := n1_; have HO269 := n2_; have HO273 := n3_; have BK253 := n4_; have HB := n5_; clear n0_ n1_ n2_ n3_ n4_ n5_; (try clear hb); (try clear hb2); (try clear hk); (try clear hi)))
       obtain ⟨mm, W00, HT0, HM0⟩ := HI.out
       have HT := Aside0.mk HT0
       have HM := Aside0.mk HM0
       clear HT0 HM0 HI
       go_loopg [9] (x5_1.length + 1) (fun kq v9 w' => ∃ i : Nat, v9 = .int .i64 (i : Int) ∧ Aside0 (kq + i = x5_1.length + 1 ∧ i ≤ x5_1.length) ∧ Aside0 (blocking_Joins_loop.Inv mm w.heap.size gb253 #[.int .i64 a0_0, .int .i64 a0_1, .int .i64 a0_2, .int .i64 a0_3, .int .i64 a0_4] W00 v265 t264 v268 t267 w') ∧ Aside0 (Below w.heap.size w w'))
       case atStart => exact ⟨0, rfl, ⟨by omega, by omega⟩, ⟨by repeat (first | exact HM.out | apply blocking_Joins_loop.Inv.drewN | apply blocking_Joins_loop.Inv.drew)⟩, ⟨by repeat (first | (with_reducible first | exact HB.out | apply below_alloc | apply pw_below_drewN | apply below_drew1 | refine below_set ?_ GE253.out) | exact HB.out)⟩⟩
       case round =>
        clear HB HM HO_5 HO266 HO269 BK253
        obtain ⟨i, rfl, HKi, HM, HB⟩ := hrel
        cases gk with
        | zero => exact absurd HKi.out.1 (by have := HKi.out.2; omega)
        | succ g1 =>
         by_cases hlt : i < x5_1.length
         ·have hci : decide ((i : Int) < (x5_1.length : Int)) = true := decide_eq_true (by omega)
          have hpi : (0 : Int) ≤ (i : Int) := by omega
          obtain ⟨g5, cells5, A6, n6, c6, hg5, hn5, hb5, hc5, hmid⟩ := HT.out.at_ hlt
          subst hg5
          have HB5 := Aside0.mk hb5
          have HC5 := Aside0.mk hc5
          have HD := Aside0.mk hmid
          have hn6 := hmid.1
          clear hb5 hc5 hmid
          have hx5 := HM.out.cell HB5.out (by decide) HC5.out
          go_wp2
          clear hx5
          go_loopg [10] (n6 + 1) (fun kq v10 w' => ∃ k : Nat, v10 = .int .i64 (k : Int) ∧ Aside0 (kq + k = n6 + 1 ∧ k ≤ n6) ∧ Aside0 (blocking_Joins_loop.Inv mm w.heap.size gb253 #[.int .i64 a0_0, .int .i64 a0_1, .int .i64 a0_2, .int .i64 a0_3, .int .i64 a0_4] W00 v265 t264 v268 t267 w') ∧ Aside0 (Below w.heap.size w w'))
          case atStart => exact ⟨0, rfl, ⟨by omega, by omega⟩, ⟨by repeat (first | exact HM.out | apply blocking_Joins_loop.Inv.drewN | apply blocking_Joins_loop.Inv.drew)⟩, ⟨by repeat (first | (with_reducible first | exact HB.out | apply below_alloc | apply pw_below_drewN | apply below_drew1 | refine below_set ?_ GE253.out) | exact HB.out)⟩⟩
          case round =>
           clear HB HM
           obtain ⟨k, rfl, HKk, HM, HB⟩ := hrel
           have hx5 := HM.out.cell HB5.out (by decide) HC5.out
           cases gk with
           | zero => exact absurd HKk.out.1 (by have := HKk.out.2; omega)
           | succ g2 =>
            by_cases hlt2 : k < n6
            ·have hck : decide ((k : Int) < (n6 : Int)) = true := decide_eq_true (by omega)
             have hpk : (0 : Int) ≤ (k : Int) := by omega
             obtain ⟨g6, cells6, A7, n7, c7, hg6, _, hb6, hc6, hleaf⟩ := HD.out.at_ hlt2
             subst hg6
             have HB6 := Aside0.mk hb6
             have HC6 := Aside0.mk hc6
             have HL := Aside0.mk hleaf
             have hn7 := hleaf.1
             clear hb6 hc6 hleaf
             have hx6 := HM.out.cell HB6.out (by decide) HC6.out
             go_wp2
             clear hx5 hx6
             go_loopg [11] (n7 + 1) (fun kq v11 w' => ∃ j : Nat, v11 = .int .i64 (j : Int) ∧ Aside0 (kq + j = n7 + 1 ∧ j ≤ n7) ∧ Aside0 (blocking_Joins_loop.Inv mm w.heap.size gb253 #[.int .i64 a0_0, .int .i64 a0_1, .int .i64 a0_2, .int .i64 a0_3, .int .i64 a0_4] W00 v265 t264 v268 t267 w') ∧ Aside0 (Below w.heap.size w w'))
             case atStart => exact ⟨0, rfl, ⟨by omega, by omega⟩, ⟨by repeat (first | exact HM.out | apply blocking_Joins_loop.Inv.drewN | apply blocking_Joins_loop.Inv.drew)⟩, ⟨by repeat (first | (with_reducible first | exact HB.out | apply below_alloc | apply pw_below_drewN | apply below_drew1 | refine below_set ?_ GE253.out) | exact HB.out)⟩⟩
             case round =>
              clear HB HM
              obtain ⟨j, rfl, HKj, HM, HB⟩ := hrel
              have hx5 := HM.out.cell HB5.out (by decide) HC5.out
              have hx6 := HM.out.cell HB6.out (by decide) HC6.out
              cases gk with
              | zero => exact absurd HKj.out.1 (by have := HKj.out.2; omega)
              | succ g3 =>
               by_cases hlt3 : j < n7
               ·have hcj : decide ((j : Int) < (n7 : Int)) = true := decide_eq_true (by omega)
                have hpj : (0 : Int) ≤ (j : Int) := by omega
                obtain ⟨g7, cells7, z7, hg7, _, hbase7, hm7, hb7, hc7⟩ := HL.out.at_ hlt3
                subst hg7
                obtain ⟨z8, cells8, hx7, hfr7, hblk7⟩ := HM.out.byte hb7 hc7
                have HZ := Aside0.mk hblk7
                have HG := Aside0.mk hm7
                have HE := Aside0.mk hbase7
                clear hblk7 hm7 hbase7 hb7 hc7
                go_wp2
                go_region
                go_wp2
                go_roundg g3
                case measure => have := HKj.out.1; omega
                case rel =>
                 refine ⟨j + 1, by go_num, ⟨by have := HKj.out; omega, by omega⟩, ⟨?_⟩, ⟨?_⟩⟩
                 ·exact (HM.out.store HZ.out HG.out _).drew
                 ·exact below_drew (HB.out.setCell HE.out _)
               ·have hcj : decide ((j : Int) < (n7 : Int)) = false := decide_eq_false (by omega)
                go_wp2
                go_roundg g2
                case measure => have := HKk.out.1; omega
                case rel =>
                 refine ⟨k + 1, by go_num, ⟨by have := HKk.out; omega, by omega⟩, ⟨by repeat (first | exact HM.out | apply blocking_Joins_loop.Inv.drewN | apply blocking_Joins_loop.Inv.drew)⟩, ⟨by repeat (first | (with_reducible first | exact HB.out | apply below_alloc | apply pw_below_drewN | apply below_drew1 | refine below_set ?_ GE253.out) | exact HB.out)⟩⟩
            ·have hck : decide ((k : Int) < (n6 : Int)) = false := decide_eq_false (by omega)
             go_wp2
             go_roundg g1
             case measure => have := HKi.out.1; omega
             case rel =>
              refine ⟨i + 1, by go_num, ⟨by have := HKi.out; omega, by omega⟩, ⟨by repeat (first | exact HM.out | apply blocking_Joins_loop.Inv.drewN | apply blocking_Joins_loop.Inv.drew)⟩, ⟨by repeat (first | (with_reducible first | exact HB.out | apply below_alloc | apply pw_below_drewN | apply below_drew1 | refine below_set ?_ GE253.out) | exact HB.out)⟩⟩
         ·have hci : decide ((i : Int) < (x5_1.length : Int)) = false := decide_eq_false (by omega)
          have HO_5 := Aside0.mk HM.out.nil
          have HO266 := Aside0.mk HM.out.2.2.2.2.2.1
          have HO269 := Aside0.mk HM.out.2.2.2.2.2.2.1
          have BK253 := Aside0.mk HM.out.2.2.2.2.2.2.2
          have hczL_0 : _ = some ((.int .i64 a0_0 : Value)) := (blk_cell BK253.out 0).trans rfl
          have hczL_1 : _ = some ((.int .i64 a0_1 : Value)) := (blk_cell BK253.out 1).trans rfl
          have hczL_2 : _ = some ((.int .i64 a0_2 : Value)) := (blk_cell BK253.out 2).trans rfl
          have hczL_3 : _ = some ((.int .i64 a0_3 : Value)) := (blk_cell BK253.out 3).trans rfl
          have hczL_4 : _ = some ((.int .i64 a0_4 : Value)) := (blk_cell BK253.out 4).trans rfl
          have hfzL_0 := blk_frozen BK253.out 0
          have hfzL_1 := blk_frozen BK253.out 1
          have hfzL_2 := blk_frozen BK253.out 2
          have hfzL_3 := blk_frozen BK253.out 3
          have hfzL_4 := blk_frozen BK253.out 4
          go_wp2_with (first | ((with_reducible refine gate_callee (f := 16) rfl ?_); refine goesL_ (some 33) rfl rfl Tryd.func16 (by kernel_rfl) rfl #[.agg #[.int .i64 a0_0, .int .i64 a0_1, .int .i64 a0_2, .int .i64 a0_3, .int .i64 a0_4], .slice Ao22 x5_1.length co22] rfl (by (try simp only [List.map_toArray, List.map_cons, List.map_nil]); first | done | rfl | (simp only [List.length_drop, List.length_take]; rfl)) ?_; (with_reducible refine (blocking_Join.calls k1 a0_0 a0_1 a0_2 a0_3 a0_4 _ _ x5_1 t264 t267 _ ?side1 ?side2 A13.out).mono ?_); (case side1 => repeat (first | exact (Kd.R_reads' HO_5.out).2.2 | (with_reducible refine Kd.C_alloc ?_ _) | (with_reducible refine Kd.C_drewN ?_ _) | (with_reducible refine Kd.C_drew ?_))); (case side2 => exact (Kd.R_reads' HO_5.out).2.1); rintro e w23 ⟨v265, v268, rfl, ho0, ho1, hb⟩; refine ⟨_, rfl, ?_⟩; replace ho0 := Kd.V_mono (ok' := fun k_ => _ ≤ k_) ho0 (fun _ hk => hk.1); have n0_ := Aside0.mk (Kd.R_below (by (with_reducible repeat (first | apply Kd.R_alloc | apply Kd.R_drewN | apply Kd.R_drew)); exact HO_5.out) hb); have n1_ := Aside0.mk (Kd.V_lower (Kd.V_mono (ok' := fun k_ => some k_ ≠ (.slice Ao22 x5_1.length co22 : Value).ownBlock ∧ k_ ≠ gb253) ho0 (fun k_ hk_ => ⟨(Kd.fresh' (Kd.R_lt (by (with_reducible repeat (first | apply Kd.R_alloc | apply Kd.R_drewN | apply Kd.R_drew)); exact HO_5.out)) k_ hk_), (Kd.freshB (g := gb253) (o := .cells #[.int .i64 a0_0, .int .i64 a0_1, .int .i64 a0_2, .int .i64 a0_3, .int .i64 a0_4] 23 (0, 0)) (by (with_reducible repeat (first | refine blk_drewN ?_ _ | refine blk_drew ?_ | refine blk_alloc ?_ _)); exact BK253.out) k_ hk_)⟩)) (below_size (by repeat (first | (with_reducible first | exact HB.out | apply below_alloc | apply pw_below_drewN | apply below_drew1 | refine below_set ?_ GE253.out) | exact HB.out)))); have n2_ := Aside0.mk (Kd.R_lower (Kd.R_mono (ok' := fun k_ => True) ho1 (fun _ hk_ => trivial)) (below_size (by repeat (first | (with_reducible first | exact HB.out | apply below_alloc | apply pw_below_drewN | apply below_drew1 | refine below_set ?_ GE253.out) | exact HB.out)))); have n3_ := Aside0.mk (blk_below (g := gb253) (o := .cells #[.int .i64 a0_0, .int .i64 a0_1, .int .i64 a0_2, .int .i64 a0_3, .int .i64 a0_4] 23 (0, 0)) (by (with_reducible repeat (first | refine blk_drewN ?_ _ | refine blk_drew ?_ | refine blk_alloc ?_ _)); exact BK253.out) hb); have n4_ := Aside0.mk (below_step (by repeat (first | (with_reducible first | exact HB.out | apply below_alloc | apply pw_below_drewN | apply below_drew1 | refine below_set ?_ GE253.out) | exact HB.out)) hb); clear HO_5; clear BK253; clear HB; have HO_5 := n0_; have HO266 := n1_; have HO269 := n2_; have BK253 := n3_; have HB := n4_; clear n0_ n1_ n2_ n3_ n4_; (try clear hb); (try clear hb2); (try clear hk); (try clear hi); (try clear ho0); (try clear ho1); have hcz24_0 : w23.cell? ⟨gb253, 0, none⟩ = some (.int .i64 a0_0) := (blk_cell BK253.out 0).trans rfl; have hcz24_1 : w23.cell? ⟨gb253, 1, none⟩ = some (.int .i64 a0_1) := (blk_cell BK253.out 1).trans rfl; have hcz24_2 : w23.cell? ⟨gb253, 2, none⟩ = some (.int .i64 a0_2) := (blk_cell BK253.out 2).trans rfl; have hcz24_3 : w23.cell? ⟨gb253, 3, none⟩ = some (.int .i64 a0_3) := (blk_cell BK253.out 3).trans rfl; have hcz24_4 : w23.cell? ⟨gb253, 4, none⟩ = some (.int .i64 a0_4) := (blk_cell BK253.out 4).trans rfl; have hfz24_0 := blk_frozen BK253.out 0; have hfz24_1 := blk_frozen BK253.out 1; have hfz24_2 := blk_frozen BK253.out 2; have hfz24_3 := blk_frozen BK253.out 3; have hfz24_4 := blk_frozen BK253.out 4) | ((with_reducible refine gate_callee (f := 11) rfl ?_); refine goesL_ (some 84) rfl rfl Tryd.func11 (by kernel_rfl) rfl #[.agg #[.int .i64 a0_0, .int .i64 a0_1, .int .i64 a0_2, .int .i64 a0_3, .int .i64 a0_4]] rfl (by (try simp only [List.map_toArray, List.map_cons, List.map_nil]); first | done | rfl | (simp only [List.length_drop, List.length_take]; rfl)) ?_; (with_reducible refine (geyserref14_Check.calls k1 a0_0 a0_1 a0_2 a0_3 a0_4 t270 _ A14.out).mono ?_); rintro e w25 ⟨rfl, hb⟩; refine ⟨_, rfl, ?_⟩; have n0_ := Aside0.mk (Kd.R_below (by (with_reducible repeat (first | apply Kd.R_alloc | apply Kd.R_drewN | apply Kd.R_drew)); exact HO_5.out) hb); have n1_ := Aside0.mk (Kd.V_below (by (with_reducible repeat (first | apply Kd.V_alloc | apply Kd.V_drewN | apply Kd.V_drew)); exact HO266.out) hb); have n2_ := Aside0.mk (Kd.R_below (by (with_reducible repeat (first | apply Kd.R_alloc | apply Kd.R_drewN | apply Kd.R_drew)); exact HO269.out) hb); have n3_ := Aside0.mk (blk_below (g := gb253) (o := .cells #[.int .i64 a0_0, .int .i64 a0_1, .int .i64 a0_2, .int .i64 a0_3, .int .i64 a0_4] 23 (0, 0)) (by (with_reducible repeat (first | refine blk_drewN ?_ _ | refine blk_drew ?_ | refine blk_alloc ?_ _)); exact BK253.out) hb); have n4_ := Aside0.mk (below_step (by repeat (first | (with_reducible first | exact HB.out | apply below_alloc | apply pw_below_drewN | apply below_drew1 | refine below_set ?_ GE253.out) | exact HB.out)) hb); clear HO_5; clear HO266; clear HO269; clear BK253; clear HB; have HO_5 := n0_; have HO266 := n1_; have HO269 := n2_; have BK253 := n3_; have HB := n4_; clear n0_ n1_ n2_ n3_ n4_; (try clear hb); (try clear hb2); (try clear hk); (try clear hi); have hcz26_0 : w25.cell? ⟨gb253, 0, none⟩ = some (.int .i64 a0_0) := (blk_cell BK253.out 0).trans rfl; have hcz26_1 : w25.cell? ⟨gb253, 1, none⟩ = some (.int .i64 a0_1) := (blk_cell BK253.out 1).trans rfl; have hcz26_2 : w25.cell? ⟨gb253, 2, none⟩ = some (.int .i64 a0_2) := (blk_cell BK253.out 2).trans rfl; have hcz26_3 : w25.cell? ⟨gb253, 3, none⟩ = some (.int .i64 a0_3) := (blk_cell BK253.out 3).trans rfl; have hcz26_4 : w25.cell? ⟨gb253, 4, none⟩ = some (.int .i64 a0_4) := (blk_cell BK253.out 4).trans rfl; have hfz26_0 := blk_frozen BK253.out 0; have hfz26_1 := blk_frozen BK253.out 1; have hfz26_2 := blk_frozen BK253.out 2; have hfz26_3 := blk_frozen BK253.out 3; have hfz26_4 := blk_frozen BK253.out 4) | ((with_reducible refine gate_callee (f := 17) rfl ?_); refine goesL_ (some 101) rfl rfl Tryd.func17 (by kernel_rfl) rfl #[.agg #[.int .i64 a0_0, .int .i64 a0_1, .int .i64 a0_2, .int .i64 a0_3, .int .i64 a0_4], .slice A1 l1.length c1] rfl (by (try simp only [List.map_toArray, List.map_cons, List.map_nil]); first | done | rfl | (simp only [List.length_drop, List.length_take]; rfl)) ?_; (with_reducible refine (geyserref14_Join.calls k1 a0_0 a0_1 a0_2 a0_3 a0_4 _ _ l1 t271 t274 _ ?side1 ?side2 A16.out).mono ?_); (case side1 => repeat (first | exact (Kd.C_below HR1.out HB.out) | (with_reducible refine Kd.C_alloc ?_ _) | (with_reducible refine Kd.C_drewN ?_ _) | (with_reducible refine Kd.C_drew ?_))); (case side2 => exact HC1.out); rintro e w27 ⟨v272, rfl, ho0, hb⟩; refine ⟨_, rfl, ?_⟩; have n0_ := Aside0.mk (Kd.R_elder' (by (with_reducible repeat (first | apply Kd.R_alloc | apply Kd.R_drewN | apply Kd.R_drew)); exact HO_5.out) (Kd.R_base ho0) hb); have n1_ := Aside0.mk (Kd.V_elder' (by (with_reducible repeat (first | apply Kd.V_alloc | apply Kd.V_drewN | apply Kd.V_drew)); exact HO266.out) (Kd.R_base ho0) hb); have n2_ := Aside0.mk (Kd.R_below (by (with_reducible repeat (first | apply Kd.R_alloc | apply Kd.R_drewN | apply Kd.R_drew)); exact HO269.out) hb); have n3_ := Aside0.mk (Kd.R_lower ho0 (below_size (by repeat (first | (with_reducible first | exact HB.out | apply below_alloc | apply pw_below_drewN | apply below_drew1 | refine below_set ?_ GE253.out) | exact HB.out)))); have n4_ := Aside0.mk (blk_below (g := gb253) (o := .cells #[.int .i64 a0_0, .int .i64 a0_1, .int .i64 a0_2, .int .i64 a0_3, .int .i64 a0_4] 23 (0, 0)) (by (with_reducible repeat (first | refine blk_drewN ?_ _ | refine blk_drew ?_ | refine blk_alloc ?_ _)); exact BK253.out) hb); have n5_ := Aside0.mk (below_step (by repeat (first | (with_reducible first | exact HB.out | apply below_alloc | apply pw_below_drewN | apply below_drew1 | refine below_set ?_ GE253.out) | exact HB.out)) hb); clear HO_5; clear HO266; clear HO269; clear BK253; clear HB; have HO_5 := n0_; have HO266 := n1_; have HO269 := n2_; have HO273 := n3_; have BK253 := n4_; have HB := n5_; clear n0_ n1_ n2_ n3_ n4_ n5_; (try clear hb); (try clear hb2); (try clear hk); (try clear hi); (try clear ho0); obtain ⟨Ao28, co28, eo28⟩ := Kd.R_slice HO269.out; subst eo28) | ((with_reducible refine gate_callee (f := 9) rfl ?_); refine goesL_ (some 106) rfl rfl Tryd.func9 (by kernel_rfl) rfl #[errOf (.slice Ao28 t267.length co28), .int .i64 t274, .string (⟨#[98, 108, 111, 99, 107, 105, 110, 103, 46, 74, 111, 105, 110]⟩ : ByteArray)] rfl (by (try simp only [List.map_toArray, List.map_cons, List.map_nil]); first | done | rfl | (simp only [List.length_drop, List.length_take]; rfl)) ?_; (with_reducible refine (geyserlaw14_tells.calls _ _ t267 t274 (⟨#[98, 108, 111, 99, 107, 105, 110, 103, 46, 74, 111, 105, 110]⟩ : ByteArray) true _ ?side1 ?side2 ?side3 A17.out).mono ?_); (case side1 => first | exact HEI.out | exact ErrIn.below HEI.out (by repeat (first | (with_reducible first | exact HB.out | apply below_alloc | apply pw_below_drewN | apply below_drew1 | refine below_set ?_ GE253.out) | exact HB.out)) | (repeat (first | apply ErrIn.drewN | apply ErrIn.drew | exact HEI.out))); (case side2 => repeat (first | exact (Kd.R_reads' HO269.out).2.2 | (with_reducible refine Kd.C_alloc ?_ _) | (with_reducible refine Kd.C_drewN ?_ _) | (with_reducible refine Kd.C_drew ?_))); (case side3 => exact (Kd.R_reads' HO269.out).2.1); rintro e w29 ⟨rfl, hb⟩; refine ⟨_, rfl, ?_⟩; have n0_ := Aside0.mk (Kd.R_below (by (with_reducible repeat (first | apply Kd.R_alloc | apply Kd.R_drewN | apply Kd.R_drew)); exact HO_5.out) hb); have n1_ := Aside0.mk (Kd.V_below (by (with_reducible repeat (first | apply Kd.V_alloc | apply Kd.V_drewN | apply Kd.V_drew)); exact HO266.out) hb); have n2_ := Aside0.mk (Kd.R_below (by (with_reducible repeat (first | apply Kd.R_alloc | apply Kd.R_drewN | apply Kd.R_drew)); exact HO269.out) hb); have n3_ := Aside0.mk (Kd.R_below (by (with_reducible repeat (first | apply Kd.R_alloc | apply Kd.R_drewN | apply Kd.R_drew)); exact HO273.out) hb); have n4_ := Aside0.mk (blk_below (g := gb253) (o := .cells #[.int .i64 a0_0, .int .i64 a0_1, .int .i64 a0_2, .int .i64 a0_3, .int .i64 a0_4] 23 (0, 0)) (by (with_reducible repeat (first | refine blk_drewN ?_ _ | refine blk_drew ?_ | refine blk_alloc ?_ _)); exact BK253.out) hb); have n5_ := Aside0.mk (below_step (by repeat (first | (with_reducible first | exact HB.out | apply below_alloc | apply pw_below_drewN | apply below_drew1 | refine below_set ?_ GE253.out) | exact HB.out)) hb); clear HO_5; clear HO266; clear HO269; clear HO273; clear BK253; clear HB; have HO_5 := n0_; have HO266 := n1_; have HO269 := n2_; have HO273 := n3_; have BK253 := n4_; have HB := n5_; clear n0_ n1_ n2_ n3_ n4_ n5_; (try clear hb); (try clear hb2); (try clear hk); (try clear hi); obtain ⟨Ao30, co30, eo30⟩ := Kd.V_slice HO266.out; subst eo30; have hcv31 := Kd.C_string (P := Tryd.prog) (A := Ao30) (c := co30) Tryd.underlying42 Tryd.underlying5 Tryd.underlying9 (Kd.V_reads' HO266.out).2.2; have hcv32 := own_string (P := Tryd.prog) Tryd.underlying42 Tryd.underlying5 Tryd.underlying9 (Kd.own_of_R HO273.out)) | (go_at_call 10; (with_reducible refine (geyserlaw14_awake.calls k1  t276 _ A20.out).mono ?_); rintro e w33 ⟨rfl, hb⟩; have n0_ := Aside0.mk (Kd.R_below (by (with_reducible repeat (first | apply Kd.R_alloc | apply Kd.R_drewN | apply Kd.R_drew)); exact HO_5.out) hb); have n1_ := Aside0.mk (Kd.V_below (by (with_reducible repeat (first | apply Kd.V_alloc | apply Kd.V_drewN | apply Kd.V_drew)); exact HO266.out) hb); have n2_ := Aside0.mk (Kd.R_below (by (with_reducible repeat (first | apply Kd.R_alloc | apply Kd.R_drewN | apply Kd.R_drew)); exact HO269.out) hb); have n3_ := Aside0.mk (Kd.R_below (by (with_reducible repeat (first | apply Kd.R_alloc | apply Kd.R_drewN | apply Kd.R_drew)); exact HO273.out) hb); have n4_ := Aside0.mk (blk_below (g := gb253) (o := .cells #[.int .i64 a0_0, .int .i64 a0_1, .int .i64 a0_2, .int .i64 a0_3, .int .i64 a0_4] 23 (0, 0)) (by (with_reducible repeat (first | refine blk_drewN ?_ _ | refine blk_drew ?_ | refine blk_alloc ?_ _)); exact BK253.out) hb); have n5_ := Aside0.mk (below_step (by repeat (first | (with_reducible first | exact HB.out | apply below_alloc | apply pw_below_drewN | apply below_drew1 | refine below_set ?_ GE253.out) | exact HB.out)) hb); clear HO_5; clear HO266; clear HO269; clear HO273; clear BK253; clear HB; have HO_5 := n0_; have HO266 := n1_; have HO269 := n2_; have HO273 := n3_; have BK253 := n4_; have HB := n5_; clear n0_ n1_ n2_ n3_ n4_ n5_; (try clear hb); (try clear hb2); (try clear hk); (try clear hi))) -- behind
          go_ret
          exact ⟨by first | rfl | (simp [errW_none, errW_some] <;> rfl) | (simp [*, errW_none, errW_some] <;> rfl), by repeat (first | (with_reducible first | exact HB.out | apply below_alloc | apply pw_below_drewN | apply below_drew1 | refine below_set ?_ GE253.out) | exact HB.out)⟩
      ·rw [if_neg c19] at H
       have c19b0 : ((strOfNums t264).toList == (strOfNums t271).toList) = false := beq_eq_false_iff_ne.mpr c19
       have c19b1 : ((strOfNums t264).toList != (strOfNums t271).toList) = true := bne_iff_ne.mpr c19
       obtain rfl := Option.some.inj H
       have hcz34_0 : wr.cell? ⟨gb253, 0, none⟩ = some (.int .i64 a0_0) := (blk_cell BK253.out 0).trans rfl
       have hcz34_1 : wr.cell? ⟨gb253, 1, none⟩ = some (.int .i64 a0_1) := (blk_cell BK253.out 1).trans rfl
       have hcz34_2 : wr.cell? ⟨gb253, 2, none⟩ = some (.int .i64 a0_2) := (blk_cell BK253.out 2).trans rfl
       have hcz34_3 : wr.cell? ⟨gb253, 3, none⟩ = some (.int .i64 a0_3) := (blk_cell BK253.out 3).trans rfl
       have hcz34_4 : wr.cell? ⟨gb253, 4, none⟩ = some (.int .i64 a0_4) := (blk_cell BK253.out 4).trans rfl
       have hfz34_0 := blk_frozen BK253.out 0
       have hfz34_1 := blk_frozen BK253.out 1
       have hfz34_2 := blk_frozen BK253.out 2
       have hfz34_3 := blk_frozen BK253.out 3
       have hfz34_4 := blk_frozen BK253.out 4
       obtain ⟨Ao35, co35, eo35⟩ := Kd.R_slice HO_5.out
       subst eo35
       go_wp2_with (first | ((with_reducible refine gate_callee (f := 16) rfl ?_); refine goesL_ (some 33) rfl rfl Tryd.func16 (by kernel_rfl) rfl #[.agg #[.int .i64 a0_0, .int .i64 a0_1, .int .i64 a0_2, .int .i64 a0_3, .int .i64 a0_4], .slice Ao35 x5_1.length co35] rfl (by (try simp only [List.map_toArray, List.map_cons, List.map_nil]); first | done | rfl | (simp only [List.length_drop, List.length_take]; rfl)) ?_; (with_reducible refine (blocking_Join.calls k1 a0_0 a0_1 a0_2 a0_3 a0_4 _ _ x5_1 t264 t267 _ ?side1 ?side2 A13.out).mono ?_); (case side1 => repeat (first | exact (Kd.R_reads' HO_5.out).2.2 | (with_reducible refine Kd.C_alloc ?_ _) | (with_reducible refine Kd.C_drewN ?_ _) | (with_reducible refine Kd.C_drew ?_))); (case side2 => exact (Kd.R_reads' HO_5.out).2.1); rintro e w36 ⟨v265, v268, rfl, ho0, ho1, hb⟩; refine ⟨_, rfl, ?_⟩; have HI := Aside0.mk (blocking_Joins_loop.start (base := w.heap.size) (by (with_reducible repeat (first | apply Kd.R_alloc | apply Kd.R_drewN | apply Kd.R_drew)); exact HO_5.out) (by (with_reducible repeat (first | refine blk_drewN ?_ _ | refine blk_drew ?_ | refine blk_alloc ?_ _)); exact BK253.out) hb ho0 ho1 (below_size (by repeat (first | (with_reducible first | exact HB.out | apply below_alloc | apply pw_below_drewN | apply below_drew1 | refine below_set ?_ GE253.out) | exact HB.out)))); replace ho0 := Kd.V_mono (ok' := fun k_ => _ ≤ k_) ho0 (fun _ hk => hk.1); have n0_ := Aside0.mk (Kd.R_below (by (with_reducible repeat (first | apply Kd.R_alloc | apply Kd.R_drewN | apply Kd.R_drew)); exact HO_5.out) hb); have n1_ := Aside0.mk (Kd.V_lower (Kd.V_mono (ok' := fun k_ => some k_ ≠ (.slice Ao35 x5_1.length co35 : Value).ownBlock ∧ k_ ≠ gb253) ho0 (fun k_ hk_ => ⟨(Kd.fresh' (Kd.R_lt (by (with_reducible repeat (first | apply Kd.R_alloc | apply Kd.R_drewN | apply Kd.R_drew)); exact HO_5.out)) k_ hk_), (Kd.freshB (g := gb253) (o := .cells #[.int .i64 a0_0, .int .i64 a0_1, .int .i64 a0_2, .int .i64 a0_3, .int .i64 a0_4] 23 (0, 0)) (by (with_reducible repeat (first | refine blk_drewN ?_ _ | refine blk_drew ?_ | refine blk_alloc ?_ _)); exact BK253.out) k_ hk_)⟩)) (below_size (by repeat (first | (with_reducible first | exact HB.out | apply below_alloc | apply pw_below_drewN | apply below_drew1 | refine below_set ?_ GE253.out) | exact HB.out)))); have n2_ := Aside0.mk (Kd.R_lower (Kd.R_mono (ok' := fun k_ => True) ho1 (fun _ hk_ => trivial)) (below_size (by repeat (first | (with_reducible first | exact HB.out | apply below_alloc | apply pw_below_drewN | apply below_drew1 | refine below_set ?_ GE253.out) | exact HB.out)))); have n3_ := Aside0.mk (blk_below (g := gb253) (o := .cells #[.int .i64 a0_0, .int .i64 a0_1, .int .i64 a0_2, .int .i64 a0_3, .int .i64 a0_4] 23 (0, 0)) (by (with_reducible repeat (first | refine blk_drewN ?_ _ | refine blk_drew ?_ | refine blk_alloc ?_ _)); exact BK253.out) hb); have n4_ := Aside0.mk (below_step (by repeat (first | (with_reducible first | exact HB.out | apply below_alloc | apply pw_below_drewN | apply below_drew1 | refine below_set ?_ GE253.out) | exact HB.out)) hb); clear HO_5; clear BK253; clear HB; have HO_5 := n0_; have HO266 := n1_; have HO269 := n2_; have BK253 := n3_; have HB := n4_; clear n0_ n1_ n2_ n3_ n4_; (try clear hb); (try clear hb2); (try clear hk); (try clear hi); (try clear ho0); (try clear ho1); have hcz37_0 : w36.cell? ⟨gb253, 0, none⟩ = some (.int .i64 a0_0) := (blk_cell BK253.out 0).trans rfl; have hcz37_1 : w36.cell? ⟨gb253, 1, none⟩ = some (.int .i64 a0_1) := (blk_cell BK253.out 1).trans rfl; have hcz37_2 : w36.cell? ⟨gb253, 2, none⟩ = some (.int .i64 a0_2) := (blk_cell BK253.out 2).trans rfl; have hcz37_3 : w36.cell? ⟨gb253, 3, none⟩ = some (.int .i64 a0_3) := (blk_cell BK253.out 3).trans rfl; have hcz37_4 : w36.cell? ⟨gb253, 4, none⟩ = some (.int .i64 a0_4) := (blk_cell BK253.out 4).trans rfl; have hfz37_0 := blk_frozen BK253.out 0; have hfz37_1 := blk_frozen BK253.out 1; have hfz37_2 := blk_frozen BK253.out 2; have hfz37_3 := blk_frozen BK253.out 3; have hfz37_4 := blk_frozen BK253.out 4) | ((with_reducible refine gate_callee (f := 11) rfl ?_); refine goesL_ (some 84) rfl rfl Tryd.func11 (by kernel_rfl) rfl #[.agg #[.int .i64 a0_0, .int .i64 a0_1, .int .i64 a0_2, .int .i64 a0_3, .int .i64 a0_4]] rfl (by (try simp only [List.map_toArray, List.map_cons, List.map_nil]); first | done | rfl | (simp only [List.length_drop, List.length_take]; rfl)) ?_; (with_reducible refine (geyserref14_Check.calls k1 a0_0 a0_1 a0_2 a0_3 a0_4 t270 _ A14.out).mono ?_); rintro e w38 ⟨rfl, hb⟩; refine ⟨_, rfl, ?_⟩; have n0_ := Aside0.mk (Kd.R_below (by (with_reducible repeat (first | apply Kd.R_alloc | apply Kd.R_drewN | apply Kd.R_drew)); exact HO_5.out) hb); have n1_ := Aside0.mk (Kd.V_below (by (with_reducible repeat (first | apply Kd.V_alloc | apply Kd.V_drewN | apply Kd.V_drew)); exact HO266.out) hb); have n2_ := Aside0.mk (Kd.R_below (by (with_reducible repeat (first | apply Kd.R_alloc | apply Kd.R_drewN | apply Kd.R_drew)); exact HO269.out) hb); have n3_ := Aside0.mk (blk_below (g := gb253) (o := .cells #[.int .i64 a0_0, .int .i64 a0_1, .int .i64 a0_2, .int .i64 a0_3, .int .i64 a0_4] 23 (0, 0)) (by (with_reducible repeat (first | refine blk_drewN ?_ _ | refine blk_drew ?_ | refine blk_alloc ?_ _)); exact BK253.out) hb); have n4_ := Aside0.mk (below_step (by repeat (first | (with_reducible first | exact HB.out | apply below_alloc | apply pw_below_drewN | apply below_drew1 | refine below_set ?_ GE253.out) | exact HB.out)) hb); clear HO_5; clear HO266; clear HO269; clear BK253; clear HB; have HO_5 := n0_; have HO266 := n1_; have HO269 := n2_; have BK253 := n3_; have HB := n4_; clear n0_ n1_ n2_ n3_ n4_; (try clear hb); (try clear hb2); (try clear hk); (try clear hi); have hcz39_0 : w38.cell? ⟨gb253, 0, none⟩ = some (.int .i64 a0_0) := (blk_cell BK253.out 0).trans rfl; have hcz39_1 : w38.cell? ⟨gb253, 1, none⟩ = some (.int .i64 a0_1) := (blk_cell BK253.out 1).trans rfl; have hcz39_2 : w38.cell? ⟨gb253, 2, none⟩ = some (.int .i64 a0_2) := (blk_cell BK253.out 2).trans rfl; have hcz39_3 : w38.cell? ⟨gb253, 3, none⟩ = some (.int .i64 a0_3) := (blk_cell BK253.out 3).trans rfl; have hcz39_4 : w38.cell? ⟨gb253, 4, none⟩ = some (.int .i64 a0_4) := (blk_cell BK253.out 4).trans rfl; have hfz39_0 := blk_frozen BK253.out 0; have hfz39_1 := blk_frozen BK253.out 1; have hfz39_2 := blk_frozen BK253.out 2; have hfz39_3 := blk_frozen BK253.out 3; have hfz39_4 := blk_frozen BK253.out 4) | ((with_reducible refine gate_callee (f := 17) rfl ?_); refine goesL_ (some 101) rfl rfl Tryd.func17 (by kernel_rfl) rfl #[.agg #[.int .i64 a0_0, .int .i64 a0_1, .int .i64 a0_2, .int .i64 a0_3, .int .i64 a0_4], .slice A1 l1.length c1] rfl (by (try simp only [List.map_toArray, List.map_cons, List.map_nil]); first | done | rfl | (simp only [List.length_drop, List.length_take]; rfl)) ?_; (with_reducible refine (geyserref14_Join.calls k1 a0_0 a0_1 a0_2 a0_3 a0_4 _ _ l1 t271 t274 _ ?side1 ?side2 A16.out).mono ?_); (case side1 => repeat (first | exact (Kd.C_below HR1.out HB.out) | (with_reducible refine Kd.C_alloc ?_ _) | (with_reducible refine Kd.C_drewN ?_ _) | (with_reducible refine Kd.C_drew ?_))); (case side2 => exact HC1.out); rintro e w40 ⟨v272, rfl, ho0, hb⟩; refine ⟨_, rfl, ?_⟩; have n0_ := Aside0.mk (Kd.R_elder' (by (with_reducible repeat (first | apply Kd.R_alloc | apply Kd.R_drewN | apply Kd.R_drew)); exact HO_5.out) (Kd.R_base ho0) hb); have n1_ := Aside0.mk (Kd.V_elder' (by (with_reducible repeat (first | apply Kd.V_alloc | apply Kd.V_drewN | apply Kd.V_drew)); exact HO266.out) (Kd.R_base ho0) hb); have n2_ := Aside0.mk (Kd.R_below (by (with_reducible repeat (first | apply Kd.R_alloc | apply Kd.R_drewN | apply Kd.R_drew)); exact HO269.out) hb); have n3_ := Aside0.mk (Kd.R_lower ho0 (below_size (by repeat (first | (with_reducible first | exact HB.out | apply below_alloc | apply pw_below_drewN | apply below_drew1 | refine below_set ?_ GE253.out) | exact HB.out)))); have n4_ := Aside0.mk (blk_below (g := gb253) (o := .cells #[.int .i64 a0_0, .int .i64 a0_1, .int .i64 a0_2, .int .i64 a0_3, .int .i64 a0_4] 23 (0, 0)) (by (with_reducible repeat (first | refine blk_drewN ?_ _ | refine blk_drew ?_ | refine blk_alloc ?_ _)); exact BK253.out) hb); have n5_ := Aside0.mk (below_step (by repeat (first | (with_reducible first | exact HB.out | apply below_alloc | apply pw_below_drewN | apply below_drew1 | refine below_set ?_ GE253.out) | exact HB.out)) hb); clear HO_5; clear HO266; clear HO269; clear BK253; clear HB; have HO_5 := n0_; have HO266 := n1_; have HO269 := n2_; have HO273 := n3_; have BK253 := n4_; have HB := n5_; clear n0_ n1_ n2_ n3_ n4_ n5_; (try clear hb); (try clear hb2); (try clear hk); (try clear hi); (try clear ho0); obtain ⟨Ao41, co41, eo41⟩ := Kd.R_slice HO269.out; subst eo41) | ((with_reducible refine gate_callee (f := 9) rfl ?_); refine goesL_ (some 106) rfl rfl Tryd.func9 (by kernel_rfl) rfl #[errOf (.slice Ao41 t267.length co41), .int .i64 t274, .string (⟨#[98, 108, 111, 99, 107, 105, 110, 103, 46, 74, 111, 105, 110]⟩ : ByteArray)] rfl (by (try simp only [List.map_toArray, List.map_cons, List.map_nil]); first | done | rfl | (simp only [List.length_drop, List.length_take]; rfl)) ?_; (with_reducible refine (geyserlaw14_tells.calls _ _ t267 t274 (⟨#[98, 108, 111, 99, 107, 105, 110, 103, 46, 74, 111, 105, 110]⟩ : ByteArray) true _ ?side1 ?side2 ?side3 A17.out).mono ?_); (case side1 => first | exact HEI.out | exact ErrIn.below HEI.out (by repeat (first | (with_reducible first | exact HB.out | apply below_alloc | apply pw_below_drewN | apply below_drew1 | refine below_set ?_ GE253.out) | exact HB.out)) | (repeat (first | apply ErrIn.drewN | apply ErrIn.drew | exact HEI.out))); (case side2 => repeat (first | exact (Kd.R_reads' HO269.out).2.2 | (with_reducible refine Kd.C_alloc ?_ _) | (with_reducible refine Kd.C_drewN ?_ _) | (with_reducible refine Kd.C_drew ?_))); (case side3 => exact (Kd.R_reads' HO269.out).2.1); rintro e w42 ⟨rfl, hb⟩; refine ⟨_, rfl, ?_⟩; have n0_ := Aside0.mk (Kd.R_below (by (with_reducible repeat (first | apply Kd.R_alloc | apply Kd.R_drewN | apply Kd.R_drew)); exact HO_5.out) hb); have n1_ := Aside0.mk (Kd.V_below (by (with_reducible repeat (first | apply Kd.V_alloc | apply Kd.V_drewN | apply Kd.V_drew)); exact HO266.out) hb); have n2_ := Aside0.mk (Kd.R_below (by (with_reducible repeat (first | apply Kd.R_alloc | apply Kd.R_drewN | apply Kd.R_drew)); exact HO269.out) hb); have n3_ := Aside0.mk (Kd.R_below (by (with_reducible repeat (first | apply Kd.R_alloc | apply Kd.R_drewN | apply Kd.R_drew)); exact HO273.out) hb); have n4_ := Aside0.mk (blk_below (g := gb253) (o := .cells #[.int .i64 a0_0, .int .i64 a0_1, .int .i64 a0_2, .int .i64 a0_3, .int .i64 a0_4] 23 (0, 0)) (by (with_reducible repeat (first | refine blk_drewN ?_ _ | refine blk_drew ?_ | refine blk_alloc ?_ _)); exact BK253.out) hb); have n5_ := Aside0.mk (below_step (by repeat (first | (with_reducible first | exact HB.out | apply below_alloc | apply pw_below_drewN | apply below_drew1 | refine below_set ?_ GE253.out) | exact HB.out)) hb); clear HO_5; clear HO266; clear HO269; clear HO273; clear BK253; clear HB; have HO_5 := n0_; have HO266 := n1_; have HO269 := n2_; have HO273 := n3_; have BK253 := n4_; have HB := n5_; clear n0_ n1_ n2_ n3_ n4_ n5_; (try clear hb); (try clear hb2); (try clear hk); (try clear hi); obtain ⟨Ao43, co43, eo43⟩ := Kd.V_slice HO266.out; subst eo43; have hcv44 := Kd.C_string (P := Tryd.prog) (A := Ao43) (c := co43) Tryd.underlying42 Tryd.underlying5 Tryd.underlying9 (Kd.V_reads' HO266.out).2.2; have hcv45 := own_string (P := Tryd.prog) Tryd.underlying42 Tryd.underlying5 Tryd.underlying9 (Kd.own_of_R HO273.out)))
       obtain ⟨mm, W00, HT0, HM0⟩ := HI.out
       have HT := Aside0.mk HT0
       have HM := Aside0.mk HM0
       clear HT0 HM0 HI
       go_loopg [9] (x5_1.length + 1) (fun kq v9 w' => ∃ i : Nat, v9 = .int .i64 (i : Int) ∧ Aside0 (kq + i = x5_1.length + 1 ∧ i ≤ x5_1.length) ∧ Aside0 (blocking_Joins_loop.Inv mm w.heap.size gb253 #[.int .i64 a0_0, .int .i64 a0_1, .int .i64 a0_2, .int .i64 a0_3, .int .i64 a0_4] W00 v265 t264 v268 t267 w') ∧ Aside0 (Below w.heap.size w w'))
       case atStart => exact ⟨0, rfl, ⟨by omega, by omega⟩, ⟨by repeat (first | exact HM.out | apply blocking_Joins_loop.Inv.drewN | apply blocking_Joins_loop.Inv.drew)⟩, ⟨by repeat (first | (with_reducible first | exact HB.out | apply below_alloc | apply pw_below_drewN | apply below_drew1 | refine below_set ?_ GE253.out) | exact HB.out)⟩⟩
       case round =>
        clear HB HM HO_5 HO266 HO269 BK253
        obtain ⟨i, rfl, HKi, HM, HB⟩ := hrel
        cases gk with
        | zero => exact absurd HKi.out.1 (by have := HKi.out.2; omega)
        | succ g1 =>
         by_cases hlt : i < x5_1.length
         ·have hci : decide ((i : Int) < (x5_1.length : Int)) = true := decide_eq_true (by omega)
          have hpi : (0 : Int) ≤ (i : Int) := by omega
          obtain ⟨g5, cells5, A6, n6, c6, hg5, hn5, hb5, hc5, hmid⟩ := HT.out.at_ hlt
          subst hg5
          have HB5 := Aside0.mk hb5
          have HC5 := Aside0.mk hc5
          have HD := Aside0.mk hmid
          have hn6 := hmid.1
          clear hb5 hc5 hmid
          have hx5 := HM.out.cell HB5.out (by decide) HC5.out
          go_wp2
          clear hx5
          go_loopg [10] (n6 + 1) (fun kq v10 w' => ∃ k : Nat, v10 = .int .i64 (k : Int) ∧ Aside0 (kq + k = n6 + 1 ∧ k ≤ n6) ∧ Aside0 (blocking_Joins_loop.Inv mm w.heap.size gb253 #[.int .i64 a0_0, .int .i64 a0_1, .int .i64 a0_2, .int .i64 a0_3, .int .i64 a0_4] W00 v265 t264 v268 t267 w') ∧ Aside0 (Below w.heap.size w w'))
          case atStart => exact ⟨0, rfl, ⟨by omega, by omega⟩, ⟨by repeat (first | exact HM.out | apply blocking_Joins_loop.Inv.drewN | apply blocking_Joins_loop.Inv.drew)⟩, ⟨by repeat (first | (with_reducible first | exact HB.out | apply below_alloc | apply pw_below_drewN | apply below_drew1 | refine below_set ?_ GE253.out) | exact HB.out)⟩⟩
          case round =>
           clear HB HM
           obtain ⟨k, rfl, HKk, HM, HB⟩ := hrel
           have hx5 := HM.out.cell HB5.out (by decide) HC5.out
           cases gk with
           | zero => exact absurd HKk.out.1 (by have := HKk.out.2; omega)
           | succ g2 =>
            by_cases hlt2 : k < n6
            ·have hck : decide ((k : Int) < (n6 : Int)) = true := decide_eq_true (by omega)
             have hpk : (0 : Int) ≤ (k : Int) := by omega
             obtain ⟨g6, cells6, A7, n7, c7, hg6, _, hb6, hc6, hleaf⟩ := HD.out.at_ hlt2
             subst hg6
             have HB6 := Aside0.mk hb6
             have HC6 := Aside0.mk hc6
             have HL := Aside0.mk hleaf
             have hn7 := hleaf.1
             clear hb6 hc6 hleaf
             have hx6 := HM.out.cell HB6.out (by decide) HC6.out
             go_wp2
             clear hx5 hx6
             go_loopg [11] (n7 + 1) (fun kq v11 w' => ∃ j : Nat, v11 = .int .i64 (j : Int) ∧ Aside0 (kq + j = n7 + 1 ∧ j ≤ n7) ∧ Aside0 (blocking_Joins_loop.Inv mm w.heap.size gb253 #[.int .i64 a0_0, .int .i64 a0_1, .int .i64 a0_2, .int .i64 a0_3, .int .i64 a0_4] W00 v265 t264 v268 t267 w') ∧ Aside0 (Below w.heap.size w w'))
             case atStart => exact ⟨0, rfl, ⟨by omega, by omega⟩, ⟨by repeat (first | exact HM.out | apply blocking_Joins_loop.Inv.drewN | apply blocking_Joins_loop.Inv.drew)⟩, ⟨by repeat (first | (with_reducible first | exact HB.out | apply below_alloc | apply pw_below_drewN | apply below_drew1 | refine below_set ?_ GE253.out) | exact HB.out)⟩⟩
             case round =>
              clear HB HM
              obtain ⟨j, rfl, HKj, HM, HB⟩ := hrel
              have hx5 := HM.out.cell HB5.out (by decide) HC5.out
              have hx6 := HM.out.cell HB6.out (by decide) HC6.out
              cases gk with
              | zero => exact absurd HKj.out.1 (by have := HKj.out.2; omega)
              | succ g3 =>
               by_cases hlt3 : j < n7
               ·have hcj : decide ((j : Int) < (n7 : Int)) = true := decide_eq_true (by omega)
                have hpj : (0 : Int) ≤ (j : Int) := by omega
                obtain ⟨g7, cells7, z7, hg7, _, hbase7, hm7, hb7, hc7⟩ := HL.out.at_ hlt3
                subst hg7
                obtain ⟨z8, cells8, hx7, hfr7, hblk7⟩ := HM.out.byte hb7 hc7
                have HZ := Aside0.mk hblk7
                have HG := Aside0.mk hm7
                have HE := Aside0.mk hbase7
                clear hblk7 hm7 hbase7 hb7 hc7
                go_wp2
                go_region
                go_wp2
                go_roundg g3
                case measure => have := HKj.out.1; omega
                case rel =>
                 refine ⟨j + 1, by go_num, ⟨by have := HKj.out; omega, by omega⟩, ⟨?_⟩, ⟨?_⟩⟩
                 ·exact (HM.out.store HZ.out HG.out _).drew
                 ·exact below_drew (HB.out.setCell HE.out _)
               ·have hcj : decide ((j : Int) < (n7 : Int)) = false := decide_eq_false (by omega)
                go_wp2
                go_roundg g2
                case measure => have := HKk.out.1; omega
                case rel =>
                 refine ⟨k + 1, by go_num, ⟨by have := HKk.out; omega, by omega⟩, ⟨by repeat (first | exact HM.out | apply blocking_Joins_loop.Inv.drewN | apply blocking_Joins_loop.Inv.drew)⟩, ⟨by repeat (first | (with_reducible first | exact HB.out | apply below_alloc | apply pw_below_drewN | apply below_drew1 | refine below_set ?_ GE253.out) | exact HB.out)⟩⟩
            ·have hck : decide ((k : Int) < (n6 : Int)) = false := decide_eq_false (by omega)
             go_wp2
             go_roundg g1
             case measure => have := HKi.out.1; omega
             case rel =>
              refine ⟨i + 1, by go_num, ⟨by have := HKi.out; omega, by omega⟩, ⟨by repeat (first | exact HM.out | apply blocking_Joins_loop.Inv.drewN | apply blocking_Joins_loop.Inv.drew)⟩, ⟨by repeat (first | (with_reducible first | exact HB.out | apply below_alloc | apply pw_below_drewN | apply below_drew1 | refine below_set ?_ GE253.out) | exact HB.out)⟩⟩
         ·have hci : decide ((i : Int) < (x5_1.length : Int)) = false := decide_eq_false (by omega)
          have HO_5 := Aside0.mk HM.out.nil
          have HO266 := Aside0.mk HM.out.2.2.2.2.2.1
          have HO269 := Aside0.mk HM.out.2.2.2.2.2.2.1
          have BK253 := Aside0.mk HM.out.2.2.2.2.2.2.2
          have hczL_0 : _ = some ((.int .i64 a0_0 : Value)) := (blk_cell BK253.out 0).trans rfl
          have hczL_1 : _ = some ((.int .i64 a0_1 : Value)) := (blk_cell BK253.out 1).trans rfl
          have hczL_2 : _ = some ((.int .i64 a0_2 : Value)) := (blk_cell BK253.out 2).trans rfl
          have hczL_3 : _ = some ((.int .i64 a0_3 : Value)) := (blk_cell BK253.out 3).trans rfl
          have hczL_4 : _ = some ((.int .i64 a0_4 : Value)) := (blk_cell BK253.out 4).trans rfl
          have hfzL_0 := blk_frozen BK253.out 0
          have hfzL_1 := blk_frozen BK253.out 1
          have hfzL_2 := blk_frozen BK253.out 2
          have hfzL_3 := blk_frozen BK253.out 3
          have hfzL_4 := blk_frozen BK253.out 4
          go_wp2_with (first | ((with_reducible refine gate_callee (f := 16) rfl ?_); refine goesL_ (some 33) rfl rfl Tryd.func16 (by kernel_rfl) rfl #[.agg #[.int .i64 a0_0, .int .i64 a0_1, .int .i64 a0_2, .int .i64 a0_3, .int .i64 a0_4], .slice Ao35 x5_1.length co35] rfl (by (try simp only [List.map_toArray, List.map_cons, List.map_nil]); first | done | rfl | (simp only [List.length_drop, List.length_take]; rfl)) ?_; (with_reducible refine (blocking_Join.calls k1 a0_0 a0_1 a0_2 a0_3 a0_4 _ _ x5_1 t264 t267 _ ?side1 ?side2 A13.out).mono ?_); (case side1 => repeat (first | exact (Kd.R_reads' HO_5.out).2.2 | (with_reducible refine Kd.C_alloc ?_ _) | (with_reducible refine Kd.C_drewN ?_ _) | (with_reducible refine Kd.C_drew ?_))); (case side2 => exact (Kd.R_reads' HO_5.out).2.1); rintro e w36 ⟨v265, v268, rfl, ho0, ho1, hb⟩; refine ⟨_, rfl, ?_⟩; replace ho0 := Kd.V_mono (ok' := fun k_ => _ ≤ k_) ho0 (fun _ hk => hk.1); have n0_ := Aside0.mk (Kd.R_below (by (with_reducible repeat (first | apply Kd.R_alloc | apply Kd.R_drewN | apply Kd.R_drew)); exact HO_5.out) hb); have n1_ := Aside0.mk (Kd.V_lower (Kd.V_mono (ok' := fun k_ => some k_ ≠ (.slice Ao35 x5_1.length co35 : Value).ownBlock ∧ k_ ≠ gb253) ho0 (fun k_ hk_ => ⟨(Kd.fresh' (Kd.R_lt (by (with_reducible repeat (first | apply Kd.R_alloc | apply Kd.R_drewN | apply Kd.R_drew)); exact HO_5.out)) k_ hk_), (Kd.freshB (g := gb253) (o := .cells #[.int .i64 a0_0, .int .i64 a0_1, .int .i64 a0_2, .int .i64 a0_3, .int .i64 a0_4] 23 (0, 0)) (by (with_reducible repeat (first | refine blk_drewN ?_ _ | refine blk_drew ?_ | refine blk_alloc ?_ _)); exact BK253.out) k_ hk_)⟩)) (below_size (by repeat (first | (with_reducible first | exact HB.out | apply below_alloc | apply pw_below_drewN | apply below_drew1 | refine below_set ?_ GE253.out) | exact HB.out)))); have n2_ := Aside0.mk (Kd.R_lower (Kd.R_mono (ok' := fun k_ => True) ho1 (fun _ hk_ => trivial)) (below_size (by repeat (first | (with_reducible first | exact HB.out | apply below_alloc | apply pw_below_drewN | apply below_drew1 | refine below_set ?_ GE253.out) | exact HB.out)))); have n3_ := Aside0.mk (blk_below (g := gb253) (o := .cells #[.int .i64 a0_0, .int .i64 a0_1, .int .i64 a0_2, .int .i64 a0_3, .int .i64 a0_4] 23 (0, 0)) (by (with_reducible repeat (first | refine blk_drewN ?_ _ | refine blk_drew ?_ | refine blk_alloc ?_ _)); exact BK253.out) hb); have n4_ := Aside0.mk (below_step (by repeat (first | (with_reducible first | exact HB.out | apply below_alloc | apply pw_below_drewN | apply below_drew1 | refine below_set ?_ GE253.out) | exact HB.out)) hb); clear HO_5; clear BK253; clear HB; have HO_5 := n0_; have HO266 := n1_; have HO269 := n2_; have BK253 := n3_; have HB := n4_; clear n0_ n1_ n2_ n3_ n4_; (try clear hb); (try clear hb2); (try clear hk); (try clear hi); (try clear ho0); (try clear ho1); have hcz37_0 : w36.cell? ⟨gb253, 0, none⟩ = some (.int .i64 a0_0) := (blk_cell BK253.out 0).trans rfl; have hcz37_1 : w36.cell? ⟨gb253, 1, none⟩ = some (.int .i64 a0_1) := (blk_cell BK253.out 1).trans rfl; have hcz37_2 : w36.cell? ⟨gb253, 2, none⟩ = some (.int .i64 a0_2) := (blk_cell BK253.out 2).trans rfl; have hcz37_3 : w36.cell? ⟨gb253, 3, none⟩ = some (.int .i64 a0_3) := (blk_cell BK253.out 3).trans rfl; have hcz37_4 : w36.cell? ⟨gb253, 4, none⟩ = some (.int .i64 a0_4) := (blk_cell BK253.out 4).trans rfl; have hfz37_0 := blk_frozen BK253.out 0; have hfz37_1 := blk_frozen BK253.out 1; have hfz37_2 := blk_frozen BK253.out 2; have hfz37_3 := blk_frozen BK253.out 3; have hfz37_4 := blk_frozen BK253.out 4) | ((with_reducible refine gate_callee (f := 11) rfl ?_); refine goesL_ (some 84) rfl rfl Tryd.func11 (by kernel_rfl) rfl #[.agg #[.int .i64 a0_0, .int .i64 a0_1, .int .i64 a0_2, .int .i64 a0_3, .int .i64 a0_4]] rfl (by (try simp only [List.map_toArray, List.map_cons, List.map_nil]); first | done | rfl | (simp only [List.length_drop, List.length_take]; rfl)) ?_; (with_reducible refine (geyserref14_Check.calls k1 a0_0 a0_1 a0_2 a0_3 a0_4 t270 _ A14.out).mono ?_); rintro e w38 ⟨rfl, hb⟩; refine ⟨_, rfl, ?_⟩; have n0_ := Aside0.mk (Kd.R_below (by (with_reducible repeat (first | apply Kd.R_alloc | apply Kd.R_drewN | apply Kd.R_drew)); exact HO_5.out) hb); have n1_ := Aside0.mk (Kd.V_below (by (with_reducible repeat (first | apply Kd.V_alloc | apply Kd.V_drewN | apply Kd.V_drew)); exact HO266.out) hb); have n2_ := Aside0.mk (Kd.R_below (by (with_reducible repeat (first | apply Kd.R_alloc | apply Kd.R_drewN | apply Kd.R_drew)); exact HO269.out) hb); have n3_ := Aside0.mk (blk_below (g := gb253) (o := .cells #[.int .i64 a0_0, .int .i64 a0_1, .int .i64 a0_2, .int .i64 a0_3, .int .i64 a0_4] 23 (0, 0)) (by (with_reducible repeat (first | refine blk_drewN ?_ _ | refine blk_drew ?_ | refine blk_alloc ?_ _)); exact BK253.out) hb); have n4_ := Aside0.mk (below_step (by repeat (first | (with_reducible first | exact HB.out | apply below_alloc | apply pw_below_drewN | apply below_drew1 | refine below_set ?_ GE253.out) | exact HB.out)) hb); clear HO_5; clear HO266; clear HO269; clear BK253; clear HB; have HO_5 := n0_; have HO266 := n1_; have HO269 := n2_; have BK253 := n3_; have HB := n4_; clear n0_ n1_ n2_ n3_ n4_; (try clear hb); (try clear hb2); (try clear hk); (try clear hi); have hcz39_0 : w38.cell? ⟨gb253, 0, none⟩ = some (.int .i64 a0_0) := (blk_cell BK253.out 0).trans rfl; have hcz39_1 : w38.cell? ⟨gb253, 1, none⟩ = some (.int .i64 a0_1) := (blk_cell BK253.out 1).trans rfl; have hcz39_2 : w38.cell? ⟨gb253, 2, none⟩ = some (.int .i64 a0_2) := (blk_cell BK253.out 2).trans rfl; have hcz39_3 : w38.cell? ⟨gb253, 3, none⟩ = some (.int .i64 a0_3) := (blk_cell BK253.out 3).trans rfl; have hcz39_4 : w38.cell? ⟨gb253, 4, none⟩ = some (.int .i64 a0_4) := (blk_cell BK253.out 4).trans rfl; have hfz39_0 := blk_frozen BK253.out 0; have hfz39_1 := blk_frozen BK253.out 1; have hfz39_2 := blk_frozen BK253.out 2; have hfz39_3 := blk_frozen BK253.out 3; have hfz39_4 := blk_frozen BK253.out 4) | ((with_reducible refine gate_callee (f := 17) rfl ?_); refine goesL_ (some 101) rfl rfl Tryd.func17 (by kernel_rfl) rfl #[.agg #[.int .i64 a0_0, .int .i64 a0_1, .int .i64 a0_2, .int .i64 a0_3, .int .i64 a0_4], .slice A1 l1.length c1] rfl (by (try simp only [List.map_toArray, List.map_cons, List.map_nil]); first | done | rfl | (simp only [List.length_drop, List.length_take]; rfl)) ?_; (with_reducible refine (geyserref14_Join.calls k1 a0_0 a0_1 a0_2 a0_3 a0_4 _ _ l1 t271 t274 _ ?side1 ?side2 A16.out).mono ?_); (case side1 => repeat (first | exact (Kd.C_below HR1.out HB.out) | (with_reducible refine Kd.C_alloc ?_ _) | (with_reducible refine Kd.C_drewN ?_ _) | (with_reducible refine Kd.C_drew ?_))); (case side2 => exact HC1.out); rintro e w40 ⟨v272, rfl, ho0, hb⟩; refine ⟨_, rfl, ?_⟩; have n0_ := Aside0.mk (Kd.R_elder' (by (with_reducible repeat (first | apply Kd.R_alloc | apply Kd.R_drewN | apply Kd.R_drew)); exact HO_5.out) (Kd.R_base ho0) hb); have n1_ := Aside0.mk (Kd.V_elder' (by (with_reducible repeat (first | apply Kd.V_alloc | apply Kd.V_drewN | apply Kd.V_drew)); exact HO266.out) (Kd.R_base ho0) hb); have n2_ := Aside0.mk (Kd.R_below (by (with_reducible repeat (first | apply Kd.R_alloc | apply Kd.R_drewN | apply Kd.R_drew)); exact HO269.out) hb); have n3_ := Aside0.mk (Kd.R_lower ho0 (below_size (by repeat (first | (with_reducible first | exact HB.out | apply below_alloc | apply pw_below_drewN | apply below_drew1 | refine below_set ?_ GE253.out) | exact HB.out)))); have n4_ := Aside0.mk (blk_below (g := gb253) (o := .cells #[.int .i64 a0_0, .int .i64 a0_1, .int .i64 a0_2, .int .i64 a0_3, .int .i64 a0_4] 23 (0, 0)) (by (with_reducible repeat (first | refine blk_drewN ?_ _ | refine blk_drew ?_ | refine blk_alloc ?_ _)); exact BK253.out) hb); have n5_ := Aside0.mk (below_step (by repeat (first | (with_reducible first | exact HB.out | apply below_alloc | apply pw_below_drewN | apply below_drew1 | refine below_set ?_ GE253.out) | exact HB.out)) hb); clear HO_5; clear HO266; clear HO269; clear BK253; clear HB; have HO_5 := n0_; have HO266 := n1_; have HO269 := n2_; have HO273 := n3_; have BK253 := n4_; have HB := n5_; clear n0_ n1_ n2_ n3_ n4_ n5_; (try clear hb); (try clear hb2); (try clear hk); (try clear hi); (try clear ho0); obtain ⟨Ao41, co41, eo41⟩ := Kd.R_slice HO269.out; subst eo41) | ((with_reducible refine gate_callee (f := 9) rfl ?_); refine goesL_ (some 106) rfl rfl Tryd.func9 (by kernel_rfl) rfl #[errOf (.slice Ao41 t267.length co41), .int .i64 t274, .string (⟨#[98, 108, 111, 99, 107, 105, 110, 103, 46, 74, 111, 105, 110]⟩ : ByteArray)] rfl (by (try simp only [List.map_toArray, List.map_cons, List.map_nil]); first | done | rfl | (simp only [List.length_drop, List.length_take]; rfl)) ?_; (with_reducible refine (geyserlaw14_tells.calls _ _ t267 t274 (⟨#[98, 108, 111, 99, 107, 105, 110, 103, 46, 74, 111, 105, 110]⟩ : ByteArray) true _ ?side1 ?side2 ?side3 A17.out).mono ?_); (case side1 => first | exact HEI.out | exact ErrIn.below HEI.out (by repeat (first | (with_reducible first | exact HB.out | apply below_alloc | apply pw_below_drewN | apply below_drew1 | refine below_set ?_ GE253.out) | exact HB.out)) | (repeat (first | apply ErrIn.drewN | apply ErrIn.drew | exact HEI.out))); (case side2 => repeat (first | exact (Kd.R_reads' HO269.out).2.2 | (with_reducible refine Kd.C_alloc ?_ _) | (with_reducible refine Kd.C_drewN ?_ _) | (with_reducible refine Kd.C_drew ?_))); (case side3 => exact (Kd.R_reads' HO269.out).2.1); rintro e w42 ⟨rfl, hb⟩; refine ⟨_, rfl, ?_⟩; have n0_ := Aside0.mk (Kd.R_below (by (with_reducible repeat (first | apply Kd.R_alloc | apply Kd.R_drewN | apply Kd.R_drew)); exact HO_5.out) hb); have n1_ := Aside0.mk (Kd.V_below (by (with_reducible repeat (first | apply Kd.V_alloc | apply Kd.V_drewN | apply Kd.V_drew)); exact HO266.out) hb); have n2_ := Aside0.mk (Kd.R_below (by (with_reducible repeat (first | apply Kd.R_alloc | apply Kd.R_drewN | apply Kd.R_drew)); exact HO269.out) hb); have n3_ := Aside0.mk (Kd.R_below (by (with_reducible repeat (first | apply Kd.R_alloc | apply Kd.R_drewN | apply Kd.R_drew)); exact HO273.out) hb); have n4_ := Aside0.mk (blk_below (g := gb253) (o := .cells #[.int .i64 a0_0, .int .i64 a0_1, .int .i64 a0_2, .int .i64 a0_3, .int .i64 a0_4] 23 (0, 0)) (by (with_reducible repeat (first | refine blk_drewN ?_ _ | refine blk_drew ?_ | refine blk_alloc ?_ _)); exact BK253.out) hb); have n5_ := Aside0.mk (below_step (by repeat (first | (with_reducible first | exact HB.out | apply below_alloc | apply pw_below_drewN | apply below_drew1 | refine below_set ?_ GE253.out) | exact HB.out)) hb); clear HO_5; clear HO266; clear HO269; clear HO273; clear BK253; clear HB; have HO_5 := n0_; have HO266 := n1_; have HO269 := n2_; have HO273 := n3_; have BK253 := n4_; have HB := n5_; clear n0_ n1_ n2_ n3_ n4_ n5_; (try clear hb); (try clear hb2); (try clear hk); (try clear hi); obtain ⟨Ao43, co43, eo43⟩ := Kd.V_slice HO266.out; subst eo43; have hcv44 := Kd.C_string (P := Tryd.prog) (A := Ao43) (c := co43) Tryd.underlying42 Tryd.underlying5 Tryd.underlying9 (Kd.V_reads' HO266.out).2.2; have hcv45 := own_string (P := Tryd.prog) Tryd.underlying42 Tryd.underlying5 Tryd.underlying9 (Kd.own_of_R HO273.out))) -- behind
          go_ret
          exact ⟨by first | rfl | (simp [errW_none, errW_some] <;> rfl) | (simp [*, errW_none, errW_some] <;> rfl), by repeat (first | (with_reducible first | exact HB.out | apply below_alloc | apply pw_below_drewN | apply below_drew1 | refine below_set ?_ GE253.out) | exact HB.out)⟩
     ·replace c18 := Bool.eq_false_iff.mpr c18
      subst c18
      have H1 : (some false) = some r := by rw [if_neg (show ¬ (false = true) by decide)] at H; exact H
      clear H
      have H := H1
      clear H1
      obtain rfl := Option.some.inj H
      have hcz46_0 : wr.cell? ⟨gb253, 0, none⟩ = some (.int .i64 a0_0) := (blk_cell BK253.out 0).trans rfl
      have hcz46_1 : wr.cell? ⟨gb253, 1, none⟩ = some (.int .i64 a0_1) := (blk_cell BK253.out 1).trans rfl
      have hcz46_2 : wr.cell? ⟨gb253, 2, none⟩ = some (.int .i64 a0_2) := (blk_cell BK253.out 2).trans rfl
      have hcz46_3 : wr.cell? ⟨gb253, 3, none⟩ = some (.int .i64 a0_3) := (blk_cell BK253.out 3).trans rfl
      have hcz46_4 : wr.cell? ⟨gb253, 4, none⟩ = some (.int .i64 a0_4) := (blk_cell BK253.out 4).trans rfl
      have hfz46_0 := blk_frozen BK253.out 0
      have hfz46_1 := blk_frozen BK253.out 1
      have hfz46_2 := blk_frozen BK253.out 2
      have hfz46_3 := blk_frozen BK253.out 3
      have hfz46_4 := blk_frozen BK253.out 4
      obtain ⟨Ao47, co47, eo47⟩ := Kd.R_slice HO_5.out
      subst eo47
      go_wp2_with (first | ((with_reducible refine gate_callee (f := 16) rfl ?_); refine goesL_ (some 33) rfl rfl Tryd.func16 (by kernel_rfl) rfl #[.agg #[.int .i64 a0_0, .int .i64 a0_1, .int .i64 a0_2, .int .i64 a0_3, .int .i64 a0_4], .slice Ao47 x5_1.length co47] rfl (by (try simp only [List.map_toArray, List.map_cons, List.map_nil]); first | done | rfl | (simp only [List.length_drop, List.length_take]; rfl)) ?_; (with_reducible refine (blocking_Join.calls k1 a0_0 a0_1 a0_2 a0_3 a0_4 _ _ x5_1 t264 t267 _ ?side1 ?side2 A13.out).mono ?_); (case side1 => repeat (first | exact (Kd.R_reads' HO_5.out).2.2 | (with_reducible refine Kd.C_alloc ?_ _) | (with_reducible refine Kd.C_drewN ?_ _) | (with_reducible refine Kd.C_drew ?_))); (case side2 => exact (Kd.R_reads' HO_5.out).2.1); rintro e w48 ⟨v265, v268, rfl, ho0, ho1, hb⟩; refine ⟨_, rfl, ?_⟩; have HI := Aside0.mk (blocking_Joins_loop.start (base := w.heap.size) (by (with_reducible repeat (first | apply Kd.R_alloc | apply Kd.R_drewN | apply Kd.R_drew)); exact HO_5.out) (by (with_reducible repeat (first | refine blk_drewN ?_ _ | refine blk_drew ?_ | refine blk_alloc ?_ _)); exact BK253.out) hb ho0 ho1 (below_size (by repeat (first | (with_reducible first | exact HB.out | apply below_alloc | apply pw_below_drewN | apply below_drew1 | refine below_set ?_ GE253.out) | exact HB.out)))); replace ho0 := Kd.V_mono (ok' := fun k_ => _ ≤ k_) ho0 (fun _ hk => hk.1); have n0_ := Aside0.mk (Kd.R_below (by (with_reducible repeat (first | apply Kd.R_alloc | apply Kd.R_drewN | apply Kd.R_drew)); exact HO_5.out) hb); have n1_ := Aside0.mk (Kd.V_lower (Kd.V_mono (ok' := fun k_ => some k_ ≠ (.slice Ao47 x5_1.length co47 : Value).ownBlock ∧ k_ ≠ gb253) ho0 (fun k_ hk_ => ⟨(Kd.fresh' (Kd.R_lt (by (with_reducible repeat (first | apply Kd.R_alloc | apply Kd.R_drewN | apply Kd.R_drew)); exact HO_5.out)) k_ hk_), (Kd.freshB (g := gb253) (o := .cells #[.int .i64 a0_0, .int .i64 a0_1, .int .i64 a0_2, .int .i64 a0_3, .int .i64 a0_4] 23 (0, 0)) (by (with_reducible repeat (first | refine blk_drewN ?_ _ | refine blk_drew ?_ | refine blk_alloc ?_ _)); exact BK253.out) k_ hk_)⟩)) (below_size (by repeat (first | (with_reducible first | exact HB.out | apply below_alloc | apply pw_below_drewN | apply below_drew1 | refine below_set ?_ GE253.out) | exact HB.out)))); have n2_ := Aside0.mk (Kd.R_lower (Kd.R_mono (ok' := fun k_ => True) ho1 (fun _ hk_ => trivial)) (below_size (by repeat (first | (with_reducible first | exact HB.out | apply below_alloc | apply pw_below_drewN | apply below_drew1 | refine below_set ?_ GE253.out) | exact HB.out)))); have n3_ := Aside0.mk (blk_below (g := gb253) (o := .cells #[.int .i64 a0_0, .int .i64 a0_1, .int .i64 a0_2, .int .i64 a0_3, .int .i64 a0_4] 23 (0, 0)) (by (with_reducible repeat (first | refine blk_drewN ?_ _ | refine blk_drew ?_ | refine blk_alloc ?_ _)); exact BK253.out) hb); have n4_ := Aside0.mk (below_step (by repeat (first | (with_reducible first | exact HB.out | apply below_alloc | apply pw_below_drewN | apply below_drew1 | refine below_set ?_ GE253.out) | exact HB.out)) hb); clear HO_5; clear BK253; clear HB; have HO_5 := n0_; have HO266 := n1_; have HO269 := n2_; have BK253 := n3_; have HB := n4_; clear n0_ n1_ n2_ n3_ n4_; (try clear hb); (try clear hb2); (try clear hk); (try clear hi); (try clear ho0); (try clear ho1); have hcz49_0 : w48.cell? ⟨gb253, 0, none⟩ = some (.int .i64 a0_0) := (blk_cell BK253.out 0).trans rfl; have hcz49_1 : w48.cell? ⟨gb253, 1, none⟩ = some (.int .i64 a0_1) := (blk_cell BK253.out 1).trans rfl; have hcz49_2 : w48.cell? ⟨gb253, 2, none⟩ = some (.int .i64 a0_2) := (blk_cell BK253.out 2).trans rfl; have hcz49_3 : w48.cell? ⟨gb253, 3, none⟩ = some (.int .i64 a0_3) := (blk_cell BK253.out 3).trans rfl; have hcz49_4 : w48.cell? ⟨gb253, 4, none⟩ = some (.int .i64 a0_4) := (blk_cell BK253.out 4).trans rfl; have hfz49_0 := blk_frozen BK253.out 0; have hfz49_1 := blk_frozen BK253.out 1; have hfz49_2 := blk_frozen BK253.out 2; have hfz49_3 := blk_frozen BK253.out 3; have hfz49_4 := blk_frozen BK253.out 4) | ((with_reducible refine gate_callee (f := 11) rfl ?_); refine goesL_ (some 84) rfl rfl Tryd.func11 (by kernel_rfl) rfl #[.agg #[.int .i64 a0_0, .int .i64 a0_1, .int .i64 a0_2, .int .i64 a0_3, .int .i64 a0_4]] rfl (by (try simp only [List.map_toArray, List.map_cons, List.map_nil]); first | done | rfl | (simp only [List.length_drop, List.length_take]; rfl)) ?_; (with_reducible refine (geyserref14_Check.calls k1 a0_0 a0_1 a0_2 a0_3 a0_4 t270 _ A14.out).mono ?_); rintro e w50 ⟨rfl, hb⟩; refine ⟨_, rfl, ?_⟩; have n0_ := Aside0.mk (Kd.R_below (by (with_reducible repeat (first | apply Kd.R_alloc | apply Kd.R_drewN | apply Kd.R_drew)); exact HO_5.out) hb); have n1_ := Aside0.mk (Kd.V_below (by (with_reducible repeat (first | apply Kd.V_alloc | apply Kd.V_drewN | apply Kd.V_drew)); exact HO266.out) hb); have n2_ := Aside0.mk (Kd.R_below (by (with_reducible repeat (first | apply Kd.R_alloc | apply Kd.R_drewN | apply Kd.R_drew)); exact HO269.out) hb); have n3_ := Aside0.mk (blk_below (g := gb253) (o := .cells #[.int .i64 a0_0, .int .i64 a0_1, .int .i64 a0_2, .int .i64 a0_3, .int .i64 a0_4] 23 (0, 0)) (by (with_reducible repeat (first | refine blk_drewN ?_ _ | refine blk_drew ?_ | refine blk_alloc ?_ _)); exact BK253.out) hb); have n4_ := Aside0.mk (below_step (by repeat (first | (with_reducible first | exact HB.out | apply below_alloc | apply pw_below_drewN | apply below_drew1 | refine below_set ?_ GE253.out) | exact HB.out)) hb); clear HO_5; clear HO266; clear HO269; clear BK253; clear HB; have HO_5 := n0_; have HO266 := n1_; have HO269 := n2_; have BK253 := n3_; have HB := n4_; clear n0_ n1_ n2_ n3_ n4_; (try clear hb); (try clear hb2); (try clear hk); (try clear hi); have hcz51_0 : w50.cell? ⟨gb253, 0, none⟩ = some (.int .i64 a0_0) := (blk_cell BK253.out 0).trans rfl; have hcz51_1 : w50.cell? ⟨gb253, 1, none⟩ = some (.int .i64 a0_1) := (blk_cell BK253.out 1).trans rfl; have hcz51_2 : w50.cell? ⟨gb253, 2, none⟩ = some (.int .i64 a0_2) := (blk_cell BK253.out 2).trans rfl; have hcz51_3 : w50.cell? ⟨gb253, 3, none⟩ = some (.int .i64 a0_3) := (blk_cell BK253.out 3).trans rfl; have hcz51_4 : w50.cell? ⟨gb253, 4, none⟩ = some (.int .i64 a0_4) := (blk_cell BK253.out 4).trans rfl; have hfz51_0 := blk_frozen BK253.out 0; have hfz51_1 := blk_frozen BK253.out 1; have hfz51_2 := blk_frozen BK253.out 2; have hfz51_3 := blk_frozen BK253.out 3; have hfz51_4 := blk_frozen BK253.out 4) | ((with_reducible refine gate_callee (f := 17) rfl ?_); refine goesL_ (some 101) rfl rfl Tryd.func17 (by kernel_rfl) rfl #[.agg #[.int .i64 a0_0, .int .i64 a0_1, .int .i64 a0_2, .int .i64 a0_3, .int .i64 a0_4], .slice A1 l1.length c1] rfl (by (try simp only [List.map_toArray, List.map_cons, List.map_nil]); first | done | rfl | (simp only [List.length_drop, List.length_take]; rfl)) ?_; (with_reducible refine (geyserref14_Join.calls k1 a0_0 a0_1 a0_2 a0_3 a0_4 _ _ l1 t271 t274 _ ?side1 ?side2 A16.out).mono ?_); (case side1 => repeat (first | exact (Kd.C_below HR1.out HB.out) | (with_reducible refine Kd.C_alloc ?_ _) | (with_reducible refine Kd.C_drewN ?_ _) | (with_reducible refine Kd.C_drew ?_))); (case side2 => exact HC1.out); rintro e w52 ⟨v272, rfl, ho0, hb⟩; refine ⟨_, rfl, ?_⟩; have n0_ := Aside0.mk (Kd.R_elder' (by (with_reducible repeat (first | apply Kd.R_alloc | apply Kd.R_drewN | apply Kd.R_drew)); exact HO_5.out) (Kd.R_base ho0) hb); have n1_ := Aside0.mk (Kd.V_elder' (by (with_reducible repeat (first | apply Kd.V_alloc | apply Kd.V_drewN | apply Kd.V_drew)); exact HO266.out) (Kd.R_base ho0) hb); have n2_ := Aside0.mk (Kd.R_below (by (with_reducible repeat (first | apply Kd.R_alloc | apply Kd.R_drewN | apply Kd.R_drew)); exact HO269.out) hb); have n3_ := Aside0.mk (Kd.R_lower ho0 (below_size (by repeat (first | (with_reducible first | exact HB.out | apply below_alloc | apply pw_below_drewN | apply below_drew1 | refine below_set ?_ GE253.out) | exact HB.out)))); have n4_ := Aside0.mk (blk_below (g := gb253) (o := .cells #[.int .i64 a0_0, .int .i64 a0_1, .int .i64 a0_2, .int .i64 a0_3, .int .i64 a0_4] 23 (0, 0)) (by (with_reducible repeat (first | refine blk_drewN ?_ _ | refine blk_drew ?_ | refine blk_alloc ?_ _)); exact BK253.out) hb); have n5_ := Aside0.mk (below_step (by repeat (first | (with_reducible first | exact HB.out | apply below_alloc | apply pw_below_drewN | apply below_drew1 | refine below_set ?_ GE253.out) | exact HB.out)) hb); clear HO_5; clear HO266; clear HO269; clear BK253; clear HB; have HO_5 := n0_; have HO266 := n1_; have HO269 := n2_; have HO273 := n3_; have BK253 := n4_; have HB := n5_; clear n0_ n1_ n2_ n3_ n4_ n5_; (try clear hb); (try clear hb2); (try clear hk); (try clear hi); (try clear ho0); obtain ⟨Ao53, co53, eo53⟩ := Kd.R_slice HO269.out; subst eo53) | ((with_reducible refine gate_callee (f := 9) rfl ?_); refine goesL_ (some 106) rfl rfl Tryd.func9 (by kernel_rfl) rfl #[errOf (.slice Ao53 t267.length co53), .int .i64 t274, .string (⟨#[98, 108, 111, 99, 107, 105, 110, 103, 46, 74, 111, 105, 110]⟩ : ByteArray)] rfl (by (try simp only [List.map_toArray, List.map_cons, List.map_nil]); first | done | rfl | (simp only [List.length_drop, List.length_take]; rfl)) ?_; (with_reducible refine (geyserlaw14_tells.calls _ _ t267 t274 (⟨#[98, 108, 111, 99, 107, 105, 110, 103, 46, 74, 111, 105, 110]⟩ : ByteArray) false _ ?side1 ?side2 ?side3 A17.out).mono ?_); (case side1 => first | exact HEI.out | exact ErrIn.below HEI.out (by repeat (first | (with_reducible first | exact HB.out | apply below_alloc | apply pw_below_drewN | apply below_drew1 | refine below_set ?_ GE253.out) | exact HB.out)) | (repeat (first | apply ErrIn.drewN | apply ErrIn.drew | exact HEI.out))); (case side2 => repeat (first | exact (Kd.R_reads' HO269.out).2.2 | (with_reducible refine Kd.C_alloc ?_ _) | (with_reducible refine Kd.C_drewN ?_ _) | (with_reducible refine Kd.C_drew ?_))); (case side3 => exact (Kd.R_reads' HO269.out).2.1); rintro e w54 ⟨rfl, hb⟩; refine ⟨_, rfl, ?_⟩; have n0_ := Aside0.mk (Kd.R_below (by (with_reducible repeat (first | apply Kd.R_alloc | apply Kd.R_drewN | apply Kd.R_drew)); exact HO_5.out) hb); have n1_ := Aside0.mk (Kd.V_below (by (with_reducible repeat (first | apply Kd.V_alloc | apply Kd.V_drewN | apply Kd.V_drew)); exact HO266.out) hb); have n2_ := Aside0.mk (Kd.R_below (by (with_reducible repeat (first | apply Kd.R_alloc | apply Kd.R_drewN | apply Kd.R_drew)); exact HO269.out) hb); have n3_ := Aside0.mk (Kd.R_below (by (with_reducible repeat (first | apply Kd.R_alloc | apply Kd.R_drewN | apply Kd.R_drew)); exact HO273.out) hb); have n4_ := Aside0.mk (blk_below (g := gb253) (o := .cells #[.int .i64 a0_0, .int .i64 a0_1, .int .i64 a0_2, .int .i64 a0_3, .int .i64 a0_4] 23 (0, 0)) (by (with_reducible repeat (first | refine blk_drewN ?_ _ | refine blk_drew ?_ | refine blk_alloc ?_ _)); exact BK253.out) hb); have n5_ := Aside0.mk (below_step (by repeat (first | (with_reducible first | exact HB.out | apply below_alloc | apply pw_below_drewN | apply below_drew1 | refine below_set ?_ GE253.out) | exact HB.out)) hb); clear HO_5; clear HO266; clear HO269; clear HO273; clear BK253; clear HB; have HO_5 := n0_; have HO266 := n1_; have HO269 := n2_; have HO273 := n3_; have BK253 := n4_; have HB := n5_; clear n0_ n1_ n2_ n3_ n4_ n5_; (try clear hb); (try clear hb2); (try clear hk); (try clear hi)))
      obtain ⟨mm, W00, HT0, HM0⟩ := HI.out
      have HT := Aside0.mk HT0
      have HM := Aside0.mk HM0
      clear HT0 HM0 HI
      go_loopg [9] (x5_1.length + 1) (fun kq v9 w' => ∃ i : Nat, v9 = .int .i64 (i : Int) ∧ Aside0 (kq + i = x5_1.length + 1 ∧ i ≤ x5_1.length) ∧ Aside0 (blocking_Joins_loop.Inv mm w.heap.size gb253 #[.int .i64 a0_0, .int .i64 a0_1, .int .i64 a0_2, .int .i64 a0_3, .int .i64 a0_4] W00 v265 t264 v268 t267 w') ∧ Aside0 (Below w.heap.size w w'))
      case atStart => exact ⟨0, rfl, ⟨by omega, by omega⟩, ⟨by repeat (first | exact HM.out | apply blocking_Joins_loop.Inv.drewN | apply blocking_Joins_loop.Inv.drew)⟩, ⟨by repeat (first | (with_reducible first | exact HB.out | apply below_alloc | apply pw_below_drewN | apply below_drew1 | refine below_set ?_ GE253.out) | exact HB.out)⟩⟩
      case round =>
       clear HB HM HO_5 HO266 HO269 BK253
       obtain ⟨i, rfl, HKi, HM, HB⟩ := hrel
       cases gk with
       | zero => exact absurd HKi.out.1 (by have := HKi.out.2; omega)
       | succ g1 =>
        by_cases hlt : i < x5_1.length
        ·have hci : decide ((i : Int) < (x5_1.length : Int)) = true := decide_eq_true (by omega)
         have hpi : (0 : Int) ≤ (i : Int) := by omega
         obtain ⟨g5, cells5, A6, n6, c6, hg5, hn5, hb5, hc5, hmid⟩ := HT.out.at_ hlt
         subst hg5
         have HB5 := Aside0.mk hb5
         have HC5 := Aside0.mk hc5
         have HD := Aside0.mk hmid
         have hn6 := hmid.1
         clear hb5 hc5 hmid
         have hx5 := HM.out.cell HB5.out (by decide) HC5.out
         go_wp2
         clear hx5
         go_loopg [10] (n6 + 1) (fun kq v10 w' => ∃ k : Nat, v10 = .int .i64 (k : Int) ∧ Aside0 (kq + k = n6 + 1 ∧ k ≤ n6) ∧ Aside0 (blocking_Joins_loop.Inv mm w.heap.size gb253 #[.int .i64 a0_0, .int .i64 a0_1, .int .i64 a0_2, .int .i64 a0_3, .int .i64 a0_4] W00 v265 t264 v268 t267 w') ∧ Aside0 (Below w.heap.size w w'))
         case atStart => exact ⟨0, rfl, ⟨by omega, by omega⟩, ⟨by repeat (first | exact HM.out | apply blocking_Joins_loop.Inv.drewN | apply blocking_Joins_loop.Inv.drew)⟩, ⟨by repeat (first | (with_reducible first | exact HB.out | apply below_alloc | apply pw_below_drewN | apply below_drew1 | refine below_set ?_ GE253.out) | exact HB.out)⟩⟩
         case round =>
          clear HB HM
          obtain ⟨k, rfl, HKk, HM, HB⟩ := hrel
          have hx5 := HM.out.cell HB5.out (by decide) HC5.out
          cases gk with
          | zero => exact absurd HKk.out.1 (by have := HKk.out.2; omega)
          | succ g2 =>
           by_cases hlt2 : k < n6
           ·have hck : decide ((k : Int) < (n6 : Int)) = true := decide_eq_true (by omega)
            have hpk : (0 : Int) ≤ (k : Int) := by omega
            obtain ⟨g6, cells6, A7, n7, c7, hg6, _, hb6, hc6, hleaf⟩ := HD.out.at_ hlt2
            subst hg6
            have HB6 := Aside0.mk hb6
            have HC6 := Aside0.mk hc6
            have HL := Aside0.mk hleaf
            have hn7 := hleaf.1
            clear hb6 hc6 hleaf
            have hx6 := HM.out.cell HB6.out (by decide) HC6.out
            go_wp2
            clear hx5 hx6
            go_loopg [11] (n7 + 1) (fun kq v11 w' => ∃ j : Nat, v11 = .int .i64 (j : Int) ∧ Aside0 (kq + j = n7 + 1 ∧ j ≤ n7) ∧ Aside0 (blocking_Joins_loop.Inv mm w.heap.size gb253 #[.int .i64 a0_0, .int .i64 a0_1, .int .i64 a0_2, .int .i64 a0_3, .int .i64 a0_4] W00 v265 t264 v268 t267 w') ∧ Aside0 (Below w.heap.size w w'))
            case atStart => exact ⟨0, rfl, ⟨by omega, by omega⟩, ⟨by repeat (first | exact HM.out | apply blocking_Joins_loop.Inv.drewN | apply blocking_Joins_loop.Inv.drew)⟩, ⟨by repeat (first | (with_reducible first | exact HB.out | apply below_alloc | apply pw_below_drewN | apply below_drew1 | refine below_set ?_ GE253.out) | exact HB.out)⟩⟩
            case round =>
             clear HB HM
             obtain ⟨j, rfl, HKj, HM, HB⟩ := hrel
             have hx5 := HM.out.cell HB5.out (by decide) HC5.out
             have hx6 := HM.out.cell HB6.out (by decide) HC6.out
             cases gk with
             | zero => exact absurd HKj.out.1 (by have := HKj.out.2; omega)
             | succ g3 =>
              by_cases hlt3 : j < n7
              ·have hcj : decide ((j : Int) < (n7 : Int)) = true := decide_eq_true (by omega)
               have hpj : (0 : Int) ≤ (j : Int) := by omega
               obtain ⟨g7, cells7, z7, hg7, _, hbase7, hm7, hb7, hc7⟩ := HL.out.at_ hlt3
               subst hg7
               obtain ⟨z8, cells8, hx7, hfr7, hblk7⟩ := HM.out.byte hb7 hc7
               have HZ := Aside0.mk hblk7
               have HG := Aside0.mk hm7
               have HE := Aside0.mk hbase7
               clear hblk7 hm7 hbase7 hb7 hc7
               go_wp2
               go_region
               go_wp2
               go_roundg g3
               case measure => have := HKj.out.1; omega
               case rel =>
                refine ⟨j + 1, by go_num, ⟨by have := HKj.out; omega, by omega⟩, ⟨?_⟩, ⟨?_⟩⟩
                ·exact (HM.out.store HZ.out HG.out _).drew
                ·exact below_drew (HB.out.setCell HE.out _)
              ·have hcj : decide ((j : Int) < (n7 : Int)) = false := decide_eq_false (by omega)
               go_wp2
               go_roundg g2
               case measure => have := HKk.out.1; omega
               case rel =>
                refine ⟨k + 1, by go_num, ⟨by have := HKk.out; omega, by omega⟩, ⟨by repeat (first | exact HM.out | apply blocking_Joins_loop.Inv.drewN | apply blocking_Joins_loop.Inv.drew)⟩, ⟨by repeat (first | (with_reducible first | exact HB.out | apply below_alloc | apply pw_below_drewN | apply below_drew1 | refine below_set ?_ GE253.out) | exact HB.out)⟩⟩
           ·have hck : decide ((k : Int) < (n6 : Int)) = false := decide_eq_false (by omega)
            go_wp2
            go_roundg g1
            case measure => have := HKi.out.1; omega
            case rel =>
             refine ⟨i + 1, by go_num, ⟨by have := HKi.out; omega, by omega⟩, ⟨by repeat (first | exact HM.out | apply blocking_Joins_loop.Inv.drewN | apply blocking_Joins_loop.Inv.drew)⟩, ⟨by repeat (first | (with_reducible first | exact HB.out | apply below_alloc | apply pw_below_drewN | apply below_drew1 | refine below_set ?_ GE253.out) | exact HB.out)⟩⟩
        ·have hci : decide ((i : Int) < (x5_1.length : Int)) = false := decide_eq_false (by omega)
         have HO_5 := Aside0.mk HM.out.nil
         have HO266 := Aside0.mk HM.out.2.2.2.2.2.1
         have HO269 := Aside0.mk HM.out.2.2.2.2.2.2.1
         have BK253 := Aside0.mk HM.out.2.2.2.2.2.2.2
         have hczL_0 : _ = some ((.int .i64 a0_0 : Value)) := (blk_cell BK253.out 0).trans rfl
         have hczL_1 : _ = some ((.int .i64 a0_1 : Value)) := (blk_cell BK253.out 1).trans rfl
         have hczL_2 : _ = some ((.int .i64 a0_2 : Value)) := (blk_cell BK253.out 2).trans rfl
         have hczL_3 : _ = some ((.int .i64 a0_3 : Value)) := (blk_cell BK253.out 3).trans rfl
         have hczL_4 : _ = some ((.int .i64 a0_4 : Value)) := (blk_cell BK253.out 4).trans rfl
         have hfzL_0 := blk_frozen BK253.out 0
         have hfzL_1 := blk_frozen BK253.out 1
         have hfzL_2 := blk_frozen BK253.out 2
         have hfzL_3 := blk_frozen BK253.out 3
         have hfzL_4 := blk_frozen BK253.out 4
         go_wp2_with (first | ((with_reducible refine gate_callee (f := 16) rfl ?_); refine goesL_ (some 33) rfl rfl Tryd.func16 (by kernel_rfl) rfl #[.agg #[.int .i64 a0_0, .int .i64 a0_1, .int .i64 a0_2, .int .i64 a0_3, .int .i64 a0_4], .slice Ao47 x5_1.length co47] rfl (by (try simp only [List.map_toArray, List.map_cons, List.map_nil]); first | done | rfl | (simp only [List.length_drop, List.length_take]; rfl)) ?_; (with_reducible refine (blocking_Join.calls k1 a0_0 a0_1 a0_2 a0_3 a0_4 _ _ x5_1 t264 t267 _ ?side1 ?side2 A13.out).mono ?_); (case side1 => repeat (first | exact (Kd.R_reads' HO_5.out).2.2 | (with_reducible refine Kd.C_alloc ?_ _) | (with_reducible refine Kd.C_drewN ?_ _) | (with_reducible refine Kd.C_drew ?_))); (case side2 => exact (Kd.R_reads' HO_5.out).2.1); rintro e w48 ⟨v265, v268, rfl, ho0, ho1, hb⟩; refine ⟨_, rfl, ?_⟩; replace ho0 := Kd.V_mono (ok' := fun k_ => _ ≤ k_) ho0 (fun _ hk => hk.1); have n0_ := Aside0.mk (Kd.R_below (by (with_reducible repeat (first | apply Kd.R_alloc | apply Kd.R_drewN | apply Kd.R_drew)); exact HO_5.out) hb); have n1_ := Aside0.mk (Kd.V_lower (Kd.V_mono (ok' := fun k_ => some k_ ≠ (.slice Ao47 x5_1.length co47 : Value).ownBlock ∧ k_ ≠ gb253) ho0 (fun k_ hk_ => ⟨(Kd.fresh' (Kd.R_lt (by (with_reducible repeat (first | apply Kd.R_alloc | apply Kd.R_drewN | apply Kd.R_drew)); exact HO_5.out)) k_ hk_), (Kd.freshB (g := gb253) (o := .cells #[.int .i64 a0_0, .int .i64 a0_1, .int .i64 a0_2, .int .i64 a0_3, .int .i64 a0_4] 23 (0, 0)) (by (with_reducible repeat (first | refine blk_drewN ?_ _ | refine blk_drew ?_ | refine blk_alloc ?_ _)); exact BK253.out) k_ hk_)⟩)) (below_size (by repeat (first | (with_reducible first | exact HB.out | apply below_alloc | apply pw_below_drewN | apply below_drew1 | refine below_set ?_ GE253.out) | exact HB.out)))); have n2_ := Aside0.mk (Kd.R_lower (Kd.R_mono (ok' := fun k_ => True) ho1 (fun _ hk_ => trivial)) (below_size (by repeat (first | (with_reducible first | exact HB.out | apply below_alloc | apply pw_below_drewN | apply below_drew1 | refine below_set ?_ GE253.out) | exact HB.out)))); have n3_ := Aside0.mk (blk_below (g := gb253) (o := .cells #[.int .i64 a0_0, .int .i64 a0_1, .int .i64 a0_2, .int .i64 a0_3, .int .i64 a0_4] 23 (0, 0)) (by (with_reducible repeat (first | refine blk_drewN ?_ _ | refine blk_drew ?_ | refine blk_alloc ?_ _)); exact BK253.out) hb); have n4_ := Aside0.mk (below_step (by repeat (first | (with_reducible first | exact HB.out | apply below_alloc | apply pw_below_drewN | apply below_drew1 | refine below_set ?_ GE253.out) | exact HB.out)) hb); clear HO_5; clear BK253; clear HB; have HO_5 := n0_; have HO266 := n1_; have HO269 := n2_; have BK253 := n3_; have HB := n4_; clear n0_ n1_ n2_ n3_ n4_; (try clear hb); (try clear hb2); (try clear hk); (try clear hi); (try clear ho0); (try clear ho1); have hcz49_0 : w48.cell? ⟨gb253, 0, none⟩ = some (.int .i64 a0_0) := (blk_cell BK253.out 0).trans rfl; have hcz49_1 : w48.cell? ⟨gb253, 1, none⟩ = some (.int .i64 a0_1) := (blk_cell BK253.out 1).trans rfl; have hcz49_2 : w48.cell? ⟨gb253, 2, none⟩ = some (.int .i64 a0_2) := (blk_cell BK253.out 2).trans rfl; have hcz49_3 : w48.cell? ⟨gb253, 3, none⟩ = some (.int .i64 a0_3) := (blk_cell BK253.out 3).trans rfl; have hcz49_4 : w48.cell? ⟨gb253, 4, none⟩ = some (.int .i64 a0_4) := (blk_cell BK253.out 4).trans rfl; have hfz49_0 := blk_frozen BK253.out 0; have hfz49_1 := blk_frozen BK253.out 1; have hfz49_2 := blk_frozen BK253.out 2; have hfz49_3 := blk_frozen BK253.out 3; have hfz49_4 := blk_frozen BK253.out 4) | ((with_reducible refine gate_callee (f := 11) rfl ?_); refine goesL_ (some 84) rfl rfl Tryd.func11 (by kernel_rfl) rfl #[.agg #[.int .i64 a0_0, .int .i64 a0_1, .int .i64 a0_2, .int .i64 a0_3, .int .i64 a0_4]] rfl (by (try simp only [List.map_toArray, List.map_cons, List.map_nil]); first | done | rfl | (simp only [List.length_drop, List.length_take]; rfl)) ?_; (with_reducible refine (geyserref14_Check.calls k1 a0_0 a0_1 a0_2 a0_3 a0_4 t270 _ A14.out).mono ?_); rintro e w50 ⟨rfl, hb⟩; refine ⟨_, rfl, ?_⟩; have n0_ := Aside0.mk (Kd.R_below (by (with_reducible repeat (first | apply Kd.R_alloc | apply Kd.R_drewN | apply Kd.R_drew)); exact HO_5.out) hb); have n1_ := Aside0.mk (Kd.V_below (by (with_reducible repeat (first | apply Kd.V_alloc | apply Kd.V_drewN | apply Kd.V_drew)); exact HO266.out) hb); have n2_ := Aside0.mk (Kd.R_below (by (with_reducible repeat (first | apply Kd.R_alloc | apply Kd.R_drewN | apply Kd.R_drew)); exact HO269.out) hb); have n3_ := Aside0.mk (blk_below (g := gb253) (o := .cells #[.int .i64 a0_0, .int .i64 a0_1, .int .i64 a0_2, .int .i64 a0_3, .int .i64 a0_4] 23 (0, 0)) (by (with_reducible repeat (first | refine blk_drewN ?_ _ | refine blk_drew ?_ | refine blk_alloc ?_ _)); exact BK253.out) hb); have n4_ := Aside0.mk (below_step (by repeat (first | (with_reducible first | exact HB.out | apply below_alloc | apply pw_below_drewN | apply below_drew1 | refine below_set ?_ GE253.out) | exact HB.out)) hb); clear HO_5; clear HO266; clear HO269; clear BK253; clear HB; have HO_5 := n0_; have HO266 := n1_; have HO269 := n2_; have BK253 := n3_; have HB := n4_; clear n0_ n1_ n2_ n3_ n4_; (try clear hb); (try clear hb2); (try clear hk); (try clear hi); have hcz51_0 : w50.cell? ⟨gb253, 0, none⟩ = some (.int .i64 a0_0) := (blk_cell BK253.out 0).trans rfl; have hcz51_1 : w50.cell? ⟨gb253, 1, none⟩ = some (.int .i64 a0_1) := (blk_cell BK253.out 1).trans rfl; have hcz51_2 : w50.cell? ⟨gb253, 2, none⟩ = some (.int .i64 a0_2) := (blk_cell BK253.out 2).trans rfl; have hcz51_3 : w50.cell? ⟨gb253, 3, none⟩ = some (.int .i64 a0_3) := (blk_cell BK253.out 3).trans rfl; have hcz51_4 : w50.cell? ⟨gb253, 4, none⟩ = some (.int .i64 a0_4) := (blk_cell BK253.out 4).trans rfl; have hfz51_0 := blk_frozen BK253.out 0; have hfz51_1 := blk_frozen BK253.out 1; have hfz51_2 := blk_frozen BK253.out 2; have hfz51_3 := blk_frozen BK253.out 3; have hfz51_4 := blk_frozen BK253.out 4) | ((with_reducible refine gate_callee (f := 17) rfl ?_); refine goesL_ (some 101) rfl rfl Tryd.func17 (by kernel_rfl) rfl #[.agg #[.int .i64 a0_0, .int .i64 a0_1, .int .i64 a0_2, .int .i64 a0_3, .int .i64 a0_4], .slice A1 l1.length c1] rfl (by (try simp only [List.map_toArray, List.map_cons, List.map_nil]); first | done | rfl | (simp only [List.length_drop, List.length_take]; rfl)) ?_; (with_reducible refine (geyserref14_Join.calls k1 a0_0 a0_1 a0_2 a0_3 a0_4 _ _ l1 t271 t274 _ ?side1 ?side2 A16.out).mono ?_); (case side1 => repeat (first | exact (Kd.C_below HR1.out HB.out) | (with_reducible refine Kd.C_alloc ?_ _) | (with_reducible refine Kd.C_drewN ?_ _) | (with_reducible refine Kd.C_drew ?_))); (case side2 => exact HC1.out); rintro e w52 ⟨v272, rfl, ho0, hb⟩; refine ⟨_, rfl, ?_⟩; have n0_ := Aside0.mk (Kd.R_elder' (by (with_reducible repeat (first | apply Kd.R_alloc | apply Kd.R_drewN | apply Kd.R_drew)); exact HO_5.out) (Kd.R_base ho0) hb); have n1_ := Aside0.mk (Kd.V_elder' (by (with_reducible repeat (first | apply Kd.V_alloc | apply Kd.V_drewN | apply Kd.V_drew)); exact HO266.out) (Kd.R_base ho0) hb); have n2_ := Aside0.mk (Kd.R_below (by (with_reducible repeat (first | apply Kd.R_alloc | apply Kd.R_drewN | apply Kd.R_drew)); exact HO269.out) hb); have n3_ := Aside0.mk (Kd.R_lower ho0 (below_size (by repeat (first | (with_reducible first | exact HB.out | apply below_alloc | apply pw_below_drewN | apply below_drew1 | refine below_set ?_ GE253.out) | exact HB.out)))); have n4_ := Aside0.mk (blk_below (g := gb253) (o := .cells #[.int .i64 a0_0, .int .i64 a0_1, .int .i64 a0_2, .int .i64 a0_3, .int .i64 a0_4] 23 (0, 0)) (by (with_reducible repeat (first | refine blk_drewN ?_ _ | refine blk_drew ?_ | refine blk_alloc ?_ _)); exact BK253.out) hb); have n5_ := Aside0.mk (below_step (by repeat (first | (with_reducible first | exact HB.out | apply below_alloc | apply pw_below_drewN | apply below_drew1 | refine below_set ?_ GE253.out) | exact HB.out)) hb); clear HO_5; clear HO266; clear HO269; clear BK253; clear HB; have HO_5 := n0_; have HO266 := n1_; have HO269 := n2_; have HO273 := n3_; have BK253 := n4_; have HB := n5_; clear n0_ n1_ n2_ n3_ n4_ n5_; (try clear hb); (try clear hb2); (try clear hk); (try clear hi); (try clear ho0); obtain ⟨Ao53, co53, eo53⟩ := Kd.R_slice HO269.out; subst eo53) | ((with_reducible refine gate_callee (f := 9) rfl ?_); refine goesL_ (some 106) rfl rfl Tryd.func9 (by kernel_rfl) rfl #[errOf (.slice Ao53 t267.length co53), .int .i64 t274, .string (⟨#[98, 108, 111, 99, 107, 105, 110, 103, 46, 74, 111, 105, 110]⟩ : ByteArray)] rfl (by (try simp only [List.map_toArray, List.map_cons, List.map_nil]); first | done | rfl | (simp only [List.length_drop, List.length_take]; rfl)) ?_; (with_reducible refine (geyserlaw14_tells.calls _ _ t267 t274 (⟨#[98, 108, 111, 99, 107, 105, 110, 103, 46, 74, 111, 105, 110]⟩ : ByteArray) false _ ?side1 ?side2 ?side3 A17.out).mono ?_); (case side1 => first | exact HEI.out | exact ErrIn.below HEI.out (by repeat (first | (with_reducible first | exact HB.out | apply below_alloc | apply pw_below_drewN | apply below_drew1 | refine below_set ?_ GE253.out) | exact HB.out)) | (repeat (first | apply ErrIn.drewN | apply ErrIn.drew | exact HEI.out))); (case side2 => repeat (first | exact (Kd.R_reads' HO269.out).2.2 | (with_reducible refine Kd.C_alloc ?_ _) | (with_reducible refine Kd.C_drewN ?_ _) | (with_reducible refine Kd.C_drew ?_))); (case side3 => exact (Kd.R_reads' HO269.out).2.1); rintro e w54 ⟨rfl, hb⟩; refine ⟨_, rfl, ?_⟩; have n0_ := Aside0.mk (Kd.R_below (by (with_reducible repeat (first | apply Kd.R_alloc | apply Kd.R_drewN | apply Kd.R_drew)); exact HO_5.out) hb); have n1_ := Aside0.mk (Kd.V_below (by (with_reducible repeat (first | apply Kd.V_alloc | apply Kd.V_drewN | apply Kd.V_drew)); exact HO266.out) hb); have n2_ := Aside0.mk (Kd.R_below (by (with_reducible repeat (first | apply Kd.R_alloc | apply Kd.R_drewN | apply Kd.R_drew)); exact HO269.out) hb); have n3_ := Aside0.mk (Kd.R_below (by (with_reducible repeat (first | apply Kd.R_alloc | apply Kd.R_drewN | apply Kd.R_drew)); exact HO273.out) hb); have n4_ := Aside0.mk (blk_below (g := gb253) (o := .cells #[.int .i64 a0_0, .int .i64 a0_1, .int .i64 a0_2, .int .i64 a0_3, .int .i64 a0_4] 23 (0, 0)) (by (with_reducible repeat (first | refine blk_drewN ?_ _ | refine blk_drew ?_ | refine blk_alloc ?_ _)); exact BK253.out) hb); have n5_ := Aside0.mk (below_step (by repeat (first | (with_reducible first | exact HB.out | apply below_alloc | apply pw_below_drewN | apply below_drew1 | refine below_set ?_ GE253.out) | exact HB.out)) hb); clear HO_5; clear HO266; clear HO269; clear HO273; clear BK253; clear HB; have HO_5 := n0_; have HO266 := n1_; have HO269 := n2_; have HO273 := n3_; have BK253 := n4_; have HB := n5_; clear n0_ n1_ n2_ n3_ n4_ n5_; (try clear hb); (try clear hb2); (try clear hk); (try clear hi))) -- behind
         go_ret
         exact ⟨by first | rfl | (simp [errW_none, errW_some] <;> rfl) | (simp [*, errW_none, errW_some] <;> rfl), by repeat (first | (with_reducible first | exact HB.out | apply below_alloc | apply pw_below_drewN | apply below_drew1 | refine below_set ?_ GE253.out) | exact HB.out)⟩
    ·rw [if_neg c15] at H
     have c15b0 : (t270 == 0) = false := beq_eq_false_iff_ne.mpr c15
     have c15b1 : (t270 != 0) = true := bne_iff_ne.mpr c15
     replace H := Option.bind_eq_some_iff.mp H
     obtain ⟨t277, A550, H⟩ := H
     replace H : (if t277 = true then (if (t264.length : Int) = 0 then ((geyserlaw14_awake.f k1).bind fun t278 => (some t278)) else (some false)) else (some false)) = some r := H
     have A55 := Aside0.mk A550
     clear A550
     by_cases c56 : t277 = true
     ·subst c56
      have H1 : (if (t264.length : Int) = 0 then ((geyserlaw14_awake.f k1).bind fun t278 => (some t278)) else (some false)) = some r := by rw [if_pos rfl] at H; exact H
      clear H
      have H := H1
      clear H1
      by_cases c57 : (t264.length : Int) = 0
      ·rw [if_pos c57] at H
       have c57b0 : ((t264.length : Int) == 0) = true := beq_iff_eq.mpr c57
       have c57b1 : ((t264.length : Int) != 0) = false := bne_eq_false_iff_eq.mpr c57
       clear c57
       replace H := Option.bind_eq_some_iff.mp H
       obtain ⟨t278, A580, H⟩ := H
       replace H : (some t278) = some r := H
       have A58 := Aside0.mk A580
       clear A580
       obtain rfl := Option.some.inj H
       have hcz59_0 : wr.cell? ⟨gb253, 0, none⟩ = some (.int .i64 a0_0) := (blk_cell BK253.out 0).trans rfl
       have hcz59_1 : wr.cell? ⟨gb253, 1, none⟩ = some (.int .i64 a0_1) := (blk_cell BK253.out 1).trans rfl
       have hcz59_2 : wr.cell? ⟨gb253, 2, none⟩ = some (.int .i64 a0_2) := (blk_cell BK253.out 2).trans rfl
       have hcz59_3 : wr.cell? ⟨gb253, 3, none⟩ = some (.int .i64 a0_3) := (blk_cell BK253.out 3).trans rfl
       have hcz59_4 : wr.cell? ⟨gb253, 4, none⟩ = some (.int .i64 a0_4) := (blk_cell BK253.out 4).trans rfl
       have hfz59_0 := blk_frozen BK253.out 0
       have hfz59_1 := blk_frozen BK253.out 1
       have hfz59_2 := blk_frozen BK253.out 2
       have hfz59_3 := blk_frozen BK253.out 3
       have hfz59_4 := blk_frozen BK253.out 4
       obtain ⟨Ao60, co60, eo60⟩ := Kd.R_slice HO_5.out
       subst eo60
       go_wp2_with (first | ((with_reducible refine gate_callee (f := 16) rfl ?_); refine goesL_ (some 33) rfl rfl Tryd.func16 (by kernel_rfl) rfl #[.agg #[.int .i64 a0_0, .int .i64 a0_1, .int .i64 a0_2, .int .i64 a0_3, .int .i64 a0_4], .slice Ao60 x5_1.length co60] rfl (by (try simp only [List.map_toArray, List.map_cons, List.map_nil]); first | done | rfl | (simp only [List.length_drop, List.length_take]; rfl)) ?_; (with_reducible refine (blocking_Join.calls k1 a0_0 a0_1 a0_2 a0_3 a0_4 _ _ x5_1 t264 t267 _ ?side1 ?side2 A13.out).mono ?_); (case side1 => repeat (first | exact (Kd.R_reads' HO_5.out).2.2 | (with_reducible refine Kd.C_alloc ?_ _) | (with_reducible refine Kd.C_drewN ?_ _) | (with_reducible refine Kd.C_drew ?_))); (case side2 => exact (Kd.R_reads' HO_5.out).2.1); rintro e w61 ⟨v265, v268, rfl, ho0, ho1, hb⟩; refine ⟨_, rfl, ?_⟩; have HI := Aside0.mk (blocking_Joins_loop.start (base := w.heap.size) (by (with_reducible repeat (first | apply Kd.R_alloc | apply Kd.R_drewN | apply Kd.R_drew)); exact HO_5.out) (by (with_reducible repeat (first | refine blk_drewN ?_ _ | refine blk_drew ?_ | refine blk_alloc ?_ _)); exact BK253.out) hb ho0 ho1 (below_size (by repeat (first | (with_reducible first | exact HB.out | apply below_alloc | apply pw_below_drewN | apply below_drew1 | refine below_set ?_ GE253.out) | exact HB.out)))); replace ho0 := Kd.V_mono (ok' := fun k_ => _ ≤ k_) ho0 (fun _ hk => hk.1); have n0_ := Aside0.mk (Kd.R_below (by (with_reducible repeat (first | apply Kd.R_alloc | apply Kd.R_drewN | apply Kd.R_drew)); exact HO_5.out) hb); have n1_ := Aside0.mk (Kd.V_lower (Kd.V_mono (ok' := fun k_ => some k_ ≠ (.slice Ao60 x5_1.length co60 : Value).ownBlock ∧ k_ ≠ gb253) ho0 (fun k_ hk_ => ⟨(Kd.fresh' (Kd.R_lt (by (with_reducible repeat (first | apply Kd.R_alloc | apply Kd.R_drewN | apply Kd.R_drew)); exact HO_5.out)) k_ hk_), (Kd.freshB (g := gb253) (o := .cells #[.int .i64 a0_0, .int .i64 a0_1, .int .i64 a0_2, .int .i64 a0_3, .int .i64 a0_4] 23 (0, 0)) (by (with_reducible repeat (first | refine blk_drewN ?_ _ | refine blk_drew ?_ | refine blk_alloc ?_ _)); exact BK253.out) k_ hk_)⟩)) (below_size (by repeat (first | (with_reducible first | exact HB.out | apply below_alloc | apply pw_below_drewN | apply below_drew1 | refine below_set ?_ GE253.out) | exact HB.out)))); have n2_ := Aside0.mk (Kd.R_lower (Kd.R_mono (ok' := fun k_ => True) ho1 (fun _ hk_ => trivial)) (below_size (by repeat (first | (with_reducible first | exact HB.out | apply below_alloc | apply pw_below_drewN | apply below_drew1 | refine below_set ?_ GE253.out) | exact HB.out)))); have n3_ := Aside0.mk (blk_below (g := gb253) (o := .cells #[.int .i64 a0_0, .int .i64 a0_1, .int .i64 a0_2, .int .i64 a0_3, .int .i64 a0_4] 23 (0, 0)) (by (with_reducible repeat (first | refine blk_drewN ?_ _ | refine blk_drew ?_ | refine blk_alloc ?_ _)); exact BK253.out) hb); have n4_ := Aside0.mk (below_step (by repeat (first | (with_reducible first | exact HB.out | apply below_alloc | apply pw_below_drewN | apply below_drew1 | refine below_set ?_ GE253.out) | exact HB.out)) hb); clear HO_5; clear BK253; clear HB; have HO_5 := n0_; have HO266 := n1_; have HO269 := n2_; have BK253 := n3_; have HB := n4_; clear n0_ n1_ n2_ n3_ n4_; (try clear hb); (try clear hb2); (try clear hk); (try clear hi); (try clear ho0); (try clear ho1); have hcz62_0 : w61.cell? ⟨gb253, 0, none⟩ = some (.int .i64 a0_0) := (blk_cell BK253.out 0).trans rfl; have hcz62_1 : w61.cell? ⟨gb253, 1, none⟩ = some (.int .i64 a0_1) := (blk_cell BK253.out 1).trans rfl; have hcz62_2 : w61.cell? ⟨gb253, 2, none⟩ = some (.int .i64 a0_2) := (blk_cell BK253.out 2).trans rfl; have hcz62_3 : w61.cell? ⟨gb253, 3, none⟩ = some (.int .i64 a0_3) := (blk_cell BK253.out 3).trans rfl; have hcz62_4 : w61.cell? ⟨gb253, 4, none⟩ = some (.int .i64 a0_4) := (blk_cell BK253.out 4).trans rfl; have hfz62_0 := blk_frozen BK253.out 0; have hfz62_1 := blk_frozen BK253.out 1; have hfz62_2 := blk_frozen BK253.out 2; have hfz62_3 := blk_frozen BK253.out 3; have hfz62_4 := blk_frozen BK253.out 4) | ((with_reducible refine gate_callee (f := 11) rfl ?_); refine goesL_ (some 84) rfl rfl Tryd.func11 (by kernel_rfl) rfl #[.agg #[.int .i64 a0_0, .int .i64 a0_1, .int .i64 a0_2, .int .i64 a0_3, .int .i64 a0_4]] rfl (by (try simp only [List.map_toArray, List.map_cons, List.map_nil]); first | done | rfl | (simp only [List.length_drop, List.length_take]; rfl)) ?_; (with_reducible refine (geyserref14_Check.calls k1 a0_0 a0_1 a0_2 a0_3 a0_4 t270 _ A14.out).mono ?_); rintro e w63 ⟨rfl, hb⟩; refine ⟨_, rfl, ?_⟩; have n0_ := Aside0.mk (Kd.R_below (by (with_reducible repeat (first | apply Kd.R_alloc | apply Kd.R_drewN | apply Kd.R_drew)); exact HO_5.out) hb); have n1_ := Aside0.mk (Kd.V_below (by (with_reducible repeat (first | apply Kd.V_alloc | apply Kd.V_drewN | apply Kd.V_drew)); exact HO266.out) hb); have n2_ := Aside0.mk (Kd.R_below (by (with_reducible repeat (first | apply Kd.R_alloc | apply Kd.R_drewN | apply Kd.R_drew)); exact HO269.out) hb); have n3_ := Aside0.mk (blk_below (g := gb253) (o := .cells #[.int .i64 a0_0, .int .i64 a0_1, .int .i64 a0_2, .int .i64 a0_3, .int .i64 a0_4] 23 (0, 0)) (by (with_reducible repeat (first | refine blk_drewN ?_ _ | refine blk_drew ?_ | refine blk_alloc ?_ _)); exact BK253.out) hb); have n4_ := Aside0.mk (below_step (by repeat (first | (with_reducible first | exact HB.out | apply below_alloc | apply pw_below_drewN | apply below_drew1 | refine below_set ?_ GE253.out) | exact HB.out)) hb); clear HO_5; clear HO266; clear HO269; clear BK253; clear HB; have HO_5 := n0_; have HO266 := n1_; have HO269 := n2_; have BK253 := n3_; have HB := n4_; clear n0_ n1_ n2_ n3_ n4_; (try clear hb); (try clear hb2); (try clear hk); (try clear hi); obtain ⟨Ao64, co64, eo64⟩ := Kd.R_slice HO269.out; subst eo64) | ((with_reducible refine gate_callee (f := 9) rfl ?_); refine goesL_ (some 89) rfl rfl Tryd.func9 (by kernel_rfl) rfl #[errOf (.slice Ao64 t267.length co64), .int .i64 t270, .string (⟨#[98, 108, 111, 99, 107, 105, 110, 103, 46, 74, 111, 105, 110]⟩ : ByteArray)] rfl (by (try simp only [List.map_toArray, List.map_cons, List.map_nil]); first | done | rfl | (simp only [List.length_drop, List.length_take]; rfl)) ?_; (with_reducible refine (geyserlaw14_tells.calls _ _ t267 t270 (⟨#[98, 108, 111, 99, 107, 105, 110, 103, 46, 74, 111, 105, 110]⟩ : ByteArray) true _ ?side1 ?side2 ?side3 A55.out).mono ?_); (case side1 => first | exact HEI.out | exact ErrIn.below HEI.out (by repeat (first | (with_reducible first | exact HB.out | apply below_alloc | apply pw_below_drewN | apply below_drew1 | refine below_set ?_ GE253.out) | exact HB.out)) | (repeat (first | apply ErrIn.drewN | apply ErrIn.drew | exact HEI.out))); (case side2 => repeat (first | exact (Kd.R_reads' HO269.out).2.2 | (with_reducible refine Kd.C_alloc ?_ _) | (with_reducible refine Kd.C_drewN ?_ _) | (with_reducible refine Kd.C_drew ?_))); (case side3 => exact (Kd.R_reads' HO269.out).2.1); rintro e w65 ⟨rfl, hb⟩; refine ⟨_, rfl, ?_⟩; have n0_ := Aside0.mk (Kd.R_below (by (with_reducible repeat (first | apply Kd.R_alloc | apply Kd.R_drewN | apply Kd.R_drew)); exact HO_5.out) hb); have n1_ := Aside0.mk (Kd.V_below (by (with_reducible repeat (first | apply Kd.V_alloc | apply Kd.V_drewN | apply Kd.V_drew)); exact HO266.out) hb); have n2_ := Aside0.mk (Kd.R_below (by (with_reducible repeat (first | apply Kd.R_alloc | apply Kd.R_drewN | apply Kd.R_drew)); exact HO269.out) hb); have n3_ := Aside0.mk (blk_below (g := gb253) (o := .cells #[.int .i64 a0_0, .int .i64 a0_1, .int .i64 a0_2, .int .i64 a0_3, .int .i64 a0_4] 23 (0, 0)) (by (with_reducible repeat (first | refine blk_drewN ?_ _ | refine blk_drew ?_ | refine blk_alloc ?_ _)); exact BK253.out) hb); have n4_ := Aside0.mk (below_step (by repeat (first | (with_reducible first | exact HB.out | apply below_alloc | apply pw_below_drewN | apply below_drew1 | refine below_set ?_ GE253.out) | exact HB.out)) hb); clear HO_5; clear HO266; clear HO269; clear BK253; clear HB; have HO_5 := n0_; have HO266 := n1_; have HO269 := n2_; have BK253 := n3_; have HB := n4_; clear n0_ n1_ n2_ n3_ n4_; (try clear hb); (try clear hb2); (try clear hk); (try clear hi); obtain ⟨Ao66, co66, eo66⟩ := Kd.V_slice HO266.out; subst eo66) | (go_at_call 10; (with_reducible refine (geyserlaw14_awake.calls k1  t278 _ A58.out).mono ?_); rintro e w67 ⟨rfl, hb⟩; have n0_ := Aside0.mk (Kd.R_below (by (with_reducible repeat (first | apply Kd.R_alloc | apply Kd.R_drewN | apply Kd.R_drew)); exact HO_5.out) hb); have n1_ := Aside0.mk (Kd.V_below (by (with_reducible repeat (first | apply Kd.V_alloc | apply Kd.V_drewN | apply Kd.V_drew)); exact HO266.out) hb); have n2_ := Aside0.mk (Kd.R_below (by (with_reducible repeat (first | apply Kd.R_alloc | apply Kd.R_drewN | apply Kd.R_drew)); exact HO269.out) hb); have n3_ := Aside0.mk (blk_below (g := gb253) (o := .cells #[.int .i64 a0_0, .int .i64 a0_1, .int .i64 a0_2, .int .i64 a0_3, .int .i64 a0_4] 23 (0, 0)) (by (with_reducible repeat (first | refine blk_drewN ?_ _ | refine blk_drew ?_ | refine blk_alloc ?_ _)); exact BK253.out) hb); have n4_ := Aside0.mk (below_step (by repeat (first | (with_reducible first | exact HB.out | apply below_alloc | apply pw_below_drewN | apply below_drew1 | refine below_set ?_ GE253.out) | exact HB.out)) hb); clear HO_5; clear HO266; clear HO269; clear BK253; clear HB; have HO_5 := n0_; have HO266 := n1_; have HO269 := n2_; have BK253 := n3_; have HB := n4_; clear n0_ n1_ n2_ n3_ n4_; (try clear hb); (try clear hb2); (try clear hk); (try clear hi)))
       obtain ⟨mm, W00, HT0, HM0⟩ := HI.out
       have HT := Aside0.mk HT0
       have HM := Aside0.mk HM0
       clear HT0 HM0 HI
       go_loopg [9] (x5_1.length + 1) (fun kq v9 w' => ∃ i : Nat, v9 = .int .i64 (i : Int) ∧ Aside0 (kq + i = x5_1.length + 1 ∧ i ≤ x5_1.length) ∧ Aside0 (blocking_Joins_loop.Inv mm w.heap.size gb253 #[.int .i64 a0_0, .int .i64 a0_1, .int .i64 a0_2, .int .i64 a0_3, .int .i64 a0_4] W00 v265 t264 v268 t267 w') ∧ Aside0 (Below w.heap.size w w'))
       case atStart => exact ⟨0, rfl, ⟨by omega, by omega⟩, ⟨by repeat (first | exact HM.out | apply blocking_Joins_loop.Inv.drewN | apply blocking_Joins_loop.Inv.drew)⟩, ⟨by repeat (first | (with_reducible first | exact HB.out | apply below_alloc | apply pw_below_drewN | apply below_drew1 | refine below_set ?_ GE253.out) | exact HB.out)⟩⟩
       case round =>
        clear HB HM HO_5 HO266 HO269 BK253
        obtain ⟨i, rfl, HKi, HM, HB⟩ := hrel
        cases gk with
        | zero => exact absurd HKi.out.1 (by have := HKi.out.2; omega)
        | succ g1 =>
         by_cases hlt : i < x5_1.length
         ·have hci : decide ((i : Int) < (x5_1.length : Int)) = true := decide_eq_true (by omega)
          have hpi : (0 : Int) ≤ (i : Int) := by omega
          obtain ⟨g5, cells5, A6, n6, c6, hg5, hn5, hb5, hc5, hmid⟩ := HT.out.at_ hlt
          subst hg5
          have HB5 := Aside0.mk hb5
          have HC5 := Aside0.mk hc5
          have HD := Aside0.mk hmid
          have hn6 := hmid.1
          clear hb5 hc5 hmid
          have hx5 := HM.out.cell HB5.out (by decide) HC5.out
          go_wp2
          clear hx5
          go_loopg [10] (n6 + 1) (fun kq v10 w' => ∃ k : Nat, v10 = .int .i64 (k : Int) ∧ Aside0 (kq + k = n6 + 1 ∧ k ≤ n6) ∧ Aside0 (blocking_Joins_loop.Inv mm w.heap.size gb253 #[.int .i64 a0_0, .int .i64 a0_1, .int .i64 a0_2, .int .i64 a0_3, .int .i64 a0_4] W00 v265 t264 v268 t267 w') ∧ Aside0 (Below w.heap.size w w'))
          case atStart => exact ⟨0, rfl, ⟨by omega, by omega⟩, ⟨by repeat (first | exact HM.out | apply blocking_Joins_loop.Inv.drewN | apply blocking_Joins_loop.Inv.drew)⟩, ⟨by repeat (first | (with_reducible first | exact HB.out | apply below_alloc | apply pw_below_drewN | apply below_drew1 | refine below_set ?_ GE253.out) | exact HB.out)⟩⟩
          case round =>
           clear HB HM
           obtain ⟨k, rfl, HKk, HM, HB⟩ := hrel
           have hx5 := HM.out.cell HB5.out (by decide) HC5.out
           cases gk with
           | zero => exact absurd HKk.out.1 (by have := HKk.out.2; omega)
           | succ g2 =>
            by_cases hlt2 : k < n6
            ·have hck : decide ((k : Int) < (n6 : Int)) = true := decide_eq_true (by omega)
             have hpk : (0 : Int) ≤ (k : Int) := by omega
             obtain ⟨g6, cells6, A7, n7, c7, hg6, _, hb6, hc6, hleaf⟩ := HD.out.at_ hlt2
             subst hg6
             have HB6 := Aside0.mk hb6
             have HC6 := Aside0.mk hc6
             have HL := Aside0.mk hleaf
             have hn7 := hleaf.1
             clear hb6 hc6 hleaf
             have hx6 := HM.out.cell HB6.out (by decide) HC6.out
             go_wp2
             clear hx5 hx6
             go_loopg [11] (n7 + 1) (fun kq v11 w' => ∃ j : Nat, v11 = .int .i64 (j : Int) ∧ Aside0 (kq + j = n7 + 1 ∧ j ≤ n7) ∧ Aside0 (blocking_Joins_loop.Inv mm w.heap.size gb253 #[.int .i64 a0_0, .int .i64 a0_1, .int .i64 a0_2, .int .i64 a0_3, .int .i64 a0_4] W00 v265 t264 v268 t267 w') ∧ Aside0 (Below w.heap.size w w'))
             case atStart => exact ⟨0, rfl, ⟨by omega, by omega⟩, ⟨by repeat (first | exact HM.out | apply blocking_Joins_loop.Inv.drewN | apply blocking_Joins_loop.Inv.drew)⟩, ⟨by repeat (first | (with_reducible first | exact HB.out | apply below_alloc | apply pw_below_drewN | apply below_drew1 | refine below_set ?_ GE253.out) | exact HB.out)⟩⟩
             case round =>
              clear HB HM
              obtain ⟨j, rfl, HKj, HM, HB⟩ := hrel
              have hx5 := HM.out.cell HB5.out (by decide) HC5.out
              have hx6 := HM.out.cell HB6.out (by decide) HC6.out
              cases gk with
              | zero => exact absurd HKj.out.1 (by have := HKj.out.2; omega)
              | succ g3 =>
               by_cases hlt3 : j < n7
               ·have hcj : decide ((j : Int) < (n7 : Int)) = true := decide_eq_true (by omega)
                have hpj : (0 : Int) ≤ (j : Int) := by omega
                obtain ⟨g7, cells7, z7, hg7, _, hbase7, hm7, hb7, hc7⟩ := HL.out.at_ hlt3
                subst hg7
                obtain ⟨z8, cells8, hx7, hfr7, hblk7⟩ := HM.out.byte hb7 hc7
                have HZ := Aside0.mk hblk7
                have HG := Aside0.mk hm7
                have HE := Aside0.mk hbase7
                clear hblk7 hm7 hbase7 hb7 hc7
                go_wp2
                go_region
                go_wp2
                go_roundg g3
                case measure => have := HKj.out.1; omega
                case rel =>
                 refine ⟨j + 1, by go_num, ⟨by have := HKj.out; omega, by omega⟩, ⟨?_⟩, ⟨?_⟩⟩
                 ·exact (HM.out.store HZ.out HG.out _).drew
                 ·exact below_drew (HB.out.setCell HE.out _)
               ·have hcj : decide ((j : Int) < (n7 : Int)) = false := decide_eq_false (by omega)
                go_wp2
                go_roundg g2
                case measure => have := HKk.out.1; omega
                case rel =>
                 refine ⟨k + 1, by go_num, ⟨by have := HKk.out; omega, by omega⟩, ⟨by repeat (first | exact HM.out | apply blocking_Joins_loop.Inv.drewN | apply blocking_Joins_loop.Inv.drew)⟩, ⟨by repeat (first | (with_reducible first | exact HB.out | apply below_alloc | apply pw_below_drewN | apply below_drew1 | refine below_set ?_ GE253.out) | exact HB.out)⟩⟩
            ·have hck : decide ((k : Int) < (n6 : Int)) = false := decide_eq_false (by omega)
             go_wp2
             go_roundg g1
             case measure => have := HKi.out.1; omega
             case rel =>
              refine ⟨i + 1, by go_num, ⟨by have := HKi.out; omega, by omega⟩, ⟨by repeat (first | exact HM.out | apply blocking_Joins_loop.Inv.drewN | apply blocking_Joins_loop.Inv.drew)⟩, ⟨by repeat (first | (with_reducible first | exact HB.out | apply below_alloc | apply pw_below_drewN | apply below_drew1 | refine below_set ?_ GE253.out) | exact HB.out)⟩⟩
         ·have hci : decide ((i : Int) < (x5_1.length : Int)) = false := decide_eq_false (by omega)
          have HO_5 := Aside0.mk HM.out.nil
          have HO266 := Aside0.mk HM.out.2.2.2.2.2.1
          have HO269 := Aside0.mk HM.out.2.2.2.2.2.2.1
          have BK253 := Aside0.mk HM.out.2.2.2.2.2.2.2
          have hczL_0 : _ = some ((.int .i64 a0_0 : Value)) := (blk_cell BK253.out 0).trans rfl
          have hczL_1 : _ = some ((.int .i64 a0_1 : Value)) := (blk_cell BK253.out 1).trans rfl
          have hczL_2 : _ = some ((.int .i64 a0_2 : Value)) := (blk_cell BK253.out 2).trans rfl
          have hczL_3 : _ = some ((.int .i64 a0_3 : Value)) := (blk_cell BK253.out 3).trans rfl
          have hczL_4 : _ = some ((.int .i64 a0_4 : Value)) := (blk_cell BK253.out 4).trans rfl
          have hfzL_0 := blk_frozen BK253.out 0
          have hfzL_1 := blk_frozen BK253.out 1
          have hfzL_2 := blk_frozen BK253.out 2
          have hfzL_3 := blk_frozen BK253.out 3
          have hfzL_4 := blk_frozen BK253.out 4
          go_wp2_with (first | ((with_reducible refine gate_callee (f := 16) rfl ?_); refine goesL_ (some 33) rfl rfl Tryd.func16 (by kernel_rfl) rfl #[.agg #[.int .i64 a0_0, .int .i64 a0_1, .int .i64 a0_2, .int .i64 a0_3, .int .i64 a0_4], .slice Ao60 x5_1.length co60] rfl (by (try simp only [List.map_toArray, List.map_cons, List.map_nil]); first | done | rfl | (simp only [List.length_drop, List.length_take]; rfl)) ?_; (with_reducible refine (blocking_Join.calls k1 a0_0 a0_1 a0_2 a0_3 a0_4 _ _ x5_1 t264 t267 _ ?side1 ?side2 A13.out).mono ?_); (case side1 => repeat (first | exact (Kd.R_reads' HO_5.out).2.2 | (with_reducible refine Kd.C_alloc ?_ _) | (with_reducible refine Kd.C_drewN ?_ _) | (with_reducible refine Kd.C_drew ?_))); (case side2 => exact (Kd.R_reads' HO_5.out).2.1); rintro e w61 ⟨v265, v268, rfl, ho0, ho1, hb⟩; refine ⟨_, rfl, ?_⟩; replace ho0 := Kd.V_mono (ok' := fun k_ => _ ≤ k_) ho0 (fun _ hk => hk.1); have n0_ := Aside0.mk (Kd.R_below (by (with_reducible repeat (first | apply Kd.R_alloc | apply Kd.R_drewN | apply Kd.R_drew)); exact HO_5.out) hb); have n1_ := Aside0.mk (Kd.V_lower (Kd.V_mono (ok' := fun k_ => some k_ ≠ (.slice Ao60 x5_1.length co60 : Value).ownBlock ∧ k_ ≠ gb253) ho0 (fun k_ hk_ => ⟨(Kd.fresh' (Kd.R_lt (by (with_reducible repeat (first | apply Kd.R_alloc | apply Kd.R_drewN | apply Kd.R_drew)); exact HO_5.out)) k_ hk_), (Kd.freshB (g := gb253) (o := .cells #[.int .i64 a0_0, .int .i64 a0_1, .int .i64 a0_2, .int .i64 a0_3, .int .i64 a0_4] 23 (0, 0)) (by (with_reducible repeat (first | refine blk_drewN ?_ _ | refine blk_drew ?_ | refine blk_alloc ?_ _)); exact BK253.out) k_ hk_)⟩)) (below_size (by repeat (first | (with_reducible first | exact HB.out | apply below_alloc | apply pw_below_drewN | apply below_drew1 | refine below_set ?_ GE253.out) | exact HB.out)))); have n2_ := Aside0.mk (Kd.R_lower (Kd.R_mono (ok' := fun k_ => True) ho1 (fun _ hk_ => trivial)) (below_size (by repeat (first | (with_reducible first | exact HB.out | apply below_alloc | apply pw_below_drewN | apply below_drew1 | refine below_set ?_ GE253.out) | exact HB.out)))); have n3_ := Aside0.mk (blk_below (g := gb253) (o := .cells #[.int .i64 a0_0, .int .i64 a0_1, .int .i64 a0_2, .int .i64 a0_3, .int .i64 a0_4] 23 (0, 0)) (by (with_reducible repeat (first | refine blk_drewN ?_ _ | refine blk_drew ?_ | refine blk_alloc ?_ _)); exact BK253.out) hb); have n4_ := Aside0.mk (below_step (by repeat (first | (with_reducible first | exact HB.out | apply below_alloc | apply pw_below_drewN | apply below_drew1 | refine below_set ?_ GE253.out) | exact HB.out)) hb); clear HO_5; clear BK253; clear HB; have HO_5 := n0_; have HO266 := n1_; have HO269 := n2_; have BK253 := n3_; have HB := n4_; clear n0_ n1_ n2_ n3_ n4_; (try clear hb); (try clear hb2); (try clear hk); (try clear hi); (try clear ho0); (try clear ho1); have hcz62_0 : w61.cell? ⟨gb253, 0, none⟩ = some (.int .i64 a0_0) := (blk_cell BK253.out 0).trans rfl; have hcz62_1 : w61.cell? ⟨gb253, 1, none⟩ = some (.int .i64 a0_1) := (blk_cell BK253.out 1).trans rfl; have hcz62_2 : w61.cell? ⟨gb253, 2, none⟩ = some (.int .i64 a0_2) := (blk_cell BK253.out 2).trans rfl; have hcz62_3 : w61.cell? ⟨gb253, 3, none⟩ = some (.int .i64 a0_3) := (blk_cell BK253.out 3).trans rfl; have hcz62_4 : w61.cell? ⟨gb253, 4, none⟩ = some (.int .i64 a0_4) := (blk_cell BK253.out 4).trans rfl; have hfz62_0 := blk_frozen BK253.out 0; have hfz62_1 := blk_frozen BK253.out 1; have hfz62_2 := blk_frozen BK253.out 2; have hfz62_3 := blk_frozen BK253.out 3; have hfz62_4 := blk_frozen BK253.out 4) | ((with_reducible refine gate_callee (f := 11) rfl ?_); refine goesL_ (some 84) rfl rfl Tryd.func11 (by kernel_rfl) rfl #[.agg #[.int .i64 a0_0, .int .i64 a0_1, .int .i64 a0_2, .int .i64 a0_3, .int .i64 a0_4]] rfl (by (try simp only [List.map_toArray, List.map_cons, List.map_nil]); first | done | rfl | (simp only [List.length_drop, List.length_take]; rfl)) ?_; (with_reducible refine (geyserref14_Check.calls k1 a0_0 a0_1 a0_2 a0_3 a0_4 t270 _ A14.out).mono ?_); rintro e w63 ⟨rfl, hb⟩; refine ⟨_, rfl, ?_⟩; have n0_ := Aside0.mk (Kd.R_below (by (with_reducible repeat (first | apply Kd.R_alloc | apply Kd.R_drewN | apply Kd.R_drew)); exact HO_5.out) hb); have n1_ := Aside0.mk (Kd.V_below (by (with_reducible repeat (first | apply Kd.V_alloc | apply Kd.V_drewN | apply Kd.V_drew)); exact HO266.out) hb); have n2_ := Aside0.mk (Kd.R_below (by (with_reducible repeat (first | apply Kd.R_alloc | apply Kd.R_drewN | apply Kd.R_drew)); exact HO269.out) hb); have n3_ := Aside0.mk (blk_below (g := gb253) (o := .cells #[.int .i64 a0_0, .int .i64 a0_1, .int .i64 a0_2, .int .i64 a0_3, .int .i64 a0_4] 23 (0, 0)) (by (with_reducible repeat (first | refine blk_drewN ?_ _ | refine blk_drew ?_ | refine blk_alloc ?_ _)); exact BK253.out) hb); have n4_ := Aside0.mk (below_step (by repeat (first | (with_reducible first | exact HB.out | apply below_alloc | apply pw_below_drewN | apply below_drew1 | refine below_set ?_ GE253.out) | exact HB.out)) hb); clear HO_5; clear HO266; clear HO269; clear BK253; clear HB; have HO_5 := n0_; have HO266 := n1_; have HO269 := n2_; have BK253 := n3_; have HB := n4_; clear n0_ n1_ n2_ n3_ n4_; (try clear hb); (try clear hb2); (try clear hk); (try clear hi); obtain ⟨Ao64, co64, eo64⟩ := Kd.R_slice HO269.out; subst eo64) | ((with_reducible refine gate_callee (f := 9) rfl ?_); refine goesL_ (some 89) rfl rfl Tryd.func9 (by kernel_rfl) rfl #[errOf (.slice Ao64 t267.length co64), .int .i64 t270, .string (⟨#[98, 108, 111, 99, 107, 105, 110, 103, 46, 74, 111, 105, 110]⟩ : ByteArray)] rfl (by (try simp only [List.map_toArray, List.map_cons, List.map_nil]); first | done | rfl | (simp only [List.length_drop, List.length_take]; rfl)) ?_; (with_reducible refine (geyserlaw14_tells.calls _ _ t267 t270 (⟨#[98, 108, 111, 99, 107, 105, 110, 103, 46, 74, 111, 105, 110]⟩ : ByteArray) true _ ?side1 ?side2 ?side3 A55.out).mono ?_); (case side1 => first | exact HEI.out | exact ErrIn.below HEI.out (by repeat (first | (with_reducible first | exact HB.out | apply below_alloc | apply pw_below_drewN | apply below_drew1 | refine below_set ?_ GE253.out) | exact HB.out)) | (repeat (first | apply ErrIn.drewN | apply ErrIn.drew | exact HEI.out))); (case side2 => repeat (first | exact (Kd.R_reads' HO269.out).2.2 | (with_reducible refine Kd.C_alloc ?_ _) | (with_reducible refine Kd.C_drewN ?_ _) | (with_reducible refine Kd.C_drew ?_))); (case side3 => exact (Kd.R_reads' HO269.out).2.1); rintro e w65 ⟨rfl, hb⟩; refine ⟨_, rfl, ?_⟩; have n0_ := Aside0.mk (Kd.R_below (by (with_reducible repeat (first | apply Kd.R_alloc | apply Kd.R_drewN | apply Kd.R_drew)); exact HO_5.out) hb); have n1_ := Aside0.mk (Kd.V_below (by (with_reducible repeat (first | apply Kd.V_alloc | apply Kd.V_drewN | apply Kd.V_drew)); exact HO266.out) hb); have n2_ := Aside0.mk (Kd.R_below (by (with_reducible repeat (first | apply Kd.R_alloc | apply Kd.R_drewN | apply Kd.R_drew)); exact HO269.out) hb); have n3_ := Aside0.mk (blk_below (g := gb253) (o := .cells #[.int .i64 a0_0, .int .i64 a0_1, .int .i64 a0_2, .int .i64 a0_3, .int .i64 a0_4] 23 (0, 0)) (by (with_reducible repeat (first | refine blk_drewN ?_ _ | refine blk_drew ?_ | refine blk_alloc ?_ _)); exact BK253.out) hb); have n4_ := Aside0.mk (below_step (by repeat (first | (with_reducible first | exact HB.out | apply below_alloc | apply pw_below_drewN | apply below_drew1 | refine below_set ?_ GE253.out) | exact HB.out)) hb); clear HO_5; clear HO266; clear HO269; clear BK253; clear HB; have HO_5 := n0_; have HO266 := n1_; have HO269 := n2_; have BK253 := n3_; have HB := n4_; clear n0_ n1_ n2_ n3_ n4_; (try clear hb); (try clear hb2); (try clear hk); (try clear hi); obtain ⟨Ao66, co66, eo66⟩ := Kd.V_slice HO266.out; subst eo66) | (go_at_call 10; (with_reducible refine (geyserlaw14_awake.calls k1  t278 _ A58.out).mono ?_); rintro e w67 ⟨rfl, hb⟩; have n0_ := Aside0.mk (Kd.R_below (by (with_reducible repeat (first | apply Kd.R_alloc | apply Kd.R_drewN | apply Kd.R_drew)); exact HO_5.out) hb); have n1_ := Aside0.mk (Kd.V_below (by (with_reducible repeat (first | apply Kd.V_alloc | apply Kd.V_drewN | apply Kd.V_drew)); exact HO266.out) hb); have n2_ := Aside0.mk (Kd.R_below (by (with_reducible repeat (first | apply Kd.R_alloc | apply Kd.R_drewN | apply Kd.R_drew)); exact HO269.out) hb); have n3_ := Aside0.mk (blk_below (g := gb253) (o := .cells #[.int .i64 a0_0, .int .i64 a0_1, .int .i64 a0_2, .int .i64 a0_3, .int .i64 a0_4] 23 (0, 0)) (by (with_reducible repeat (first | refine blk_drewN ?_ _ | refine blk_drew ?_ | refine blk_alloc ?_ _)); exact BK253.out) hb); have n4_ := Aside0.mk (below_step (by repeat (first | (with_reducible first | exact HB.out | apply below_alloc | apply pw_below_drewN | apply below_drew1 | refine below_set ?_ GE253.out) | exact HB.out)) hb); clear HO_5; clear HO266; clear HO269; clear BK253; clear HB; have HO_5 := n0_; have HO266 := n1_; have HO269 := n2_; have BK253 := n3_; have HB := n4_; clear n0_ n1_ n2_ n3_ n4_; (try clear hb); (try clear hb2); (try clear hk); (try clear hi))) -- behind
          go_ret
          exact ⟨by first | rfl | (simp [errW_none, errW_some] <;> rfl) | (simp [*, errW_none, errW_some] <;> rfl), by repeat (first | (with_reducible first | exact HB.out | apply below_alloc | apply pw_below_drewN | apply below_drew1 | refine below_set ?_ GE253.out) | exact HB.out)⟩
      ·rw [if_neg c57] at H
       have c57b0 : ((t264.length : Int) == 0) = false := beq_eq_false_iff_ne.mpr c57
       have c57b1 : ((t264.length : Int) != 0) = true := bne_iff_ne.mpr c57
       have c57b2 : ¬ (t264 = []) := fun h_ => c57 (by rw [h_]; rfl)
       obtain rfl := Option.some.inj H
       have hcz68_0 : wr.cell? ⟨gb253, 0, none⟩ = some (.int .i64 a0_0) := (blk_cell BK253.out 0).trans rfl
       have hcz68_1 : wr.cell? ⟨gb253, 1, none⟩ = some (.int .i64 a0_1) := (blk_cell BK253.out 1).trans rfl
       have hcz68_2 : wr.cell? ⟨gb253, 2, none⟩ = some (.int .i64 a0_2) := (blk_cell BK253.out 2).trans rfl
       have hcz68_3 : wr.cell? ⟨gb253, 3, none⟩ = some (.int .i64 a0_3) := (blk_cell BK253.out 3).trans rfl
       have hcz68_4 : wr.cell? ⟨gb253, 4, none⟩ = some (.int .i64 a0_4) := (blk_cell BK253.out 4).trans rfl
       have hfz68_0 := blk_frozen BK253.out 0
       have hfz68_1 := blk_frozen BK253.out 1
       have hfz68_2 := blk_frozen BK253.out 2
       have hfz68_3 := blk_frozen BK253.out 3
       have hfz68_4 := blk_frozen BK253.out 4
       obtain ⟨Ao69, co69, eo69⟩ := Kd.R_slice HO_5.out
       subst eo69
       go_wp2_with (first | ((with_reducible refine gate_callee (f := 16) rfl ?_); refine goesL_ (some 33) rfl rfl Tryd.func16 (by kernel_rfl) rfl #[.agg #[.int .i64 a0_0, .int .i64 a0_1, .int .i64 a0_2, .int .i64 a0_3, .int .i64 a0_4], .slice Ao69 x5_1.length co69] rfl (by (try simp only [List.map_toArray, List.map_cons, List.map_nil]); first | done | rfl | (simp only [List.length_drop, List.length_take]; rfl)) ?_; (with_reducible refine (blocking_Join.calls k1 a0_0 a0_1 a0_2 a0_3 a0_4 _ _ x5_1 t264 t267 _ ?side1 ?side2 A13.out).mono ?_); (case side1 => repeat (first | exact (Kd.R_reads' HO_5.out).2.2 | (with_reducible refine Kd.C_alloc ?_ _) | (with_reducible refine Kd.C_drewN ?_ _) | (with_reducible refine Kd.C_drew ?_))); (case side2 => exact (Kd.R_reads' HO_5.out).2.1); rintro e w70 ⟨v265, v268, rfl, ho0, ho1, hb⟩; refine ⟨_, rfl, ?_⟩; have HI := Aside0.mk (blocking_Joins_loop.start (base := w.heap.size) (by (with_reducible repeat (first | apply Kd.R_alloc | apply Kd.R_drewN | apply Kd.R_drew)); exact HO_5.out) (by (with_reducible repeat (first | refine blk_drewN ?_ _ | refine blk_drew ?_ | refine blk_alloc ?_ _)); exact BK253.out) hb ho0 ho1 (below_size (by repeat (first | (with_reducible first | exact HB.out | apply below_alloc | apply pw_below_drewN | apply below_drew1 | refine below_set ?_ GE253.out) | exact HB.out)))); replace ho0 := Kd.V_mono (ok' := fun k_ => _ ≤ k_) ho0 (fun _ hk => hk.1); have n0_ := Aside0.mk (Kd.R_below (by (with_reducible repeat (first | apply Kd.R_alloc | apply Kd.R_drewN | apply Kd.R_drew)); exact HO_5.out) hb); have n1_ := Aside0.mk (Kd.V_lower (Kd.V_mono (ok' := fun k_ => some k_ ≠ (.slice Ao69 x5_1.length co69 : Value).ownBlock ∧ k_ ≠ gb253) ho0 (fun k_ hk_ => ⟨(Kd.fresh' (Kd.R_lt (by (with_reducible repeat (first | apply Kd.R_alloc | apply Kd.R_drewN | apply Kd.R_drew)); exact HO_5.out)) k_ hk_), (Kd.freshB (g := gb253) (o := .cells #[.int .i64 a0_0, .int .i64 a0_1, .int .i64 a0_2, .int .i64 a0_3, .int .i64 a0_4] 23 (0, 0)) (by (with_reducible repeat (first | refine blk_drewN ?_ _ | refine blk_drew ?_ | refine blk_alloc ?_ _)); exact BK253.out) k_ hk_)⟩)) (below_size (by repeat (first | (with_reducible first | exact HB.out | apply below_alloc | apply pw_below_drewN | apply below_drew1 | refine below_set ?_ GE253.out) | exact HB.out)))); have n2_ := Aside0.mk (Kd.R_lower (Kd.R_mono (ok' := fun k_ => True) ho1 (fun _ hk_ => trivial)) (below_size (by repeat (first | (with_reducible first | exact HB.out | apply below_alloc | apply pw_below_drewN | apply below_drew1 | refine below_set ?_ GE253.out) | exact HB.out)))); have n3_ := Aside0.mk (blk_below (g := gb253) (o := .cells #[.int .i64 a0_0, .int .i64 a0_1, .int .i64 a0_2, .int .i64 a0_3, .int .i64 a0_4] 23 (0, 0)) (by (with_reducible repeat (first | refine blk_drewN ?_ _ | refine blk_drew ?_ | refine blk_alloc ?_ _)); exact BK253.out) hb); have n4_ := Aside0.mk (below_step (by repeat (first | (with_reducible first | exact HB.out | apply below_alloc | apply pw_below_drewN | apply below_drew1 | refine below_set ?_ GE253.out) | exact HB.out)) hb); clear HO_5; clear BK253; clear HB; have HO_5 := n0_; have HO266 := n1_; have HO269 := n2_; have BK253 := n3_; have HB := n4_; clear n0_ n1_ n2_ n3_ n4_; (try clear hb); (try clear hb2); (try clear hk); (try clear hi); (try clear ho0); (try clear ho1); have hcz71_0 : w70.cell? ⟨gb253, 0, none⟩ = some (.int .i64 a0_0) := (blk_cell BK253.out 0).trans rfl; have hcz71_1 : w70.cell? ⟨gb253, 1, none⟩ = some (.int .i64 a0_1) := (blk_cell BK253.out 1).trans rfl; have hcz71_2 : w70.cell? ⟨gb253, 2, none⟩ = some (.int .i64 a0_2) := (blk_cell BK253.out 2).trans rfl; have hcz71_3 : w70.cell? ⟨gb253, 3, none⟩ = some (.int .i64 a0_3) := (blk_cell BK253.out 3).trans rfl; have hcz71_4 : w70.cell? ⟨gb253, 4, none⟩ = some (.int .i64 a0_4) := (blk_cell BK253.out 4).trans rfl; have hfz71_0 := blk_frozen BK253.out 0; have hfz71_1 := blk_frozen BK253.out 1; have hfz71_2 := blk_frozen BK253.out 2; have hfz71_3 := blk_frozen BK253.out 3; have hfz71_4 := blk_frozen BK253.out 4) | ((with_reducible refine gate_callee (f := 11) rfl ?_); refine goesL_ (some 84) rfl rfl Tryd.func11 (by kernel_rfl) rfl #[.agg #[.int .i64 a0_0, .int .i64 a0_1, .int .i64 a0_2, .int .i64 a0_3, .int .i64 a0_4]] rfl (by (try simp only [List.map_toArray, List.map_cons, List.map_nil]); first | done | rfl | (simp only [List.length_drop, List.length_take]; rfl)) ?_; (with_reducible refine (geyserref14_Check.calls k1 a0_0 a0_1 a0_2 a0_3 a0_4 t270 _ A14.out).mono ?_); rintro e w72 ⟨rfl, hb⟩; refine ⟨_, rfl, ?_⟩; have n0_ := Aside0.mk (Kd.R_below (by (with_reducible repeat (first | apply Kd.R_alloc | apply Kd.R_drewN | apply Kd.R_drew)); exact HO_5.out) hb); have n1_ := Aside0.mk (Kd.V_below (by (with_reducible repeat (first | apply Kd.V_alloc | apply Kd.V_drewN | apply Kd.V_drew)); exact HO266.out) hb); have n2_ := Aside0.mk (Kd.R_below (by (with_reducible repeat (first | apply Kd.R_alloc | apply Kd.R_drewN | apply Kd.R_drew)); exact HO269.out) hb); have n3_ := Aside0.mk (blk_below (g := gb253) (o := .cells #[.int .i64 a0_0, .int .i64 a0_1, .int .i64 a0_2, .int .i64 a0_3, .int .i64 a0_4] 23 (0, 0)) (by (with_reducible repeat (first | refine blk_drewN ?_ _ | refine blk_drew ?_ | refine blk_alloc ?_ _)); exact BK253.out) hb); have n4_ := Aside0.mk (below_step (by repeat (first | (with_reducible first | exact HB.out | apply below_alloc | apply pw_below_drewN | apply below_drew1 | refine below_set ?_ GE253.out) | exact HB.out)) hb); clear HO_5; clear HO266; clear HO269; clear BK253; clear HB; have HO_5 := n0_; have HO266 := n1_; have HO269 := n2_; have BK253 := n3_; have HB := n4_; clear n0_ n1_ n2_ n3_ n4_; (try clear hb); (try clear hb2); (try clear hk); (try clear hi); obtain ⟨Ao73, co73, eo73⟩ := Kd.R_slice HO269.out; subst eo73) | ((with_reducible refine gate_callee (f := 9) rfl ?_); refine goesL_ (some 89) rfl rfl Tryd.func9 (by kernel_rfl) rfl #[errOf (.slice Ao73 t267.length co73), .int .i64 t270, .string (⟨#[98, 108, 111, 99, 107, 105, 110, 103, 46, 74, 111, 105, 110]⟩ : ByteArray)] rfl (by (try simp only [List.map_toArray, List.map_cons, List.map_nil]); first | done | rfl | (simp only [List.length_drop, List.length_take]; rfl)) ?_; (with_reducible refine (geyserlaw14_tells.calls _ _ t267 t270 (⟨#[98, 108, 111, 99, 107, 105, 110, 103, 46, 74, 111, 105, 110]⟩ : ByteArray) true _ ?side1 ?side2 ?side3 A55.out).mono ?_); (case side1 => first | exact HEI.out | exact ErrIn.below HEI.out (by repeat (first | (with_reducible first | exact HB.out | apply below_alloc | apply pw_below_drewN | apply below_drew1 | refine below_set ?_ GE253.out) | exact HB.out)) | (repeat (first | apply ErrIn.drewN | apply ErrIn.drew | exact HEI.out))); (case side2 => repeat (first | exact (Kd.R_reads' HO269.out).2.2 | (with_reducible refine Kd.C_alloc ?_ _) | (with_reducible refine Kd.C_drewN ?_ _) | (with_reducible refine Kd.C_drew ?_))); (case side3 => exact (Kd.R_reads' HO269.out).2.1); rintro e w74 ⟨rfl, hb⟩; refine ⟨_, rfl, ?_⟩; have n0_ := Aside0.mk (Kd.R_below (by (with_reducible repeat (first | apply Kd.R_alloc | apply Kd.R_drewN | apply Kd.R_drew)); exact HO_5.out) hb); have n1_ := Aside0.mk (Kd.V_below (by (with_reducible repeat (first | apply Kd.V_alloc | apply Kd.V_drewN | apply Kd.V_drew)); exact HO266.out) hb); have n2_ := Aside0.mk (Kd.R_below (by (with_reducible repeat (first | apply Kd.R_alloc | apply Kd.R_drewN | apply Kd.R_drew)); exact HO269.out) hb); have n3_ := Aside0.mk (blk_below (g := gb253) (o := .cells #[.int .i64 a0_0, .int .i64 a0_1, .int .i64 a0_2, .int .i64 a0_3, .int .i64 a0_4] 23 (0, 0)) (by (with_reducible repeat (first | refine blk_drewN ?_ _ | refine blk_drew ?_ | refine blk_alloc ?_ _)); exact BK253.out) hb); have n4_ := Aside0.mk (below_step (by repeat (first | (with_reducible first | exact HB.out | apply below_alloc | apply pw_below_drewN | apply below_drew1 | refine below_set ?_ GE253.out) | exact HB.out)) hb); clear HO_5; clear HO266; clear HO269; clear BK253; clear HB; have HO_5 := n0_; have HO266 := n1_; have HO269 := n2_; have BK253 := n3_; have HB := n4_; clear n0_ n1_ n2_ n3_ n4_; (try clear hb); (try clear hb2); (try clear hk); (try clear hi); obtain ⟨Ao75, co75, eo75⟩ := Kd.V_slice HO266.out; subst eo75))
       obtain ⟨mm, W00, HT0, HM0⟩ := HI.out
       have HT := Aside0.mk HT0
       have HM := Aside0.mk HM0
       clear HT0 HM0 HI
       go_loopg [9] (x5_1.length + 1) (fun kq v9 w' => ∃ i : Nat, v9 = .int .i64 (i : Int) ∧ Aside0 (kq + i = x5_1.length + 1 ∧ i ≤ x5_1.length) ∧ Aside0 (blocking_Joins_loop.Inv mm w.heap.size gb253 #[.int .i64 a0_0, .int .i64 a0_1, .int .i64 a0_2, .int .i64 a0_3, .int .i64 a0_4] W00 v265 t264 v268 t267 w') ∧ Aside0 (Below w.heap.size w w'))
       case atStart => exact ⟨0, rfl, ⟨by omega, by omega⟩, ⟨by repeat (first | exact HM.out | apply blocking_Joins_loop.Inv.drewN | apply blocking_Joins_loop.Inv.drew)⟩, ⟨by repeat (first | (with_reducible first | exact HB.out | apply below_alloc | apply pw_below_drewN | apply below_drew1 | refine below_set ?_ GE253.out) | exact HB.out)⟩⟩
       case round =>
        clear HB HM HO_5 HO266 HO269 BK253
        obtain ⟨i, rfl, HKi, HM, HB⟩ := hrel
        cases gk with
        | zero => exact absurd HKi.out.1 (by have := HKi.out.2; omega)
        | succ g1 =>
         by_cases hlt : i < x5_1.length
         ·have hci : decide ((i : Int) < (x5_1.length : Int)) = true := decide_eq_true (by omega)
          have hpi : (0 : Int) ≤ (i : Int) := by omega
          obtain ⟨g5, cells5, A6, n6, c6, hg5, hn5, hb5, hc5, hmid⟩ := HT.out.at_ hlt
          subst hg5
          have HB5 := Aside0.mk hb5
          have HC5 := Aside0.mk hc5
          have HD := Aside0.mk hmid
          have hn6 := hmid.1
          clear hb5 hc5 hmid
          have hx5 := HM.out.cell HB5.out (by decide) HC5.out
          go_wp2
          clear hx5
          go_loopg [10] (n6 + 1) (fun kq v10 w' => ∃ k : Nat, v10 = .int .i64 (k : Int) ∧ Aside0 (kq + k = n6 + 1 ∧ k ≤ n6) ∧ Aside0 (blocking_Joins_loop.Inv mm w.heap.size gb253 #[.int .i64 a0_0, .int .i64 a0_1, .int .i64 a0_2, .int .i64 a0_3, .int .i64 a0_4] W00 v265 t264 v268 t267 w') ∧ Aside0 (Below w.heap.size w w'))
          case atStart => exact ⟨0, rfl, ⟨by omega, by omega⟩, ⟨by repeat (first | exact HM.out | apply blocking_Joins_loop.Inv.drewN | apply blocking_Joins_loop.Inv.drew)⟩, ⟨by repeat (first | (with_reducible first | exact HB.out | apply below_alloc | apply pw_below_drewN | apply below_drew1 | refine below_set ?_ GE253.out) | exact HB.out)⟩⟩
          case round =>
           clear HB HM
           obtain ⟨k, rfl, HKk, HM, HB⟩ := hrel
           have hx5 := HM.out.cell HB5.out (by decide) HC5.out
           cases gk with
           | zero => exact absurd HKk.out.1 (by have := HKk.out.2; omega)
           | succ g2 =>
            by_cases hlt2 : k < n6
            ·have hck : decide ((k : Int) < (n6 : Int)) = true := decide_eq_true (by omega)
             have hpk : (0 : Int) ≤ (k : Int) := by omega
             obtain ⟨g6, cells6, A7, n7, c7, hg6, _, hb6, hc6, hleaf⟩ := HD.out.at_ hlt2
             subst hg6
             have HB6 := Aside0.mk hb6
             have HC6 := Aside0.mk hc6
             have HL := Aside0.mk hleaf
             have hn7 := hleaf.1
             clear hb6 hc6 hleaf
             have hx6 := HM.out.cell HB6.out (by decide) HC6.out
             go_wp2
             clear hx5 hx6
             go_loopg [11] (n7 + 1) (fun kq v11 w' => ∃ j : Nat, v11 = .int .i64 (j : Int) ∧ Aside0 (kq + j = n7 + 1 ∧ j ≤ n7) ∧ Aside0 (blocking_Joins_loop.Inv mm w.heap.size gb253 #[.int .i64 a0_0, .int .i64 a0_1, .int .i64 a0_2, .int .i64 a0_3, .int .i64 a0_4] W00 v265 t264 v268 t267 w') ∧ Aside0 (Below w.heap.size w w'))
             case atStart => exact ⟨0, rfl, ⟨by omega, by omega⟩, ⟨by repeat (first | exact HM.out | apply blocking_Joins_loop.Inv.drewN | apply blocking_Joins_loop.Inv.drew)⟩, ⟨by repeat (first | (with_reducible first | exact HB.out | apply below_alloc | apply pw_below_drewN | apply below_drew1 | refine below_set ?_ GE253.out) | exact HB.out)⟩⟩
             case round =>
              clear HB HM
              obtain ⟨j, rfl, HKj, HM, HB⟩ := hrel
              have hx5 := HM.out.cell HB5.out (by decide) HC5.out
              have hx6 := HM.out.cell HB6.out (by decide) HC6.out
              cases gk with
              | zero => exact absurd HKj.out.1 (by have := HKj.out.2; omega)
              | succ g3 =>
               by_cases hlt3 : j < n7
               ·have hcj : decide ((j : Int) < (n7 : Int)) = true := decide_eq_true (by omega)
                have hpj : (0 : Int) ≤ (j : Int) := by omega
                obtain ⟨g7, cells7, z7, hg7, _, hbase7, hm7, hb7, hc7⟩ := HL.out.at_ hlt3
                subst hg7
                obtain ⟨z8, cells8, hx7, hfr7, hblk7⟩ := HM.out.byte hb7 hc7
                have HZ := Aside0.mk hblk7
                have HG := Aside0.mk hm7
                have HE := Aside0.mk hbase7
                clear hblk7 hm7 hbase7 hb7 hc7
                go_wp2
                go_region
                go_wp2
                go_roundg g3
                case measure => have := HKj.out.1; omega
                case rel =>
                 refine ⟨j + 1, by go_num, ⟨by have := HKj.out; omega, by omega⟩, ⟨?_⟩, ⟨?_⟩⟩
                 ·exact (HM.out.store HZ.out HG.out _).drew
                 ·exact below_drew (HB.out.setCell HE.out _)
               ·have hcj : decide ((j : Int) < (n7 : Int)) = false := decide_eq_false (by omega)
                go_wp2
                go_roundg g2
                case measure => have := HKk.out.1; omega
                case rel =>
                 refine ⟨k + 1, by go_num, ⟨by have := HKk.out; omega, by omega⟩, ⟨by repeat (first | exact HM.out | apply blocking_Joins_loop.Inv.drewN | apply blocking_Joins_loop.Inv.drew)⟩, ⟨by repeat (first | (with_reducible first | exact HB.out | apply below_alloc | apply pw_below_drewN | apply below_drew1 | refine below_set ?_ GE253.out) | exact HB.out)⟩⟩
            ·have hck : decide ((k : Int) < (n6 : Int)) = false := decide_eq_false (by omega)
             go_wp2
             go_roundg g1
             case measure => have := HKi.out.1; omega
             case rel =>
              refine ⟨i + 1, by go_num, ⟨by have := HKi.out; omega, by omega⟩, ⟨by repeat (first | exact HM.out | apply blocking_Joins_loop.Inv.drewN | apply blocking_Joins_loop.Inv.drew)⟩, ⟨by repeat (first | (with_reducible first | exact HB.out | apply below_alloc | apply pw_below_drewN | apply below_drew1 | refine below_set ?_ GE253.out) | exact HB.out)⟩⟩
         ·have hci : decide ((i : Int) < (x5_1.length : Int)) = false := decide_eq_false (by omega)
          have HO_5 := Aside0.mk HM.out.nil
          have HO266 := Aside0.mk HM.out.2.2.2.2.2.1
          have HO269 := Aside0.mk HM.out.2.2.2.2.2.2.1
          have BK253 := Aside0.mk HM.out.2.2.2.2.2.2.2
          have hczL_0 : _ = some ((.int .i64 a0_0 : Value)) := (blk_cell BK253.out 0).trans rfl
          have hczL_1 : _ = some ((.int .i64 a0_1 : Value)) := (blk_cell BK253.out 1).trans rfl
          have hczL_2 : _ = some ((.int .i64 a0_2 : Value)) := (blk_cell BK253.out 2).trans rfl
          have hczL_3 : _ = some ((.int .i64 a0_3 : Value)) := (blk_cell BK253.out 3).trans rfl
          have hczL_4 : _ = some ((.int .i64 a0_4 : Value)) := (blk_cell BK253.out 4).trans rfl
          have hfzL_0 := blk_frozen BK253.out 0
          have hfzL_1 := blk_frozen BK253.out 1
          have hfzL_2 := blk_frozen BK253.out 2
          have hfzL_3 := blk_frozen BK253.out 3
          have hfzL_4 := blk_frozen BK253.out 4
          go_wp2_with (first | ((with_reducible refine gate_callee (f := 16) rfl ?_); refine goesL_ (some 33) rfl rfl Tryd.func16 (by kernel_rfl) rfl #[.agg #[.int .i64 a0_0, .int .i64 a0_1, .int .i64 a0_2, .int .i64 a0_3, .int .i64 a0_4], .slice Ao69 x5_1.length co69] rfl (by (try simp only [List.map_toArray, List.map_cons, List.map_nil]); first | done | rfl | (simp only [List.length_drop, List.length_take]; rfl)) ?_; (with_reducible refine (blocking_Join.calls k1 a0_0 a0_1 a0_2 a0_3 a0_4 _ _ x5_1 t264 t267 _ ?side1 ?side2 A13.out).mono ?_); (case side1 => repeat (first | exact (Kd.R_reads' HO_5.out).2.2 | (with_reducible refine Kd.C_alloc ?_ _) | (with_reducible refine Kd.C_drewN ?_ _) | (with_reducible refine Kd.C_drew ?_))); (case side2 => exact (Kd.R_reads' HO_5.out).2.1); rintro e w70 ⟨v265, v268, rfl, ho0, ho1, hb⟩; refine ⟨_, rfl, ?_⟩; replace ho0 := Kd.V_mono (ok' := fun k_ => _ ≤ k_) ho0 (fun _ hk => hk.1); have n0_ := Aside0.mk (Kd.R_below (by (with_reducible repeat (first | apply Kd.R_alloc | apply Kd.R_drewN | apply Kd.R_drew)); exact HO_5.out) hb); have n1_ := Aside0.mk (Kd.V_lower (Kd.V_mono (ok' := fun k_ => some k_ ≠ (.slice Ao69 x5_1.length co69 : Value).ownBlock ∧ k_ ≠ gb253) ho0 (fun k_ hk_ => ⟨(Kd.fresh' (Kd.R_lt (by (with_reducible repeat (first | apply Kd.R_alloc | apply Kd.R_drewN | apply Kd.R_drew)); exact HO_5.out)) k_ hk_), (Kd.freshB (g := gb253) (o := .cells #[.int .i64 a0_0, .int .i64 a0_1, .int .i64 a0_2, .int .i64 a0_3, .int .i64 a0_4] 23 (0, 0)) (by (with_reducible repeat (first | refine blk_drewN ?_ _ | refine blk_drew ?_ | refine blk_alloc ?_ _)); exact BK253.out) k_ hk_)⟩)) (below_size (by repeat (first | (with_reducible first | exact HB.out | apply below_alloc | apply pw_below_drewN | apply below_drew1 | refine below_set ?_ GE253.out) | exact HB.out)))); have n2_ := Aside0.mk (Kd.R_lower (Kd.R_mono (ok' := fun k_ => True) ho1 (fun _ hk_ => trivial)) (below_size (by repeat (first | (with_reducible first | exact HB.out | apply below_alloc | apply pw_below_drewN | apply below_drew1 | refine below_set ?_ GE253.out) | exact HB.out)))); have n3_ := Aside0.mk (blk_below (g := gb253) (o := .cells #[.int .i64 a0_0, .int .i64 a0_1, .int .i64 a0_2, .int .i64 a0_3, .int .i64 a0_4] 23 (0, 0)) (by (with_reducible repeat (first | refine blk_drewN ?_ _ | refine blk_drew ?_ | refine blk_alloc ?_ _)); exact BK253.out) hb); have n4_ := Aside0.mk (below_step (by repeat (first | (with_reducible first | exact HB.out | apply below_alloc | apply pw_below_drewN | apply below_drew1 | refine below_set ?_ GE253.out) | exact HB.out)) hb); clear HO_5; clear BK253; clear HB; have HO_5 := n0_; have HO266 := n1_; have HO269 := n2_; have BK253 := n3_; have HB := n4_; clear n0_ n1_ n2_ n3_ n4_; (try clear hb); (try clear hb2); (try clear hk); (try clear hi); (try clear ho0); (try clear ho1); have hcz71_0 : w70.cell? ⟨gb253, 0, none⟩ = some (.int .i64 a0_0) := (blk_cell BK253.out 0).trans rfl; have hcz71_1 : w70.cell? ⟨gb253, 1, none⟩ = some (.int .i64 a0_1) := (blk_cell BK253.out 1).trans rfl; have hcz71_2 : w70.cell? ⟨gb253, 2, none⟩ = some (.int .i64 a0_2) := (blk_cell BK253.out 2).trans rfl; have hcz71_3 : w70.cell? ⟨gb253, 3, none⟩ = some (.int .i64 a0_3) := (blk_cell BK253.out 3).trans rfl; have hcz71_4 : w70.cell? ⟨gb253, 4, none⟩ = some (.int .i64 a0_4) := (blk_cell BK253.out 4).trans rfl; have hfz71_0 := blk_frozen BK253.out 0; have hfz71_1 := blk_frozen BK253.out 1; have hfz71_2 := blk_frozen BK253.out 2; have hfz71_3 := blk_frozen BK253.out 3; have hfz71_4 := blk_frozen BK253.out 4) | ((with_reducible refine gate_callee (f := 11) rfl ?_); refine goesL_ (some 84) rfl rfl Tryd.func11 (by kernel_rfl) rfl #[.agg #[.int .i64 a0_0, .int .i64 a0_1, .int .i64 a0_2, .int .i64 a0_3, .int .i64 a0_4]] rfl (by (try simp only [List.map_toArray, List.map_cons, List.map_nil]); first | done | rfl | (simp only [List.length_drop, List.length_take]; rfl)) ?_; (with_reducible refine (geyserref14_Check.calls k1 a0_0 a0_1 a0_2 a0_3 a0_4 t270 _ A14.out).mono ?_); rintro e w72 ⟨rfl, hb⟩; refine ⟨_, rfl, ?_⟩; have n0_ := Aside0.mk (Kd.R_below (by (with_reducible repeat (first | apply Kd.R_alloc | apply Kd.R_drewN | apply Kd.R_drew)); exact HO_5.out) hb); have n1_ := Aside0.mk (Kd.V_below (by (with_reducible repeat (first | apply Kd.V_alloc | apply Kd.V_drewN | apply Kd.V_drew)); exact HO266.out) hb); have n2_ := Aside0.mk (Kd.R_below (by (with_reducible repeat (first | apply Kd.R_alloc | apply Kd.R_drewN | apply Kd.R_drew)); exact HO269.out) hb); have n3_ := Aside0.mk (blk_below (g := gb253) (o := .cells #[.int .i64 a0_0, .int .i64 a0_1, .int .i64 a0_2, .int .i64 a0_3, .int .i64 a0_4] 23 (0, 0)) (by (with_reducible repeat (first | refine blk_drewN ?_ _ | refine blk_drew ?_ | refine blk_alloc ?_ _)); exact BK253.out) hb); have n4_ := Aside0.mk (below_step (by repeat (first | (with_reducible first | exact HB.out | apply below_alloc | apply pw_below_drewN | apply below_drew1 | refine below_set ?_ GE253.out) | exact HB.out)) hb); clear HO_5; clear HO266; clear HO269; clear BK253; clear HB; have HO_5 := n0_; have HO266 := n1_; have HO269 := n2_; have BK253 := n3_; have HB := n4_; clear n0_ n1_ n2_ n3_ n4_; (try clear hb); (try clear hb2); (try clear hk); (try clear hi); obtain ⟨Ao73, co73, eo73⟩ := Kd.R_slice HO269.out; subst eo73) | ((with_reducible refine gate_callee (f := 9) rfl ?_); refine goesL_ (some 89) rfl rfl Tryd.func9 (by kernel_rfl) rfl #[errOf (.slice Ao73 t267.length co73), .int .i64 t270, .string (⟨#[98, 108, 111, 99, 107, 105, 110, 103, 46, 74, 111, 105, 110]⟩ : ByteArray)] rfl (by (try simp only [List.map_toArray, List.map_cons, List.map_nil]); first | done | rfl | (simp only [List.length_drop, List.length_take]; rfl)) ?_; (with_reducible refine (geyserlaw14_tells.calls _ _ t267 t270 (⟨#[98, 108, 111, 99, 107, 105, 110, 103, 46, 74, 111, 105, 110]⟩ : ByteArray) true _ ?side1 ?side2 ?side3 A55.out).mono ?_); (case side1 => first | exact HEI.out | exact ErrIn.below HEI.out (by repeat (first | (with_reducible first | exact HB.out | apply below_alloc | apply pw_below_drewN | apply below_drew1 | refine below_set ?_ GE253.out) | exact HB.out)) | (repeat (first | apply ErrIn.drewN | apply ErrIn.drew | exact HEI.out))); (case side2 => repeat (first | exact (Kd.R_reads' HO269.out).2.2 | (with_reducible refine Kd.C_alloc ?_ _) | (with_reducible refine Kd.C_drewN ?_ _) | (with_reducible refine Kd.C_drew ?_))); (case side3 => exact (Kd.R_reads' HO269.out).2.1); rintro e w74 ⟨rfl, hb⟩; refine ⟨_, rfl, ?_⟩; have n0_ := Aside0.mk (Kd.R_below (by (with_reducible repeat (first | apply Kd.R_alloc | apply Kd.R_drewN | apply Kd.R_drew)); exact HO_5.out) hb); have n1_ := Aside0.mk (Kd.V_below (by (with_reducible repeat (first | apply Kd.V_alloc | apply Kd.V_drewN | apply Kd.V_drew)); exact HO266.out) hb); have n2_ := Aside0.mk (Kd.R_below (by (with_reducible repeat (first | apply Kd.R_alloc | apply Kd.R_drewN | apply Kd.R_drew)); exact HO269.out) hb); have n3_ := Aside0.mk (blk_below (g := gb253) (o := .cells #[.int .i64 a0_0, .int .i64 a0_1, .int .i64 a0_2, .int .i64 a0_3, .int .i64 a0_4] 23 (0, 0)) (by (with_reducible repeat (first | refine blk_drewN ?_ _ | refine blk_drew ?_ | refine blk_alloc ?_ _)); exact BK253.out) hb); have n4_ := Aside0.mk (below_step (by repeat (first | (with_reducible first | exact HB.out | apply below_alloc | apply pw_below_drewN | apply below_drew1 | refine below_set ?_ GE253.out) | exact HB.out)) hb); clear HO_5; clear HO266; clear HO269; clear BK253; clear HB; have HO_5 := n0_; have HO266 := n1_; have HO269 := n2_; have BK253 := n3_; have HB := n4_; clear n0_ n1_ n2_ n3_ n4_; (try clear hb); (try clear hb2); (try clear hk); (try clear hi); obtain ⟨Ao75, co75, eo75⟩ := Kd.V_slice HO266.out; subst eo75)) -- behind
          go_ret
          exact ⟨by first | rfl | (simp [errW_none, errW_some] <;> rfl) | (simp [*, errW_none, errW_some] <;> rfl), by repeat (first | (with_reducible first | exact HB.out | apply below_alloc | apply pw_below_drewN | apply below_drew1 | refine below_set ?_ GE253.out) | exact HB.out)⟩
     ·replace c56 := Bool.eq_false_iff.mpr c56
      subst c56
      have H1 : (some false) = some r := by rw [if_neg (show ¬ (false = true) by decide)] at H; exact H
      clear H
      have H := H1
      clear H1
      obtain rfl := Option.some.inj H
      have hcz76_0 : wr.cell? ⟨gb253, 0, none⟩ = some (.int .i64 a0_0) := (blk_cell BK253.out 0).trans rfl
      have hcz76_1 : wr.cell? ⟨gb253, 1, none⟩ = some (.int .i64 a0_1) := (blk_cell BK253.out 1).trans rfl
      have hcz76_2 : wr.cell? ⟨gb253, 2, none⟩ = some (.int .i64 a0_2) := (blk_cell BK253.out 2).trans rfl
      have hcz76_3 : wr.cell? ⟨gb253, 3, none⟩ = some (.int .i64 a0_3) := (blk_cell BK253.out 3).trans rfl
      have hcz76_4 : wr.cell? ⟨gb253, 4, none⟩ = some (.int .i64 a0_4) := (blk_cell BK253.out 4).trans rfl
      have hfz76_0 := blk_frozen BK253.out 0
      have hfz76_1 := blk_frozen BK253.out 1
      have hfz76_2 := blk_frozen BK253.out 2
      have hfz76_3 := blk_frozen BK253.out 3
      have hfz76_4 := blk_frozen BK253.out 4
      obtain ⟨Ao77, co77, eo77⟩ := Kd.R_slice HO_5.out
      subst eo77
      go_wp2_with (first | ((with_reducible refine gate_callee (f := 16) rfl ?_); refine goesL_ (some 33) rfl rfl Tryd.func16 (by kernel_rfl) rfl #[.agg #[.int .i64 a0_0, .int .i64 a0_1, .int .i64 a0_2, .int .i64 a0_3, .int .i64 a0_4], .slice Ao77 x5_1.length co77] rfl (by (try simp only [List.map_toArray, List.map_cons, List.map_nil]); first | done | rfl | (simp only [List.length_drop, List.length_take]; rfl)) ?_; (with_reducible refine (blocking_Join.calls k1 a0_0 a0_1 a0_2 a0_3 a0_4 _ _ x5_1 t264 t267 _ ?side1 ?side2 A13.out).mono ?_); (case side1 => repeat (first | exact (Kd.R_reads' HO_5.out).2.2 | (with_reducible refine Kd.C_alloc ?_ _) | (with_reducible refine Kd.C_drewN ?_ _) | (with_reducible refine Kd.C_drew ?_))); (case side2 => exact (Kd.R_reads' HO_5.out).2.1); rintro e w78 ⟨v265, v268, rfl, ho0, ho1, hb⟩; refine ⟨_, rfl, ?_⟩; have HI := Aside0.mk (blocking_Joins_loop.start (base := w.heap.size) (by (with_reducible repeat (first | apply Kd.R_alloc | apply Kd.R_drewN | apply Kd.R_drew)); exact HO_5.out) (by (with_reducible repeat (first | refine blk_drewN ?_ _ | refine blk_drew ?_ | refine blk_alloc ?_ _)); exact BK253.out) hb ho0 ho1 (below_size (by repeat (first | (with_reducible first | exact HB.out | apply below_alloc | apply pw_below_drewN | apply below_drew1 | refine below_set ?_ GE253.out) | exact HB.out)))); replace ho0 := Kd.V_mono (ok' := fun k_ => _ ≤ k_) ho0 (fun _ hk => hk.1); have n0_ := Aside0.mk (Kd.R_below (by (with_reducible repeat (first | apply Kd.R_alloc | apply Kd.R_drewN | apply Kd.R_drew)); exact HO_5.out) hb); have n1_ := Aside0.mk (Kd.V_lower (Kd.V_mono (ok' := fun k_ => some k_ ≠ (.slice Ao77 x5_1.length co77 : Value).ownBlock ∧ k_ ≠ gb253) ho0 (fun k_ hk_ => ⟨(Kd.fresh' (Kd.R_lt (by (with_reducible repeat (first | apply Kd.R_alloc | apply Kd.R_drewN | apply Kd.R_drew)); exact HO_5.out)) k_ hk_), (Kd.freshB (g := gb253) (o := .cells #[.int .i64 a0_0, .int .i64 a0_1, .int .i64 a0_2, .int .i64 a0_3, .int .i64 a0_4] 23 (0, 0)) (by (with_reducible repeat (first | refine blk_drewN ?_ _ | refine blk_drew ?_ | refine blk_alloc ?_ _)); exact BK253.out) k_ hk_)⟩)) (below_size (by repeat (first | (with_reducible first | exact HB.out | apply below_alloc | apply pw_below_drewN | apply below_drew1 | refine below_set ?_ GE253.out) | exact HB.out)))); have n2_ := Aside0.mk (Kd.R_lower (Kd.R_mono (ok' := fun k_ => True) ho1 (fun _ hk_ => trivial)) (below_size (by repeat (first | (with_reducible first | exact HB.out | apply below_alloc | apply pw_below_drewN | apply below_drew1 | refine below_set ?_ GE253.out) | exact HB.out)))); have n3_ := Aside0.mk (blk_below (g := gb253) (o := .cells #[.int .i64 a0_0, .int .i64 a0_1, .int .i64 a0_2, .int .i64 a0_3, .int .i64 a0_4] 23 (0, 0)) (by (with_reducible repeat (first | refine blk_drewN ?_ _ | refine blk_drew ?_ | refine blk_alloc ?_ _)); exact BK253.out) hb); have n4_ := Aside0.mk (below_step (by repeat (first | (with_reducible first | exact HB.out | apply below_alloc | apply pw_below_drewN | apply below_drew1 | refine below_set ?_ GE253.out) | exact HB.out)) hb); clear HO_5; clear BK253; clear HB; have HO_5 := n0_; have HO266 := n1_; have HO269 := n2_; have BK253 := n3_; have HB := n4_; clear n0_ n1_ n2_ n3_ n4_; (try clear hb); (try clear hb2); (try clear hk); (try clear hi); (try clear ho0); (try clear ho1); have hcz79_0 : w78.cell? ⟨gb253, 0, none⟩ = some (.int .i64 a0_0) := (blk_cell BK253.out 0).trans rfl; have hcz79_1 : w78.cell? ⟨gb253, 1, none⟩ = some (.int .i64 a0_1) := (blk_cell BK253.out 1).trans rfl; have hcz79_2 : w78.cell? ⟨gb253, 2, none⟩ = some (.int .i64 a0_2) := (blk_cell BK253.out 2).trans rfl; have hcz79_3 : w78.cell? ⟨gb253, 3, none⟩ = some (.int .i64 a0_3) := (blk_cell BK253.out 3).trans rfl; have hcz79_4 : w78.cell? ⟨gb253, 4, none⟩ = some (.int .i64 a0_4) := (blk_cell BK253.out 4).trans rfl; have hfz79_0 := blk_frozen BK253.out 0; have hfz79_1 := blk_frozen BK253.out 1; have hfz79_2 := blk_frozen BK253.out 2; have hfz79_3 := blk_frozen BK253.out 3; have hfz79_4 := blk_frozen BK253.out 4) | ((with_reducible refine gate_callee (f := 11) rfl ?_); refine goesL_ (some 84) rfl rfl Tryd.func11 (by kernel_rfl) rfl #[.agg #[.int .i64 a0_0, .int .i64 a0_1, .int .i64 a0_2, .int .i64 a0_3, .int .i64 a0_4]] rfl (by (try simp only [List.map_toArray, List.map_cons, List.map_nil]); first | done | rfl | (simp only [List.length_drop, List.length_take]; rfl)) ?_; (with_reducible refine (geyserref14_Check.calls k1 a0_0 a0_1 a0_2 a0_3 a0_4 t270 _ A14.out).mono ?_); rintro e w80 ⟨rfl, hb⟩; refine ⟨_, rfl, ?_⟩; have n0_ := Aside0.mk (Kd.R_below (by (with_reducible repeat (first | apply Kd.R_alloc | apply Kd.R_drewN | apply Kd.R_drew)); exact HO_5.out) hb); have n1_ := Aside0.mk (Kd.V_below (by (with_reducible repeat (first | apply Kd.V_alloc | apply Kd.V_drewN | apply Kd.V_drew)); exact HO266.out) hb); have n2_ := Aside0.mk (Kd.R_below (by (with_reducible repeat (first | apply Kd.R_alloc | apply Kd.R_drewN | apply Kd.R_drew)); exact HO269.out) hb); have n3_ := Aside0.mk (blk_below (g := gb253) (o := .cells #[.int .i64 a0_0, .int .i64 a0_1, .int .i64 a0_2, .int .i64 a0_3, .int .i64 a0_4] 23 (0, 0)) (by (with_reducible repeat (first | refine blk_drewN ?_ _ | refine blk_drew ?_ | refine blk_alloc ?_ _)); exact BK253.out) hb); have n4_ := Aside0.mk (below_step (by repeat (first | (with_reducible first | exact HB.out | apply below_alloc | apply pw_below_drewN | apply below_drew1 | refine below_set ?_ GE253.out) | exact HB.out)) hb); clear HO_5; clear HO266; clear HO269; clear BK253; clear HB; have HO_5 := n0_; have HO266 := n1_; have HO269 := n2_; have BK253 := n3_; have HB := n4_; clear n0_ n1_ n2_ n3_ n4_; (try clear hb); (try clear hb2); (try clear hk); (try clear hi); obtain ⟨Ao81, co81, eo81⟩ := Kd.R_slice HO269.out; subst eo81) | ((with_reducible refine gate_callee (f := 9) rfl ?_); refine goesL_ (some 89) rfl rfl Tryd.func9 (by kernel_rfl) rfl #[errOf (.slice Ao81 t267.length co81), .int .i64 t270, .string (⟨#[98, 108, 111, 99, 107, 105, 110, 103, 46, 74, 111, 105, 110]⟩ : ByteArray)] rfl (by (try simp only [List.map_toArray, List.map_cons, List.map_nil]); first | done | rfl | (simp only [List.length_drop, List.length_take]; rfl)) ?_; (with_reducible refine (geyserlaw14_tells.calls _ _ t267 t270 (⟨#[98, 108, 111, 99, 107, 105, 110, 103, 46, 74, 111, 105, 110]⟩ : ByteArray) false _ ?side1 ?side2 ?side3 A55.out).mono ?_); (case side1 => first | exact HEI.out | exact ErrIn.below HEI.out (by repeat (first | (with_reducible first | exact HB.out | apply below_alloc | apply pw_below_drewN | apply below_drew1 | refine below_set ?_ GE253.out) | exact HB.out)) | (repeat (first | apply ErrIn.drewN | apply ErrIn.drew | exact HEI.out))); (case side2 => repeat (first | exact (Kd.R_reads' HO269.out).2.2 | (with_reducible refine Kd.C_alloc ?_ _) | (with_reducible refine Kd.C_drewN ?_ _) | (with_reducible refine Kd.C_drew ?_))); (case side3 => exact (Kd.R_reads' HO269.out).2.1); rintro e w82 ⟨rfl, hb⟩; refine ⟨_, rfl, ?_⟩; have n0_ := Aside0.mk (Kd.R_below (by (with_reducible repeat (first | apply Kd.R_alloc | apply Kd.R_drewN | apply Kd.R_drew)); exact HO_5.out) hb); have n1_ := Aside0.mk (Kd.V_below (by (with_reducible repeat (first | apply Kd.V_alloc | apply Kd.V_drewN | apply Kd.V_drew)); exact HO266.out) hb); have n2_ := Aside0.mk (Kd.R_below (by (with_reducible repeat (first | apply Kd.R_alloc | apply Kd.R_drewN | apply Kd.R_drew)); exact HO269.out) hb); have n3_ := Aside0.mk (blk_below (g := gb253) (o := .cells #[.int .i64 a0_0, .int .i64 a0_1, .int .i64 a0_2, .int .i64 a0_3, .int .i64 a0_4] 23 (0, 0)) (by (with_reducible repeat (first | refine blk_drewN ?_ _ | refine blk_drew ?_ | refine blk_alloc ?_ _)); exact BK253.out) hb); have n4_ := Aside0.mk (below_step (by repeat (first | (with_reducible first | exact HB.out | apply below_alloc | apply pw_below_drewN | apply below_drew1 | refine below_set ?_ GE253.out) | exact HB.out)) hb); clear HO_5; clear HO266; clear HO269; clear BK253; clear HB; have HO_5 := n0_; have HO266 := n1_; have HO269 := n2_; have BK253 := n3_; have HB := n4_; clear n0_ n1_ n2_ n3_ n4_; (try clear hb); (try clear hb2); (try clear hk); (try clear hi)))
      obtain ⟨mm, W00, HT0, HM0⟩ := HI.out
      have HT := Aside0.mk HT0
      have HM := Aside0.mk HM0
      clear HT0 HM0 HI
      go_loopg [9] (x5_1.length + 1) (fun kq v9 w' => ∃ i : Nat, v9 = .int .i64 (i : Int) ∧ Aside0 (kq + i = x5_1.length + 1 ∧ i ≤ x5_1.length) ∧ Aside0 (blocking_Joins_loop.Inv mm w.heap.size gb253 #[.int .i64 a0_0, .int .i64 a0_1, .int .i64 a0_2, .int .i64 a0_3, .int .i64 a0_4] W00 v265 t264 v268 t267 w') ∧ Aside0 (Below w.heap.size w w'))
      case atStart => exact ⟨0, rfl, ⟨by omega, by omega⟩, ⟨by repeat (first | exact HM.out | apply blocking_Joins_loop.Inv.drewN | apply blocking_Joins_loop.Inv.drew)⟩, ⟨by repeat (first | (with_reducible first | exact HB.out | apply below_alloc | apply pw_below_drewN | apply below_drew1 | refine below_set ?_ GE253.out) | exact HB.out)⟩⟩
      case round =>
       clear HB HM HO_5 HO266 HO269 BK253
       obtain ⟨i, rfl, HKi, HM, HB⟩ := hrel
       cases gk with
       | zero => exact absurd HKi.out.1 (by have := HKi.out.2; omega)
       | succ g1 =>
        by_cases hlt : i < x5_1.length
        ·have hci : decide ((i : Int) < (x5_1.length : Int)) = true := decide_eq_true (by omega)
         have hpi : (0 : Int) ≤ (i : Int) := by omega
         obtain ⟨g5, cells5, A6, n6, c6, hg5, hn5, hb5, hc5, hmid⟩ := HT.out.at_ hlt
         subst hg5
         have HB5 := Aside0.mk hb5
         have HC5 := Aside0.mk hc5
         have HD := Aside0.mk hmid
         have hn6 := hmid.1
         clear hb5 hc5 hmid
         have hx5 := HM.out.cell HB5.out (by decide) HC5.out
         go_wp2
         clear hx5
         go_loopg [10] (n6 + 1) (fun kq v10 w' => ∃ k : Nat, v10 = .int .i64 (k : Int) ∧ Aside0 (kq + k = n6 + 1 ∧ k ≤ n6) ∧ Aside0 (blocking_Joins_loop.Inv mm w.heap.size gb253 #[.int .i64 a0_0, .int .i64 a0_1, .int .i64 a0_2, .int .i64 a0_3, .int .i64 a0_4] W00 v265 t264 v268 t267 w') ∧ Aside0 (Below w.heap.size w w'))
         case atStart => exact ⟨0, rfl, ⟨by omega, by omega⟩, ⟨by repeat (first | exact HM.out | apply blocking_Joins_loop.Inv.drewN | apply blocking_Joins_loop.Inv.drew)⟩, ⟨by repeat (first | (with_reducible first | exact HB.out | apply below_alloc | apply pw_below_drewN | apply below_drew1 | refine below_set ?_ GE253.out) | exact HB.out)⟩⟩
         case round =>
          clear HB HM
          obtain ⟨k, rfl, HKk, HM, HB⟩ := hrel
          have hx5 := HM.out.cell HB5.out (by decide) HC5.out
          cases gk with
          | zero => exact absurd HKk.out.1 (by have := HKk.out.2; omega)
          | succ g2 =>
           by_cases hlt2 : k < n6
           ·have hck : decide ((k : Int) < (n6 : Int)) = true := decide_eq_true (by omega)
            have hpk : (0 : Int) ≤ (k : Int) := by omega
            obtain ⟨g6, cells6, A7, n7, c7, hg6, _, hb6, hc6, hleaf⟩ := HD.out.at_ hlt2
            subst hg6
            have HB6 := Aside0.mk hb6
            have HC6 := Aside0.mk hc6
            have HL := Aside0.mk hleaf
            have hn7 := hleaf.1
            clear hb6 hc6 hleaf
            have hx6 := HM.out.cell HB6.out (by decide) HC6.out
            go_wp2
            clear hx5 hx6
            go_loopg [11] (n7 + 1) (fun kq v11 w' => ∃ j : Nat, v11 = .int .i64 (j : Int) ∧ Aside0 (kq + j = n7 + 1 ∧ j ≤ n7) ∧ Aside0 (blocking_Joins_loop.Inv mm w.heap.size gb253 #[.int .i64 a0_0, .int .i64 a0_1, .int .i64 a0_2, .int .i64 a0_3, .int .i64 a0_4] W00 v265 t264 v268 t267 w') ∧ Aside0 (Below w.heap.size w w'))
            case atStart => exact ⟨0, rfl, ⟨by omega, by omega⟩, ⟨by repeat (first | exact HM.out | apply blocking_Joins_loop.Inv.drewN | apply blocking_Joins_loop.Inv.drew)⟩, ⟨by repeat (first | (with_reducible first | exact HB.out | apply below_alloc | apply pw_below_drewN | apply below_drew1 | refine below_set ?_ GE253.out) | exact HB.out)⟩⟩
            case round =>
             clear HB HM
             obtain ⟨j, rfl, HKj, HM, HB⟩ := hrel
             have hx5 := HM.out.cell HB5.out (by decide) HC5.out
             have hx6 := HM.out.cell HB6.out (by decide) HC6.out
             cases gk with
             | zero => exact absurd HKj.out.1 (by have := HKj.out.2; omega)
             | succ g3 =>
              by_cases hlt3 : j < n7
              ·have hcj : decide ((j : Int) < (n7 : Int)) = true := decide_eq_true (by omega)
               have hpj : (0 : Int) ≤ (j : Int) := by omega
               obtain ⟨g7, cells7, z7, hg7, _, hbase7, hm7, hb7, hc7⟩ := HL.out.at_ hlt3
               subst hg7
               obtain ⟨z8, cells8, hx7, hfr7, hblk7⟩ := HM.out.byte hb7 hc7
               have HZ := Aside0.mk hblk7
               have HG := Aside0.mk hm7
               have HE := Aside0.mk hbase7
               clear hblk7 hm7 hbase7 hb7 hc7
               go_wp2
               go_region
               go_wp2
               go_roundg g3
               case measure => have := HKj.out.1; omega
               case rel =>
                refine ⟨j + 1, by go_num, ⟨by have := HKj.out; omega, by omega⟩, ⟨?_⟩, ⟨?_⟩⟩
                ·exact (HM.out.store HZ.out HG.out _).drew
                ·exact below_drew (HB.out.setCell HE.out _)
              ·have hcj : decide ((j : Int) < (n7 : Int)) = false := decide_eq_false (by omega)
               go_wp2
               go_roundg g2
               case measure => have := HKk.out.1; omega
               case rel =>
                refine ⟨k + 1, by go_num, ⟨by have := HKk.out; omega, by omega⟩, ⟨by repeat (first | exact HM.out | apply blocking_Joins_loop.Inv.drewN | apply blocking_Joins_loop.Inv.drew)⟩, ⟨by repeat (first | (with_reducible first | exact HB.out | apply below_alloc | apply pw_below_drewN | apply below_drew1 | refine below_set ?_ GE253.out) | exact HB.out)⟩⟩
           ·have hck : decide ((k : Int) < (n6 : Int)) = false := decide_eq_false (by omega)
            go_wp2
            go_roundg g1
            case measure => have := HKi.out.1; omega
            case rel =>
             refine ⟨i + 1, by go_num, ⟨by have := HKi.out; omega, by omega⟩, ⟨by repeat (first | exact HM.out | apply blocking_Joins_loop.Inv.drewN | apply blocking_Joins_loop.Inv.drew)⟩, ⟨by repeat (first | (with_reducible first | exact HB.out | apply below_alloc | apply pw_below_drewN | apply below_drew1 | refine below_set ?_ GE253.out) | exact HB.out)⟩⟩
        ·have hci : decide ((i : Int) < (x5_1.length : Int)) = false := decide_eq_false (by omega)
         have HO_5 := Aside0.mk HM.out.nil
         have HO266 := Aside0.mk HM.out.2.2.2.2.2.1
         have HO269 := Aside0.mk HM.out.2.2.2.2.2.2.1
         have BK253 := Aside0.mk HM.out.2.2.2.2.2.2.2
         have hczL_0 : _ = some ((.int .i64 a0_0 : Value)) := (blk_cell BK253.out 0).trans rfl
         have hczL_1 : _ = some ((.int .i64 a0_1 : Value)) := (blk_cell BK253.out 1).trans rfl
         have hczL_2 : _ = some ((.int .i64 a0_2 : Value)) := (blk_cell BK253.out 2).trans rfl
         have hczL_3 : _ = some ((.int .i64 a0_3 : Value)) := (blk_cell BK253.out 3).trans rfl
         have hczL_4 : _ = some ((.int .i64 a0_4 : Value)) := (blk_cell BK253.out 4).trans rfl
         have hfzL_0 := blk_frozen BK253.out 0
         have hfzL_1 := blk_frozen BK253.out 1
         have hfzL_2 := blk_frozen BK253.out 2
         have hfzL_3 := blk_frozen BK253.out 3
         have hfzL_4 := blk_frozen BK253.out 4
         go_wp2_with (first | ((with_reducible refine gate_callee (f := 16) rfl ?_); refine goesL_ (some 33) rfl rfl Tryd.func16 (by kernel_rfl) rfl #[.agg #[.int .i64 a0_0, .int .i64 a0_1, .int .i64 a0_2, .int .i64 a0_3, .int .i64 a0_4], .slice Ao77 x5_1.length co77] rfl (by (try simp only [List.map_toArray, List.map_cons, List.map_nil]); first | done | rfl | (simp only [List.length_drop, List.length_take]; rfl)) ?_; (with_reducible refine (blocking_Join.calls k1 a0_0 a0_1 a0_2 a0_3 a0_4 _ _ x5_1 t264 t267 _ ?side1 ?side2 A13.out).mono ?_); (case side1 => repeat (first | exact (Kd.R_reads' HO_5.out).2.2 | (with_reducible refine Kd.C_alloc ?_ _) | (with_reducible refine Kd.C_drewN ?_ _) | (with_reducible refine Kd.C_drew ?_))); (case side2 => exact (Kd.R_reads' HO_5.out).2.1); rintro e w78 ⟨v265, v268, rfl, ho0, ho1, hb⟩; refine ⟨_, rfl, ?_⟩; replace ho0 := Kd.V_mono (ok' := fun k_ => _ ≤ k_) ho0 (fun _ hk => hk.1); have n0_ := Aside0.mk (Kd.R_below (by (with_reducible repeat (first | apply Kd.R_alloc | apply Kd.R_drewN | apply Kd.R_drew)); exact HO_5.out) hb); have n1_ := Aside0.mk (Kd.V_lower (Kd.V_mono (ok' := fun k_ => some k_ ≠ (.slice Ao77 x5_1.length co77 : Value).ownBlock ∧ k_ ≠ gb253) ho0 (fun k_ hk_ => ⟨(Kd.fresh' (Kd.R_lt (by (with_reducible repeat (first | apply Kd.R_alloc | apply Kd.R_drewN | apply Kd.R_drew)); exact HO_5.out)) k_ hk_), (Kd.freshB (g := gb253) (o := .cells #[.int .i64 a0_0, .int .i64 a0_1, .int .i64 a0_2, .int .i64 a0_3, .int .i64 a0_4] 23 (0, 0)) (by (with_reducible repeat (first | refine blk_drewN ?_ _ | refine blk_drew ?_ | refine blk_alloc ?_ _)); exact BK253.out) k_ hk_)⟩)) (below_size (by repeat (first | (with_reducible first | exact HB.out | apply below_alloc | apply pw_below_drewN | apply below_drew1 | refine below_set ?_ GE253.out) | exact HB.out)))); have n2_ := Aside0.mk (Kd.R_lower (Kd.R_mono (ok' := fun k_ => True) ho1 (fun _ hk_ => trivial)) (below_size (by repeat (first | (with_reducible first | exact HB.out | apply below_alloc | apply pw_below_drewN | apply below_drew1 | refine below_set ?_ GE253.out) | exact HB.out)))); have n3_ := Aside0.mk (blk_below (g := gb253) (o := .cells #[.int .i64 a0_0, .int .i64 a0_1, .int .i64 a0_2, .int .i64 a0_3, .int .i64 a0_4] 23 (0, 0)) (by (with_reducible repeat (first | refine blk_drewN ?_ _ | refine blk_drew ?_ | refine blk_alloc ?_ _)); exact BK253.out) hb); have n4_ := Aside0.mk (below_step (by repeat (first | (with_reducible first | exact HB.out | apply below_alloc | apply pw_below_drewN | apply below_drew1 | refine below_set ?_ GE253.out) | exact HB.out)) hb); clear HO_5; clear BK253; clear HB; have HO_5 := n0_; have HO266 := n1_; have HO269 := n2_; have BK253 := n3_; have HB := n4_; clear n0_ n1_ n2_ n3_ n4_; (try clear hb); (try clear hb2); (try clear hk); (try clear hi); (try clear ho0); (try clear ho1); have hcz79_0 : w78.cell? ⟨gb253, 0, none⟩ = some (.int .i64 a0_0) := (blk_cell BK253.out 0).trans rfl; have hcz79_1 : w78.cell? ⟨gb253, 1, none⟩ = some (.int .i64 a0_1) := (blk_cell BK253.out 1).trans rfl; have hcz79_2 : w78.cell? ⟨gb253, 2, none⟩ = some (.int .i64 a0_2) := (blk_cell BK253.out 2).trans rfl; have hcz79_3 : w78.cell? ⟨gb253, 3, none⟩ = some (.int .i64 a0_3) := (blk_cell BK253.out 3).trans rfl; have hcz79_4 : w78.cell? ⟨gb253, 4, none⟩ = some (.int .i64 a0_4) := (blk_cell BK253.out 4).trans rfl; have hfz79_0 := blk_frozen BK253.out 0; have hfz79_1 := blk_frozen BK253.out 1; have hfz79_2 := blk_frozen BK253.out 2; have hfz79_3 := blk_frozen BK253.out 3; have hfz79_4 := blk_frozen BK253.out 4) | ((with_reducible refine gate_callee (f := 11) rfl ?_); refine goesL_ (some 84) rfl rfl Tryd.func11 (by kernel_rfl) rfl #[.agg #[.int .i64 a0_0, .int .i64 a0_1, .int .i64 a0_2, .int .i64 a0_3, .int .i64 a0_4]] rfl (by (try simp only [List.map_toArray, List.map_cons, List.map_nil]); first | done | rfl | (simp only [List.length_drop, List.length_take]; rfl)) ?_; (with_reducible refine (geyserref14_Check.calls k1 a0_0 a0_1 a0_2 a0_3 a0_4 t270 _ A14.out).mono ?_); rintro e w80 ⟨rfl, hb⟩; refine ⟨_, rfl, ?_⟩; have n0_ := Aside0.mk (Kd.R_below (by (with_reducible repeat (first | apply Kd.R_alloc | apply Kd.R_drewN | apply Kd.R_drew)); exact HO_5.out) hb); have n1_ := Aside0.mk (Kd.V_below (by (with_reducible repeat (first | apply Kd.V_alloc | apply Kd.V_drewN | apply Kd.V_drew)); exact HO266.out) hb); have n2_ := Aside0.mk (Kd.R_below (by (with_reducible repeat (first | apply Kd.R_alloc | apply Kd.R_drewN | apply Kd.R_drew)); exact HO269.out) hb); have n3_ := Aside0.mk (blk_below (g := gb253) (o := .cells #[.int .i64 a0_0, .int .i64 a0_1, .int .i64 a0_2, .int .i64 a0_3, .int .i64 a0_4] 23 (0, 0)) (by (with_reducible repeat (first | refine blk_drewN ?_ _ | refine blk_drew ?_ | refine blk_alloc ?_ _)); exact BK253.out) hb); have n4_ := Aside0.mk (below_step (by repeat (first | (with_reducible first | exact HB.out | apply below_alloc | apply pw_below_drewN | apply below_drew1 | refine below_set ?_ GE253.out) | exact HB.out)) hb); clear HO_5; clear HO266; clear HO269; clear BK253; clear HB; have HO_5 := n0_; have HO266 := n1_; have HO269 := n2_; have BK253 := n3_; have HB := n4_; clear n0_ n1_ n2_ n3_ n4_; (try clear hb); (try clear hb2); (try clear hk); (try clear hi); obtain ⟨Ao81, co81, eo81⟩ := Kd.R_slice HO269.out; subst eo81) | ((with_reducible refine gate_callee (f := 9) rfl ?_); refine goesL_ (some 89) rfl rfl Tryd.func9 (by kernel_rfl) rfl #[errOf (.slice Ao81 t267.length co81), .int .i64 t270, .string (⟨#[98, 108, 111, 99, 107, 105, 110, 103, 46, 74, 111, 105, 110]⟩ : ByteArray)] rfl (by (try simp only [List.map_toArray, List.map_cons, List.map_nil]); first | done | rfl | (simp only [List.length_drop, List.length_take]; rfl)) ?_; (with_reducible refine (geyserlaw14_tells.calls _ _ t267 t270 (⟨#[98, 108, 111, 99, 107, 105, 110, 103, 46, 74, 111, 105, 110]⟩ : ByteArray) false _ ?side1 ?side2 ?side3 A55.out).mono ?_); (case side1 => first | exact HEI.out | exact ErrIn.below HEI.out (by repeat (first | (with_reducible first | exact HB.out | apply below_alloc | apply pw_below_drewN | apply below_drew1 | refine below_set ?_ GE253.out) | exact HB.out)) | (repeat (first | apply ErrIn.drewN | apply ErrIn.drew | exact HEI.out))); (case side2 => repeat (first | exact (Kd.R_reads' HO269.out).2.2 | (with_reducible refine Kd.C_alloc ?_ _) | (with_reducible refine Kd.C_drewN ?_ _) | (with_reducible refine Kd.C_drew ?_))); (case side3 => exact (Kd.R_reads' HO269.out).2.1); rintro e w82 ⟨rfl, hb⟩; refine ⟨_, rfl, ?_⟩; have n0_ := Aside0.mk (Kd.R_below (by (with_reducible repeat (first | apply Kd.R_alloc | apply Kd.R_drewN | apply Kd.R_drew)); exact HO_5.out) hb); have n1_ := Aside0.mk (Kd.V_below (by (with_reducible repeat (first | apply Kd.V_alloc | apply Kd.V_drewN | apply Kd.V_drew)); exact HO266.out) hb); have n2_ := Aside0.mk (Kd.R_below (by (with_reducible repeat (first | apply Kd.R_alloc | apply Kd.R_drewN | apply Kd.R_drew)); exact HO269.out) hb); have n3_ := Aside0.mk (blk_below (g := gb253) (o := .cells #[.int .i64 a0_0, .int .i64 a0_1, .int .i64 a0_2, .int .i64 a0_3, .int .i64 a0_4] 23 (0, 0)) (by (with_reducible repeat (first | refine blk_drewN ?_ _ | refine blk_drew ?_ | refine blk_alloc ?_ _)); exact BK253.out) hb); have n4_ := Aside0.mk (below_step (by repeat (first | (with_reducible first | exact HB.out | apply below_alloc | apply pw_below_drewN | apply below_drew1 | refine below_set ?_ GE253.out) | exact HB.out)) hb); clear HO_5; clear HO266; clear HO269; clear BK253; clear HB; have HO_5 := n0_; have HO266 := n1_; have HO269 := n2_; have BK253 := n3_; have HB := n4_; clear n0_ n1_ n2_ n3_ n4_; (try clear hb); (try clear hb2); (try clear hk); (try clear hi))) -- behind
         go_ret
         exact ⟨by first | rfl | (simp [errW_none, errW_some] <;> rfl) | (simp [*, errW_none, errW_some] <;> rfl), by repeat (first | (with_reducible first | exact HB.out | apply below_alloc | apply pw_below_drewN | apply below_drew1 | refine below_set ?_ GE253.out) | exact HB.out)⟩

end Go.Proofs.YtomeefngdnmdaaaDoor.P

namespace Go.Proofs.YtomeefngdnmdaaaDoor.Pure
open Go.RowKit Go.Proofs.YtomeefngdnmdaaaDoor.P Go.Proofs.YtomeefngdnmdaaaDoorW.PrintWords Go.Proofs.YtomeefngdnmdaaaDoorW.PrintLast Go.Proofs.YtomeefngdnmdaaaDoorW.PrintErr Go.Proofs.YtomeefngdnmdaaaDoorW.PrintMore
set_option linter.unusedVariables false
set_option linter.unusedSimpArgs false
theorem join_l1 (s b B r q : Int) (bs : List (List (List Int))) (i : Int) (v : List Int × List FE) (S : List (List Int)) : ∀ (P : List (List Int)) (acc : List Int), (∀ x ∈ S, (x.length : Int) = b) → (P ++ S).length < 5864062014805 → (acc ++ S.flatten).length < 140737488355328 →
    Ev (fun k => blocking_Join.l0 k (acc ++ S.flatten) bs B (wrap64 (i + 1)) s b B r q) v →
    Ev (fun k => blocking_Join.l1 k acc bs B i (P ++ S) ((P ++ S).length : Int) (P.length : Int) s b B r q) v := by
  induction S with
  | nil =>
    intro P acc _ hP _ h
    refine Ev.step (fun k => ?_) h
    rw [blocking_Join.l1, if_neg (by simp)]
    simp
  | cons x S ih =>
    intro P acc hx hP ha h
    have hl : (P ++ x :: S).length = P.length + (S.length + 1) := by simp
    have e1 : P ++ [x] ++ S = P ++ x :: S := by simp
    have e2 : ((P ++ [x]).length : Int) = wrap64 ((P.length : Int) + 1) := by rw [w64s (by omega) (by omega)]; simp
    have e3 : acc ++ x ++ S.flatten = acc ++ (x :: S).flatten := by simp
    have h' := ih (P ++ [x]) (acc ++ x) (fun y hy => hx y (List.mem_cons_of_mem _ hy)) (by rw [e1]; exact hP) (by rw [e3]; exact ha) (by rw [e3]; exact h)
    rw [e1, e2] at h'
    have hb := hx x (by simp)
    have hroom : acc.length + x.length < 140737488355328 := by
      rw [List.length_append, List.flatten_cons, List.length_append] at ha
      omega
    refine Ev.step (fun k => ?_) h'
    rw [blocking_Join.l1, if_pos (by omega), if_pos (by omega), rd_row, if_pos (by omega), if_pos hb, if_pos hroom]
theorem rcheck_l0 (n : Int) (S : List (List Int)) : ∀ P : List (List Int), (P ++ S).length < 9223372036854775807 →
    Ev (fun k => geyserref04_Check.l0 k (P ++ S) n (P.length : Int)) (if ∀ s ∈ S, (s.length : Int) = n then 0 else 2) := by
  induction S with
  | nil =>
    intro P hP
    refine Ev.step (f := fun _ => some 0) (fun k => ?_) (Ev.now _)
    rw [geyserref04_Check.l0, if_neg (by simp)]
  | cons s S ih =>
    intro P hP
    have hl : (P ++ s :: S).length = P.length + (S.length + 1) := by simp
    by_cases hs : (s.length : Int) = n
    · have h' := ih (P ++ [s]) (by simpa using hP)
      have e1 : P ++ [s] ++ S = P ++ s :: S := by simp
      have e2 : ((P ++ [s]).length : Int) = wrap64 ((P.length : Int) + 1) := by rw [w64s (by omega) (by omega)]; simp
      have e3 : (if ∀ t ∈ s :: S, (t.length : Int) = n then (0 : Int) else 2) = (if ∀ t ∈ S, (t.length : Int) = n then 0 else 2) := by
        simp [hs]
      rw [e1, e2] at h'
      rw [e3]
      refine Ev.step (fun k => ?_) h'
      rw [geyserref04_Check.l0, if_pos (by omega), if_pos (by omega), rd_row, if_pos hs]
    · have e3 : (if ∀ t ∈ s :: S, (t.length : Int) = n then (0 : Int) else 2) = 2 := if_neg (fun h => hs (h s (by simp)))
      rw [e3]
      refine Ev.step (f := fun _ => some 2) (fun k => ?_) (Ev.now _)
      rw [geyserref04_Check.l0, if_pos (by omega), if_pos (by omega), rd_row, if_neg hs]
theorem rcheck_ev (l : List (List Int)) (n : Int) (hl : l.length < 9223372036854775807) : Ev (fun k => geyserref04_Check.f k l n) (sizeBad l n) := by
  unfold geyserref04_Check.f sizeBad
  by_cases h1 : n < 1
  · rw [if_pos (.inl h1)]
    refine Ev.step (f := fun _ => some 1) (fun k => ?_) (Ev.now _)
    rw [if_pos h1, geyserref04_Check.j0, if_pos rfl]
  · by_cases h2 : n > 64
    · rw [if_pos (.inr h2)]
      refine Ev.step (f := fun _ => some 1) (fun k => ?_) (Ev.now _)
      rw [if_neg h1, decide_eq_true h2, geyserref04_Check.j0, if_pos rfl]
    · rw [if_neg (by omega)]
      have := rcheck_l0 n l [] (by simpa using hl)
      refine Ev.step (fun k => ?_) this
      rw [if_neg h1, decide_eq_false h2, geyserref04_Check.j0, if_neg (by simp)]
      rfl
theorem rcopy_l0 (S : List (List Int)) : ∀ P : List (List Int), (P ++ S).length < 5864062014805 → (∀ s ∈ S, s.length < 140737488355328) →
    Ev (fun k => geyserref04_Copy.l0 k (P ++ S) P (P.length : Int)) (P ++ S) := by
  induction S with
  | nil =>
    intro P hP _
    rw [List.append_nil]
    refine Ev.step (f := fun _ => some P) (fun k => ?_) (Ev.now _)
    rw [geyserref04_Copy.l0, if_neg (by simp)]
  | cons s S ih =>
    intro P hP hS
    have hl : (P ++ s :: S).length = P.length + (S.length + 1) := by simp
    have h' := ih (P ++ [s]) (by simpa using hP) (fun t ht => hS t (by simp [ht]))
    have e1 : P ++ [s] ++ S = P ++ s :: S := by simp
    have e2 : ((P ++ [s]).length : Int) = wrap64 ((P.length : Int) + 1) := by rw [w64s (by omega) (by omega)]; simp
    rw [e1, e2] at h'
    have hs := hS s (by simp)
    refine Ev.step (fun k => ?_) h'
    rw [geyserref04_Copy.l0, if_pos (by omega)]
    simp only [Option.bind_some, List.nil_append, List.length_nil]
    rw [if_pos (by omega), rd_row, if_pos (by omega), if_pos (by omega)]
theorem rcopy_ev (l : List (List Int)) (hl : l.length < 5864062014805) (h : ∀ s ∈ l, s.length < 140737488355328) : Ev (fun k => geyserref04_Copy.f k l) l := by
  have := rcopy_l0 l [] (by simpa using hl) h
  exact this
def joinName : ByteArray := ⟨#[98, 108, 111, 99, 107, 105, 110, 103, 46, 74, 111, 105, 110]⟩
def joinS (s r q b : Int) : List Int → Int → List (List (List Int)) → Option (List Int)
  | acc, _, [] => if allZero (acc.drop s.toNat) = true then some (acc.take s.toNat) else none
  | acc, i, x :: S => if (x.length : Int) = src r q i then (if ∀ y ∈ x, (y.length : Int) = b then joinS s r q b (acc ++ x.flatten) (i + 1) S else none) else none
def oI : Option (List Int) → List Int × List FE
  | none => ([], [⟨joinName, true, 2⟩])
  | some v => (v, [])
def oR : Option (List Int) → List Int × Int
  | none => ([], 2)
  | some v => (v, 0)
theorem flat_len (b : Nat) : ∀ (x : List (List Int)), (∀ y ∈ x, (y.length : Int) = (b : Int)) → x.flatten.length = x.length * b
  | [], _ => by simp
  | y :: x, h => by
    have h1 := h y (by simp)
    have h2 := flat_len b x (fun z hz => h z (List.mem_cons_of_mem _ hz))
    rw [List.flatten_cons, List.length_append, h2, List.length_cons, Nat.succ_mul]
    omega
theorem join_l1_bad (s b B r q : Int) (hb : b ≤ 64) (bs : List (List (List Int))) (i : Int) (S : List (List Int)) : ∀ (P : List (List Int)) (acc : List Int), (¬ ∀ y ∈ S, (y.length : Int) = b) → (P ++ S).length < 1000 → acc.length + 64 * S.length < 1000000000 →
    Ev (fun k => blocking_Join.l1 k acc bs B i (P ++ S) ((P ++ S).length : Int) (P.length : Int) s b B r q) ([], [⟨joinName, true, 2⟩]) := by
  induction S with
  | nil => intro P acc hx _ _; exact absurd (fun y hy => by cases hy) hx
  | cons x S ih =>
    intro P acc hx hP ha
    have hl : (P ++ x :: S).length = P.length + (S.length + 1) := by simp
    rw [List.length_cons] at ha
    by_cases hb' : (x.length : Int) = b
    · have e1 : P ++ [x] ++ S = P ++ x :: S := by simp
      have e2 : ((P ++ [x]).length : Int) = wrap64 ((P.length : Int) + 1) := by rw [w64s (by omega) (by omega)]; simp
      have hx' : ¬ ∀ y ∈ S, (y.length : Int) = b := fun h => hx (fun y hy => by
        rcases List.mem_cons.1 hy with rfl | hy
        · exact hb'
        · exact h y hy)
      have h' := ih (P ++ [x]) (acc ++ x) hx' (by rw [e1]; exact hP) (by rw [List.length_append]; omega)
      rw [e1, e2] at h'
      have hroom : acc.length + x.length < 140737488355328 := by omega
      refine Ev.step (fun k => ?_) h'
      rw [blocking_Join.l1, if_pos (by omega), if_pos (by omega), rd_row, if_pos (by omega), if_pos hb', if_pos hroom]
    · refine Ev.step (f := fun _ => some ([], [⟨joinName, true, 2⟩])) (fun k => ?_) (Ev.now _)
      rw [blocking_Join.l1, if_pos (by omega), if_pos (by omega), rd_row, if_pos (by omega), if_neg hb']
      rfl
theorem ji_step (k : Nat) (acc : List Int) (bs : List (List (List Int))) (N i s b B r q n : Int) (blk : List (List Int)) (c1 : i < N) (c2 : 0 ≤ i) (c3 : i < (bs.length : Int)) (hrd : rd_Lssu8 bs i = blk) (hs : blocking_source.f s b B r q i = some n) :
    blocking_Join.l0 (k + 1) acc bs N i s b B r q = if (blk.length : Int) = n then blocking_Join.l1 k acc bs N i blk (blk.length : Int) 0 s b B r q else some ([], [⟨joinName, true, 2⟩]) := by
  rw [blocking_Join.l0, if_pos c1, if_pos c2, if_pos c3, hs]
  simp only [Option.bind_some]
  rw [hrd]
  rfl
theorem ji_end (k : Nat) (acc : List Int) (bs : List (List (List Int))) (N i s b B r q : Int) (c1 : ¬ i < N) (h0 : 0 ≤ s) (h1 : s ≤ (acc.length : Int)) (hz : symbol_Zero.f k (acc.drop s.toNat) = some (allZero (acc.drop s.toNat))) :
    blocking_Join.l0 (k + 1) acc bs N i s b B r q = some (oI (if allZero (acc.drop s.toNat) = true then some (acc.take s.toNat) else none)) := by
  rw [blocking_Join.l0, if_neg c1, if_pos h0, if_pos h1, hz]
  simp only [Option.bind_some]
  split <;> rfl
theorem ji_l0 (s B r q : Int) (bn M : Nat) (hq0 : 0 ≤ q) (hq : q ≤ 128) (hB : B ≤ 16) (hb1 : 1 ≤ bn) (hb : bn ≤ 64) (hs0 : 0 ≤ s) (hs : s ≤ (M : Int)) (hM : M < 10000000) : ∀ (S : List (List (List Int))) (P : List (List (List Int))) (acc : List Int), (P.length : Int) + S.length = B → acc.length + tot r q S.length (P.length : Int) * bn = M →
    Ev (fun k => blocking_Join.l0 k acc (P ++ S) B (P.length : Int) s (bn : Int) B r q) (oI (joinS s r q (bn : Int) acc (P.length : Int) S)) := by
  intro S
  induction S with
  | nil =>
    intro P acc hd hA
    simp only [List.length_nil, tot, Nat.zero_mul, Nat.add_zero] at hA
    rw [joinS]
    obtain ⟨K, hK⟩ := zero_ev (acc.drop s.toNat) (by rw [List.length_drop]; omega)
    refine ⟨K + 1, fun k hk => ?_⟩
    obtain ⟨m, rfl⟩ : ∃ m, k = m + 1 := ⟨k - 1, by omega⟩
    exact ji_end m acc _ B _ s _ B r q (by simp at hd; omega) hs0 (by omega) (hK m (by omega))
  | cons x S ih =>
    intro P acc hd hA
    rw [List.length_cons] at hd
    have hp := src_pos r q (P.length : Int) hq0
    have hsl : src r q (P.length : Int) ≤ 129 := by unfold src; split <;> omega
    have hrd : rd_Lssu8 (P ++ x :: S) (P.length : Int) = x := rd_row3 P x S
    have hc1 : (P.length : Int) < B := by clear hA ih; omega
    have hc3 : (P.length : Int) < ((P ++ x :: S).length : Int) := by rw [List.length_append, List.length_cons]; clear hA ih; omega
    have hst := fun k => ji_step k acc (P ++ x :: S) B (P.length : Int) s (bn : Int) B r q (src r q (P.length : Int)) x hc1 (Int.natCast_nonneg _) hc3 hrd (src_eq s _ B r q _ hq0 hq)
    rw [joinS]
    by_cases h1 : (x.length : Int) = src r q (P.length : Int)
    · rw [if_pos h1]
      rw [List.length_cons, tot, Nat.add_mul] at hA
      have hxn : x.length = (src r q (P.length : Int)).toNat := by clear hA ih; omega
      by_cases h2 : ∀ y ∈ x, (y.length : Int) = (bn : Int)
      · rw [if_pos h2]
        have hfl := flat_len bn x h2
        have e1 : ((P ++ [x]).length : Int) = (P.length : Int) + 1 := by simp
        have e2 : wrap64 ((P.length : Int) + 1) = (P.length : Int) + 1 := by clear hA ih; exact w64s (by omega) (by omega)
        have h' := ih (P ++ [x]) (acc ++ x.flatten) (by rw [e1]; clear hA ih; omega) (by rw [e1, List.length_append, hfl, hxn]; clear ih; omega)
        rw [e1, List.append_assoc, List.singleton_append, ← e2] at h'
        have hlt : ([] ++ x).length < 5864062014805 := by rw [List.nil_append]; clear hA ih; omega
        have hle : (acc ++ x.flatten).length < 140737488355328 := by rw [List.length_append, hfl, hxn]; clear ih; omega
        have hj := join_l1 s (bn : Int) B r q (P ++ x :: S) (P.length : Int) _ x [] acc h2 hlt hle h'
        rw [List.nil_append] at hj
        rw [e2] at hj
        exact Ev.step (fun k => (hst k).trans (if_pos h1)) hj
      · rw [if_neg h2]
        have hj := join_l1_bad s (bn : Int) B r q (by clear hA ih; omega) (P ++ x :: S) (P.length : Int) x [] acc h2 (by rw [List.nil_append]; clear hA ih; omega) (by clear ih; omega)
        rw [List.nil_append] at hj
        exact Ev.step (fun k => (hst k).trans (if_pos h1)) hj
    · rw [if_neg h1]
      refine Ev.step (f := fun _ => some ([], [⟨joinName, true, 2⟩])) (fun k => (hst k).trans (if_neg h1)) (Ev.now _)
theorem rsrc_eqJ (s b n r q i : Int) (h0 : 0 ≤ q) (h1 : q ≤ 128) : geyserref14_Source.f s b n r q i = some (src r q i) := by
  unfold geyserref14_Source.f src
  by_cases h : i < r
  · rw [if_pos h, if_pos h, w64s (by omega) (by omega)]
  · rw [if_neg h, if_neg h]
theorem rj_l1 (s b B r q : Int) (bs : List (List (List Int))) (i : Int) (hi0 : 0 ≤ i) (hi : i < (bs.length : Int)) (v : List Int × Int) (S : List (List Int)) : ∀ (P : List (List Int)) (acc : List Int), rd_Lssu8 bs i = P ++ S → (P ++ S).length < 1000 → (acc ++ S.flatten).length < 140737488355328 →
    Ev (fun k => geyserref14_Join.l0 k bs (acc ++ S.flatten) (wrap64 (i + 1)) s b B r q) v →
    Ev (fun k => geyserref14_Join.l1 k bs acc i (P.length : Int) s b B r q) v := by
  induction S with
  | nil =>
    intro P acc hrd hP _ h
    refine Ev.step (fun k => ?_) h
    rw [geyserref14_Join.l1, if_pos hi0, if_pos hi, hrd, if_neg (by simp)]
    simp
  | cons x S ih =>
    intro P acc hrd hP ha h
    have hl : (P ++ x :: S).length = P.length + (S.length + 1) := by simp
    have e1 : P ++ [x] ++ S = P ++ x :: S := by simp
    have e2 : ((P ++ [x]).length : Int) = wrap64 ((P.length : Int) + 1) := by rw [w64s (by omega) (by omega)]; simp
    have e3 : acc ++ x ++ S.flatten = acc ++ (x :: S).flatten := by simp
    have h' := ih (P ++ [x]) (acc ++ x) (by rw [e1]; exact hrd) (by rw [e1]; exact hP) (by rw [e3]; exact ha) (by rw [e3]; exact h)
    rw [e2] at h'
    have hroom : acc.length + x.length < 140737488355328 := by
      rw [List.length_append, List.flatten_cons, List.length_append] at ha
      omega
    refine Ev.step (fun k => ?_) h'
    rw [geyserref14_Join.l1, if_pos hi0, if_pos hi, hrd, if_pos (by omega), if_pos (by omega), rd_row, if_pos hroom]
theorem rj_step (k : Nat) (acc : List Int) (bs : List (List (List Int))) (i s b B r q n : Int) (blk : List (List Int)) (c2 : 0 ≤ i) (c3 : i < (bs.length : Int)) (hrd : rd_Lssu8 bs i = blk) (hs : geyserref14_Source.f s b B r q i = some n) :
    geyserref14_Join.l0 (k + 1) bs acc i s b B r q = if (blk.length : Int) = n then (geyserref04_Check.f k blk b).bind fun t => geyserref14_Join.j1 k bs acc i (t != 0) s b B r q else geyserref14_Join.j1 k bs acc i true s b B r q := by
  rw [geyserref14_Join.l0, if_pos c3, if_pos c2, hs]
  simp only [Option.bind_some]
  rw [hrd]
theorem rj_end (k : Nat) (acc : List Int) (bs : List (List (List Int))) (i s b B r q : Int) (c1 : ¬ i < (bs.length : Int)) (h0 : 0 ≤ s) (h1 : s ≤ (acc.length : Int)) (hz : geyserref04_Zero.f k (acc.drop s.toNat) = some (allZero (acc.drop s.toNat))) :
    geyserref14_Join.l0 (k + 1) bs acc i s b B r q = some (oR (if allZero (acc.drop s.toNat) = true then some (acc.take s.toNat) else none)) := by
  rw [geyserref14_Join.l0, if_neg c1, if_pos h0, if_pos h1, hz]
  simp only [Option.bind_some]
  split <;> rfl
theorem rj_l0 (s B r q : Int) (bn M : Nat) (hq0 : 0 ≤ q) (hq : q ≤ 128) (hB : B ≤ 16) (hb1 : 1 ≤ bn) (hb : bn ≤ 64) (hs0 : 0 ≤ s) (hs : s ≤ (M : Int)) (hM : M < 10000000) : ∀ (S : List (List (List Int))) (P : List (List (List Int))) (acc : List Int), (P.length : Int) + S.length = B → acc.length + tot r q S.length (P.length : Int) * bn = M →
    Ev (fun k => geyserref14_Join.l0 k (P ++ S) acc (P.length : Int) s (bn : Int) B r q) (oR (joinS s r q (bn : Int) acc (P.length : Int) S)) := by
  intro S
  induction S with
  | nil =>
    intro P acc hd hA
    simp only [List.length_nil, tot, Nat.zero_mul, Nat.add_zero] at hA
    rw [joinS]
    obtain ⟨K, hK⟩ := rzero_ev (acc.drop s.toNat) (by rw [List.length_drop]; omega)
    refine ⟨K + 1, fun k hk => ?_⟩
    obtain ⟨m, rfl⟩ : ∃ m, k = m + 1 := ⟨k - 1, by omega⟩
    exact rj_end m acc _ _ s _ B r q (by simp) hs0 (by omega) (hK m (by omega))
  | cons x S ih =>
    intro P acc hd hA
    rw [List.length_cons] at hd
    have hp := src_pos r q (P.length : Int) hq0
    have hsl : src r q (P.length : Int) ≤ 129 := by unfold src; split <;> omega
    have hrd : rd_Lssu8 (P ++ x :: S) (P.length : Int) = x := rd_row3 P x S
    have hc3 : (P.length : Int) < ((P ++ x :: S).length : Int) := by rw [List.length_append, List.length_cons]; clear hA ih; omega
    have hst := fun k => rj_step k acc (P ++ x :: S) (P.length : Int) s (bn : Int) B r q (src r q (P.length : Int)) x (Int.natCast_nonneg _) hc3 hrd (rsrc_eqJ s _ B r q _ hq0 hq)
    have hbad : Ev (fun k => geyserref14_Join.j1 k (P ++ x :: S) acc (P.length : Int) true s (bn : Int) B r q) ([], 2) := by
      refine Ev.step (f := fun _ => some ([], 2)) (fun k => ?_) (Ev.now _)
      rw [geyserref14_Join.j1, if_pos rfl]
    rw [joinS]
    by_cases h1 : (x.length : Int) = src r q (P.length : Int)
    · rw [if_pos h1]
      rw [List.length_cons, tot, Nat.add_mul] at hA
      have hxn : x.length = (src r q (P.length : Int)).toNat := by clear hA ih; omega
      have hchk := rcheck_ev x (bn : Int) (by clear hA ih; omega)
      by_cases h2 : ∀ y ∈ x, (y.length : Int) = (bn : Int)
      · rw [if_pos h2]
        have e0 : sizeBad x (bn : Int) = 0 := by unfold sizeBad; rw [if_neg (by clear hA ih; omega), if_pos h2]
        rw [e0] at hchk
        have hfl := flat_len bn x h2
        have e1 : ((P ++ [x]).length : Int) = (P.length : Int) + 1 := by simp
        have e2 : wrap64 ((P.length : Int) + 1) = (P.length : Int) + 1 := by clear hA ih; exact w64s (by omega) (by omega)
        have h' := ih (P ++ [x]) (acc ++ x.flatten) (by rw [e1]; clear hA ih; omega) (by rw [e1, List.length_append, hfl, hxn]; clear ih; omega)
        rw [e1, List.append_assoc, List.singleton_append, ← e2] at h'
        have hlt : ([] ++ x).length < 1000 := by rw [List.nil_append]; clear hA ih; omega
        have hle : (acc ++ x.flatten).length < 140737488355328 := by rw [List.length_append, hfl, hxn]; clear ih; omega
        have hj := rj_l1 s (bn : Int) B r q (P ++ x :: S) (P.length : Int) (Int.natCast_nonneg _) hc3 _ x [] acc (by rw [hrd]; rfl) hlt hle h'
        have hj2 : Ev (fun k => geyserref14_Join.j1 k (P ++ x :: S) acc (P.length : Int) ((0 : Int) != 0) s (bn : Int) B r q) (oR (joinS s r q (bn : Int) (acc ++ x.flatten) (wrap64 ((P.length : Int) + 1)) S)) := by
          refine Ev.step (fun k => ?_) hj
          rw [geyserref14_Join.j1, if_neg (by decide)]
          rfl
        rw [e2] at hj2
        refine Ev.step (fun k => (hst k).trans (if_pos h1)) ?_
        exact Ev.bind hchk hj2
      · rw [if_neg h2]
        have e0 : sizeBad x (bn : Int) = 2 := by unfold sizeBad; rw [if_neg (by clear hA ih; omega), if_neg h2]
        rw [e0] at hchk
        refine Ev.step (fun k => (hst k).trans (if_pos h1)) ?_
        exact Ev.bind hchk hbad
    · rw [if_neg h1]
      exact Ev.step (fun k => (hst k).trans (if_neg h1)) hbad
/-! ### The law -/
def joinO (s b B r q : Int) (bs : List (List (List Int))) : Option (List Int) := if (bs.length : Int) = B then joinS s r q b [] 0 bs else none
theorem whyR_goodJ {s b n l q : Int} (h : whyR s b n l q = 0) : 0 ≤ s ∧ 1 ≤ b ∧ b ≤ 64 ∧ 1 ≤ n ∧ n ≤ 16 ∧ 0 ≤ l ∧ l < n ∧ 1 ≤ q ∧ q ≤ 128 ∧ n * q + l = T s b := by
  unfold whyR at h
  split at h
  · cases h
  · split at h
    · cases h
    · omega
theorem joins_total (s b B r q : Int) (h : whyR s b B r q = 0) : s ≤ ((tot r q B.toNat 0 * b.toNat : Nat) : Int) ∧ tot r q B.toNat 0 * b.toNat < 10000000 := by
  obtain ⟨g1, g2, g3, g4, g5, g6, g7, g8, g9, g10⟩ := whyR_goodJ h
  have hT : T s b ≤ 16 * 128 + 16 := by
    have : B * q ≤ 16 * 128 := Int.mul_le_mul (by omega) (by omega) (by omega) (by omega)
    omega
  have hUb := U_bounds s b g1 g2
  have hUt : U s b ≤ T s b := by unfold T mx; split <;> omega
  have htot : ((tot r q B.toNat 0 : Nat) : Int) = T s b := by
    rw [tot_eq r q B (by omega) (by omega) B.toNat 0 (by omega), ← g10]
    obtain ⟨B', rfl⟩ := Int.eq_ofNat_of_zero_le (show 0 ≤ B by omega)
    obtain ⟨q', rfl⟩ := Int.eq_ofNat_of_zero_le (show 0 ≤ q by omega)
    obtain ⟨r', rfl⟩ := Int.eq_ofNat_of_zero_le (show 0 ≤ r by omega)
    simp
  obtain ⟨n, rfl⟩ := Int.eq_ofNat_of_zero_le (show 0 ≤ b by omega)
  have e : ((tot r q B.toNat 0 * ((n : Nat) : Int).toNat : Nat) : Int) = T s (n : Int) * (n : Int) := by rw [Int.toNat_natCast, Int.natCast_mul, htot]
  have h1 : U s (n : Int) * (n : Int) ≤ T s (n : Int) * (n : Int) := Int.mul_le_mul_of_nonneg_right hUt (by omega)
  have h2 : T s (n : Int) * (n : Int) ≤ 2064 * 64 := Int.mul_le_mul (by omega) (by omega) (by omega) (by omega)
  exact ⟨by rw [e]; omega, by omega⟩
theorem join_goodI (s b B r q : Int) (bs : List (List (List Int))) (h : whyR s b B r q = 0) (h2 : s ≤ 9223372036854775807) :
    Ev (fun k => blocking_Join.f k s b B r q bs) (oI (joinO s b B r q bs)) := by
  obtain ⟨g1, g2, g3, g4, g5, g6, g7, g8, g9, g10⟩ := whyR_goodJ h
  have hck := check14_ev s b B r q h2 (by omega) (by omega)
  have e : checkR s b B r q = [] := if_pos h
  rw [e] at hck
  obtain ⟨t1, t2⟩ := joins_total s b B r q h
  unfold blocking_Join.f joinO
  refine Ev.bind hck ?_
  simp only [List.length_nil, Int.natCast_zero, if_true]
  by_cases hl : (bs.length : Int) = B
  · rw [if_pos hl]
    simp only [if_pos hl]
    have hBt : B.toNat = bs.length := by omega
    have hj := ji_l0 s B r q b.toNat (tot r q B.toNat 0 * b.toNat) (by omega) (by omega) (by omega) (by omega) (by omega) g1 t1 t2 bs [] [] (by simpa using hl) (by rw [hBt]; simp)
    rw [Int.toNat_of_nonneg (by omega)] at hj
    rw [hl]
    exact hj
  · rw [if_neg hl]
    simp only [if_neg hl]
    exact Ev.now _
theorem join_goodR (s b B r q : Int) (bs : List (List (List Int))) (h : whyR s b B r q = 0) :
    Ev (fun k => geyserref14_Join.f k s b B r q bs) (oR (joinO s b B r q bs)) := by
  obtain ⟨g1, g2, g3, g4, g5, g6, g7, g8, g9, g10⟩ := whyR_goodJ h
  obtain ⟨t1, t2⟩ := joins_total s b B r q h
  unfold geyserref14_Join.f joinO
  by_cases hl : (bs.length : Int) = B
  · rw [if_pos hl]
    simp only [if_pos hl]
    have hBt : B.toNat = bs.length := by omega
    have hj := rj_l0 s B r q b.toNat (tot r q B.toNat 0 * b.toNat) (by omega) (by omega) (by omega) (by omega) (by omega) g1 t1 t2 bs [] [] (by simpa using hl) (by rw [hBt]; simp)
    rw [Int.toNat_of_nonneg (by omega)] at hj
    exact hj
  · rw [if_neg hl]
    simp only [if_neg hl]
    exact Ev.now _
theorem join_badI (s b B r q : Int) (bs : List (List (List Int))) (h : whyR s b B r q ≠ 0) (h2 : s ≤ 9223372036854775807) (hq : q ≤ 9223372036854775807) (hq0 : -9223372036854775808 ≤ q) :
    Ev (fun k => blocking_Join.f k s b B r q bs) ([], [⟨joinName, false, whyR s b B r q⟩]) := by
  unfold blocking_Join.f
  refine Ev.bind (check14_ev s b B r q h2 hq hq0) ?_
  have e : checkR s b B r q = [⟨checkName, true, whyR s b B r q⟩] := if_neg h
  rw [e]
  exact Ev.now _
theorem joins_cp_step (k : Nat) (bs acc : List (List (List Int))) (i s b B r q : Int) (x : List (List Int)) (c1 : i < (bs.length : Int)) (c0 : 0 ≤ i) (hrd : rd_Lssu8 bs i = x) (hc : geyserref04_Copy.f k x = some x) (c4 : acc.length < 5864062014805) :
    geyserlaw14_BlockingJoins.l0 (k + 1) bs acc i s b B r q = geyserlaw14_BlockingJoins.l0 k bs (acc ++ [x]) (wrap64 (i + 1)) s b B r q := by
  rw [geyserlaw14_BlockingJoins.l0, if_pos c1, if_pos c0, hrd, hc]
  simp only [Option.bind_some]
  rw [if_pos c4]
theorem joins_cp (s b B r q : Int) : ∀ (S P : List (List (List Int))), (P ++ S).length < 5864062014805 → (∀ x ∈ S, x.length < 5864062014805 ∧ ∀ y ∈ x, y.length < 140737488355328) →
    Ev (fun k => geyserlaw14_BlockingJoins.l0 k (P ++ S) (P ++ S) ((P ++ S).length : Int) s b B r q) true → Ev (fun k => geyserlaw14_BlockingJoins.l0 k (P ++ S) P (P.length : Int) s b B r q) true := by
  intro S
  induction S with
  | nil =>
    intro P _ _ h
    rw [List.append_nil] at h ⊢
    exact h
  | cons x S ih =>
    intro P hP hS h
    have hl : (P ++ x :: S).length = P.length + (S.length + 1) := by simp
    have e1 : P ++ [x] ++ S = P ++ x :: S := by simp
    have e2 : ((P ++ [x]).length : Int) = wrap64 ((P.length : Int) + 1) := by rw [w64s (by omega) (by omega)]; simp
    have h' := ih (P ++ [x]) (by rw [e1]; exact hP) (fun z hz => hS z (List.mem_cons_of_mem _ hz)) (by rw [e1]; exact h)
    rw [e1, e2] at h'
    obtain ⟨hx1, hx2⟩ := hS x (by simp)
    obtain ⟨K1, hK1⟩ := rcopy_ev x hx1 hx2
    obtain ⟨K2, hK2⟩ := h'
    refine ⟨K1 + K2 + 1, fun k hk => ?_⟩
    obtain ⟨m, rfl⟩ : ∃ m, k = m + 1 := ⟨k - 1, by omega⟩
    exact (joins_cp_step m (P ++ x :: S) P (P.length : Int) s b B r q x (by omega) (Int.natCast_nonneg _) (rd_row3 P x S) (hK1 m (by omega)) (by omega)).trans (hK2 m (by omega))
theorem joins_fin_step (k : Nat) (bs : List (List (List Int))) (s b B r q : Int) : geyserlaw14_BlockingJoins.l0 (k + 1) bs bs (bs.length : Int) s b B r q = (blocking_Join.f k s b B r q bs).bind fun bt => (geyserref14_Check.f k s b B r q).bind fun t270 => if t270 = 0 then (geyserref14_Join.f k s b B r q bs).bind fun bt271 => (geyserlaw14_tells.f bt.2 bt271.2 joinName).bind fun t275 => if t275 = true then (if (strOfNums bt.1).toList = (strOfNums bt271.1).toList then (geyserlaw14_awake.f k).bind fun t => some t else some false) else some false else (geyserlaw14_tells.f bt.2 t270 joinName).bind fun t277 => if t277 = true then (if (bt.1.length : Int) = 0 then (geyserlaw14_awake.f k).bind fun t => some t else some false) else some false := by
  rw [geyserlaw14_BlockingJoins.l0, if_neg (by omega)]
  rfl
theorem BlockingJoins (s b B r q : Int) (bs : List (List (List Int))) (hl : bs.length < 5864062014805) (hs : ∀ x ∈ bs, x.length < 5864062014805 ∧ ∀ y ∈ x, y.length < 140737488355328) (h2 : s ≤ 9223372036854775807) (hq : q ≤ 9223372036854775807) (hq0 : -9223372036854775808 ≤ q) : ∃ k, geyserlaw14_BlockingJoins.f k s b B r q bs = some true := by
  refine Ev.rounds (g := fun k => geyserlaw14_BlockingJoins.f k s b B r q bs) ?_
  unfold geyserlaw14_BlockingJoins.f
  refine joins_cp s b B r q bs [] (by simpa using hl) hs ?_
  rw [List.nil_append]
  refine Ev.step (fun k => joins_fin_step k bs s b B r q) ?_
  by_cases h : whyR s b B r q = 0
  · refine Ev.bind (join_goodI s b B r q bs h h2) ?_
    refine Ev.bind (rcheck14_ev s b B r q h2) ?_
    rw [h]
    simp only [if_true]
    refine Ev.bind (join_goodR s b B r q bs h) ?_
    cases joinO s b B r q bs with
    | none =>
      simp only [oI, oR]
      rw [tells14_flat joinName 2 (by decide)]
      simp only [Option.bind_some, if_true]
      exact Ev.bind awake14_ev (Ev.now _)
    | some v =>
      simp only [oI, oR]
      rw [tells14_none]
      simp only [Option.bind_some, if_true]
      exact Ev.bind awake14_ev (Ev.now _)
  · refine Ev.bind (join_badI s b B r q bs h h2 hq hq0) ?_
    refine Ev.bind (rcheck14_ev s b B r q h2) ?_
    simp only [if_neg h]
    rw [tells14_deep joinName _ h]
    simp only [Option.bind_some, if_true, List.length_nil, Int.natCast_zero]
    exact Ev.bind awake14_ev (Ev.now _)
end Go.Proofs.YtomeefngdnmdaaaDoor.Pure
