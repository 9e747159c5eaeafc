-- joined by merge.py: Px23 PureMatrixSums
import Derived.Test.YtgocibnmgfmceaaDoorMMatrixSums1
namespace Go.Proofs.YtgocibnmgfmceaaDoor.P
open Go.RowKit Go.Proofs.YtgocibnmgfmceaaDoorW.PrintWords Go.Proofs.YtgocibnmgfmceaaDoorW.PrintLast Go.Proofs.YtgocibnmgfmceaaDoorW.PrintErr Go.Proofs.YtgocibnmgfmceaaDoorW.PrintMore
attribute [local go_sem] max2_int min2_int max_two min_two max_three min_three max_four min_four run_eql_errOf run_neq_errOf eqGuard_errOf   -- for this text's walks alone
set_option linter.unusedVariables false
set_option linter.unusedSimpArgs false

/-! ### geyserlaw03_MatrixSums: function 3 -/
mutual
def geyserlaw03_MatrixSums.j0 : Nat → List (List Int) → Int → List Bool → Bool → Option (Bool)
  | 0, _, _, _, _ => none
  | k + 1, x0, x1, x2, x35 => if x35 = true then ((geyserlaw03_awake.f k).bind fun t244 => (some t244)) else (if 0 < (x0.length : Int) then (if 1 ≤ (x0.length : Int) then ((geyserref02_Size.f k x1).bind fun t254 => (if 0 ≤ t254 then (if (t254 : Int).toNat ≤ 35184372088832 then (geyserlaw03_MatrixSums.l0 k x1 x2 (rd_Lsu64 x0 0) (x0.drop 1) (List.replicate (t254 : Int).toNat 0) 0) else (none)) else (none))) else (none)) else (none))
def geyserlaw03_MatrixSums.l0 : Nat → Int → List Bool → List Int → List (List Int) → List Int → Int → Option (Bool)
  | 0, _, _, _, _, _, _ => none
  | k + 1, x1, x2, x7, x8, x9, x10 => if x10 < (x8.length : Int) then (if x10 < (x2.length : Int) then (if 0 ≤ x10 then (geyserlaw03_MatrixSums.j2 k x1 x2 x7 x8 x9 x10 (rdOf false x2 x10)) else (none)) else (geyserlaw03_MatrixSums.j2 k x1 x2 x7 x8 x9 x10 false)) else ((matrix_Rank.f k x8 x1).bind fun bt263 => ((some (([] : List (List Int)) : List (List Int))).bind fun y267 => (if y267.length + x8.length < 5864062014805 then ((some (y267 ++ x8 : List (List Int))).bind fun y270 => ((some (x9 : List Int)).bind fun y273 => (if y270.length < 5864062014805 then ((matrix_Rank.f k (y270 ++ [y273]) x1).bind fun bt279 => ((some (([] : List (List Int)) : List (List Int))).bind fun y283 => (if y283.length + x8.length < 5864062014805 then ((some (y283 ++ x8 : List (List Int))).bind fun y286 => (if y286.length < 5864062014805 then ((matrix_Rank.f k (y286 ++ [x7]) x1).bind fun bt292 => ((matrix_Spans.f k x8 x1 x7).bind fun bt296 => ((matrix_Spans.f k x8 x1 y273).bind fun bt300 => (if (bt263.2.length : Int) = 0 then (if (bt279.2.length : Int) = 0 then (if (bt292.2.length : Int) = 0 then (if (bt296.2.length : Int) = 0 then (if (bt300.2.length : Int) = 0 then (if bt263.1 = bt279.1 then (geyserlaw03_MatrixSums.j4 k bt263.1 bt292.1 bt296.1 (!bt300.1)) else (geyserlaw03_MatrixSums.j4 k bt263.1 bt292.1 bt296.1 true)) else (geyserlaw03_MatrixSums.j4 k bt263.1 bt292.1 bt296.1 true)) else (geyserlaw03_MatrixSums.j4 k bt263.1 bt292.1 bt296.1 true)) else (geyserlaw03_MatrixSums.j4 k bt263.1 bt292.1 bt296.1 true)) else (geyserlaw03_MatrixSums.j4 k bt263.1 bt292.1 bt296.1 true)) else (geyserlaw03_MatrixSums.j4 k bt263.1 bt292.1 bt296.1 true))))) else (none))) else (none)))) else (none)))) else (none))))
def geyserlaw03_MatrixSums.j2 : Nat → Int → List Bool → List Int → List (List Int) → List Int → Int → Bool → Option (Bool)
  | 0, _, _, _, _, _, _, _ => none
  | k + 1, x1, x2, x7, x8, x9, x10, x60 => if x60 = true then (geyserlaw03_MatrixSums.l1 k x1 x2 x7 x8 x9 x10 0) else (geyserlaw03_MatrixSums.l0 k x1 x2 x7 x8 x9 (wrap64 (x10 + 1)))
def geyserlaw03_MatrixSums.l1 : Nat → Int → List Bool → List Int → List (List Int) → List Int → Int → Int → Option (Bool)
  | 0, _, _, _, _, _, _, _ => none
  | k + 1, x1, x2, x7, x8, x9, x10, x11 => if x11 < (x9.length : Int) then (if 0 ≤ x11 then (if 0 ≤ x10 then (if x10 < (x8.length : Int) then (if x11 < ((rd_Lsu64 x8 x10).length : Int) then (geyserlaw03_MatrixSums.l1 k x1 x2 x7 x8 (x9.set (x11 : Int).toNat (Go.bits .xor .u64 (rd x9 x11) (rd (rd_Lsu64 x8 x10) x11))) x10 (wrap64 (x11 + 1))) else (none)) else (none)) else (none)) else (none)) else (geyserlaw03_MatrixSums.l0 k x1 x2 x7 x8 x9 (wrap64 (x10 + 1)))
def geyserlaw03_MatrixSums.j4 : Nat → Int → Int → Bool → Bool → Option (Bool)
  | 0, _, _, _, _ => none
  | k + 1, x12, x16, x18, x150 => if x150 = true then (some false) else (if x18 = true then (if x16 = x12 then ((geyserlaw03_awake.f k).bind fun t304 => (some t304)) else (some false)) else (if x16 = (wrap64 (x12 + 1)) then ((geyserlaw03_awake.f k).bind fun t305 => (some t305)) else (some false)))
end
def geyserlaw03_MatrixSums.f (k : Nat) (l0 : List (List Int)) (a1 : Int) (l2 : List Bool) : Option (Bool) := (geyserlaw03_big.f l0 a1).bind fun t242 => (if t242 = true then (geyserlaw03_MatrixSums.j0 k l0 a1 l2 true) else (if (l0.length : Int) = 0 then (geyserlaw03_MatrixSums.j0 k l0 a1 l2 true) else ((geyserref03_Check.f k l0 a1).bind fun t243 => (geyserlaw03_MatrixSums.j0 k l0 a1 l2 (t243 != 0)))))
theorem geyserlaw03_MatrixSums.mono_l : ∀ k, (∀ y0 y1 y2 y3, LeO (geyserlaw03_MatrixSums.j0 k y0 y1 y2 y3) (geyserlaw03_MatrixSums.j0 (k + 1) y0 y1 y2 y3)) ∧ (∀ y0 y1 y2 y3 y4 y5, LeO (geyserlaw03_MatrixSums.l0 k y0 y1 y2 y3 y4 y5) (geyserlaw03_MatrixSums.l0 (k + 1) y0 y1 y2 y3 y4 y5)) ∧ (∀ y0 y1 y2 y3 y4 y5 y6, LeO (geyserlaw03_MatrixSums.j2 k y0 y1 y2 y3 y4 y5 y6) (geyserlaw03_MatrixSums.j2 (k + 1) y0 y1 y2 y3 y4 y5 y6)) ∧ (∀ y0 y1 y2 y3 y4 y5 y6, LeO (geyserlaw03_MatrixSums.l1 k y0 y1 y2 y3 y4 y5 y6) (geyserlaw03_MatrixSums.l1 (k + 1) y0 y1 y2 y3 y4 y5 y6)) ∧ (∀ y0 y1 y2 y3, LeO (geyserlaw03_MatrixSums.j4 k y0 y1 y2 y3) (geyserlaw03_MatrixSums.j4 (k + 1) y0 y1 y2 y3))
  | 0 => ⟨fun _ _ _ _ r h => by simp [geyserlaw03_MatrixSums.j0] at h, fun _ _ _ _ _ _ r h => by simp [geyserlaw03_MatrixSums.l0] at h, fun _ _ _ _ _ _ _ r h => by simp [geyserlaw03_MatrixSums.j2] at h, fun _ _ _ _ _ _ _ r h => by simp [geyserlaw03_MatrixSums.l1] at h, fun _ _ _ _ r h => by simp [geyserlaw03_MatrixSums.j4] at h⟩
  | k + 1 => by
    obtain ⟨ih0, ih1, ih2, ih3, ih4⟩ := geyserlaw03_MatrixSums.mono_l k
    refine ⟨?_, ?_, ?_, ?_, ?_⟩
    · intro y0 y1 y2 y3
      unfold geyserlaw03_MatrixSums.j0
      repeat' first
      | (with_reducible exact ih0 _ _ _ _)
      | (with_reducible exact ih1 _ _ _ _ _ _)
      | (with_reducible exact ih2 _ _ _ _ _ _ _)
      | (with_reducible exact ih3 _ _ _ _ _ _ _)
      | (with_reducible exact ih4 _ _ _ _)
      | (with_reducible exact geyserlaw03_awake.mono _)
      | (with_reducible exact geyserref02_Size.mono _ _)
      | (with_reducible exact geyserref03_Check.mono _ _ _)
      | (with_reducible exact matrix_Rank.mono _ _ _)
      | (with_reducible exact matrix_Spans.mono _ _ _ _)
      | (with_reducible exact LeO.refl _)
      | (with_reducible exact LeO.none _)
      | (with_reducible refine LeO.ite ?_ ?_)
      | (with_reducible refine LeO.bind ?_ (fun _ => ?_))
      | exact ih0 _ _ _ _
      | exact ih1 _ _ _ _ _ _
      | exact ih2 _ _ _ _ _ _ _
      | exact ih3 _ _ _ _ _ _ _
      | exact ih4 _ _ _ _
      | exact geyserlaw03_awake.mono _
      | exact geyserref02_Size.mono _ _
      | exact geyserref03_Check.mono _ _ _
      | exact matrix_Rank.mono _ _ _
      | exact matrix_Spans.mono _ _ _ _
      | exact LeO.none _
      | refine LeO.ite ?_ ?_
      | refine LeO.bind ?_ (fun _ => ?_)
    · intro y0 y1 y2 y3 y4 y5
      unfold geyserlaw03_MatrixSums.l0
      repeat' first
      | (with_reducible exact ih0 _ _ _ _)
      | (with_reducible exact ih1 _ _ _ _ _ _)
      | (with_reducible exact ih2 _ _ _ _ _ _ _)
      | (with_reducible exact ih3 _ _ _ _ _ _ _)
      | (with_reducible exact ih4 _ _ _ _)
      | (with_reducible exact geyserlaw03_awake.mono _)
      | (with_reducible exact geyserref02_Size.mono _ _)
      | (with_reducible exact geyserref03_Check.mono _ _ _)
      | (with_reducible exact matrix_Rank.mono _ _ _)
      | (with_reducible exact matrix_Spans.mono _ _ _ _)
      | (with_reducible exact LeO.refl _)
      | (with_reducible exact LeO.none _)
      | (with_reducible refine LeO.ite ?_ ?_)
      | (with_reducible refine LeO.bind ?_ (fun _ => ?_))
      | exact ih0 _ _ _ _
      | exact ih1 _ _ _ _ _ _
      | exact ih2 _ _ _ _ _ _ _
      | exact ih3 _ _ _ _ _ _ _
      | exact ih4 _ _ _ _
      | exact geyserlaw03_awake.mono _
      | exact geyserref02_Size.mono _ _
      | exact geyserref03_Check.mono _ _ _
      | exact matrix_Rank.mono _ _ _
      | exact matrix_Spans.mono _ _ _ _
      | exact LeO.none _
      | refine LeO.ite ?_ ?_
      | refine LeO.bind ?_ (fun _ => ?_)
    · intro y0 y1 y2 y3 y4 y5 y6
      unfold geyserlaw03_MatrixSums.j2
      repeat' first
      | (with_reducible exact ih0 _ _ _ _)
      | (with_reducible exact ih1 _ _ _ _ _ _)
      | (with_reducible exact ih2 _ _ _ _ _ _ _)
      | (with_reducible exact ih3 _ _ _ _ _ _ _)
      | (with_reducible exact ih4 _ _ _ _)
      | (with_reducible exact geyserlaw03_awake.mono _)
      | (with_reducible exact geyserref02_Size.mono _ _)
      | (with_reducible exact geyserref03_Check.mono _ _ _)
      | (with_reducible exact matrix_Rank.mono _ _ _)
      | (with_reducible exact matrix_Spans.mono _ _ _ _)
      | (with_reducible exact LeO.refl _)
      | (with_reducible exact LeO.none _)
      | (with_reducible refine LeO.ite ?_ ?_)
      | (with_reducible refine LeO.bind ?_ (fun _ => ?_))
      | exact ih0 _ _ _ _
      | exact ih1 _ _ _ _ _ _
      | exact ih2 _ _ _ _ _ _ _
      | exact ih3 _ _ _ _ _ _ _
      | exact ih4 _ _ _ _
      | exact geyserlaw03_awake.mono _
      | exact geyserref02_Size.mono _ _
      | exact geyserref03_Check.mono _ _ _
      | exact matrix_Rank.mono _ _ _
      | exact matrix_Spans.mono _ _ _ _
      | exact LeO.none _
      | refine LeO.ite ?_ ?_
      | refine LeO.bind ?_ (fun _ => ?_)
    · intro y0 y1 y2 y3 y4 y5 y6
      unfold geyserlaw03_MatrixSums.l1
      repeat' first
      | (with_reducible exact ih0 _ _ _ _)
      | (with_reducible exact ih1 _ _ _ _ _ _)
      | (with_reducible exact ih2 _ _ _ _ _ _ _)
      | (with_reducible exact ih3 _ _ _ _ _ _ _)
      | (with_reducible exact ih4 _ _ _ _)
      | (with_reducible exact geyserlaw03_awake.mono _)
      | (with_reducible exact geyserref02_Size.mono _ _)
      | (with_reducible exact geyserref03_Check.mono _ _ _)
      | (with_reducible exact matrix_Rank.mono _ _ _)
      | (with_reducible exact matrix_Spans.mono _ _ _ _)
      | (with_reducible exact LeO.refl _)
      | (with_reducible exact LeO.none _)
      | (with_reducible refine LeO.ite ?_ ?_)
      | (with_reducible refine LeO.bind ?_ (fun _ => ?_))
      | exact ih0 _ _ _ _
      | exact ih1 _ _ _ _ _ _
      | exact ih2 _ _ _ _ _ _ _
      | exact ih3 _ _ _ _ _ _ _
      | exact ih4 _ _ _ _
      | exact geyserlaw03_awake.mono _
      | exact geyserref02_Size.mono _ _
      | exact geyserref03_Check.mono _ _ _
      | exact matrix_Rank.mono _ _ _
      | exact matrix_Spans.mono _ _ _ _
      | exact LeO.none _
      | refine LeO.ite ?_ ?_
      | refine LeO.bind ?_ (fun _ => ?_)
    · intro y0 y1 y2 y3
      unfold geyserlaw03_MatrixSums.j4
      repeat' first
      | (with_reducible exact ih0 _ _ _ _)
      | (with_reducible exact ih1 _ _ _ _ _ _)
      | (with_reducible exact ih2 _ _ _ _ _ _ _)
      | (with_reducible exact ih3 _ _ _ _ _ _ _)
      | (with_reducible exact ih4 _ _ _ _)
      | (with_reducible exact geyserlaw03_awake.mono _)
      | (with_reducible exact geyserref02_Size.mono _ _)
      | (with_reducible exact geyserref03_Check.mono _ _ _)
      | (with_reducible exact matrix_Rank.mono _ _ _)
      | (with_reducible exact matrix_Spans.mono _ _ _ _)
      | (with_reducible exact LeO.refl _)
      | (with_reducible exact LeO.none _)
      | (with_reducible refine LeO.ite ?_ ?_)
      | (with_reducible refine LeO.bind ?_ (fun _ => ?_))
      | exact ih0 _ _ _ _
      | exact ih1 _ _ _ _ _ _
      | exact ih2 _ _ _ _ _ _ _
      | exact ih3 _ _ _ _ _ _ _
      | exact ih4 _ _ _ _
      | exact geyserlaw03_awake.mono _
      | exact geyserref02_Size.mono _ _
      | exact geyserref03_Check.mono _ _ _
      | exact matrix_Rank.mono _ _ _
      | exact matrix_Spans.mono _ _ _ _
      | exact LeO.none _
      | refine LeO.ite ?_ ?_
      | refine LeO.bind ?_ (fun _ => ?_)
theorem geyserlaw03_MatrixSums.mono : ∀ a0 a1 a2 k, LeO (geyserlaw03_MatrixSums.f k a0 a1 a2) (geyserlaw03_MatrixSums.f (k + 1) a0 a1 a2) := by
  intro a0 a1 a2 k
  obtain ⟨ih0, ih1, ih2, ih3, ih4⟩ := geyserlaw03_MatrixSums.mono_l k
  unfold geyserlaw03_MatrixSums.f
  repeat' first
      | (with_reducible exact ih0 _ _ _ _)
      | (with_reducible exact ih1 _ _ _ _ _ _)
      | (with_reducible exact ih2 _ _ _ _ _ _ _)
      | (with_reducible exact ih3 _ _ _ _ _ _ _)
      | (with_reducible exact ih4 _ _ _ _)
      | (with_reducible exact geyserlaw03_awake.mono _)
      | (with_reducible exact geyserref02_Size.mono _ _)
      | (with_reducible exact geyserref03_Check.mono _ _ _)
      | (with_reducible exact matrix_Rank.mono _ _ _)
      | (with_reducible exact matrix_Spans.mono _ _ _ _)
      | (with_reducible exact LeO.refl _)
      | (with_reducible exact LeO.none _)
      | (with_reducible refine LeO.ite ?_ ?_)
      | (with_reducible refine LeO.bind ?_ (fun _ => ?_))
      | exact ih0 _ _ _ _
      | exact ih1 _ _ _ _ _ _
      | exact ih2 _ _ _ _ _ _ _
      | exact ih3 _ _ _ _ _ _ _
      | exact ih4 _ _ _ _
      | exact geyserlaw03_awake.mono _
      | exact geyserref02_Size.mono _ _
      | exact geyserref03_Check.mono _ _ _
      | exact matrix_Rank.mono _ _ _
      | exact matrix_Spans.mono _ _ _ _
      | exact LeO.none _
      | refine LeO.ite ?_ ?_
      | refine LeO.bind ?_ (fun _ => ?_)
def geyserlaw03_MatrixSums.T13 : Bool × List (List Nat × List Nat) := (true, [([], []), ([], []), ([], []), ([], []), ([2, 3], [2, 3]), ([4], [4]), ([], []), ([], []), ([6, 7], [6, 7]), ([8], [8]), ([], []), ([9, 10], [9, 10]), ([11], [11]), ([5, 12], [5, 12]), ([0, 1, 0, 1, 2, 3, 4, 5, 6, 7, 8, 9, 10, 11, 12, 13], [0, 1]), ([14, 13, 0, 1, 2, 3, 4, 5, 6, 7, 8, 9, 10, 11, 12, 13], [13, 14])])
def geyserlaw03_MatrixSums.B13 : List Nat := [0, 0, 0, 0, 12, 28, 0, 0, 192, 448, 0, 1984, 4032, 8188, 16383, 32767]
theorem geyserlaw03_MatrixSums.tab13 : rtab .any (opsOf Tryd.f3 13) = geyserlaw03_MatrixSums.T13 := by kernel_rfl
theorem geyserlaw03_MatrixSums.bits13 : waitsOk geyserlaw03_MatrixSums.T13.2 geyserlaw03_MatrixSums.B13 = true := by kernel_rfl
set_option maxHeartbeats 8000000 in
set_option maxRecDepth 100000 in
theorem geyserlaw03_MatrixSums.calls (k : Nat) (P0_ : Nat → Prop) (A0 : Option Addr) (c0 : Nat) (l0 : List (List Int)) (a1 : Int) (A2 : Option Addr) (c2 : Nat) (l2 : List Bool) (r : Bool) (w : World) (ht : TabIn w) (hs0 : Kd.V (Kd.slice 29 (Kd.int .u64)) 27 w w.heap.size (fun k_ => P0_ k_) (.slice A0 l0.length c0) l0) (hr2 : Kd.C Kd.bool w A2 l2.length l2) (hc2 : l2.length ≤ c2) (h : geyserlaw03_MatrixSums.f k l0 a1 l2 = some r) :
    Calls Tryd.prog 3 #[.slice A0 l0.length c0, .int .i64 a1, .slice A2 l2.length c2] w fun e w' => e = .returned (.bool r) ∧ Below w.heap.size w w' := by
  have HO0 := Aside0.mk (show Kd.V (Kd.slice 29 (Kd.int .u64)) 27 w w.heap.size (fun k_ => (P0_ k_ ∨ w.heap.size ≤ k_)) (.slice A0 l0.length c0) l0 from Kd.V_mono hs0 (fun k_ hk => .inl hk))
  have HR2 := Aside0.mk hr2
  have HC2 := Aside0.mk hc2
  clear hr2 hc2
  have HB := Aside0.mk (Below.refl w.heap.size w)
  have HT := Aside0.mk ht
  clear ht
  have H : ((geyserlaw03_big.f l0 a1).bind fun t242 => (if t242 = true then (geyserlaw03_MatrixSums.j0 k l0 a1 l2 true) else (if (l0.length : Int) = 0 then (geyserlaw03_MatrixSums.j0 k l0 a1 l2 true) else ((geyserref03_Check.f k l0 a1).bind fun t243 => (geyserlaw03_MatrixSums.j0 k l0 a1 l2 (t243 != 0)))))) = some r := h
  clear h
  have HC4 := Aside0.mk H
  clear H
  go_enter Tryd.func3, Tryd.ntmps3
  go_upto_region 1 with (fail)
  go_cut [35] (fun v35 wc => ∃ (kq : Nat) (x35_3 : Bool), v35 = .bool x35_3 ∧ Aside0 (geyserlaw03_MatrixSums.j0 kq l0 a1 l2 x35_3 = some r) ∧ Aside0 (kq ≤ k) ∧ Aside0 (Kd.V (Kd.slice 29 (Kd.int .u64)) 27 wc w.heap.size (fun k_ => (P0_ k_ ∨ w.heap.size ≤ k_)) (.slice A0 l0.length c0) l0) ∧ Aside0 (Below w.heap.size w wc))
  case first =>
    have H := HC4.out
    clear HC4
    replace H := Option.bind_eq_some_iff.mp H
    obtain ⟨t242, A50, H⟩ := H
    replace H : (if t242 = true then (geyserlaw03_MatrixSums.j0 k l0 a1 l2 true) else (if (l0.length : Int) = 0 then (geyserlaw03_MatrixSums.j0 k l0 a1 l2 true) else ((geyserref03_Check.f k l0 a1).bind fun t243 => (geyserlaw03_MatrixSums.j0 k l0 a1 l2 (t243 != 0))))) = some r := H
    have A5 := Aside0.mk A50
    clear A50
    by_cases c6 : t242 = true
    · subst c6
      have H1 : (geyserlaw03_MatrixSums.j0 k l0 a1 l2 true) = some r := by rw [if_pos rfl] at H; exact H
      clear H
      have H := H1
      clear H1
      have H' := Aside0.mk H
      clear H
      go_wp2_with (first | ((with_reducible refine gate_callee (f := 10) rfl ?_); refine goesL_ (some 24) rfl rfl Tryd.func10 (by kernel_rfl) rfl #[.slice A0 l0.length c0, .int .i64 a1] rfl (by (try simp only [List.map_toArray, List.map_cons, List.map_nil]); first | done | rfl | (simp only [List.length_drop, List.length_take]; rfl)) ?_; (with_reducible refine (geyserlaw03_big.calls _ _ l0 a1 true _ ?side1 ?side2 A5.out).mono ?_); (case side1 => repeat (first | exact (Kd.V_reads' HO0.out).2.2 | (with_reducible refine Kd.C_alloc ?_ _) | (with_reducible refine Kd.C_drewN ?_ _) | (with_reducible refine Kd.C_drew ?_))); (case side2 => exact (Kd.V_reads' HO0.out).2.1); rintro e w' ⟨rfl, ⟨nd, rfl⟩⟩; refine ⟨_, rfl, ?_⟩))
      go_meet
      case rel => exact ⟨_, (true), (by first | rfl | (simp; done) | (simp [*]; done)), H', ⟨by first | omega | exact Nat.le_refl _⟩, ⟨by (with_reducible repeat (first | apply Kd.V_alloc | apply Kd.V_drewN | apply Kd.V_drew)); exact HO0.out⟩, ⟨by repeat (first | (with_reducible first | exact HB.out | apply below_alloc | apply pw_below_drewN | apply below_drew1) | exact HB.out)⟩⟩
    · replace c6 := Bool.eq_false_iff.mpr c6
      subst c6
      have H1 : (if (l0.length : Int) = 0 then (geyserlaw03_MatrixSums.j0 k l0 a1 l2 true) else ((geyserref03_Check.f k l0 a1).bind fun t243 => (geyserlaw03_MatrixSums.j0 k l0 a1 l2 (t243 != 0)))) = some r := by rw [if_neg (show ¬ (false = true) by decide)] at H; exact H
      clear H
      have H := H1
      clear H1
      by_cases c7 : (l0.length : Int) = 0
      · rw [if_pos c7] at H
        have c7b0 : ((l0.length : Int) == 0) = true := beq_iff_eq.mpr c7
        have c7b1 : ((l0.length : Int) != 0) = false := bne_eq_false_iff_eq.mpr c7
        clear c7
        (first | rw [c7b0] | rw [c7b1] | (simp only [i64_w, i32_w]; rw [c7b0]) | skip)
        have H' := Aside0.mk H
        clear H
        go_wp2_with (first | ((with_reducible refine gate_callee (f := 10) rfl ?_); refine goesL_ (some 24) rfl rfl Tryd.func10 (by kernel_rfl) rfl #[.slice A0 l0.length c0, .int .i64 a1] rfl (by (try simp only [List.map_toArray, List.map_cons, List.map_nil]); first | done | rfl | (simp only [List.length_drop, List.length_take]; rfl)) ?_; (with_reducible refine (geyserlaw03_big.calls _ _ l0 a1 false _ ?side1 ?side2 A5.out).mono ?_); (case side1 => repeat (first | exact (Kd.V_reads' HO0.out).2.2 | (with_reducible refine Kd.C_alloc ?_ _) | (with_reducible refine Kd.C_drewN ?_ _) | (with_reducible refine Kd.C_drew ?_))); (case side2 => exact (Kd.V_reads' HO0.out).2.1); rintro e w' ⟨rfl, ⟨nd, rfl⟩⟩; refine ⟨_, rfl, ?_⟩))
        go_meet
        case rel => exact ⟨_, (true), (by first | rfl | (simp; done) | (simp [*]; done)), H', ⟨by first | omega | exact Nat.le_refl _⟩, ⟨by (with_reducible repeat (first | apply Kd.V_alloc | apply Kd.V_drewN | apply Kd.V_drew)); exact HO0.out⟩, ⟨by repeat (first | (with_reducible first | exact HB.out | apply below_alloc | apply pw_below_drewN | apply below_drew1) | exact HB.out)⟩⟩
      · rw [if_neg c7] at H
        have c7b0 : ((l0.length : Int) == 0) = false := beq_eq_false_iff_ne.mpr c7
        have c7b1 : ((l0.length : Int) != 0) = true := bne_iff_ne.mpr c7
        have c7b2 : ¬ (l0 = []) := fun h_ => c7 (by rw [h_]; rfl)
        (first | rw [c7b0] | rw [c7b1] | (simp only [i64_w, i32_w]; rw [c7b0]) | skip)
        replace H := Option.bind_eq_some_iff.mp H
        obtain ⟨t243, A80, H⟩ := H
        replace H : (geyserlaw03_MatrixSums.j0 k l0 a1 l2 (t243 != 0)) = some r := H
        have A8 := Aside0.mk A80
        clear A80
        have H' := Aside0.mk H
        clear H
        go_wp2_with (first | ((with_reducible refine gate_callee (f := 10) rfl ?_); refine goesL_ (some 24) rfl rfl Tryd.func10 (by kernel_rfl) rfl #[.slice A0 l0.length c0, .int .i64 a1] rfl (by (try simp only [List.map_toArray, List.map_cons, List.map_nil]); first | done | rfl | (simp only [List.length_drop, List.length_take]; rfl)) ?_; (with_reducible refine (geyserlaw03_big.calls _ _ l0 a1 false _ ?side1 ?side2 A5.out).mono ?_); (case side1 => repeat (first | exact (Kd.V_reads' HO0.out).2.2 | (with_reducible refine Kd.C_alloc ?_ _) | (with_reducible refine Kd.C_drewN ?_ _) | (with_reducible refine Kd.C_drew ?_))); (case side2 => exact (Kd.V_reads' HO0.out).2.1); rintro e w' ⟨rfl, ⟨nd, rfl⟩⟩; refine ⟨_, rfl, ?_⟩) | (go_at_call 11; (with_reducible refine (geyserref03_Check.calls k _ _ l0 a1 t243 _ ?side1 ?side2 A8.out).mono ?_); (case side1 => repeat (first | exact (Kd.V_reads' HO0.out).2.2 | (with_reducible refine Kd.C_alloc ?_ _) | (with_reducible refine Kd.C_drewN ?_ _) | (with_reducible refine Kd.C_drew ?_))); (case side2 => exact (Kd.V_reads' HO0.out).2.1); rintro e w' ⟨rfl, ⟨nd, rfl⟩⟩))
        go_meet
        case rel => exact ⟨_, ((t243 != 0)), (by first | rfl | (simp; done) | (simp [*]; done)), H', ⟨by first | omega | exact Nat.le_refl _⟩, ⟨by (with_reducible repeat (first | apply Kd.V_alloc | apply Kd.V_drewN | apply Kd.V_drew)); exact HO0.out⟩, ⟨by repeat (first | (with_reducible first | exact HB.out | apply below_alloc | apply pw_below_drewN | apply below_drew1) | exact HB.out)⟩⟩
  case rest =>
    clear HC4
    try clear c1
    try clear c2
    try clear p2
    try clear c3
    try clear c6
    try clear c7
    try clear c7b0
    try clear c7b1
    try clear c7b2
    obtain ⟨kq, x35_3, rfl, HA, HJ3, HO_0, HB⟩ := hcut
    cases kq with
    | zero => exact absurd HA.out (by simp [geyserlaw03_MatrixSums.j0])
    | succ kj3 =>
      have H := HA.out
      clear HA
      simp only [geyserlaw03_MatrixSums.j0] at H
      by_cases c9 : x35_3 = true
      · subst c9
        have H1 : ((geyserlaw03_awake.f kj3).bind fun t244 => (some t244)) = some r := by rw [if_pos rfl] at H; exact H
        clear H
        have H := H1
        clear H1
        replace H := Option.bind_eq_some_iff.mp H
        obtain ⟨t244, A100, H⟩ := H
        replace H : (some t244) = some r := H
        have A10 := Aside0.mk A100
        clear A100
        obtain rfl := Option.some.inj H
        go_wp2_with (first | ((with_reducible refine gate_callee (f := 12) rfl ?_); refine goesL_ (some 36) rfl rfl Tryd.func12 (by kernel_rfl) rfl #[] rfl (by (try simp only [List.map_toArray, List.map_cons, List.map_nil]); first | done | rfl | (simp only [List.length_drop, List.length_take]; rfl)) ?_; (with_reducible refine (geyserlaw03_awake.calls kj3  t244 _ ?side1 A10.out).mono ?_); (case side1 => first | exact HT.out | exact TabIn.below HT.out (by repeat (first | (with_reducible first | exact HB.out | apply below_alloc | apply pw_below_drewN | apply below_drew1) | exact HB.out)) | (repeat (first | apply TabIn.drewN | apply TabIn.drew | exact HT.out))); rintro e w11 ⟨rfl, hb⟩; refine ⟨_, rfl, ?_⟩; have n0_ := Aside0.mk (Kd.V_below (by (with_reducible repeat (first | apply Kd.V_alloc | apply Kd.V_drewN | apply Kd.V_drew)); exact HO_0.out) hb); have n1_ := Aside0.mk (below_step (by repeat (first | (with_reducible first | exact HB.out | apply below_alloc | apply pw_below_drewN | apply below_drew1) | exact HB.out)) hb); clear HO_0; clear HB; have HO_0 := n0_; have HB := n1_; clear n0_ n1_; (try clear hb); (try clear hb2); (try clear hk); (try clear hi)))
        go_ret
        exact ⟨by first | rfl | (simp [errW_none, errW_some] <;> rfl) | (simp [*, errW_none, errW_some] <;> rfl), by repeat (first | (with_reducible first | exact HB.out | apply below_alloc | apply pw_below_drewN | apply below_drew1) | exact HB.out)⟩
      · replace c9 := Bool.eq_false_iff.mpr c9
        subst c9
        have H1 : (if 0 < (l0.length : Int) then (if 1 ≤ (l0.length : Int) then ((geyserref02_Size.f kj3 a1).bind fun t254 => (if 0 ≤ t254 then (if (t254 : Int).toNat ≤ 35184372088832 then (geyserlaw03_MatrixSums.l0 kj3 a1 l2 (rd_Lsu64 l0 0) (l0.drop 1) (List.replicate (t254 : Int).toNat 0) 0) else (none)) else (none))) else (none)) else (none)) = some r := by rw [if_neg (show ¬ (false = true) by decide)] at H; exact H
        clear H
        have H := H1
        clear H1
        by_cases c12 : 0 < (l0.length : Int)
        · rw [if_pos c12] at H
          have c12b0 : decide (0 < (l0.length : Int)) = true := decide_eq_true c12
          have c12b1 : decide (0 < l0.length) = true := decide_eq_true (by omega)
          clear c12
          obtain ⟨y246, hy246⟩ : ∃ y_ : List Int, y_ = (rd_Lsu64 l0 0) := ⟨_, rfl⟩
          replace H : (if 1 ≤ (l0.length : Int) then ((geyserref02_Size.f kj3 a1).bind fun t254 => (if 0 ≤ t254 then (if (t254 : Int).toNat ≤ 35184372088832 then (geyserlaw03_MatrixSums.l0 kj3 a1 l2 y246 (l0.drop 1) (List.replicate (t254 : Int).toNat 0) 0) else (none)) else (none))) else (none)) = some r := by first | (rw [hy246]; with_reducible exact H) | (have H2_ := (Option.bind_some _ _).symm.trans H; rw [hy246]; with_reducible exact H2_) | (have H2_ := (Option.bind_some _ _).symm.trans H; with_reducible exact H2_) | with_reducible exact H | (rw [hy246]; exact H) | exact H
          have Ny246 := Aside0.mk hy246
          clear hy246
          by_cases c13 : 1 ≤ (l0.length : Int)
          · rw [if_pos c13] at H
            have c13b0 := eq_true c13
            have c13b1 : decide (1 ≤ (l0.length : Int)) = true := decide_eq_true c13
            clear c13
            obtain ⟨y249, hy249⟩ : ∃ y_ : List (List Int), y_ = (l0.drop 1) := ⟨_, rfl⟩
            replace H : ((geyserref02_Size.f kj3 a1).bind fun t254 => (if 0 ≤ t254 then (if (t254 : Int).toNat ≤ 35184372088832 then (geyserlaw03_MatrixSums.l0 kj3 a1 l2 y246 y249 (List.replicate (t254 : Int).toNat 0) 0) else (none)) else (none))) = some r := by first | (rw [hy249]; with_reducible exact H) | (have H2_ := (Option.bind_some _ _).symm.trans H; rw [hy249]; with_reducible exact H2_) | (have H2_ := (Option.bind_some _ _).symm.trans H; with_reducible exact H2_) | with_reducible exact H | (rw [hy249]; exact H) | exact H
            have Ny249 := Aside0.mk hy249
            clear hy249
            replace H := Option.bind_eq_some_iff.mp H
            obtain ⟨t254, A140, H⟩ := H
            replace H : (if 0 ≤ t254 then (if (t254 : Int).toNat ≤ 35184372088832 then (geyserlaw03_MatrixSums.l0 kj3 a1 l2 y246 y249 (List.replicate (t254 : Int).toNat 0) 0) else (none)) else (none)) = some r := H
            have A14 := Aside0.mk A140
            clear A140
            by_cases c15 : 0 ≤ t254
            · rw [if_pos c15] at H
              have c15b0 := eq_true c15
              have c15b1 : decide (0 ≤ t254) = true := decide_eq_true c15
              clear c15
              by_cases c16 : (t254 : Int).toNat ≤ 35184372088832
              · rw [if_pos c16] at H
                have c16b0 := eq_true c16
                have c16b1 : decide ((t254 : Int).toNat ≤ 35184372088832) = true := decide_eq_true c16
                clear c16
                obtain ⟨y255, hy255⟩ : ∃ y_ : List Int, y_ = (List.replicate (t254 : Int).toNat 0) := ⟨_, rfl⟩
                replace H : (geyserlaw03_MatrixSums.l0 kj3 a1 l2 y246 y249 y255 0) = some r := by first | (rw [hy255]; with_reducible exact H) | (have H2_ := (Option.bind_some _ _).symm.trans H; rw [hy255]; with_reducible exact H2_) | (have H2_ := (Option.bind_some _ _).symm.trans H; with_reducible exact H2_) | with_reducible exact H | (rw [hy255]; exact H) | exact H
                have Ny255 := Aside0.mk hy255
                clear hy255
                have H' := Aside0.mk H
                clear H
                have p245 : 0 ≤ (0 : Int) := (by omega)
                have q245 : 0 < (l0.length : Int) := of_decide_eq_true (by first | (with_reducible assumption) | assumption)
                obtain ⟨ad245, A245_0, c245_0, e245, hx245_0, hl245_0, hi245_0⟩ := at_Lsu64 (Kd.V_reads' HO_0.out).2.2 0 p245 q245
                cases e245
                obtain ⟨ce245, hce245, hMe245, hcc245⟩ := Kd.V_get HO_0.out [] 0 p245 (by first | exact q245 | exact of_decide_eq_true (by first | (with_reducible assumption) | assumption) | (have e_ := (Kd.V_reads' HO_0.out).1; omega))
                obtain ⟨ua245_0, uc245_0, rfl, ul245_0, ge245_0⟩ := Kd.FK_slice_open hMe245
                have hv245_0 := hcc245 0 _ rfl
                rw [Nat.add_zero, show ((Kd.slice 29 (Kd.int .u64))).sz = 1 from rfl, Nat.mul_one] at hv245_0
                replace hv245_0 := Option.some.inj (hv245_0.symm.trans hx245_0)
                injection hv245_0 with hva_ hvn_ hvc_
                rw [hva_] at ge245_0
                rw [hvc_] at ul245_0
                have HL245_0 := Aside0.mk (show Kd.V (Kd.int .u64) 29 _ w.heap.size _ _ (rd_Lsu64 l0 0) from Kd.V_mk ul245_0 ge245_0)
                clear hva_ hvn_ hvc_ ge245_0 ul245_0
                clear hcc245 hce245
                have qi245 : (0 < l0.length) = True := eq_true (by omega)
                (try rw [show ((0 : Int)).toNat = 0 from rfl] at hx245_0)
                (try rw [Addr.add_zero'] at hx245_0)
                have HR245_0 := Aside0.mk hi245_0
                have HC245_0 := Aside0.mk hl245_0
                clear hi245_0 hl245_0
                replace p245 := eq_true p245
                replace q245 := eq_true q245
                have HO248 := Aside0.mk (show Kd.V (Kd.int .u64) 29 _ w.heap.size _ (.slice A245_0 (rd_Lsu64 l0 0).length c245_0) y246 from by rw [Ny246.out]; exact HL245_0.out)
                have q18 : (1 : Int) ≤ ((l0.length : Int) : Int) := of_decide_eq_true (by first | (with_reducible assumption) | assumption)
                obtain ⟨i018, hi018, _, hsz18, _⟩ := info_parts info27
                have hroom18 : l0.length ≤ c0 := (Kd.V_reads' HO_0.out).2.1
                have hC18 : Kd.F (Kd.slice 29 (Kd.int .u64)) _ _ (some ad245) l0.length l0 := (Kd.V_at (base := w.heap.size) HO_0.out).2.2
                have hcut18 := cut_from (P := Tryd.prog) 22 27 .i64 Tryd.underlying22 hi018 1 hsz18 (some ad245) l0.length c0 1 (by omega) q18
                have hr18 := Kd.F_cut (m := (1 : Int).toNat) (c := c0) hC18 (by omega) hroom18
                obtain ⟨A18, hA18⟩ : ∃ A1, A1 = (if c0 = (1 : Int).toNat then (some ad245) else ((some ad245) : Option Addr).map (·.add ((1 : Int).toNat * 1))) := ⟨_, rfl⟩
                obtain ⟨c18, hc18⟩ : ∃ c1, c1 = c0 - (1 : Int).toNat := ⟨_, rfl⟩
                have hy18 : y249.length = l0.length - (1 : Int).toNat := (by rw [Ny249.out, List.length_drop] <;> omega)
                rw [show (l0).drop (1 : Int).toNat = y249 from Ny249.out.symm] at hr18
                replace hr18 : Kd.F (Kd.slice 29 (Kd.int .u64)) _ _ A18 y249.length y249 := (by rw [hA18]; exact hr18)
                rw [← hy18, ← hA18, ← hc18] at hcut18
                have HO253 := Aside0.mk (show Kd.V (Kd.slice 29 (Kd.int .u64)) 27 _ w.heap.size _ (.slice A18 y249.length c18) y249 from Kd.V_mk (by rw [hy18, hc18]; exact Nat.sub_le_sub_right hroom18 _) hr18)
                have HC253 := Aside0.mk (show y249.length ≤ c18 from by rw [hy18, hc18]; exact Nat.sub_le_sub_right hroom18 _)
                clear hr18 hC18 hroom18 hi018 hsz18 hc18
                have KY18 := Aside0.mk hy18
                have KA18 := Aside0.mk hA18
                clear hy18 hA18
                replace q18 := eq_true q18
                go_wp2_with (first | ((with_reducible refine gate_callee (f := 13) rfl ?_); refine goesL_ (some 43) rfl rfl Tryd.func13 (by kernel_rfl) rfl #[.int .i64 a1] rfl (by (try simp only [List.map_toArray, List.map_cons, List.map_nil]); first | done | rfl | (simp only [List.length_drop, List.length_take]; rfl)) ?_; (with_reducible refine (geyserref02_Size.calls kj3 a1 t254 _ A14.out).mono ?_); rintro e w' ⟨rfl, ⟨nd, rfl⟩⟩; refine ⟨_, rfl, ?_⟩) | ((with_reducible refine gate_dst (N := 44) rfl ?_); (try (refine gate_guard (by rfl) ?_; dsimp only)); refine Kd.R_make (Kd.int .u64) _ 29 rfl (N := 44) rfl 27 _ _ rfl t254 rfl rfl Tryd.underlying27 (.int .u64 0) 8 info29 rfl (by decide) (by omega) 0 (ok := fun _ => True) (okp := fun _ => True) rfl (fun _ hk => hk) trivial (of_decide_eq_true (by first | (with_reducible assumption) | assumption)) (Nat.le_trans (Nat.mul_le_mul_right _ (of_decide_eq_true (by first | (with_reducible assumption) | assumption) : t254.toNat ≤ 35184372088832)) (by omega)) (Below.refl _ _) (Nat.le_refl _) ?_; intro v256 w19 ho20 hb hg_ hnew_; clear hg_ hnew_; (first | rw [← Ny255.out] at ho20 | (simp only [Int.reduceToNat] at ho20; rw [← Ny255.out] at ho20)); have n0_ := Aside0.mk (Kd.V_elder' (by (with_reducible repeat (first | apply Kd.V_alloc | apply Kd.V_drewN | apply Kd.V_drew)); exact HO_0.out) (Kd.R_base ho20) hb); have n1_ := Aside0.mk (Kd.V_elder' (by (with_reducible repeat (first | apply Kd.V_alloc | apply Kd.V_drewN | apply Kd.V_drew)); exact HL245_0.out) (Kd.R_base ho20) hb); have n2_ := Aside0.mk (Kd.V_elder' (by (with_reducible repeat (first | apply Kd.V_alloc | apply Kd.V_drewN | apply Kd.V_drew)); exact HO248.out) (Kd.R_base ho20) hb); have n3_ := Aside0.mk (Kd.V_elder' (by (with_reducible repeat (first | apply Kd.V_alloc | apply Kd.V_drewN | apply Kd.V_drew)); exact HO253.out) (Kd.R_base ho20) hb); have n4_ := Aside0.mk (Kd.R_lower (Kd.R_newM (M := fun k_ => (w.heap.size ≤ k_)) ho20 (below_size (by repeat (first | (with_reducible first | exact HB.out | apply below_alloc | apply pw_below_drewN | apply below_drew1) | exact HB.out))) (fun k_ h_ => h_)) (below_size (by repeat (first | (with_reducible first | exact HB.out | apply below_alloc | apply pw_below_drewN | apply below_drew1) | exact HB.out)))); have n5_ := Aside0.mk (below_step (by repeat (first | (with_reducible first | exact HB.out | apply below_alloc | apply pw_below_drewN | apply below_drew1) | exact HB.out)) hb); clear HO_0; clear HL245_0; clear HO248; clear HO253; clear HB; have HO_0 := n0_; have HL245_0 := n1_; have HO248 := n2_; have HO253 := n3_; have HO257 := n4_; have HB := n5_; clear n0_ n1_ n2_ n3_ n4_ n5_; clear hb ho20))
                go_loopg [10] kj3 (fun kq v10 w' => ∃ (x9_2 : List Int) (x10_2 : Int), v10 = .int .i64 x10_2 ∧ Aside0 (geyserlaw03_MatrixSums.l0 kq a1 l2 y246 y249 x9_2 x10_2 = some r) ∧ Aside0 (kq ≤ kj3) ∧ Aside0 (Kd.V (Kd.int .u64) 29 w' w.heap.size (fun k_ => (P0_ k_ ∨ w.heap.size ≤ k_) ∧ some k_ ≠ (v256 : Value).ownBlock) (.slice A245_0 (rd_Lsu64 l0 0).length c245_0) y246) ∧ Aside0 (Kd.V (Kd.slice 29 (Kd.int .u64)) 27 w' w.heap.size (fun k_ => (P0_ k_ ∨ w.heap.size ≤ k_) ∧ some k_ ≠ (v256 : Value).ownBlock) (.slice A18 y249.length c18) y249) ∧ Aside0 (Kd.R (Kd.int .u64) 29 w' w.heap.size (fun k_ => (w.heap.size ≤ k_)) v256 x9_2) ∧ Aside0 (Below w.heap.size w w'))
                case atStart => exact ⟨(y255), (0), (by first | rfl | (simp; done) | (simp [*]; done)), H', ⟨Nat.le_refl _⟩, ⟨by (with_reducible repeat (first | apply Kd.V_alloc | apply Kd.V_drewN | apply Kd.V_drew)); exact HO248.out⟩, ⟨by (with_reducible repeat (first | apply Kd.V_alloc | apply Kd.V_drewN | apply Kd.V_drew)); exact HO253.out⟩, ⟨by (with_reducible repeat (first | apply Kd.R_alloc | apply Kd.R_drewN | apply Kd.R_drew)); exact Kd.R_mono HO257.out (fun _ hk => hk.1)⟩, ⟨by repeat (first | (with_reducible first | exact HB.out | apply below_alloc | apply pw_below_drewN | apply below_drew1) | exact HB.out)⟩⟩
                case round =>
                  clear H'
                  try clear c1
                  try clear q1
                  try clear c2
                  try clear p2
                  try clear q2
                  try clear hx2
                  try clear qi2
                  try clear c3
                  try clear c6
                  try clear c7
                  try clear c7b0
                  try clear c7b1
                  try clear c7b2
                  try clear c9
                  try clear c10
                  try clear c12
                  try clear c12b0
                  try clear c12b1
                  try clear c13
                  try clear c13b0
                  try clear c13b1
                  try clear c15
                  try clear c15b0
                  try clear c15b1
                  try clear c16
                  try clear c16b0
                  try clear c16b1
                  try clear c18
                  try clear q18
                  try clear hx245_0
                  try clear p2
                  try clear p245
                  try clear q18
                  try clear q245
                  obtain ⟨x9_2, x10_2, rfl, HA, HK2, HO_7, HO_8, HO_9, HB⟩ := hrel
                  have hl7_2 := (Kd.V_reads' HO_7.out).1
                  rw [hl7_2] at HO_7
                  (try simp only [hl7_2])
                  (try simp only [hl7_2] at HO_8)
                  (try simp only [hl7_2] at HO_9)
                  cases gk with
                  | zero => exact absurd HA.out (by simp [geyserlaw03_MatrixSums.l0])
                  | succ k2 =>
                    have H := HA.out
                    clear HA
                    simp only [geyserlaw03_MatrixSums.l0] at H
                    by_cases c21 : x10_2 < (y249.length : Int)
                    · rw [if_pos c21] at H
                      have c21b0 : decide (x10_2 < (y249.length : Int)) = true := decide_eq_true c21
                      (try (have c21b0q := c21b0; simp only [hl7_2] at c21b0q))
                      clear c21
                      have HC22 := Aside0.mk H
                      clear H
                      go_upto_region 9 with (fail)
                      go_cut [60] (fun v60 wc => ∃ (kq : Nat) (x60_21 : Bool), v60 = .bool x60_21 ∧ Aside0 (geyserlaw03_MatrixSums.j2 kq a1 l2 y246 y249 x9_2 x10_2 x60_21 = some r) ∧ Aside0 (kq ≤ k2) ∧ Aside0 (Kd.V (Kd.int .u64) 29 wc w.heap.size (fun k_ => (P0_ k_ ∨ w.heap.size ≤ k_) ∧ some k_ ≠ (v256 : Value).ownBlock) (.slice A245_0 y246.length c245_0) y246) ∧ Aside0 (Kd.V (Kd.slice 29 (Kd.int .u64)) 27 wc w.heap.size (fun k_ => (P0_ k_ ∨ w.heap.size ≤ k_) ∧ some k_ ≠ (v256 : Value).ownBlock) (.slice A18 y249.length c18) y249) ∧ Aside0 (Kd.R (Kd.int .u64) 29 wc w.heap.size (fun k_ => (w.heap.size ≤ k_)) v256 x9_2) ∧ Aside0 (Below w.heap.size w wc))
                      case first =>
                        have H := HC22.out
                        clear HC22
                        by_cases c23 : x10_2 < (l2.length : Int)
                        · rw [if_pos c23] at H
                          have c23b0 : decide (x10_2 < (l2.length : Int)) = true := decide_eq_true c23
                          (try (have c23b0q := c23b0; simp only [hl7_2] at c23b0q))
                          clear c23
                          (first | rw [c23b0] | rw [c23b1] | (simp only [i64_w, i32_w]; rw [c23b0]) | skip)
                          by_cases c24 : 0 ≤ x10_2
                          · rw [if_pos c24] at H
                            have c24b0 : decide (0 ≤ x10_2) = true := decide_eq_true c24
                            clear c24
                            have H' := Aside0.mk H
                            clear H
                            have p258 : 0 ≤ (x10_2 : Int) := of_decide_eq_true (by first | (with_reducible assumption) | assumption)
                            have q258 : x10_2 < (l2.length : Int) := of_decide_eq_true (by first | (with_reducible assumption) | assumption)
                            obtain ⟨ad258, e258, hx258_0⟩ := Kd.at_bool HR2.out x10_2 p258 q258
                            cases e258
                            (first | replace hx258_0 := (HB.out.cell (World.block_lt_of_cell? w _ hx258_0)).trans hx258_0 | skip)
                            replace p258 := eq_true p258
                            replace q258 := eq_true q258
                            go_wp2
                            go_meet
                            case rel => exact ⟨_, (rdOf false l2 x10_2), (by first | rfl | (simp; done) | (simp [*]; done)), H', ⟨by have := HJ3.out; have := HK2.out; first | omega | exact Nat.le_refl _⟩, ⟨by (try simp only [hl7_2]); (with_reducible repeat (first | apply Kd.V_alloc | apply Kd.V_drewN | apply Kd.V_drew)); exact HO_7.out⟩, ⟨by (try simp only [hl7_2]); (with_reducible repeat (first | apply Kd.V_alloc | apply Kd.V_drewN | apply Kd.V_drew)); exact HO_8.out⟩, ⟨by (try simp only [hl7_2]); (with_reducible repeat (first | apply Kd.R_alloc | apply Kd.R_drewN | apply Kd.R_drew)); exact HO_9.out⟩, ⟨by repeat (first | (with_reducible first | exact HB.out | apply below_alloc | apply pw_below_drewN | apply below_drew1) | exact HB.out)⟩⟩
                          · rw [if_neg c24] at H
                            exact absurd H (by simp)
                        · rw [if_neg c23] at H
                          have c23b0 : decide (x10_2 < (l2.length : Int)) = false := decide_eq_false c23
                          (try (have c23b0q := c23b0; simp only [hl7_2] at c23b0q))
                          clear c23
                          (first | rw [c23b0] | rw [c23b1] | (simp only [i64_w, i32_w]; rw [c23b0]) | skip)
                          have H' := Aside0.mk H
                          clear H
                          go_wp2
                          go_meet
                          case rel => exact ⟨_, (false), (by first | rfl | (simp; done) | (simp [*]; done)), H', ⟨by have := HJ3.out; have := HK2.out; first | omega | exact Nat.le_refl _⟩, ⟨by (try simp only [hl7_2]); (with_reducible repeat (first | apply Kd.V_alloc | apply Kd.V_drewN | apply Kd.V_drew)); exact HO_7.out⟩, ⟨by (try simp only [hl7_2]); (with_reducible repeat (first | apply Kd.V_alloc | apply Kd.V_drewN | apply Kd.V_drew)); exact HO_8.out⟩, ⟨by (try simp only [hl7_2]); (with_reducible repeat (first | apply Kd.R_alloc | apply Kd.R_drewN | apply Kd.R_drew)); exact HO_9.out⟩, ⟨by repeat (first | (with_reducible first | exact HB.out | apply below_alloc | apply pw_below_drewN | apply below_drew1) | exact HB.out)⟩⟩
                      case rest =>
                        clear HC22
                        try clear c1
                        try clear q1
                        try clear c2
                        try clear p2
                        try clear q2
                        try clear hx2
                        try clear qi2
                        try clear c3
                        try clear c6
                        try clear c7
                        try clear c7b0
                        try clear c7b1
                        try clear c7b2
                        try clear c9
                        try clear c10
                        try clear c12
                        try clear c12b0
                        try clear c12b1
                        try clear c13
                        try clear c13b0
                        try clear c13b1
                        try clear c15
                        try clear c15b0
                        try clear c15b1
                        try clear c16
                        try clear c16b0
                        try clear c16b1
                        try clear c18
                        try clear q18
                        try clear c21
                        try clear c21b0
                        try clear c23
                        try clear c23b0
                        try clear c23b1
                        try clear c24
                        try clear c24b0
                        try clear p24
                        try clear q24
                        try clear hx24
                        try clear qi24
                        try clear hx245_0
                        try clear hx258_0
                        try clear p2
                        try clear p245
                        try clear p258
                        try clear q1
                        try clear q18
                        try clear q2
                        try clear q245
                        try clear q258
                        obtain ⟨kq, x60_21, rfl, HA, HJ21, HO_7, HO_8, HO_9, HB⟩ := hcut
                        cases kq with
                        | zero => exact absurd HA.out (by simp [geyserlaw03_MatrixSums.j2])
                        | succ kj21 =>
                          have H := HA.out
                          clear HA
                          simp only [geyserlaw03_MatrixSums.j2] at H
                          by_cases c25 : x60_21 = true
                          · subst c25
                            have H1 : (geyserlaw03_MatrixSums.l1 kj21 a1 l2 y246 y249 x9_2 x10_2 0) = some r := by rw [if_pos rfl] at H; exact H
                            clear H
                            have H := H1
                            clear H1
                            have H' := Aside0.mk H
                            clear H
                            go_wp2
                            go_loopg [11] kj21 (fun kq v11 w' => ∃ (x9_4 : List Int) (x11_4 : Int), v11 = .int .i64 x11_4 ∧ Aside0 (geyserlaw03_MatrixSums.l1 kq a1 l2 y246 y249 x9_4 x10_2 x11_4 = some r) ∧ Aside0 (kq ≤ kj21) ∧ Aside0 (Kd.V (Kd.int .u64) 29 w' w.heap.size (fun k_ => (P0_ k_ ∨ w.heap.size ≤ k_) ∧ some k_ ≠ (v256 : Value).ownBlock) (.slice A245_0 y246.length c245_0) y246) ∧ Aside0 (Kd.V (Kd.slice 29 (Kd.int .u64)) 27 w' w.heap.size (fun k_ => (P0_ k_ ∨ w.heap.size ≤ k_) ∧ some k_ ≠ (v256 : Value).ownBlock) (.slice A18 y249.length c18) y249) ∧ Aside0 (Kd.R (Kd.int .u64) 29 w' w.heap.size (fun k_ => (w.heap.size ≤ k_)) v256 x9_4) ∧ Aside0 (Below w.heap.size w w'))
                            case atStart => exact ⟨(x9_2), (0), (by first | rfl | (simp; done) | (simp [*]; done)), H', ⟨Nat.le_refl _⟩, ⟨by (try simp only [hl7_2]); (with_reducible repeat (first | apply Kd.V_alloc | apply Kd.V_drewN | apply Kd.V_drew)); exact HO_7.out⟩, ⟨by (try simp only [hl7_2]); (with_reducible repeat (first | apply Kd.V_alloc | apply Kd.V_drewN | apply Kd.V_drew)); exact HO_8.out⟩, ⟨by (try simp only [hl7_2]); (with_reducible repeat (first | apply Kd.R_alloc | apply Kd.R_drewN | apply Kd.R_drew)); exact HO_9.out⟩, ⟨by repeat (first | (with_reducible first | exact HB.out | apply below_alloc | apply pw_below_drewN | apply below_drew1) | exact HB.out)⟩⟩
                            case round =>
                              clear H'
                              try clear c1
                              try clear q1
                              try clear c2
                              try clear p2
                              try clear q2
                              try clear hx2
                              try clear qi2
                              try clear c3
                              try clear c6
                              try clear c7
                              try clear c7b0
                              try clear c7b1
                              try clear c7b2
                              try clear c9
                              try clear c10
                              try clear c12
                              try clear c12b0
                              try clear c12b1
                              try clear c13
                              try clear c13b0
                              try clear c13b1
                              try clear c15
                              try clear c15b0
                              try clear c15b1
                              try clear c16
                              try clear c16b0
                              try clear c16b1
                              try clear c18
                              try clear q18
                              try clear c21
                              try clear c21b0
                              try clear c23
                              try clear c23b0
                              try clear c23b1
                              try clear c24
                              try clear c24b0
                              try clear p24
                              try clear q24
                              try clear hx24
                              try clear qi24
                              try clear c25
                              try clear p25
                              try clear q25
                              try clear hx25
                              try clear hx245_0
                              try clear hx258_0
                              try clear p2
                              try clear p24
                              try clear p245
                              try clear p258
                              try clear q1
                              try clear q18
                              try clear q2
                              try clear q24
                              try clear q245
                              try clear q258
                              obtain ⟨x9_4, x11_4, rfl, HA, HK4, HO_7, HO_8, HO_9, HB⟩ := hrel
                              cases gk with
                              | zero => exact absurd HA.out (by simp [geyserlaw03_MatrixSums.l1])
                              | succ k4 =>
                                have H := HA.out
                                clear HA
                                simp only [geyserlaw03_MatrixSums.l1] at H
                                by_cases c26 : x11_4 < (x9_4.length : Int)
                                · rw [if_pos c26] at H
                                  have c26b0 : decide (x11_4 < (x9_4.length : Int)) = true := decide_eq_true c26
                                  (try (have c26b0q := c26b0; simp only [hl7_2] at c26b0q))
                                  clear c26
                                  by_cases c27 : 0 ≤ x11_4
                                  · rw [if_pos c27] at H
                                    have c27b0 : decide (0 ≤ x11_4) = true := decide_eq_true c27
                                    clear c27
                                    by_cases c28 : 0 ≤ x10_2
                                    · rw [if_pos c28] at H
                                      have c28b0 : decide (0 ≤ x10_2) = true := decide_eq_true c28
                                      clear c28
                                      by_cases c29 : x10_2 < (y249.length : Int)
                                      · rw [if_pos c29] at H
                                        have c29b0 : decide (x10_2 < (y249.length : Int)) = true := decide_eq_true c29
                                        (try (have c29b0q := c29b0; simp only [hl7_2] at c29b0q))
                                        clear c29
                                        by_cases c30 : x11_4 < ((rd_Lsu64 y249 x10_2).length : Int)
                                        · rw [if_pos c30] at H
                                          have c30b0 : decide (x11_4 < ((rd_Lsu64 y249 x10_2).length : Int)) = true := decide_eq_true c30
                                          (try (have c30b0q := c30b0; simp only [hl7_2] at c30b0q))
                                          clear c30
                                          obtain ⟨y262, hy262⟩ : ∃ y_ : List Int, y_ = (x9_4.set (x11_4 : Int).toNat (Go.bits .xor .u64 (rd x9_4 x11_4) (rd (rd_Lsu64 y249 x10_2) x11_4))) := ⟨_, rfl⟩
                                          replace H : (geyserlaw03_MatrixSums.l1 k4 a1 l2 y246 y249 y262 x10_2 (wrap64 (x11_4 + 1))) = some r := by first | (rw [hy262]; with_reducible exact H) | (have H2_ := (Option.bind_some _ _).symm.trans H; rw [hy262]; with_reducible exact H2_) | (have H2_ := (Option.bind_some _ _).symm.trans H; with_reducible exact H2_) | with_reducible exact H | (rw [hy262]; exact H) | exact H
                                          have Ny262 := Aside0.mk hy262
                                          clear hy262
                                          have H' := Aside0.mk H
                                          clear H
                                          obtain ⟨Ao32, co32, eo32⟩ := Kd.R_slice HO_9.out
                                          subst eo32
                                          try go_wp2
                                          have n0_ := Aside0.mk (Kd.V_drew HO_7.out)
                                          have n1_ := Aside0.mk (Kd.V_drew HO_8.out)
                                          have n2_ := Aside0.mk (Kd.R_drew HO_9.out)
                                          have n3_ := Aside0.mk (below_drew1 HB.out)
                                          clear HO_7
                                          clear HO_8
                                          clear HO_9
                                          clear HB
                                          have HO_7 := n0_
                                          have HO_8 := n1_
                                          have HO_9 := n2_
                                          have HB := n3_
                                          clear n0_ n1_ n2_ n3_
                                          have p259 : 0 ≤ (x11_4 : Int) := of_decide_eq_true (by first | (with_reducible assumption) | assumption)
                                          have q259 : x11_4 < (x9_4.length : Int) := of_decide_eq_true (by first | (with_reducible assumption) | assumption)
                                          obtain ⟨ad259, e259, hx259_0⟩ := Kd.at_int (Kd.R_reads' HO_9.out).2.2 x11_4 p259 q259
                                          cases e259
                                          replace p259 := eq_true p259
                                          replace q259 := eq_true q259
                                          have p260 : 0 ≤ (x10_2 : Int) := of_decide_eq_true (by first | (with_reducible assumption) | assumption)
                                          have q260 : x10_2 < (y249.length : Int) := of_decide_eq_true (by first | (with_reducible assumption) | assumption)
                                          obtain ⟨ad260, A260_0, c260_0, e260, hx260_0, hl260_0, hi260_0⟩ := at_Lsu64 (Kd.V_reads' HO_8.out).2.2 x10_2 p260 q260
                                          cases e260
                                          obtain ⟨ce260, hce260, hMe260, hcc260⟩ := Kd.V_get HO_8.out [] x10_2 p260 (by first | exact q260 | exact of_decide_eq_true (by first | (with_reducible assumption) | assumption) | (have e_ := (Kd.V_reads' HO_8.out).1; omega))
                                          obtain ⟨ua260_0, uc260_0, rfl, ul260_0, ge260_0⟩ := Kd.FK_slice_open hMe260
                                          have hv260_0 := hcc260 0 _ rfl
                                          rw [Nat.add_zero, show ((Kd.slice 29 (Kd.int .u64))).sz = 1 from rfl, Nat.mul_one] at hv260_0
                                          replace hv260_0 := Option.some.inj (hv260_0.symm.trans hx260_0)
                                          injection hv260_0 with hva_ hvn_ hvc_
                                          rw [hva_] at ge260_0
                                          rw [hvc_] at ul260_0
                                          have HL260_0 := Aside0.mk (show Kd.V (Kd.int .u64) 29 _ w.heap.size _ _ (rd_Lsu64 y249 x10_2) from Kd.V_mk ul260_0 ge260_0)
                                          clear hva_ hvn_ hvc_ ge260_0 ul260_0
                                          clear hcc260 hce260
                                          have HR260_0 := Aside0.mk hi260_0
                                          have HC260_0 := Aside0.mk hl260_0
                                          clear hi260_0 hl260_0
                                          replace p260 := eq_true p260
                                          replace q260 := eq_true q260
                                          have p261 : 0 ≤ (x11_4 : Int) := of_decide_eq_true (by first | (with_reducible assumption) | assumption)
                                          have q261 : x11_4 < ((rd_Lsu64 y249 x10_2).length : Int) := of_decide_eq_true (by first | (with_reducible assumption) | assumption)
                                          obtain ⟨ad261, e261, hx261_0⟩ := Kd.at_int (by repeat (first | (with_reducible exact HR260_0.out) | (with_reducible refine Kd.C_alloc ?_ _) | (with_reducible refine Kd.C_drewN ?_ _) | (with_reducible refine Kd.C_drew ?_) | exact HR260_0.out)) x11_4 p261 q261
                                          cases e261
                                          replace p261 := eq_true p261
                                          replace q261 := eq_true q261
                                          have p31 : 0 ≤ (x11_4 : Int) := of_decide_eq_true (by first | (with_reducible assumption) | assumption)
                                          have q31 : (x11_4 : Int) < ((x9_4.length : Int) : Int) := of_decide_eq_true (by first | (with_reducible assumption) | assumption)
                                          obtain ⟨go31, co31, eo31, gb31, gl31, cl31, HG31⟩ := Kd.R_form HO_9.out (by omega)
                                          (first | cases eo31 | (injection eo31 with ea_ en_ ec_; (first | subst ea_ | (injection ea_ with ea_; subst ea_)); subst ec_; clear en_))
                                          have GB31 := Aside0.mk gb31
                                          have GG31 := Aside0.mk HG31
                                          clear gb31 gl31 HG31
                                          (first | simp only [add_plain] at hx259_0 | skip)
                                          obtain ⟨hx31_0, hf31_0⟩ := Kd.R_celln 0 HO_9.out (x11_4 : Int) p31 q31
                                          replace p31 := eq_true p31
                                          replace q31 := eq_true q31
                                          have HP34 := Kd.R_putn HO_9.out (x11_4 : Int) (Go.bits .xor .u64 (rd x9_4 x11_4) (rd (rd_Lsu64 y249 x10_2) x11_4))
                                          rw [← Ny262.out] at HP34
                                          have HQ34 := Aside0.mk HP34
                                          clear HP34
                                          refine start_ (n := 16) (S := fun w' => w'.cell? ⟨go31, (x11_4).toNat, none⟩ = some (.int .u64 (rd x9_4 x11_4)) ∧ w'.cell? (ad260.add (x10_2).toNat) = some (.slice (some ad261) (rd_Lsu64 y249 x10_2).length c260_0) ∧ w'.cell? (ad261.add (x11_4).toNat) = some (.int .u64 (rd (rd_Lsu64 y249 x10_2) x11_4))) (ds := [15]) #[false, false, false, false, false, false, false, false, false, false, false, false, false, false, false, false] (by kernel_rfl) rfl rfl ⟨hx259_0, hx260_0, hx261_0⟩ (fun hHeld => ?_); refine with_tabW geyserlaw03_MatrixSums.tab13 geyserlaw03_MatrixSums.bits13 (fun HT_ HW_ => ?_)
                                          generalize wr.drew = w33 at HO_7 HO_8 HO_9 HB GG31 HL260_0 HQ34 HR260_0 hf31_0 hx259_0 hx260_0 hx261_0 hx31_0 hHeld ⊢
                                          refine pure_ (i := 0) (N := some 67) (v := ?_) (a' := ?_) #[true, false, false, false, false, false, false, false, false, false, false, false, false, false, false, false] rfl rfl (any_of HT_.out (by kernel_rfl)) (fun _ _ _ h => h) (Or.inl ⟨by rfl, ?_⟩) ?_ ?_
                                          rotate_left
                                          · intro w'
                                            go_simp
                                            with_reducible rfl
                                          rotate_left
                                          · simp only [Act.put, List.setIfInBounds_toArray, List.set_cons_zero, List.set_cons_succ, i64_w, i32_w]
                                            rfl
                                          refine pure_ (i := 1) (N := some 68) (v := ?_) (a' := ?_) #[true, true, false, false, false, false, false, false, false, false, false, false, false, false, false, false] rfl rfl (any_of HT_.out (by kernel_rfl)) (fun _ _ _ h => h) (Or.inl ⟨by rfl, ?_⟩) ?_ ?_
                                          rotate_left
                                          · intro w'
                                            go_simp
                                            with_reducible rfl
                                          rotate_left
                                          · simp only [Act.put, List.setIfInBounds_toArray, List.set_cons_zero, List.set_cons_succ, i64_w, i32_w]
                                            rfl
                                          refine pure_ (i := 2) (N := some 69) (v := ?_) (a' := ?_) #[true, true, true, false, false, false, false, false, false, false, false, false, false, false, false, false] rfl rfl (any_of HT_.out (by kernel_rfl)) (fun _ _ _ h => h) (Or.inl ⟨by rfl, ?_⟩) ?_ ?_
                                          rotate_left
                                          · intro w'
                                            go_simp
                                            with_reducible rfl
                                          rotate_left
                                          · simp only [Act.put, List.setIfInBounds_toArray, List.set_cons_zero, List.set_cons_succ, i64_w, i32_w]
                                            rfl
                                          refine pure_ (i := 3) (N := some 70) (v := ?_) (a' := ?_) #[true, true, true, true, false, false, false, false, false, false, false, false, false, false, false, false] rfl rfl (any_of HT_.out (by kernel_rfl)) (fun _ _ _ h => h) (Or.inl ⟨by rfl, ?_⟩) ?_ ?_
                                          rotate_left
                                          · intro w'
                                            go_simp
                                            with_reducible rfl
                                          rotate_left
                                          · simp only [Act.put, List.setIfInBounds_toArray, List.set_cons_zero, List.set_cons_succ, i64_w, i32_w]
                                            rfl
                                          refine pure_ (i := 4) (N := some 71) (v := ?_) (a' := ?_) #[true, true, true, true, true, false, false, false, false, false, false, false, false, false, false, false] rfl rfl (any_of HT_.out (by kernel_rfl)) (fun _ _ _ h => h) (Or.inl ⟨by rfl, ?_⟩) ?_ ?_
                                          rotate_left
                                          · intro w'
                                            go_simp
                                            with_reducible rfl
                                          rotate_left
                                          · simp only [Act.put, List.setIfInBounds_toArray, List.set_cons_zero, List.set_cons_succ, i64_w, i32_w]
                                            rfl
                                          refine pure_ (i := 6) (N := some 73) (v := ?_) (a' := ?_) #[true, true, true, true, true, false, true, false, false, false, false, false, false, false, false, false] rfl rfl (any_of HT_.out (by kernel_rfl)) (fun _ _ _ h => h) (Or.inl ⟨by rfl, ?_⟩) ?_ ?_
                                          rotate_left
                                          · intro w'
                                            go_simp
                                            with_reducible rfl
                                          rotate_left
                                          · simp only [Act.put, List.setIfInBounds_toArray, List.set_cons_zero, List.set_cons_succ, i64_w, i32_w]
                                            rfl
                                          refine pure_ (i := 7) (N := some 74) (v := ?_) (a' := ?_) #[true, true, true, true, true, false, true, true, false, false, false, false, false, false, false, false] rfl rfl (any_of HT_.out (by kernel_rfl)) (fun _ _ _ h => h) (Or.inl ⟨by rfl, ?_⟩) ?_ ?_
                                          rotate_left
                                          · intro w'
                                            go_simp
                                            with_reducible rfl
                                          rotate_left
                                          · simp only [Act.put, List.setIfInBounds_toArray, List.set_cons_zero, List.set_cons_succ, i64_w, i32_w]
                                            rfl
                                          refine pure_ (i := 8) (N := some 75) (v := ?_) (a' := ?_) #[true, true, true, true, true, false, true, true, true, false, false, false, false, false, false, false] rfl rfl (any_of HT_.out (by kernel_rfl)) (fun _ _ _ h => h) (Or.inl ⟨by rfl, ?_⟩) ?_ ?_
                                          rotate_left
                                          · intro w'
                                            go_simp
                                            with_reducible rfl
                                          rotate_left
                                          · simp only [Act.put, List.setIfInBounds_toArray, List.set_cons_zero, List.set_cons_succ, i64_w, i32_w]
                                            rfl
                                          refine pure_ (i := 10) (N := some 77) (v := ?_) (a' := ?_) #[true, true, true, true, true, false, true, true, true, false, true, false, false, false, false, false] rfl rfl (any_of HT_.out (by kernel_rfl)) (fun _ _ _ h => h) (Or.inl ⟨by rfl, ?_⟩) ?_ ?_
                                          rotate_left
                                          · intro w'
                                            go_simp
                                            with_reducible rfl
                                          rotate_left
                                          · simp only [Act.put, List.setIfInBounds_toArray, List.set_cons_zero, List.set_cons_succ, i64_w, i32_w]
                                            rfl
                                          refine take_ (i := 5) (N := some 72) (v := ?_) (a' := ?_) #[true, true, true, true, true, true, true, true, true, false, true, false, false, false, false, false] rfl rfl (take_ofW HT_.out HW_.out (by kernel_rfl)) (fun _ _ _ h => h) (Or.inl ⟨by rfl, ?_⟩) hHeld ?_ ?_
                                          rotate_left
                                          · rintro w' ⟨s0, s1, s2⟩
                                            go_simp
                                            with_reducible rfl
                                          rotate_left
                                          · simp only [Act.put, List.setIfInBounds_toArray, List.set_cons_zero, List.set_cons_succ, i64_w, i32_w]
                                            rfl
                                          refine take_ (i := 9) (N := some 76) (v := ?_) (a' := ?_) #[true, true, true, true, true, true, true, true, true, true, true, false, false, false, false, false] rfl rfl (take_ofW HT_.out HW_.out (by kernel_rfl)) (fun _ _ _ h => h) (Or.inl ⟨by rfl, ?_⟩) hHeld ?_ ?_
                                          rotate_left
                                          · rintro w' ⟨s0, s1, s2⟩
                                            go_simp
                                            with_reducible rfl
                                          rotate_left
                                          · simp only [Act.put, List.setIfInBounds_toArray, List.set_cons_zero, List.set_cons_succ, i64_w, i32_w]
                                            rfl
                                          refine pure_ (i := 11) (N := some 78) (v := ?_) (a' := ?_) #[true, true, true, true, true, true, true, true, true, true, true, true, false, false, false, false] rfl rfl (any_of HT_.out (by kernel_rfl)) (fun _ _ _ h => h) (Or.inl ⟨by rfl, ?_⟩) ?_ ?_
                                          rotate_left
                                          · intro w'
                                            go_simp
                                            with_reducible rfl
                                          rotate_left
                                          · simp only [Act.put, List.setIfInBounds_toArray, List.set_cons_zero, List.set_cons_succ, i64_w, i32_w]
                                            rfl
                                          refine take_ (i := 12) (N := some 79) (v := ?_) (a' := ?_) #[true, true, true, true, true, true, true, true, true, true, true, true, true, false, false, false] rfl rfl (take_ofW HT_.out HW_.out (by kernel_rfl)) (fun _ _ _ h => h) (Or.inl ⟨by rfl, ?_⟩) hHeld ?_ ?_
                                          rotate_left
                                          · rintro w' ⟨s0, s1, s2⟩
                                            go_simp
                                            with_reducible rfl
                                          rotate_left
                                          · simp only [Act.put, List.setIfInBounds_toArray, List.set_cons_zero, List.set_cons_succ, i64_w, i32_w]
                                            rfl
                                          refine pure_ (i := 13) (N := some 80) (v := ?_) (a' := ?_) #[true, true, true, true, true, true, true, true, true, true, true, true, true, true, false, false] rfl rfl (any_of HT_.out (by kernel_rfl)) (fun _ _ _ h => h) (Or.inl ⟨by rfl, ?_⟩) ?_ ?_
                                          rotate_left
                                          · intro w'
                                            go_simp
                                            with_reducible rfl
                                          rotate_left
                                          · simp only [Act.put, List.setIfInBounds_toArray, List.set_cons_zero, List.set_cons_succ, i64_w, i32_w]
                                            rfl
                                          refine pure_ (i := 14) (N := some 81) (v := ?_) (a' := ?_) #[true, true, true, true, true, true, true, true, true, true, true, true, true, true, true, false] rfl rfl (any_of HT_.out (by kernel_rfl)) (fun _ _ _ h => h) (Or.inl ⟨by rfl, ?_⟩) ?_ ?_
                                          rotate_left
                                          · intro w'
                                            go_simp
                                            with_reducible rfl
                                          rotate_left
                                          · simp only [Act.put, List.setIfInBounds_toArray, List.set_cons_zero, List.set_cons_succ, i64_w, i32_w]
                                            rfl
                                          refine last_ (i := 15) (N := none) #[true, true, true, true, true, true, true, true, true, true, true, true, true, true, true, true] rfl rfl (one_of HT_.out (by kernel_rfl)) (by decide) (fun K hK => ?_)
                                          refine skip_ (w1 := ?_) (by rfl) rfl ?_ ?_
                                          rotate_left
                                          · go_simp
                                            rfl
                                          refine hK.out _ _ ?_
                                          clear hK K
                                          refine done_ (done_of HT_.out (by kernel_rfl)) ?_
                                          try go_wp2
                                          go_roundg k4
                                          case measure => have := HJ3.out; have := HK2.out; have := HJ21.out; have := HK4.out; omega
                                          case rel => exact ⟨(y262), (wrap64 (x11_4 + 1)), (by first | rfl | (simp; done) | (simp [*]; done)), H', ⟨by have := HJ3.out; have := HK2.out; have := HJ21.out; have := HK4.out; omega⟩, ⟨by (try simp only [hl7_2]); (with_reducible repeat (first | apply Kd.V_alloc | apply Kd.V_drewN | apply Kd.V_drew)); exact Kd.V_mono (Kd.V_far (p := ⟨go31, (x11_4 : Int).toNat, none⟩) (Kd.V_mono HO_7.out (fun k_ hk => (⟨hk, fun e_ => hk.2 (by rw [e_]; rfl)⟩ : _ ∧ k_ ≠ go31))) (fun _ hk => hk.2) (.int .u64 (Go.bits .xor .u64 (rd x9_4 x11_4) (rd (rd_Lsu64 y249 x10_2) x11_4)))) (fun _ hk => ⟨hk.1.1, hk.1.2⟩)⟩, ⟨by (try simp only [hl7_2]); (with_reducible repeat (first | apply Kd.V_alloc | apply Kd.V_drewN | apply Kd.V_drew)); exact Kd.V_mono (Kd.V_far (p := ⟨go31, (x11_4 : Int).toNat, none⟩) (Kd.V_mono HO_8.out (fun k_ hk => (⟨hk, fun e_ => hk.2 (by rw [e_]; rfl)⟩ : _ ∧ k_ ≠ go31))) (fun _ hk => hk.2) (.int .u64 (Go.bits .xor .u64 (rd x9_4 x11_4) (rd (rd_Lsu64 y249 x10_2) x11_4)))) (fun _ hk => ⟨hk.1.1, hk.1.2⟩)⟩, ⟨by (try simp only [hl7_2]); (with_reducible repeat (first | apply Kd.R_alloc | apply Kd.R_drewN | apply Kd.R_drew)); exact HQ34.out⟩, ⟨by repeat (first | (with_reducible first | exact HB.out | apply below_alloc | apply pw_below_drewN | apply below_drew1 | refine below_set ?_ GB31.out) | exact HB.out)⟩⟩
                                        · rw [if_neg c30] at H
                                          exact absurd H (by simp)
                                      · rw [if_neg c29] at H
                                        exact absurd H (by simp)
                                    · rw [if_neg c28] at H
                                      exact absurd H (by simp)
                                  · rw [if_neg c27] at H
                                    exact absurd H (by simp)
                                · rw [if_neg c26] at H
                                  have c26b0 : decide (x11_4 < (x9_4.length : Int)) = false := decide_eq_false c26
                                  (try (have c26b0q := c26b0; simp only [hl7_2] at c26b0q))
                                  clear c26
                                  have H' := Aside0.mk H
                                  clear H
                                  obtain ⟨Ao35, co35, eo35⟩ := Kd.R_slice HO_9.out
                                  subst eo35
                                  go_wp2
                                  (try simp only [← hl7_2])
                                  go_roundg k4
                                  case measure => have := HJ3.out; have := HK2.out; have := HJ21.out; have := HK4.out; omega
                                  case rel => exact ⟨(x9_4), (wrap64 (x10_2 + 1)), (by first | rfl | (simp; done) | (simp [*]; done)), H', ⟨by have := HJ3.out; have := HK2.out; have := HJ21.out; have := HK4.out; omega⟩, ⟨by (try simp only [hl7_2]); (with_reducible repeat (first | apply Kd.V_alloc | apply Kd.V_drewN | apply Kd.V_drew)); exact HO_7.out⟩, ⟨by (try simp only [hl7_2]); (with_reducible repeat (first | apply Kd.V_alloc | apply Kd.V_drewN | apply Kd.V_drew)); exact HO_8.out⟩, ⟨by (try simp only [hl7_2]); (with_reducible repeat (first | apply Kd.R_alloc | apply Kd.R_drewN | apply Kd.R_drew)); exact HO_9.out⟩, ⟨by repeat (first | (with_reducible first | exact HB.out | apply below_alloc | apply pw_below_drewN | apply below_drew1) | exact HB.out)⟩⟩
                          · replace c25 := Bool.eq_false_iff.mpr c25
                            subst c25
                            have H1 : (geyserlaw03_MatrixSums.l0 kj21 a1 l2 y246 y249 x9_2 (wrap64 (x10_2 + 1))) = some r := by rw [if_neg (show ¬ (false = true) by decide)] at H; exact H
                            clear H
                            have H := H1
                            clear H1
                            have H' := Aside0.mk H
                            clear H
                            go_wp2
                            (try simp only [← hl7_2])
                            go_roundg kj21
                            case measure => have := HJ3.out; have := HK2.out; have := HJ21.out; omega
                            case rel => exact ⟨(x9_2), (wrap64 (x10_2 + 1)), (by first | rfl | (simp; done) | (simp [*]; done)), H', ⟨by have := HJ3.out; have := HK2.out; have := HJ21.out; omega⟩, ⟨by (try simp only [hl7_2]); (with_reducible repeat (first | apply Kd.V_alloc | apply Kd.V_drewN | apply Kd.V_drew)); exact HO_7.out⟩, ⟨by (try simp only [hl7_2]); (with_reducible repeat (first | apply Kd.V_alloc | apply Kd.V_drewN | apply Kd.V_drew)); exact HO_8.out⟩, ⟨by (try simp only [hl7_2]); (with_reducible repeat (first | apply Kd.R_alloc | apply Kd.R_drewN | apply Kd.R_drew)); exact HO_9.out⟩, ⟨by repeat (first | (with_reducible first | exact HB.out | apply below_alloc | apply pw_below_drewN | apply below_drew1) | exact HB.out)⟩⟩
                    · rw [if_neg c21] at H
                      have c21b0 : decide (x10_2 < (y249.length : Int)) = false := decide_eq_false c21
                      (try (have c21b0q := c21b0; simp only [hl7_2] at c21b0q))
                      clear c21
                      replace H := Option.bind_eq_some_iff.mp H
                      obtain ⟨⟨t263, t264⟩, A360, H⟩ := H
                      replace H : ((some (([] : List (List Int)) : List (List Int))).bind fun y267 => (if y267.length + y249.length < 5864062014805 then ((some (y267 ++ y249 : List (List Int))).bind fun y270 => ((some (x9_2 : List Int)).bind fun y273 => (if y270.length < 5864062014805 then ((matrix_Rank.f k2 (y270 ++ [y273]) a1).bind fun bt279 => ((some (([] : List (List Int)) : List (List Int))).bind fun y283 => (if y283.length + y249.length < 5864062014805 then ((some (y283 ++ y249 : List (List Int))).bind fun y286 => (if y286.length < 5864062014805 then ((matrix_Rank.f k2 (y286 ++ [y246]) a1).bind fun bt292 => ((matrix_Spans.f k2 y249 a1 y246).bind fun bt296 => ((matrix_Spans.f k2 y249 a1 y273).bind fun bt300 => (if (t264.length : Int) = 0 then (if (bt279.2.length : Int) = 0 then (if (bt292.2.length : Int) = 0 then (if (bt296.2.length : Int) = 0 then (if (bt300.2.length : Int) = 0 then (if t263 = bt279.1 then (geyserlaw03_MatrixSums.j4 k2 t263 bt292.1 bt296.1 (!bt300.1)) else (geyserlaw03_MatrixSums.j4 k2 t263 bt292.1 bt296.1 true)) else (geyserlaw03_MatrixSums.j4 k2 t263 bt292.1 bt296.1 true)) else (geyserlaw03_MatrixSums.j4 k2 t263 bt292.1 bt296.1 true)) else (geyserlaw03_MatrixSums.j4 k2 t263 bt292.1 bt296.1 true)) else (geyserlaw03_MatrixSums.j4 k2 t263 bt292.1 bt296.1 true)) else (geyserlaw03_MatrixSums.j4 k2 t263 bt292.1 bt296.1 true))))) else (none))) else (none)))) else (none)))) else (none))) = some r := H
                      have A36 := Aside0.mk A360
                      clear A360
                      obtain ⟨y267, hy267⟩ : ∃ y_ : List (List Int), y_ = (([] : List (List Int))) := ⟨_, rfl⟩
                      replace H : (if y267.length + y249.length < 5864062014805 then ((some (y267 ++ y249 : List (List Int))).bind fun y270 => ((some (x9_2 : List Int)).bind fun y273 => (if y270.length < 5864062014805 then ((matrix_Rank.f k2 (y270 ++ [y273]) a1).bind fun bt279 => ((some (([] : List (List Int)) : List (List Int))).bind fun y283 => (if y283.length + y249.length < 5864062014805 then ((some (y283 ++ y249 : List (List Int))).bind fun y286 => (if y286.length < 5864062014805 then ((matrix_Rank.f k2 (y286 ++ [y246]) a1).bind fun bt292 => ((matrix_Spans.f k2 y249 a1 y246).bind fun bt296 => ((matrix_Spans.f k2 y249 a1 y273).bind fun bt300 => (if (t264.length : Int) = 0 then (if (bt279.2.length : Int) = 0 then (if (bt292.2.length : Int) = 0 then (if (bt296.2.length : Int) = 0 then (if (bt300.2.length : Int) = 0 then (if t263 = bt279.1 then (geyserlaw03_MatrixSums.j4 k2 t263 bt292.1 bt296.1 (!bt300.1)) else (geyserlaw03_MatrixSums.j4 k2 t263 bt292.1 bt296.1 true)) else (geyserlaw03_MatrixSums.j4 k2 t263 bt292.1 bt296.1 true)) else (geyserlaw03_MatrixSums.j4 k2 t263 bt292.1 bt296.1 true)) else (geyserlaw03_MatrixSums.j4 k2 t263 bt292.1 bt296.1 true)) else (geyserlaw03_MatrixSums.j4 k2 t263 bt292.1 bt296.1 true)) else (geyserlaw03_MatrixSums.j4 k2 t263 bt292.1 bt296.1 true))))) else (none))) else (none)))) else (none)))) else (none)) = some r := by first | (rw [hy267]; with_reducible exact H) | (have H2_ := (Option.bind_some _ _).symm.trans H; rw [hy267]; with_reducible exact H2_) | (have H2_ := (Option.bind_some _ _).symm.trans H; with_reducible exact H2_) | with_reducible exact H | (rw [hy267]; exact H) | exact H
                      have Ny267 := Aside0.mk hy267
                      clear hy267
                      by_cases c37 : y267.length + y249.length < 5864062014805
                      · rw [if_pos c37] at H
                        have LMc37 := Aside0.mk c37
                        clear c37
                        obtain ⟨y270, hy270⟩ : ∃ y_ : List (List Int), y_ = (y267 ++ y249) := ⟨_, rfl⟩
                        replace H : ((some (x9_2 : List Int)).bind fun y273 => (if y270.length < 5864062014805 then ((matrix_Rank.f k2 (y270 ++ [y273]) a1).bind fun bt279 => ((some (([] : List (List Int)) : List (List Int))).bind fun y283 => (if y283.length + y249.length < 5864062014805 then ((some (y283 ++ y249 : List (List Int))).bind fun y286 => (if y286.length < 5864062014805 then ((matrix_Rank.f k2 (y286 ++ [y246]) a1).bind fun bt292 => ((matrix_Spans.f k2 y249 a1 y246).bind fun bt296 => ((matrix_Spans.f k2 y249 a1 y273).bind fun bt300 => (if (t264.length : Int) = 0 then (if (bt279.2.length : Int) = 0 then (if (bt292.2.length : Int) = 0 then (if (bt296.2.length : Int) = 0 then (if (bt300.2.length : Int) = 0 then (if t263 = bt279.1 then (geyserlaw03_MatrixSums.j4 k2 t263 bt292.1 bt296.1 (!bt300.1)) else (geyserlaw03_MatrixSums.j4 k2 t263 bt292.1 bt296.1 true)) else (geyserlaw03_MatrixSums.j4 k2 t263 bt292.1 bt296.1 true)) else (geyserlaw03_MatrixSums.j4 k2 t263 bt292.1 bt296.1 true)) else (geyserlaw03_MatrixSums.j4 k2 t263 bt292.1 bt296.1 true)) else (geyserlaw03_MatrixSums.j4 k2 t263 bt292.1 bt296.1 true)) else (geyserlaw03_MatrixSums.j4 k2 t263 bt292.1 bt296.1 true))))) else (none))) else (none)))) else (none))) = some r := by first | (rw [hy270]; with_reducible exact H) | (have H2_ := (Option.bind_some _ _).symm.trans H; rw [hy270]; with_reducible exact H2_) | (have H2_ := (Option.bind_some _ _).symm.trans H; with_reducible exact H2_) | with_reducible exact H | (rw [hy270]; exact H) | exact H
                        have Ny270 := Aside0.mk hy270
                        clear hy270
                        obtain ⟨y273, hy273⟩ : ∃ y_ : List Int, y_ = (x9_2) := ⟨_, rfl⟩
                        replace H : (if y270.length < 5864062014805 then ((matrix_Rank.f k2 (y270 ++ [y273]) a1).bind fun bt279 => ((some (([] : List (List Int)) : List (List Int))).bind fun y283 => (if y283.length + y249.length < 5864062014805 then ((some (y283 ++ y249 : List (List Int))).bind fun y286 => (if y286.length < 5864062014805 then ((matrix_Rank.f k2 (y286 ++ [y246]) a1).bind fun bt292 => ((matrix_Spans.f k2 y249 a1 y246).bind fun bt296 => ((matrix_Spans.f k2 y249 a1 y273).bind fun bt300 => (if (t264.length : Int) = 0 then (if (bt279.2.length : Int) = 0 then (if (bt292.2.length : Int) = 0 then (if (bt296.2.length : Int) = 0 then (if (bt300.2.length : Int) = 0 then (if t263 = bt279.1 then (geyserlaw03_MatrixSums.j4 k2 t263 bt292.1 bt296.1 (!bt300.1)) else (geyserlaw03_MatrixSums.j4 k2 t263 bt292.1 bt296.1 true)) else (geyserlaw03_MatrixSums.j4 k2 t263 bt292.1 bt296.1 true)) else (geyserlaw03_MatrixSums.j4 k2 t263 bt292.1 bt296.1 true)) else (geyserlaw03_MatrixSums.j4 k2 t263 bt292.1 bt296.1 true)) else (geyserlaw03_MatrixSums.j4 k2 t263 bt292.1 bt296.1 true)) else (geyserlaw03_MatrixSums.j4 k2 t263 bt292.1 bt296.1 true))))) else (none))) else (none)))) else (none)) = some r := by first | (rw [hy273]; with_reducible exact H) | (have H2_ := (Option.bind_some _ _).symm.trans H; rw [hy273]; with_reducible exact H2_) | (have H2_ := (Option.bind_some _ _).symm.trans H; with_reducible exact H2_) | with_reducible exact H | (rw [hy273]; exact H) | exact H
                        have Ny273 := Aside0.mk hy273
                        clear hy273
                        by_cases c38 : y270.length < 5864062014805
                        · rw [if_pos c38] at H
                          have LMc38 := Aside0.mk c38
                          clear c38
                          obtain ⟨y276, hy276⟩ : ∃ y_ : List (List Int), y_ = (y270 ++ [y273]) := ⟨_, rfl⟩
                          replace H : ((matrix_Rank.f k2 y276 a1).bind fun bt279 => ((some (([] : List (List Int)) : List (List Int))).bind fun y283 => (if y283.length + y249.length < 5864062014805 then ((some (y283 ++ y249 : List (List Int))).bind fun y286 => (if y286.length < 5864062014805 then ((matrix_Rank.f k2 (y286 ++ [y246]) a1).bind fun bt292 => ((matrix_Spans.f k2 y249 a1 y246).bind fun bt296 => ((matrix_Spans.f k2 y249 a1 y273).bind fun bt300 => (if (t264.length : Int) = 0 then (if (bt279.2.length : Int) = 0 then (if (bt292.2.length : Int) = 0 then (if (bt296.2.length : Int) = 0 then (if (bt300.2.length : Int) = 0 then (if t263 = bt279.1 then (geyserlaw03_MatrixSums.j4 k2 t263 bt292.1 bt296.1 (!bt300.1)) else (geyserlaw03_MatrixSums.j4 k2 t263 bt292.1 bt296.1 true)) else (geyserlaw03_MatrixSums.j4 k2 t263 bt292.1 bt296.1 true)) else (geyserlaw03_MatrixSums.j4 k2 t263 bt292.1 bt296.1 true)) else (geyserlaw03_MatrixSums.j4 k2 t263 bt292.1 bt296.1 true)) else (geyserlaw03_MatrixSums.j4 k2 t263 bt292.1 bt296.1 true)) else (geyserlaw03_MatrixSums.j4 k2 t263 bt292.1 bt296.1 true))))) else (none))) else (none)))) = some r := by first | (rw [hy276]; with_reducible exact H) | (have H2_ := (Option.bind_some _ _).symm.trans H; rw [hy276]; with_reducible exact H2_) | (have H2_ := (Option.bind_some _ _).symm.trans H; with_reducible exact H2_) | with_reducible exact H | (rw [hy276]; exact H) | exact H
                          have Ny276 := Aside0.mk hy276
                          clear hy276
                          replace H := Option.bind_eq_some_iff.mp H
                          obtain ⟨⟨t279, t280⟩, A390, H⟩ := H
                          replace H : ((some (([] : List (List Int)) : List (List Int))).bind fun y283 => (if y283.length + y249.length < 5864062014805 then ((some (y283 ++ y249 : List (List Int))).bind fun y286 => (if y286.length < 5864062014805 then ((matrix_Rank.f k2 (y286 ++ [y246]) a1).bind fun bt292 => ((matrix_Spans.f k2 y249 a1 y246).bind fun bt296 => ((matrix_Spans.f k2 y249 a1 y273).bind fun bt300 => (if (t264.length : Int) = 0 then (if (t280.length : Int) = 0 then (if (bt292.2.length : Int) = 0 then (if (bt296.2.length : Int) = 0 then (if (bt300.2.length : Int) = 0 then (if t263 = t279 then (geyserlaw03_MatrixSums.j4 k2 t263 bt292.1 bt296.1 (!bt300.1)) else (geyserlaw03_MatrixSums.j4 k2 t263 bt292.1 bt296.1 true)) else (geyserlaw03_MatrixSums.j4 k2 t263 bt292.1 bt296.1 true)) else (geyserlaw03_MatrixSums.j4 k2 t263 bt292.1 bt296.1 true)) else (geyserlaw03_MatrixSums.j4 k2 t263 bt292.1 bt296.1 true)) else (geyserlaw03_MatrixSums.j4 k2 t263 bt292.1 bt296.1 true)) else (geyserlaw03_MatrixSums.j4 k2 t263 bt292.1 bt296.1 true))))) else (none))) else (none))) = some r := H
                          have A39 := Aside0.mk A390
                          clear A390
                          obtain ⟨y283, hy283⟩ : ∃ y_ : List (List Int), y_ = (([] : List (List Int))) := ⟨_, rfl⟩
                          replace H : (if y283.length + y249.length < 5864062014805 then ((some (y283 ++ y249 : List (List Int))).bind fun y286 => (if y286.length < 5864062014805 then ((matrix_Rank.f k2 (y286 ++ [y246]) a1).bind fun bt292 => ((matrix_Spans.f k2 y249 a1 y246).bind fun bt296 => ((matrix_Spans.f k2 y249 a1 y273).bind fun bt300 => (if (t264.length : Int) = 0 then (if (t280.length : Int) = 0 then (if (bt292.2.length : Int) = 0 then (if (bt296.2.length : Int) = 0 then (if (bt300.2.length : Int) = 0 then (if t263 = t279 then (geyserlaw03_MatrixSums.j4 k2 t263 bt292.1 bt296.1 (!bt300.1)) else (geyserlaw03_MatrixSums.j4 k2 t263 bt292.1 bt296.1 true)) else (geyserlaw03_MatrixSums.j4 k2 t263 bt292.1 bt296.1 true)) else (geyserlaw03_MatrixSums.j4 k2 t263 bt292.1 bt296.1 true)) else (geyserlaw03_MatrixSums.j4 k2 t263 bt292.1 bt296.1 true)) else (geyserlaw03_MatrixSums.j4 k2 t263 bt292.1 bt296.1 true)) else (geyserlaw03_MatrixSums.j4 k2 t263 bt292.1 bt296.1 true))))) else (none))) else (none)) = some r := by first | (rw [hy283]; with_reducible exact H) | (have H2_ := (Option.bind_some _ _).symm.trans H; rw [hy283]; with_reducible exact H2_) | (have H2_ := (Option.bind_some _ _).symm.trans H; with_reducible exact H2_) | with_reducible exact H | (rw [hy283]; exact H) | exact H
                          have Ny283 := Aside0.mk hy283
                          clear hy283
                          by_cases c40 : y283.length + y249.length < 5864062014805
                          · rw [if_pos c40] at H
                            have LMc40 := Aside0.mk c40
                            clear c40
                            obtain ⟨y286, hy286⟩ : ∃ y_ : List (List Int), y_ = (y283 ++ y249) := ⟨_, rfl⟩
                            replace H : (if y286.length < 5864062014805 then ((matrix_Rank.f k2 (y286 ++ [y246]) a1).bind fun bt292 => ((matrix_Spans.f k2 y249 a1 y246).bind fun bt296 => ((matrix_Spans.f k2 y249 a1 y273).bind fun bt300 => (if (t264.length : Int) = 0 then (if (t280.length : Int) = 0 then (if (bt292.2.length : Int) = 0 then (if (bt296.2.length : Int) = 0 then (if (bt300.2.length : Int) = 0 then (if t263 = t279 then (geyserlaw03_MatrixSums.j4 k2 t263 bt292.1 bt296.1 (!bt300.1)) else (geyserlaw03_MatrixSums.j4 k2 t263 bt292.1 bt296.1 true)) else (geyserlaw03_MatrixSums.j4 k2 t263 bt292.1 bt296.1 true)) else (geyserlaw03_MatrixSums.j4 k2 t263 bt292.1 bt296.1 true)) else (geyserlaw03_MatrixSums.j4 k2 t263 bt292.1 bt296.1 true)) else (geyserlaw03_MatrixSums.j4 k2 t263 bt292.1 bt296.1 true)) else (geyserlaw03_MatrixSums.j4 k2 t263 bt292.1 bt296.1 true))))) else (none)) = some r := by first | (rw [hy286]; with_reducible exact H) | (have H2_ := (Option.bind_some _ _).symm.trans H; rw [hy286]; with_reducible exact H2_) | (have H2_ := (Option.bind_some _ _).symm.trans H; with_reducible exact H2_) | with_reducible exact H | (rw [hy286]; exact H) | exact H
                            have Ny286 := Aside0.mk hy286
                            clear hy286
                            by_cases c41 : y286.length < 5864062014805
                            · rw [if_pos c41] at H
                              have LMc41 := Aside0.mk c41
                              clear c41
                              obtain ⟨y289, hy289⟩ : ∃ y_ : List (List Int), y_ = (y286 ++ [y246]) := ⟨_, rfl⟩
                              replace H : ((matrix_Rank.f k2 y289 a1).bind fun bt292 => ((matrix_Spans.f k2 y249 a1 y246).bind fun bt296 => ((matrix_Spans.f k2 y249 a1 y273).bind fun bt300 => (if (t264.length : Int) = 0 then (if (t280.length : Int) = 0 then (if (bt292.2.length : Int) = 0 then (if (bt296.2.length : Int) = 0 then (if (bt300.2.length : Int) = 0 then (if t263 = t279 then (geyserlaw03_MatrixSums.j4 k2 t263 bt292.1 bt296.1 (!bt300.1)) else (geyserlaw03_MatrixSums.j4 k2 t263 bt292.1 bt296.1 true)) else (geyserlaw03_MatrixSums.j4 k2 t263 bt292.1 bt296.1 true)) else (geyserlaw03_MatrixSums.j4 k2 t263 bt292.1 bt296.1 true)) else (geyserlaw03_MatrixSums.j4 k2 t263 bt292.1 bt296.1 true)) else (geyserlaw03_MatrixSums.j4 k2 t263 bt292.1 bt296.1 true)) else (geyserlaw03_MatrixSums.j4 k2 t263 bt292.1 bt296.1 true))))) = some r := by first | (rw [hy289]; with_reducible exact H) | (have H2_ := (Option.bind_some _ _).symm.trans H; rw [hy289]; with_reducible exact H2_) | (have H2_ := (Option.bind_some _ _).symm.trans H; with_reducible exact H2_) | with_reducible exact H | (rw [hy289]; exact H) | exact H
                              have Ny289 := Aside0.mk hy289
                              clear hy289
                              replace H := Option.bind_eq_some_iff.mp H
                              obtain ⟨⟨t292, t293⟩, A420, H⟩ := H
                              replace H : ((matrix_Spans.f k2 y249 a1 y246).bind fun bt296 => ((matrix_Spans.f k2 y249 a1 y273).bind fun bt300 => (if (t264.length : Int) = 0 then (if (t280.length : Int) = 0 then (if (t293.length : Int) = 0 then (if (bt296.2.length : Int) = 0 then (if (bt300.2.length : Int) = 0 then (if t263 = t279 then (geyserlaw03_MatrixSums.j4 k2 t263 t292 bt296.1 (!bt300.1)) else (geyserlaw03_MatrixSums.j4 k2 t263 t292 bt296.1 true)) else (geyserlaw03_MatrixSums.j4 k2 t263 t292 bt296.1 true)) else (geyserlaw03_MatrixSums.j4 k2 t263 t292 bt296.1 true)) else (geyserlaw03_MatrixSums.j4 k2 t263 t292 bt296.1 true)) else (geyserlaw03_MatrixSums.j4 k2 t263 t292 bt296.1 true)) else (geyserlaw03_MatrixSums.j4 k2 t263 t292 bt296.1 true)))) = some r := H
                              have A42 := Aside0.mk A420
                              clear A420
                              replace H := Option.bind_eq_some_iff.mp H
                              obtain ⟨⟨t296, t297⟩, A430, H⟩ := H
                              replace H : ((matrix_Spans.f k2 y249 a1 y273).bind fun bt300 => (if (t264.length : Int) = 0 then (if (t280.length : Int) = 0 then (if (t293.length : Int) = 0 then (if (t297.length : Int) = 0 then (if (bt300.2.length : Int) = 0 then (if t263 = t279 then (geyserlaw03_MatrixSums.j4 k2 t263 t292 t296 (!bt300.1)) else (geyserlaw03_MatrixSums.j4 k2 t263 t292 t296 true)) else (geyserlaw03_MatrixSums.j4 k2 t263 t292 t296 true)) else (geyserlaw03_MatrixSums.j4 k2 t263 t292 t296 true)) else (geyserlaw03_MatrixSums.j4 k2 t263 t292 t296 true)) else (geyserlaw03_MatrixSums.j4 k2 t263 t292 t296 true)) else (geyserlaw03_MatrixSums.j4 k2 t263 t292 t296 true))) = some r := H
                              have A43 := Aside0.mk A430
                              clear A430
                              replace H := Option.bind_eq_some_iff.mp H
                              obtain ⟨⟨t300, t301⟩, A440, H⟩ := H
                              replace H : (if (t264.length : Int) = 0 then (if (t280.length : Int) = 0 then (if (t293.length : Int) = 0 then (if (t297.length : Int) = 0 then (if (t301.length : Int) = 0 then (if t263 = t279 then (geyserlaw03_MatrixSums.j4 k2 t263 t292 t296 (!t300)) else (geyserlaw03_MatrixSums.j4 k2 t263 t292 t296 true)) else (geyserlaw03_MatrixSums.j4 k2 t263 t292 t296 true)) else (geyserlaw03_MatrixSums.j4 k2 t263 t292 t296 true)) else (geyserlaw03_MatrixSums.j4 k2 t263 t292 t296 true)) else (geyserlaw03_MatrixSums.j4 k2 t263 t292 t296 true)) else (geyserlaw03_MatrixSums.j4 k2 t263 t292 t296 true)) = some r := H
                              have A44 := Aside0.mk A440
                              clear A440
                              have HC45 := Aside0.mk H
                              clear H
                              go_upto_region 19 with (first | ((with_reducible refine gate_callee (f := 14) rfl ?_); refine goesL_ (some 85) rfl rfl Tryd.func14 (by kernel_rfl) rfl #[.slice A18 y249.length c18, .int .i64 a1] rfl (by (try simp only [List.map_toArray, List.map_cons, List.map_nil]); first | done | rfl | (simp only [List.length_drop, List.length_take]; rfl)) ?_; (with_reducible refine (matrix_Rank.calls k2 _ _ y249 a1 t263 t264 _ ?side1 ?side2 ?side3 A36.out).mono ?_); (case side1 => first | exact HT.out | exact TabIn.below HT.out (by repeat (first | (with_reducible first | exact HB.out | apply below_alloc | apply pw_below_drewN | apply below_drew1) | exact HB.out)) | (repeat (first | apply TabIn.drewN | apply TabIn.drew | exact HT.out))); (case side2 => repeat (first | exact (Kd.V_reads' HO_8.out).2.2 | (with_reducible refine Kd.C_alloc ?_ _) | (with_reducible refine Kd.C_drewN ?_ _) | (with_reducible refine Kd.C_drew ?_))); (case side3 => exact (Kd.V_reads' HO_8.out).2.1); rintro e w46 ⟨v265, rfl, ho0, hb⟩; refine ⟨_, rfl, ?_⟩; have n0_ := Aside0.mk (Kd.V_below (by (with_reducible repeat (first | apply Kd.V_alloc | apply Kd.V_drewN | apply Kd.V_drew)); exact HO_7.out) hb); have n1_ := Aside0.mk (Kd.V_below (by (with_reducible repeat (first | apply Kd.V_alloc | apply Kd.V_drewN | apply Kd.V_drew)); exact HO_8.out) hb); have n2_ := Aside0.mk (Kd.R_below (by (with_reducible repeat (first | apply Kd.R_alloc | apply Kd.R_drewN | apply Kd.R_drew)); exact HO_9.out) hb); have n3_ := Aside0.mk (Kd.R_lower (Kd.R_newM (M := fun k_ => (w.heap.size ≤ k_)) ho0 (below_size (by repeat (first | (with_reducible first | exact HB.out | apply below_alloc | apply pw_below_drewN | apply below_drew1) | exact HB.out))) (fun k_ h_ => h_)) (below_size (by repeat (first | (with_reducible first | exact HB.out | apply below_alloc | apply pw_below_drewN | apply below_drew1) | exact HB.out)))); have n4_ := Aside0.mk (below_step (by repeat (first | (with_reducible first | exact HB.out | apply below_alloc | apply pw_below_drewN | apply below_drew1) | exact HB.out)) hb); clear HO_7; clear HO_8; clear HO_9; clear HB; have HO_7 := n0_; have HO_8 := n1_; have HO_9 := n2_; have HO266 := n3_; have HB := n4_; clear n0_ n1_ n2_ n3_ n4_; (try clear hb); (try clear hb2); (try clear hk); (try clear hi); (try clear ho0)) | ((with_reducible refine gate_dst (N := 89) rfl ?_); (try (refine gate_guard (by rfl) ?_; dsimp only)); refine Kd.N_lit (Kd.slice 29 (Kd.int .u64)) _ 27 ?hg (N' := 89) ?hd (xs := ([] : List (List Int))) (inner := []) (ok := (fun k_ => (P0_ k_ ∨ w.heap.size ≤ k_) ∧ some k_ ≠ (v256 : Value).ownBlock)) (okp := (fun k_ => (P0_ k_ ∨ w.heap.size ≤ k_) ∧ some k_ ≠ (v256 : Value).ownBlock)) ?hr ?hp (fun _ hk => hk) ((show ∀ k_, w46.heap.size ≤ k_ → (fun k_ => (P0_ k_ ∨ w.heap.size ≤ k_) ∧ some k_ ≠ (v256 : Value).ownBlock) k_ from fun k_ hk => ⟨(.inr (Nat.le_trans (below_size (by repeat (first | (with_reducible first | exact HB.out | apply below_alloc | apply pw_below_drewN | apply below_drew1) | exact HB.out))) hk)), Kd.fresh' (Kd.R_lt (by (with_reducible repeat (first | apply Kd.R_alloc | apply Kd.R_drewN | apply Kd.R_drew)); exact HO_9.out)) k_ hk⟩) _ (Nat.le_refl _)) (Below.refl _ _) (Nat.le_refl _) (by simp) ?_; (case hd => rfl); (case hg => rfl); (case hr => first | (go_simp; done) | (go_simp; rfl)); (case hp => exact (Reps.none _ _)); intro v268 w47 ho48 hb hg_ hnew_; clear hg_ hnew_; (first | rw [← Ny267.out] at ho48 | (simp only [Int.reduceToNat] at ho48; rw [← Ny267.out] at ho48)); have n0_ := Aside0.mk (Kd.V_elder' (by (with_reducible repeat (first | apply Kd.V_alloc | apply Kd.V_drewN | apply Kd.V_drew)); exact HO_7.out) (Kd.N_base ho48) hb); have n1_ := Aside0.mk (Kd.V_elder' (by (with_reducible repeat (first | apply Kd.V_alloc | apply Kd.V_drewN | apply Kd.V_drew)); exact HO_8.out) (Kd.N_base ho48) hb); have n2_ := Aside0.mk (Kd.R_below (by (with_reducible repeat (first | apply Kd.R_alloc | apply Kd.R_drewN | apply Kd.R_drew)); exact HO_9.out) hb); have n3_ := Aside0.mk (Kd.R_below (by (with_reducible repeat (first | apply Kd.R_alloc | apply Kd.R_drewN | apply Kd.R_drew)); exact HO266.out) hb); have n4_ := Aside0.mk (Kd.N_lower ho48 (below_size (by repeat (first | (with_reducible first | exact HB.out | apply below_alloc | apply pw_below_drewN | apply below_drew1) | exact HB.out)))); have n5_ := Aside0.mk (below_step (by repeat (first | (with_reducible first | exact HB.out | apply below_alloc | apply pw_below_drewN | apply below_drew1) | exact HB.out)) hb); clear HO_7; clear HO_8; clear HO_9; clear HO266; clear HB; have HO_7 := n0_; have HO_8 := n1_; have HO_9 := n2_; have HO266 := n3_; have HO269 := n4_; have HB := n5_; clear n0_ n1_ n2_ n3_ n4_ n5_; clear hb ho48) | ((with_reducible refine gate_builtin (b := .append) (xs := #[.tmp 89, .tmp 90]) rfl ?_); (try (refine gate_guard (by rfl) ?_; dsimp only)); at_builtin; refine Kd.N_append_rows (Kd.slice 29 (Kd.int .u64)) (w0 := w) w.heap.size rfl (.tmp 89) (.tmp 90) 22 27 (.slice none 0 0) 24 rfl Tryd.underlying22 info27 rfl (by decide) (by omega) v268 y267 y249 _ _ _ (fun k_ => (P0_ k_ ∨ w.heap.size ≤ k_) ∧ some k_ ≠ (v256 : Value).ownBlock) (fun k_ => ((fun k_ => (P0_ k_ ∨ w.heap.size ≤ k_) ∧ some k_ ≠ (v256 : Value).ownBlock)) k_ ∧ some k_ ≠ (v268 : Value).ownBlock) rfl rfl ?aO ?aR (fun _ hk => hk) ?aF ?aB ?aS ?aL ?_; (case aR => exact (by skip; exact Kd.V_F (Kd.V_mono (ok' := (fun k_ => ((fun k_ => (P0_ k_ ∨ w.heap.size ≤ k_) ∧ some k_ ≠ (v256 : Value).ownBlock)) k_ ∧ some k_ ≠ (v268 : Value).ownBlock)) (HO_8.out) (fun k_ hk => ⟨⟨hk.1.1, hk.1.2⟩, hk.2⟩)))); (case aB => exact (by repeat (first | (with_reducible first | exact HB.out | apply below_alloc | apply pw_below_drewN | apply below_drew1) | exact HB.out))); (case aF => exact (fun k_ hk => ⟨(.inr (Nat.le_trans (below_size (by repeat (first | (with_reducible first | exact HB.out | apply below_alloc | apply pw_below_drewN | apply below_drew1) | exact HB.out))) hk)), Kd.fresh' (Kd.R_lt (by (with_reducible repeat (first | apply Kd.R_alloc | apply Kd.R_drewN | apply Kd.R_drew)); exact HO_9.out)) k_ hk⟩)); (case aO => exact (by (with_reducible repeat (first | apply Kd.N_alloc | apply Kd.N_drewN | apply Kd.N_drew)); exact HO269.out)); (case aS => exact (below_size (by repeat (first | (with_reducible first | exact HB.out | apply below_alloc | apply pw_below_drewN | apply below_drew1) | exact HB.out)))); (case aL => have := LMc37.out; omega); intro v271 w49 ho hb hg hat; rw [← Ny270.out] at ho; have n0_ := Aside0.mk (Kd.V_afterv (ok := (fun k_ => (P0_ k_ ∨ w.heap.size ≤ k_) ∧ some k_ ≠ (v256 : Value).ownBlock)) (by (with_reducible repeat (first | apply Kd.V_alloc | apply Kd.V_drewN | apply Kd.V_drew)); exact HO_7.out) hg hat); have n1_ := Aside0.mk (Kd.V_afterv (ok := (fun k_ => (P0_ k_ ∨ w.heap.size ≤ k_) ∧ some k_ ≠ (v256 : Value).ownBlock)) (by (with_reducible repeat (first | apply Kd.V_alloc | apply Kd.V_drewN | apply Kd.V_drew)); exact HO_8.out) hg hat); have n2_ := Aside0.mk (Kd.R_over' (by (with_reducible repeat (first | apply Kd.R_alloc | apply Kd.R_drewN | apply Kd.R_drew)); exact HO_9.out) (Kd.N_typed (by (with_reducible repeat (first | apply Kd.N_alloc | apply Kd.N_drewN | apply Kd.N_drew)); exact HO269.out)) (by decide) hg); have n3_ := Aside0.mk (Kd.R_over' (by (with_reducible repeat (first | apply Kd.R_alloc | apply Kd.R_drewN | apply Kd.R_drew)); exact HO266.out) (Kd.N_typed (by (with_reducible repeat (first | apply Kd.N_alloc | apply Kd.N_drewN | apply Kd.N_drew)); exact HO269.out)) (by decide) hg); have n4_ := Aside0.mk (hb); have n5_ := Aside0.mk (ho); clear HO_7; clear HO_8; clear HO_9; clear HO266; clear HB; clear HO269; have HO_7 := n0_; have HO_8 := n1_; have HO_9 := n2_; have HO266 := n3_; have HB := n4_; have HO272 := n5_; clear n0_ n1_ n2_ n3_ n4_ n5_; clear ho hb hg hat; obtain ⟨Ao51, co51, eo51⟩ := Kd.R_slice HO_9.out; subst eo51; have hr50 := (show Kd.V (Kd.int .u64) 29 _ w.heap.size _ _ _ from Kd.V_mono (ok' := (fun k_ => (((P0_ k_ ∨ w.heap.size ≤ k_) ∧ some k_ ≠ (v265 : Value).ownBlock) ∧ some k_ ≠ (v271 : Value).ownBlock))) (Kd.R_V (Kd.R_apart' (Kd.R_apart' (HO_9.out) (Kd.R_typed HO266.out) (by decide)) (Kd.N_typed HO272.out) (by decide))) (fun k_ hk => ⟨⟨(.inr (hk.1.1)), hk.1.2⟩, hk.2⟩)); rw [← Ny273.out] at hr50; have HO275 := Aside0.mk hr50; have HC275 := Aside0.mk (show y273.length ≤ co51 from by rw [Ny273.out]; exact (Kd.R_reads' HO_9.out).2.1); clear hr50 HO_9; rw [← Ny273.out]) | ((with_reducible refine gate_builtin (b := .append) (xs := #[.tmp 91, .tmp 93]) rfl ?_); (try (refine gate_guard (by rfl) ?_; dsimp only)); at_builtin; refine Kd.N_append (Kd.slice 29 (Kd.int .u64)) (w0 := w) w.heap.size rfl (.tmp 91) (.tmp 93) 22 27 (.slice none 0 0) 24 rfl Tryd.underlying22 info27 rfl (by decide) (by omega) v271 y270 y273 [.slice Ao51 y273.length co51] (fun k_ => (P0_ k_ ∨ w.heap.size ≤ k_)) (fun k_ => ((fun k_ => (P0_ k_ ∨ w.heap.size ≤ k_))) k_ ∧ some k_ ≠ (v271 : Value).ownBlock) rfl rfl ?aP (fun _ hk => hk) ?aF ?aO ?aB ?aS ?aL ?_; (case aP => exact (Kd.FK_slice_mk (Kd.V_reads' (Kd.V_mono (ok' := (fun k_ => ((fun k_ => (P0_ k_ ∨ w.heap.size ≤ k_))) k_ ∧ some k_ ≠ (v271 : Value).ownBlock)) (HO275.out) (fun k_ hk => ⟨hk.1.1, hk.2⟩))).2.1 (Kd.V_F (Kd.V_mono (ok' := (fun k_ => ((fun k_ => (P0_ k_ ∨ w.heap.size ≤ k_))) k_ ∧ some k_ ≠ (v271 : Value).ownBlock)) (HO275.out) (fun k_ hk => ⟨hk.1.1, hk.2⟩))))); (case aB => exact (by repeat (first | (with_reducible first | exact HB.out | apply below_alloc | apply pw_below_drewN | apply below_drew1) | exact HB.out))); (case aF => exact (fun k_ hk => (.inr (Nat.le_trans (below_size (by repeat (first | (with_reducible first | exact HB.out | apply below_alloc | apply pw_below_drewN | apply below_drew1) | exact HB.out))) hk)))); (case aO => exact (by (with_reducible repeat (first | apply Kd.N_alloc | apply Kd.N_drewN | apply Kd.N_drew)); exact Kd.N_mono HO272.out (fun _ hk => hk.1))); (case aS => exact (below_size (by repeat (first | (with_reducible first | exact HB.out | apply below_alloc | apply pw_below_drewN | apply below_drew1) | exact HB.out)))); (case aL => have := LMc38.out; omega); intro v277 w52 ho hb hg hat; rw [← Ny276.out] at ho; have n0_ := Aside0.mk (Kd.V_afterv (ok := (fun k_ => (P0_ k_ ∨ w.heap.size ≤ k_))) (by (with_reducible repeat (first | apply Kd.V_alloc | apply Kd.V_drewN | apply Kd.V_drew)); exact Kd.V_mono HO_7.out (fun _ hk => ⟨hk.1.1, hk.2⟩)) hg hat); have n1_ := Aside0.mk (Kd.V_afterv (ok := (fun k_ => (P0_ k_ ∨ w.heap.size ≤ k_))) (by (with_reducible repeat (first | apply Kd.V_alloc | apply Kd.V_drewN | apply Kd.V_drew)); exact Kd.V_mono HO_8.out (fun _ hk => ⟨hk.1.1, hk.2⟩)) hg hat); have n2_ := Aside0.mk (Kd.R_over' (by (with_reducible repeat (first | apply Kd.R_alloc | apply Kd.R_drewN | apply Kd.R_drew)); exact HO266.out) (Kd.N_typed (by (with_reducible repeat (first | apply Kd.N_alloc | apply Kd.N_drewN | apply Kd.N_drew)); exact HO272.out)) (by decide) hg); have n3_ := Aside0.mk (Kd.V_afterv (ok := (fun k_ => (P0_ k_ ∨ w.heap.size ≤ k_) ∧ some k_ ≠ (v265 : Value).ownBlock)) (by (with_reducible repeat (first | apply Kd.V_alloc | apply Kd.V_drewN | apply Kd.V_drew)); exact HO275.out) hg hat); have n4_ := Aside0.mk (hb); have n5_ := Aside0.mk (ho); clear HO_7; clear HO_8; clear HO266; clear HO275; clear HB; clear HO272; have HO_7 := n0_; have HO_8 := n1_; have HO266 := n2_; have HO275 := n3_; have HB := n4_; have HO278 := n5_; clear n0_ n1_ n2_ n3_ n4_ n5_; clear ho hb hg hat; obtain ⟨Ao53, co53, eo53⟩ := Kd.N_slice HO278.out; subst eo53) | ((with_reducible refine gate_callee (f := 14) rfl ?_); refine goesL_ (some 96) rfl rfl Tryd.func14 (by kernel_rfl) rfl #[.slice Ao53 y276.length co53, .int .i64 a1] rfl (by (try simp only [List.map_toArray, List.map_cons, List.map_nil]); first | done | rfl | (simp only [List.length_drop, List.length_take]; rfl)) ?_; (with_reducible refine (matrix_Rank.calls k2 _ _ y276 a1 t279 t280 _ ?side1 ?side2 ?side3 A39.out).mono ?_); (case side1 => first | exact HT.out | exact TabIn.below HT.out (by repeat (first | (with_reducible first | exact HB.out | apply below_alloc | apply pw_below_drewN | apply below_drew1) | exact HB.out)) | (repeat (first | apply TabIn.drewN | apply TabIn.drew | exact HT.out))); (case side2 => repeat (first | exact (Kd.N_reads' HO278.out).2.2 | (with_reducible refine Kd.C_alloc ?_ _) | (with_reducible refine Kd.C_drewN ?_ _) | (with_reducible refine Kd.C_drew ?_))); (case side3 => exact (Kd.N_reads' HO278.out).2.1); rintro e w54 ⟨v281, rfl, ho0, hb⟩; refine ⟨_, rfl, ?_⟩; have n0_ := Aside0.mk (Kd.V_below (by (with_reducible repeat (first | apply Kd.V_alloc | apply Kd.V_drewN | apply Kd.V_drew)); exact HO_7.out) hb); have n1_ := Aside0.mk (Kd.V_below (by (with_reducible repeat (first | apply Kd.V_alloc | apply Kd.V_drewN | apply Kd.V_drew)); exact HO_8.out) hb); have n2_ := Aside0.mk (Kd.R_below (by (with_reducible repeat (first | apply Kd.R_alloc | apply Kd.R_drewN | apply Kd.R_drew)); exact HO266.out) hb); have n3_ := Aside0.mk (Kd.V_below (by (with_reducible repeat (first | apply Kd.V_alloc | apply Kd.V_drewN | apply Kd.V_drew)); exact HO275.out) hb); have n4_ := Aside0.mk (Kd.N_below (by (with_reducible repeat (first | apply Kd.N_alloc | apply Kd.N_drewN | apply Kd.N_drew)); exact HO278.out) hb); have n5_ := Aside0.mk (Kd.R_lower (Kd.R_newM (M := fun k_ => (w.heap.size ≤ k_)) ho0 (below_size (by repeat (first | (with_reducible first | exact HB.out | apply below_alloc | apply pw_below_drewN | apply below_drew1) | exact HB.out))) (fun k_ h_ => h_)) (below_size (by repeat (first | (with_reducible first | exact HB.out | apply below_alloc | apply pw_below_drewN | apply below_drew1) | exact HB.out)))); have n6_ := Aside0.mk (below_step (by repeat (first | (with_reducible first | exact HB.out | apply below_alloc | apply pw_below_drewN | apply below_drew1) | exact HB.out)) hb); clear HO_7; clear HO_8; clear HO266; clear HO275; clear HO278; clear HB; have HO_7 := n0_; have HO_8 := n1_; have HO266 := n2_; have HO275 := n3_; have HO278 := n4_; have HO282 := n5_; have HB := n6_; clear n0_ n1_ n2_ n3_ n4_ n5_ n6_; (try clear hb); (try clear hb2); (try clear hk); (try clear hi); (try clear ho0)) | ((with_reducible refine gate_dst (N := 100) rfl ?_); (try (refine gate_guard (by rfl) ?_; dsimp only)); refine Kd.N_lit (Kd.slice 29 (Kd.int .u64)) _ 27 ?hg (N' := 100) ?hd (xs := ([] : List (List Int))) (inner := []) (ok := (fun k_ => (P0_ k_ ∨ w.heap.size ≤ k_) ∧ some k_ ≠ (.slice Ao53 y276.length co53 : Value).ownBlock)) (okp := (fun k_ => (P0_ k_ ∨ w.heap.size ≤ k_) ∧ some k_ ≠ (.slice Ao53 y276.length co53 : Value).ownBlock)) ?hr ?hp (fun _ hk => hk) ((show ∀ k_, w54.heap.size ≤ k_ → (fun k_ => (P0_ k_ ∨ w.heap.size ≤ k_) ∧ some k_ ≠ (.slice Ao53 y276.length co53 : Value).ownBlock) k_ from fun k_ hk => ⟨(.inr (Nat.le_trans (below_size (by repeat (first | (with_reducible first | exact HB.out | apply below_alloc | apply pw_below_drewN | apply below_drew1) | exact HB.out))) hk)), Kd.fresh' (Kd.N_lt (by (with_reducible repeat (first | apply Kd.N_alloc | apply Kd.N_drewN | apply Kd.N_drew)); exact HO278.out)) k_ hk⟩) _ (Nat.le_refl _)) (Below.refl _ _) (Nat.le_refl _) (by simp) ?_; (case hd => rfl); (case hg => rfl); (case hr => first | (go_simp; done) | (go_simp; rfl)); (case hp => exact (Reps.none _ _)); intro v284 w55 ho56 hb hg_ hnew_; clear hg_ hnew_; (first | rw [← Ny283.out] at ho56 | (simp only [Int.reduceToNat] at ho56; rw [← Ny283.out] at ho56)); have n0_ := Aside0.mk (Kd.V_elder' (by (with_reducible repeat (first | apply Kd.V_alloc | apply Kd.V_drewN | apply Kd.V_drew)); exact HO_7.out) (Kd.N_base ho56) hb); have n1_ := Aside0.mk (Kd.V_elder' (by (with_reducible repeat (first | apply Kd.V_alloc | apply Kd.V_drewN | apply Kd.V_drew)); exact HO_8.out) (Kd.N_base ho56) hb); have n2_ := Aside0.mk (Kd.R_below (by (with_reducible repeat (first | apply Kd.R_alloc | apply Kd.R_drewN | apply Kd.R_drew)); exact HO266.out) hb); have n3_ := Aside0.mk (Kd.V_elder' (by (with_reducible repeat (first | apply Kd.V_alloc | apply Kd.V_drewN | apply Kd.V_drew)); exact HO275.out) (Kd.N_base ho56) hb); have n4_ := Aside0.mk (Kd.N_elder' (by (with_reducible repeat (first | apply Kd.N_alloc | apply Kd.N_drewN | apply Kd.N_drew)); exact HO278.out) (Kd.N_base ho56) hb); have n5_ := Aside0.mk (Kd.R_below (by (with_reducible repeat (first | apply Kd.R_alloc | apply Kd.R_drewN | apply Kd.R_drew)); exact HO282.out) hb); have n6_ := Aside0.mk (Kd.N_lower ho56 (below_size (by repeat (first | (with_reducible first | exact HB.out | apply below_alloc | apply pw_below_drewN | apply below_drew1) | exact HB.out)))); have n7_ := Aside0.mk (below_step (by repeat (first | (with_reducible first | exact HB.out | apply below_alloc | apply pw_below_drewN | apply below_drew1) | exact HB.out)) hb); clear HO_7; clear HO_8; clear HO266; clear HO275; clear HO278; clear HO282; clear HB; have HO_7 := n0_; have HO_8 := n1_; have HO266 := n2_; have HO275 := n3_; have HO278 := n4_; have HO282 := n5_; have HO285 := n6_; have HB := n7_; clear n0_ n1_ n2_ n3_ n4_ n5_ n6_ n7_; clear hb ho56) | ((with_reducible refine gate_builtin (b := .append) (xs := #[.tmp 100, .tmp 101]) rfl ?_); (try (refine gate_guard (by rfl) ?_; dsimp only)); at_builtin; refine Kd.N_append_rows (Kd.slice 29 (Kd.int .u64)) (w0 := w) w.heap.size rfl (.tmp 100) (.tmp 101) 22 27 (.slice none 0 0) 24 rfl Tryd.underlying22 info27 rfl (by decide) (by omega) v284 y283 y249 _ _ _ (fun k_ => (P0_ k_ ∨ w.heap.size ≤ k_) ∧ some k_ ≠ (.slice Ao53 y276.length co53 : Value).ownBlock) (fun k_ => ((fun k_ => (P0_ k_ ∨ w.heap.size ≤ k_) ∧ some k_ ≠ (.slice Ao53 y276.length co53 : Value).ownBlock)) k_ ∧ some k_ ≠ (v284 : Value).ownBlock) rfl rfl ?aO ?aR (fun _ hk => hk) ?aF ?aB ?aS ?aL ?_; (case aR => exact (by skip; exact Kd.V_F (Kd.V_mono (ok' := (fun k_ => ((fun k_ => (P0_ k_ ∨ w.heap.size ≤ k_) ∧ some k_ ≠ (.slice Ao53 y276.length co53 : Value).ownBlock)) k_ ∧ some k_ ≠ (v284 : Value).ownBlock)) (HO_8.out) (fun k_ hk => ⟨⟨hk.1.1, hk.1.2⟩, hk.2⟩)))); (case aB => exact (by repeat (first | (with_reducible first | exact HB.out | apply below_alloc | apply pw_below_drewN | apply below_drew1) | exact HB.out))); (case aF => exact (fun k_ hk => ⟨(.inr (Nat.le_trans (below_size (by repeat (first | (with_reducible first | exact HB.out | apply below_alloc | apply pw_below_drewN | apply below_drew1) | exact HB.out))) hk)), Kd.fresh' (Kd.N_lt (by (with_reducible repeat (first | apply Kd.N_alloc | apply Kd.N_drewN | apply Kd.N_drew)); exact HO278.out)) k_ hk⟩)); (case aO => exact (by (with_reducible repeat (first | apply Kd.N_alloc | apply Kd.N_drewN | apply Kd.N_drew)); exact HO285.out)); (case aS => exact (below_size (by repeat (first | (with_reducible first | exact HB.out | apply below_alloc | apply pw_below_drewN | apply below_drew1) | exact HB.out)))); (case aL => have := LMc40.out; omega); intro v287 w57 ho hb hg hat; rw [← Ny286.out] at ho; have n0_ := Aside0.mk (Kd.V_afterv (ok := (fun k_ => (P0_ k_ ∨ w.heap.size ≤ k_) ∧ some k_ ≠ (.slice Ao53 y276.length co53 : Value).ownBlock)) (by (with_reducible repeat (first | apply Kd.V_alloc | apply Kd.V_drewN | apply Kd.V_drew)); exact HO_7.out) hg hat); have n1_ := Aside0.mk (Kd.V_afterv (ok := (fun k_ => (P0_ k_ ∨ w.heap.size ≤ k_) ∧ some k_ ≠ (.slice Ao53 y276.length co53 : Value).ownBlock)) (by (with_reducible repeat (first | apply Kd.V_alloc | apply Kd.V_drewN | apply Kd.V_drew)); exact HO_8.out) hg hat); have n2_ := Aside0.mk (Kd.R_over' (by (with_reducible repeat (first | apply Kd.R_alloc | apply Kd.R_drewN | apply Kd.R_drew)); exact HO266.out) (Kd.N_typed (by (with_reducible repeat (first | apply Kd.N_alloc | apply Kd.N_drewN | apply Kd.N_drew)); exact HO285.out)) (by decide) hg); have n3_ := Aside0.mk (Kd.V_afterv (ok := (fun k_ => (P0_ k_ ∨ w.heap.size ≤ k_) ∧ some k_ ≠ (v265 : Value).ownBlock ∧ some k_ ≠ (.slice Ao53 y276.length co53 : Value).ownBlock)) (by (with_reducible repeat (first | apply Kd.V_alloc | apply Kd.V_drewN | apply Kd.V_drew)); exact Kd.V_mono HO275.out (fun _ hk => ⟨⟨hk.1.1.1, ⟨hk.1.1.2, hk.1.2⟩⟩, hk.2⟩)) hg hat); have n4_ := Aside0.mk (Kd.N_afterv (ok := (fun k_ => (P0_ k_ ∨ w.heap.size ≤ k_))) (by (with_reducible repeat (first | apply Kd.N_alloc | apply Kd.N_drewN | apply Kd.N_drew)); exact HO278.out) hg hat); have n5_ := Aside0.mk (Kd.R_over' (by (with_reducible repeat (first | apply Kd.R_alloc | apply Kd.R_drewN | apply Kd.R_drew)); exact HO282.out) (Kd.N_typed (by (with_reducible repeat (first | apply Kd.N_alloc | apply Kd.N_drewN | apply Kd.N_drew)); exact HO285.out)) (by decide) hg); have n6_ := Aside0.mk (hb); have n7_ := Aside0.mk (ho); clear HO_7; clear HO_8; clear HO266; clear HO275; clear HO278; clear HO282; clear HB; clear HO285; have HO_7 := n0_; have HO_8 := n1_; have HO266 := n2_; have HO275 := n3_; have HO278 := n4_; have HO282 := n5_; have HB := n6_; have HO288 := n7_; clear n0_ n1_ n2_ n3_ n4_ n5_ n6_ n7_; clear ho hb hg hat) | ((with_reducible refine gate_builtin (b := .append) (xs := #[.tmp 102, .tmp 104]) rfl ?_); (try (refine gate_guard (by rfl) ?_; dsimp only)); at_builtin; refine Kd.N_append (Kd.slice 29 (Kd.int .u64)) (w0 := w) w.heap.size rfl (.tmp 102) (.tmp 104) 22 27 (.slice none 0 0) 24 rfl Tryd.underlying22 info27 rfl (by decide) (by omega) v287 y286 y246 [.slice A245_0 y246.length c245_0] (fun k_ => (P0_ k_ ∨ w.heap.size ≤ k_) ∧ some k_ ≠ (.slice Ao53 y276.length co53 : Value).ownBlock) (fun k_ => ((fun k_ => (P0_ k_ ∨ w.heap.size ≤ k_) ∧ some k_ ≠ (.slice Ao53 y276.length co53 : Value).ownBlock)) k_ ∧ some k_ ≠ (v287 : Value).ownBlock) rfl rfl ?aP (fun _ hk => hk) ?aF ?aO ?aB ?aS ?aL ?_; (case aP => exact (Kd.FK_slice_mk (Kd.V_reads' (Kd.V_mono (ok' := (fun k_ => ((fun k_ => (P0_ k_ ∨ w.heap.size ≤ k_) ∧ some k_ ≠ (.slice Ao53 y276.length co53 : Value).ownBlock)) k_ ∧ some k_ ≠ (v287 : Value).ownBlock)) (HO_7.out) (fun k_ hk => ⟨⟨hk.1.1, hk.1.2⟩, hk.2⟩))).2.1 (Kd.V_F (Kd.V_mono (ok' := (fun k_ => ((fun k_ => (P0_ k_ ∨ w.heap.size ≤ k_) ∧ some k_ ≠ (.slice Ao53 y276.length co53 : Value).ownBlock)) k_ ∧ some k_ ≠ (v287 : Value).ownBlock)) (HO_7.out) (fun k_ hk => ⟨⟨hk.1.1, hk.1.2⟩, hk.2⟩))))); (case aB => exact (by repeat (first | (with_reducible first | exact HB.out | apply below_alloc | apply pw_below_drewN | apply below_drew1) | exact HB.out))); (case aF => exact (fun k_ hk => ⟨(.inr (Nat.le_trans (below_size (by repeat (first | (with_reducible first | exact HB.out | apply below_alloc | apply pw_below_drewN | apply below_drew1) | exact HB.out))) hk)), Kd.fresh' (Kd.N_lt (by (with_reducible repeat (first | apply Kd.N_alloc | apply Kd.N_drewN | apply Kd.N_drew)); exact HO278.out)) k_ hk⟩)); (case aO => exact (by (with_reducible repeat (first | apply Kd.N_alloc | apply Kd.N_drewN | apply Kd.N_drew)); exact HO288.out)); (case aS => exact (below_size (by repeat (first | (with_reducible first | exact HB.out | apply below_alloc | apply pw_below_drewN | apply below_drew1) | exact HB.out)))); (case aL => have := LMc41.out; omega); intro v290 w58 ho hb hg hat; rw [← Ny289.out] at ho; have n0_ := Aside0.mk (Kd.V_afterv (ok := (fun k_ => (P0_ k_ ∨ w.heap.size ≤ k_) ∧ some k_ ≠ (.slice Ao53 y276.length co53 : Value).ownBlock)) (by (with_reducible repeat (first | apply Kd.V_alloc | apply Kd.V_drewN | apply Kd.V_drew)); exact HO_7.out) hg hat); have n1_ := Aside0.mk (Kd.V_afterv (ok := (fun k_ => (P0_ k_ ∨ w.heap.size ≤ k_) ∧ some k_ ≠ (.slice Ao53 y276.length co53 : Value).ownBlock)) (by (with_reducible repeat (first | apply Kd.V_alloc | apply Kd.V_drewN | apply Kd.V_drew)); exact HO_8.out) hg hat); have n2_ := Aside0.mk (Kd.R_over' (by (with_reducible repeat (first | apply Kd.R_alloc | apply Kd.R_drewN | apply Kd.R_drew)); exact HO266.out) (Kd.N_typed (by (with_reducible repeat (first | apply Kd.N_alloc | apply Kd.N_drewN | apply Kd.N_drew)); exact HO288.out)) (by decide) hg); have n3_ := Aside0.mk (Kd.V_afterv (ok := (fun k_ => (P0_ k_ ∨ w.heap.size ≤ k_) ∧ some k_ ≠ (v265 : Value).ownBlock ∧ some k_ ≠ (.slice Ao53 y276.length co53 : Value).ownBlock)) (by (with_reducible repeat (first | apply Kd.V_alloc | apply Kd.V_drewN | apply Kd.V_drew)); exact HO275.out) hg hat); have n4_ := Aside0.mk (Kd.N_afterv (ok := (fun k_ => (P0_ k_ ∨ w.heap.size ≤ k_))) (by (with_reducible repeat (first | apply Kd.N_alloc | apply Kd.N_drewN | apply Kd.N_drew)); exact HO278.out) hg hat); have n5_ := Aside0.mk (Kd.R_over' (by (with_reducible repeat (first | apply Kd.R_alloc | apply Kd.R_drewN | apply Kd.R_drew)); exact HO282.out) (Kd.N_typed (by (with_reducible repeat (first | apply Kd.N_alloc | apply Kd.N_drewN | apply Kd.N_drew)); exact HO288.out)) (by decide) hg); have n6_ := Aside0.mk (hb); have n7_ := Aside0.mk (ho); clear HO_7; clear HO_8; clear HO266; clear HO275; clear HO278; clear HO282; clear HB; clear HO288; have HO_7 := n0_; have HO_8 := n1_; have HO266 := n2_; have HO275 := n3_; have HO278 := n4_; have HO282 := n5_; have HB := n6_; have HO291 := n7_; clear n0_ n1_ n2_ n3_ n4_ n5_ n6_ n7_; clear ho hb hg hat; obtain ⟨Ao59, co59, eo59⟩ := Kd.N_slice HO291.out; subst eo59) | ((with_reducible refine gate_callee (f := 14) rfl ?_); refine goesL_ (some 107) rfl rfl Tryd.func14 (by kernel_rfl) rfl #[.slice Ao59 y289.length co59, .int .i64 a1] rfl (by (try simp only [List.map_toArray, List.map_cons, List.map_nil]); first | done | rfl | (simp only [List.length_drop, List.length_take]; rfl)) ?_; (with_reducible refine (matrix_Rank.calls k2 _ _ y289 a1 t292 t293 _ ?side1 ?side2 ?side3 A42.out).mono ?_); (case side1 => first | exact HT.out | exact TabIn.below HT.out (by repeat (first | (with_reducible first | exact HB.out | apply below_alloc | apply pw_below_drewN | apply below_drew1) | exact HB.out)) | (repeat (first | apply TabIn.drewN | apply TabIn.drew | exact HT.out))); (case side2 => repeat (first | exact (Kd.N_reads' HO291.out).2.2 | (with_reducible refine Kd.C_alloc ?_ _) | (with_reducible refine Kd.C_drewN ?_ _) | (with_reducible refine Kd.C_drew ?_))); (case side3 => exact (Kd.N_reads' HO291.out).2.1); rintro e w60 ⟨v294, rfl, ho0, hb⟩; refine ⟨_, rfl, ?_⟩; have n0_ := Aside0.mk (Kd.V_below (by (with_reducible repeat (first | apply Kd.V_alloc | apply Kd.V_drewN | apply Kd.V_drew)); exact HO_7.out) hb); have n1_ := Aside0.mk (Kd.V_below (by (with_reducible repeat (first | apply Kd.V_alloc | apply Kd.V_drewN | apply Kd.V_drew)); exact HO_8.out) hb); have n2_ := Aside0.mk (Kd.R_below (by (with_reducible repeat (first | apply Kd.R_alloc | apply Kd.R_drewN | apply Kd.R_drew)); exact HO266.out) hb); have n3_ := Aside0.mk (Kd.V_below (by (with_reducible repeat (first | apply Kd.V_alloc | apply Kd.V_drewN | apply Kd.V_drew)); exact HO275.out) hb); have n4_ := Aside0.mk (Kd.N_below (by (with_reducible repeat (first | apply Kd.N_alloc | apply Kd.N_drewN | apply Kd.N_drew)); exact HO278.out) hb); have n5_ := Aside0.mk (Kd.R_below (by (with_reducible repeat (first | apply Kd.R_alloc | apply Kd.R_drewN | apply Kd.R_drew)); exact HO282.out) hb); have n6_ := Aside0.mk (Kd.N_below (by (with_reducible repeat (first | apply Kd.N_alloc | apply Kd.N_drewN | apply Kd.N_drew)); exact HO291.out) hb); have n7_ := Aside0.mk (Kd.R_lower (Kd.R_newM (M := fun k_ => (w.heap.size ≤ k_)) ho0 (below_size (by repeat (first | (with_reducible first | exact HB.out | apply below_alloc | apply pw_below_drewN | apply below_drew1) | exact HB.out))) (fun k_ h_ => h_)) (below_size (by repeat (first | (with_reducible first | exact HB.out | apply below_alloc | apply pw_below_drewN | apply below_drew1) | exact HB.out)))); have n8_ := Aside0.mk (below_step (by repeat (first | (with_reducible first | exact HB.out | apply below_alloc | apply pw_below_drewN | apply below_drew1) | exact HB.out)) hb); clear HO_7; clear HO_8; clear HO266; clear HO275; clear HO278; clear HO282; clear HO291; clear HB; have HO_7 := n0_; have HO_8 := n1_; have HO266 := n2_; have HO275 := n3_; have HO278 := n4_; have HO282 := n5_; have HO291 := n6_; have HO295 := n7_; have HB := n8_; clear n0_ n1_ n2_ n3_ n4_ n5_ n6_ n7_ n8_; (try clear hb); (try clear hb2); (try clear hk); (try clear hi); (try clear ho0)) | ((with_reducible refine gate_callee (f := 15) rfl ?_); refine goesL_ (some 114) rfl rfl Tryd.func15 (by kernel_rfl) rfl #[.slice A18 y249.length c18, .int .i64 a1, .slice A245_0 y246.length c245_0] rfl (by (try simp only [List.map_toArray, List.map_cons, List.map_nil]); first | done | rfl | (simp only [List.length_drop, List.length_take]; rfl)) ?_; (with_reducible refine (matrix_Spans.calls k2 _ _ y249 a1 _ _ y246 t296 t297 _ ?side1 ?side2 ?side3 ?side4 ?side5 A43.out).mono ?_); (case side1 => first | exact HT.out | exact TabIn.below HT.out (by repeat (first | (with_reducible first | exact HB.out | apply below_alloc | apply pw_below_drewN | apply below_drew1) | exact HB.out)) | (repeat (first | apply TabIn.drewN | apply TabIn.drew | exact HT.out))); (case side2 => repeat (first | exact (Kd.V_reads' HO_8.out).2.2 | (with_reducible refine Kd.C_alloc ?_ _) | (with_reducible refine Kd.C_drewN ?_ _) | (with_reducible refine Kd.C_drew ?_))); (case side3 => exact (Kd.V_reads' HO_8.out).2.1); (case side4 => repeat (first | exact (Kd.V_reads' HO_7.out).2.2 | (with_reducible refine Kd.C_alloc ?_ _) | (with_reducible refine Kd.C_drewN ?_ _) | (with_reducible refine Kd.C_drew ?_))); (case side5 => exact (Kd.V_reads' HO_7.out).2.1); rintro e w61 ⟨v298, rfl, ho0, hb⟩; refine ⟨_, rfl, ?_⟩; have n0_ := Aside0.mk (Kd.V_below (by (with_reducible repeat (first | apply Kd.V_alloc | apply Kd.V_drewN | apply Kd.V_drew)); exact HO_7.out) hb); have n1_ := Aside0.mk (Kd.V_below (by (with_reducible repeat (first | apply Kd.V_alloc | apply Kd.V_drewN | apply Kd.V_drew)); exact HO_8.out) hb); have n2_ := Aside0.mk (Kd.R_below (by (with_reducible repeat (first | apply Kd.R_alloc | apply Kd.R_drewN | apply Kd.R_drew)); exact HO266.out) hb); have n3_ := Aside0.mk (Kd.V_below (by (with_reducible repeat (first | apply Kd.V_alloc | apply Kd.V_drewN | apply Kd.V_drew)); exact HO275.out) hb); have n4_ := Aside0.mk (Kd.N_below (by (with_reducible repeat (first | apply Kd.N_alloc | apply Kd.N_drewN | apply Kd.N_drew)); exact HO278.out) hb); have n5_ := Aside0.mk (Kd.R_below (by (with_reducible repeat (first | apply Kd.R_alloc | apply Kd.R_drewN | apply Kd.R_drew)); exact HO282.out) hb); have n6_ := Aside0.mk (Kd.N_below (by (with_reducible repeat (first | apply Kd.N_alloc | apply Kd.N_drewN | apply Kd.N_drew)); exact HO291.out) hb); have n7_ := Aside0.mk (Kd.R_below (by (with_reducible repeat (first | apply Kd.R_alloc | apply Kd.R_drewN | apply Kd.R_drew)); exact HO295.out) hb); have n8_ := Aside0.mk (Kd.R_lower (Kd.R_newM (M := fun k_ => (w.heap.size ≤ k_)) ho0 (below_size (by repeat (first | (with_reducible first | exact HB.out | apply below_alloc | apply pw_below_drewN | apply below_drew1) | exact HB.out))) (fun k_ h_ => h_)) (below_size (by repeat (first | (with_reducible first | exact HB.out | apply below_alloc | apply pw_below_drewN | apply below_drew1) | exact HB.out)))); have n9_ := Aside0.mk (below_step (by repeat (first | (with_reducible first | exact HB.out | apply below_alloc | apply pw_below_drewN | apply below_drew1) | exact HB.out)) hb); clear HO_7; clear HO_8; clear HO266; clear HO275; clear HO278; clear HO282; clear HO291; clear HO295; clear HB; have HO_7 := n0_; have HO_8 := n1_; have HO266 := n2_; have HO275 := n3_; have HO278 := n4_; have HO282 := n5_; have HO291 := n6_; have HO295 := n7_; have HO299 := n8_; have HB := n9_; clear n0_ n1_ n2_ n3_ n4_ n5_ n6_ n7_ n8_ n9_; (try clear hb); (try clear hb2); (try clear hk); (try clear hi); (try clear ho0)) | ((with_reducible refine gate_callee (f := 15) rfl ?_); refine goesL_ (some 121) rfl rfl Tryd.func15 (by kernel_rfl) rfl #[.slice A18 y249.length c18, .int .i64 a1, .slice Ao51 y273.length co51] rfl (by (try simp only [List.map_toArray, List.map_cons, List.map_nil]); first | done | rfl | (simp only [List.length_drop, List.length_take]; rfl)) ?_; (with_reducible refine (matrix_Spans.calls k2 _ _ y249 a1 _ _ y273 t300 t301 _ ?side1 ?side2 ?side3 ?side4 ?side5 A44.out).mono ?_); (case side1 => first | exact HT.out | exact TabIn.below HT.out (by repeat (first | (with_reducible first | exact HB.out | apply below_alloc | apply pw_below_drewN | apply below_drew1) | exact HB.out)) | (repeat (first | apply TabIn.drewN | apply TabIn.drew | exact HT.out))); (case side2 => repeat (first | exact (Kd.V_reads' HO_8.out).2.2 | (with_reducible refine Kd.C_alloc ?_ _) | (with_reducible refine Kd.C_drewN ?_ _) | (with_reducible refine Kd.C_drew ?_))); (case side3 => exact (Kd.V_reads' HO_8.out).2.1); (case side4 => repeat (first | exact (Kd.V_reads' HO275.out).2.2 | (with_reducible refine Kd.C_alloc ?_ _) | (with_reducible refine Kd.C_drewN ?_ _) | (with_reducible refine Kd.C_drew ?_))); (case side5 => exact (Kd.V_reads' HO275.out).2.1); rintro e w62 ⟨v302, rfl, ho0, hb⟩; refine ⟨_, rfl, ?_⟩; have n0_ := Aside0.mk (Kd.V_below (by (with_reducible repeat (first | apply Kd.V_alloc | apply Kd.V_drewN | apply Kd.V_drew)); exact HO_7.out) hb); have n1_ := Aside0.mk (Kd.V_below (by (with_reducible repeat (first | apply Kd.V_alloc | apply Kd.V_drewN | apply Kd.V_drew)); exact HO_8.out) hb); have n2_ := Aside0.mk (Kd.R_below (by (with_reducible repeat (first | apply Kd.R_alloc | apply Kd.R_drewN | apply Kd.R_drew)); exact HO266.out) hb); have n3_ := Aside0.mk (Kd.V_below (by (with_reducible repeat (first | apply Kd.V_alloc | apply Kd.V_drewN | apply Kd.V_drew)); exact HO275.out) hb); have n4_ := Aside0.mk (Kd.N_below (by (with_reducible repeat (first | apply Kd.N_alloc | apply Kd.N_drewN | apply Kd.N_drew)); exact HO278.out) hb); have n5_ := Aside0.mk (Kd.R_below (by (with_reducible repeat (first | apply Kd.R_alloc | apply Kd.R_drewN | apply Kd.R_drew)); exact HO282.out) hb); have n6_ := Aside0.mk (Kd.N_below (by (with_reducible repeat (first | apply Kd.N_alloc | apply Kd.N_drewN | apply Kd.N_drew)); exact HO291.out) hb); have n7_ := Aside0.mk (Kd.R_below (by (with_reducible repeat (first | apply Kd.R_alloc | apply Kd.R_drewN | apply Kd.R_drew)); exact HO295.out) hb); have n8_ := Aside0.mk (Kd.R_below (by (with_reducible repeat (first | apply Kd.R_alloc | apply Kd.R_drewN | apply Kd.R_drew)); exact HO299.out) hb); have n9_ := Aside0.mk (Kd.R_lower (Kd.R_newM (M := fun k_ => (w.heap.size ≤ k_)) ho0 (below_size (by repeat (first | (with_reducible first | exact HB.out | apply below_alloc | apply pw_below_drewN | apply below_drew1) | exact HB.out))) (fun k_ h_ => h_)) (below_size (by repeat (first | (with_reducible first | exact HB.out | apply below_alloc | apply pw_below_drewN | apply below_drew1) | exact HB.out)))); have n10_ := Aside0.mk (below_step (by repeat (first | (with_reducible first | exact HB.out | apply below_alloc | apply pw_below_drewN | apply below_drew1) | exact HB.out)) hb); clear HO_7; clear HO_8; clear HO266; clear HO275; clear HO278; clear HO282; clear HO291; clear HO295; clear HO299; clear HB; have HO_7 := n0_; have HO_8 := n1_; have HO266 := n2_; have HO275 := n3_; have HO278 := n4_; have HO282 := n5_; have HO291 := n6_; have HO295 := n7_; have HO299 := n8_; have HO303 := n9_; have HB := n10_; clear n0_ n1_ n2_ n3_ n4_ n5_ n6_ n7_ n8_ n9_ n10_; (try clear hb); (try clear hb2); (try clear hk); (try clear hi); (try clear ho0)))
                              (try simp only [Act.put, List.setIfInBounds_toArray, List.set_cons_zero, List.set_cons_succ])
                              go_cut [150] (fun v150 wc => ∃ (kq : Nat) (x150_44 : Bool), v150 = .bool x150_44 ∧ Aside0 (geyserlaw03_MatrixSums.j4 kq t263 t292 t296 x150_44 = some r) ∧ Aside0 (kq ≤ k2) ∧ Aside0 (Below w.heap.size w wc))
                              case first =>
                                have H := HC45.out
                                clear HC45
                                by_cases c63 : (t264.length : Int) = 0
                                · rw [if_pos c63] at H
                                  have c63b0 : ((t264.length : Int) == 0) = true := beq_iff_eq.mpr c63
                                  (try (have c63b0q := c63b0; simp only [hl7_2] at c63b0q))
                                  have c63b1 : ((t264.length : Int) != 0) = false := bne_eq_false_iff_eq.mpr c63
                                  (try (have c63b1q := c63b1; simp only [hl7_2] at c63b1q))
                                  clear c63
                                  (first | rw [c63b0] | rw [c63b1] | (simp only [i64_w, i32_w]; rw [c63b0]) | skip)
                                  by_cases c64 : (t280.length : Int) = 0
                                  · rw [if_pos c64] at H
                                    have c64b0 : ((t280.length : Int) == 0) = true := beq_iff_eq.mpr c64
                                    (try (have c64b0q := c64b0; simp only [hl7_2] at c64b0q))
                                    have c64b1 : ((t280.length : Int) != 0) = false := bne_eq_false_iff_eq.mpr c64
                                    (try (have c64b1q := c64b1; simp only [hl7_2] at c64b1q))
                                    clear c64
                                    by_cases c65 : (t293.length : Int) = 0
                                    · rw [if_pos c65] at H
                                      have c65b0 : ((t293.length : Int) == 0) = true := beq_iff_eq.mpr c65
                                      (try (have c65b0q := c65b0; simp only [hl7_2] at c65b0q))
                                      have c65b1 : ((t293.length : Int) != 0) = false := bne_eq_false_iff_eq.mpr c65
                                      (try (have c65b1q := c65b1; simp only [hl7_2] at c65b1q))
                                      clear c65
                                      by_cases c66 : (t297.length : Int) = 0
                                      · rw [if_pos c66] at H
                                        have c66b0 : ((t297.length : Int) == 0) = true := beq_iff_eq.mpr c66
                                        (try (have c66b0q := c66b0; simp only [hl7_2] at c66b0q))
                                        have c66b1 : ((t297.length : Int) != 0) = false := bne_eq_false_iff_eq.mpr c66
                                        (try (have c66b1q := c66b1; simp only [hl7_2] at c66b1q))
                                        clear c66
                                        by_cases c67 : (t301.length : Int) = 0
                                        · rw [if_pos c67] at H
                                          have c67b0 : ((t301.length : Int) == 0) = true := beq_iff_eq.mpr c67
                                          (try (have c67b0q := c67b0; simp only [hl7_2] at c67b0q))
                                          have c67b1 : ((t301.length : Int) != 0) = false := bne_eq_false_iff_eq.mpr c67
                                          (try (have c67b1q := c67b1; simp only [hl7_2] at c67b1q))
                                          clear c67
                                          by_cases c68 : t263 = t279
                                          · rw [if_pos c68] at H
                                            have c68b0 : (t263 == t279) = true := beq_iff_eq.mpr c68
                                            have c68b1 : (t263 != t279) = false := bne_eq_false_iff_eq.mpr c68
                                            clear c68
                                            have H' := Aside0.mk H
                                            clear H
                                            obtain ⟨Ao69, co69, eo69⟩ := Kd.R_slice HO266.out
                                            subst eo69
                                            obtain ⟨Ao70, co70, eo70⟩ := Kd.R_slice HO282.out
                                            subst eo70
                                            obtain ⟨Ao71, co71, eo71⟩ := Kd.R_slice HO295.out
                                            subst eo71
                                            obtain ⟨Ao72, co72, eo72⟩ := Kd.R_slice HO299.out
                                            subst eo72
                                            obtain ⟨Ao73, co73, eo73⟩ := Kd.R_slice HO303.out
                                            subst eo73
                                            go_wp2
                                            go_meet
                                            case rel => exact ⟨_, (!t300), (by first | rfl | (simp; done) | (simp [*]; done)), H', ⟨by have := HJ3.out; have := HK2.out; first | omega | exact Nat.le_refl _⟩, ⟨by repeat (first | (with_reducible first | exact HB.out | apply below_alloc | apply pw_below_drewN | apply below_drew1) | exact HB.out)⟩⟩
                                          · rw [if_neg c68] at H
                                            have c68b0 : (t263 == t279) = false := beq_eq_false_iff_ne.mpr c68
                                            have c68b1 : (t263 != t279) = true := bne_iff_ne.mpr c68
                                            have H' := Aside0.mk H
                                            clear H
                                            obtain ⟨Ao74, co74, eo74⟩ := Kd.R_slice HO266.out
                                            subst eo74
                                            obtain ⟨Ao75, co75, eo75⟩ := Kd.R_slice HO282.out
                                            subst eo75
                                            obtain ⟨Ao76, co76, eo76⟩ := Kd.R_slice HO295.out
                                            subst eo76
                                            obtain ⟨Ao77, co77, eo77⟩ := Kd.R_slice HO299.out
                                            subst eo77
                                            obtain ⟨Ao78, co78, eo78⟩ := Kd.R_slice HO303.out
                                            subst eo78
                                            go_wp2
                                            go_meet
                                            case rel => exact ⟨_, (true), (by first | rfl | (simp; done) | (simp [*]; done)), H', ⟨by have := HJ3.out; have := HK2.out; first | omega | exact Nat.le_refl _⟩, ⟨by repeat (first | (with_reducible first | exact HB.out | apply below_alloc | apply pw_below_drewN | apply below_drew1) | exact HB.out)⟩⟩
                                        · rw [if_neg c67] at H
                                          have c67b0 : ((t301.length : Int) == 0) = false := beq_eq_false_iff_ne.mpr c67
                                          (try (have c67b0q := c67b0; simp only [hl7_2] at c67b0q))
                                          have c67b1 : ((t301.length : Int) != 0) = true := bne_iff_ne.mpr c67
                                          (try (have c67b1q := c67b1; simp only [hl7_2] at c67b1q))
                                          have c67b2 : ¬ (t301 = []) := fun h_ => c67 (by rw [h_]; rfl)
                                          have H' := Aside0.mk H
                                          clear H
                                          obtain ⟨Ao79, co79, eo79⟩ := Kd.R_slice HO266.out
                                          subst eo79
                                          obtain ⟨Ao80, co80, eo80⟩ := Kd.R_slice HO282.out
                                          subst eo80
                                          obtain ⟨Ao81, co81, eo81⟩ := Kd.R_slice HO295.out
                                          subst eo81
                                          obtain ⟨Ao82, co82, eo82⟩ := Kd.R_slice HO299.out
                                          subst eo82
                                          obtain ⟨Ao83, co83, eo83⟩ := Kd.R_slice HO303.out
                                          subst eo83
                                          go_wp2
                                          go_meet
                                          case rel => exact ⟨_, (true), (by first | rfl | (simp; done) | (simp [*]; done)), H', ⟨by have := HJ3.out; have := HK2.out; first | omega | exact Nat.le_refl _⟩, ⟨by repeat (first | (with_reducible first | exact HB.out | apply below_alloc | apply pw_below_drewN | apply below_drew1) | exact HB.out)⟩⟩
                                      · rw [if_neg c66] at H
                                        have c66b0 : ((t297.length : Int) == 0) = false := beq_eq_false_iff_ne.mpr c66
                                        (try (have c66b0q := c66b0; simp only [hl7_2] at c66b0q))
                                        have c66b1 : ((t297.length : Int) != 0) = true := bne_iff_ne.mpr c66
                                        (try (have c66b1q := c66b1; simp only [hl7_2] at c66b1q))
                                        have c66b2 : ¬ (t297 = []) := fun h_ => c66 (by rw [h_]; rfl)
                                        have H' := Aside0.mk H
                                        clear H
                                        obtain ⟨Ao84, co84, eo84⟩ := Kd.R_slice HO266.out
                                        subst eo84
                                        obtain ⟨Ao85, co85, eo85⟩ := Kd.R_slice HO282.out
                                        subst eo85
                                        obtain ⟨Ao86, co86, eo86⟩ := Kd.R_slice HO295.out
                                        subst eo86
                                        obtain ⟨Ao87, co87, eo87⟩ := Kd.R_slice HO299.out
                                        subst eo87
                                        go_wp2
                                        go_meet
                                        case rel => exact ⟨_, (true), (by first | rfl | (simp; done) | (simp [*]; done)), H', ⟨by have := HJ3.out; have := HK2.out; first | omega | exact Nat.le_refl _⟩, ⟨by repeat (first | (with_reducible first | exact HB.out | apply below_alloc | apply pw_below_drewN | apply below_drew1) | exact HB.out)⟩⟩
                                    · rw [if_neg c65] at H
                                      have c65b0 : ((t293.length : Int) == 0) = false := beq_eq_false_iff_ne.mpr c65
                                      (try (have c65b0q := c65b0; simp only [hl7_2] at c65b0q))
                                      have c65b1 : ((t293.length : Int) != 0) = true := bne_iff_ne.mpr c65
                                      (try (have c65b1q := c65b1; simp only [hl7_2] at c65b1q))
                                      have c65b2 : ¬ (t293 = []) := fun h_ => c65 (by rw [h_]; rfl)
                                      have H' := Aside0.mk H
                                      clear H
                                      obtain ⟨Ao88, co88, eo88⟩ := Kd.R_slice HO266.out
                                      subst eo88
                                      obtain ⟨Ao89, co89, eo89⟩ := Kd.R_slice HO282.out
                                      subst eo89
                                      obtain ⟨Ao90, co90, eo90⟩ := Kd.R_slice HO295.out
                                      subst eo90
                                      go_wp2
                                      go_meet
                                      case rel => exact ⟨_, (true), (by first | rfl | (simp; done) | (simp [*]; done)), H', ⟨by have := HJ3.out; have := HK2.out; first | omega | exact Nat.le_refl _⟩, ⟨by repeat (first | (with_reducible first | exact HB.out | apply below_alloc | apply pw_below_drewN | apply below_drew1) | exact HB.out)⟩⟩
                                  · rw [if_neg c64] at H
                                    have c64b0 : ((t280.length : Int) == 0) = false := beq_eq_false_iff_ne.mpr c64
                                    (try (have c64b0q := c64b0; simp only [hl7_2] at c64b0q))
                                    have c64b1 : ((t280.length : Int) != 0) = true := bne_iff_ne.mpr c64
                                    (try (have c64b1q := c64b1; simp only [hl7_2] at c64b1q))
                                    have c64b2 : ¬ (t280 = []) := fun h_ => c64 (by rw [h_]; rfl)
                                    have H' := Aside0.mk H
                                    clear H
                                    obtain ⟨Ao91, co91, eo91⟩ := Kd.R_slice HO266.out
                                    subst eo91
                                    obtain ⟨Ao92, co92, eo92⟩ := Kd.R_slice HO282.out
                                    subst eo92
                                    go_wp2
                                    go_meet
                                    case rel => exact ⟨_, (true), (by first | rfl | (simp; done) | (simp [*]; done)), H', ⟨by have := HJ3.out; have := HK2.out; first | omega | exact Nat.le_refl _⟩, ⟨by repeat (first | (with_reducible first | exact HB.out | apply below_alloc | apply pw_below_drewN | apply below_drew1) | exact HB.out)⟩⟩
                                · rw [if_neg c63] at H
                                  have c63b0 : ((t264.length : Int) == 0) = false := beq_eq_false_iff_ne.mpr c63
                                  (try (have c63b0q := c63b0; simp only [hl7_2] at c63b0q))
                                  have c63b1 : ((t264.length : Int) != 0) = true := bne_iff_ne.mpr c63
                                  (try (have c63b1q := c63b1; simp only [hl7_2] at c63b1q))
                                  have c63b2 : ¬ (t264 = []) := fun h_ => c63 (by rw [h_]; rfl)
                                  (first | rw [c63b0] | rw [c63b1] | (simp only [i64_w, i32_w]; rw [c63b0]) | skip)
                                  have H' := Aside0.mk H
                                  clear H
                                  obtain ⟨Ao93, co93, eo93⟩ := Kd.R_slice HO266.out
                                  subst eo93
                                  go_wp2
                                  go_meet
                                  case rel => exact ⟨_, (true), (by first | rfl | (simp; done) | (simp [*]; done)), H', ⟨by have := HJ3.out; have := HK2.out; first | omega | exact Nat.le_refl _⟩, ⟨by repeat (first | (with_reducible first | exact HB.out | apply below_alloc | apply pw_below_drewN | apply below_drew1) | exact HB.out)⟩⟩
                              case rest =>
                                clear HC45
                                try clear c1
                                try clear q1
                                try clear c2
                                try clear p2
                                try clear q2
                                try clear hx2
                                try clear qi2
                                try clear c3
                                try clear p3
                                try clear q3
                                try clear hx3
                                try clear hf3
                                try clear c4
                                try clear c6
                                try clear p6
                                try clear c7
                                try clear c7b0
                                try clear c7b1
                                try clear c7b2
                                try clear c9
                                try clear c10
                                try clear c12
                                try clear c12b0
                                try clear c12b1
                                try clear c13
                                try clear c13b0
                                try clear c13b1
                                try clear c14
                                try clear c15
                                try clear c15b0
                                try clear c15b1
                                try clear c16
                                try clear c16b0
                                try clear c16b1
                                try clear c18
                                try clear q18
                                try clear c21
                                try clear c21b0
                                try clear c23
                                try clear c23b0
                                try clear c23b1
                                try clear c24
                                try clear c24b0
                                try clear p24
                                try clear q24
                                try clear hx24
                                try clear qi24
                                try clear c25
                                try clear p25
                                try clear q25
                                try clear hx25
                                try clear c26
                                try clear c26b0
                                try clear p26
                                try clear q26
                                try clear hx26
                                try clear c27
                                try clear c27b0
                                try clear c28
                                try clear c28b0
                                try clear c29
                                try clear c29b0
                                try clear c30
                                try clear c30b0
                                try clear p31
                                try clear q31
                                try clear hx31
                                try clear hf31
                                try clear c37
                                try clear c38
                                try clear c40
                                try clear c41
                                try clear c63
                                try clear c63b0
                                try clear c63b1
                                try clear c63b2
                                try clear c64
                                try clear c64b0
                                try clear c64b1
                                try clear c64b2
                                try clear p64
                                try clear c65
                                try clear c65b0
                                try clear c65b1
                                try clear c65b2
                                try clear c66
                                try clear c66b0
                                try clear c66b1
                                try clear c66b2
                                try clear c67
                                try clear c67b0
                                try clear c67b1
                                try clear c67b2
                                try clear c68
                                try clear c68b0
                                try clear c68b1
                                try clear hx245_0
                                try clear hx258_0
                                try clear hx259_0
                                try clear hx260_0
                                try clear hx261_0
                                try clear hx31_0
                                try clear p2
                                try clear p24
                                try clear p245
                                try clear p25
                                try clear p258
                                try clear p259
                                try clear p260
                                try clear p261
                                try clear p31
                                try clear q1
                                try clear q18
                                try clear q2
                                try clear q24
                                try clear q245
                                try clear q25
                                try clear q258
                                try clear q259
                                try clear q260
                                try clear q261
                                try clear q31
                                obtain ⟨kq, x150_44, rfl, HA, HJ44, HB⟩ := hcut
                                cases kq with
                                | zero => exact absurd HA.out (by simp [geyserlaw03_MatrixSums.j4])
                                | succ kj44 =>
                                  have H := HA.out
                                  clear HA
                                  simp only [geyserlaw03_MatrixSums.j4] at H
                                  by_cases c94 : x150_44 = true
                                  · subst c94
                                    have H1 : (some false) = some r := by rw [if_pos rfl] at H; exact H
                                    clear H
                                    have H := H1
                                    clear H1
                                    obtain rfl := Option.some.inj H
                                    go_wp2
                                    go_ret
                                    exact ⟨by first | rfl | (simp [errW_none, errW_some] <;> rfl) | (simp [*, errW_none, errW_some] <;> rfl), by repeat (first | (with_reducible first | exact HB.out | apply below_alloc | apply pw_below_drewN | apply below_drew1) | exact HB.out)⟩
                                  · replace c94 := Bool.eq_false_iff.mpr c94
                                    subst c94
                                    have H1 : (if t296 = true then (if t292 = t263 then ((geyserlaw03_awake.f kj44).bind fun t304 => (some t304)) else (some false)) else (if t292 = (wrap64 (t263 + 1)) then ((geyserlaw03_awake.f kj44).bind fun t305 => (some t305)) else (some false))) = some r := by rw [if_neg (show ¬ (false = true) by decide)] at H; exact H
                                    clear H
                                    have H := H1
                                    clear H1
                                    by_cases c95 : t296 = true
                                    · subst c95
                                      have H1 : (if t292 = t263 then ((geyserlaw03_awake.f kj44).bind fun t304 => (some t304)) else (some false)) = some r := by rw [if_pos rfl] at H; exact H
                                      clear H
                                      have H := H1
                                      clear H1
                                      by_cases c96 : t292 = t263
                                      · rw [if_pos c96] at H
                                        have c96b0 : (t292 == t263) = true := beq_iff_eq.mpr c96
                                        have c96b1 : (t292 != t263) = false := bne_eq_false_iff_eq.mpr c96
                                        clear c96
                                        replace H := Option.bind_eq_some_iff.mp H
                                        obtain ⟨t304, A970, H⟩ := H
                                        replace H : (some t304) = some r := H
                                        have A97 := Aside0.mk A970
                                        clear A970
                                        obtain rfl := Option.some.inj H
                                        go_wp2_with (first | (go_at_call 12; (with_reducible refine (geyserlaw03_awake.calls kj44  t304 _ ?side1 A97.out).mono ?_); (case side1 => first | exact HT.out | exact TabIn.below HT.out (by repeat (first | (with_reducible first | exact HB.out | apply below_alloc | apply pw_below_drewN | apply below_drew1) | exact HB.out)) | (repeat (first | apply TabIn.drewN | apply TabIn.drew | exact HT.out))); rintro e w98 ⟨rfl, hb⟩; have n0_ := Aside0.mk (below_step (by repeat (first | (with_reducible first | exact HB.out | apply below_alloc | apply pw_below_drewN | apply below_drew1) | exact HB.out)) hb); clear HB; have HB := n0_; clear n0_; (try clear hb); (try clear hb2); (try clear hk); (try clear hi)))
                                        go_ret
                                        exact ⟨by first | rfl | (simp [errW_none, errW_some] <;> rfl) | (simp [*, errW_none, errW_some] <;> rfl), by repeat (first | (with_reducible first | exact HB.out | apply below_alloc | apply pw_below_drewN | apply below_drew1) | exact HB.out)⟩
                                      · rw [if_neg c96] at H
                                        have c96b0 : (t292 == t263) = false := beq_eq_false_iff_ne.mpr c96
                                        have c96b1 : (t292 != t263) = true := bne_iff_ne.mpr c96
                                        obtain rfl := Option.some.inj H
                                        go_wp2
                                        go_ret
                                        exact ⟨by first | rfl | (simp [errW_none, errW_some] <;> rfl) | (simp [*, errW_none, errW_some] <;> rfl), by repeat (first | (with_reducible first | exact HB.out | apply below_alloc | apply pw_below_drewN | apply below_drew1) | exact HB.out)⟩
                                    · replace c95 := Bool.eq_false_iff.mpr c95
                                      subst c95
                                      have H1 : (if t292 = (wrap64 (t263 + 1)) then ((geyserlaw03_awake.f kj44).bind fun t305 => (some t305)) else (some false)) = some r := by rw [if_neg (show ¬ (false = true) by decide)] at H; exact H
                                      clear H
                                      have H := H1
                                      clear H1
                                      by_cases c99 : t292 = (wrap64 (t263 + 1))
                                      · rw [if_pos c99] at H
                                        have c99b0 : (t292 == (wrap64 (t263 + 1))) = true := beq_iff_eq.mpr c99
                                        have c99b1 : (t292 != (wrap64 (t263 + 1))) = false := bne_eq_false_iff_eq.mpr c99
                                        clear c99
                                        replace H := Option.bind_eq_some_iff.mp H
                                        obtain ⟨t305, A1000, H⟩ := H
                                        replace H : (some t305) = some r := H
                                        have A100 := Aside0.mk A1000
                                        clear A1000
                                        obtain rfl := Option.some.inj H
                                        go_wp2_with (first | (go_at_call 12; (with_reducible refine (geyserlaw03_awake.calls kj44  t305 _ ?side1 A100.out).mono ?_); (case side1 => first | exact HT.out | exact TabIn.below HT.out (by repeat (first | (with_reducible first | exact HB.out | apply below_alloc | apply pw_below_drewN | apply below_drew1) | exact HB.out)) | (repeat (first | apply TabIn.drewN | apply TabIn.drew | exact HT.out))); rintro e w101 ⟨rfl, hb⟩; have n0_ := Aside0.mk (below_step (by repeat (first | (with_reducible first | exact HB.out | apply below_alloc | apply pw_below_drewN | apply below_drew1) | exact HB.out)) hb); clear HB; have HB := n0_; clear n0_; (try clear hb); (try clear hb2); (try clear hk); (try clear hi)))
                                        go_ret
                                        exact ⟨by first | rfl | (simp [errW_none, errW_some] <;> rfl) | (simp [*, errW_none, errW_some] <;> rfl), by repeat (first | (with_reducible first | exact HB.out | apply below_alloc | apply pw_below_drewN | apply below_drew1) | exact HB.out)⟩
                                      · rw [if_neg c99] at H
                                        have c99b0 : (t292 == (wrap64 (t263 + 1))) = false := beq_eq_false_iff_ne.mpr c99
                                        have c99b1 : (t292 != (wrap64 (t263 + 1))) = true := bne_iff_ne.mpr c99
                                        obtain rfl := Option.some.inj H
                                        go_wp2
                                        go_ret
                                        exact ⟨by first | rfl | (simp [errW_none, errW_some] <;> rfl) | (simp [*, errW_none, errW_some] <;> rfl), by repeat (first | (with_reducible first | exact HB.out | apply below_alloc | apply pw_below_drewN | apply below_drew1) | exact HB.out)⟩
                            · rw [if_neg c41] at H
                              exact absurd H (by simp)
                          · rw [if_neg c40] at H
                            exact absurd H (by simp)
                        · rw [if_neg c38] at H
                          exact absurd H (by simp)
                      · rw [if_neg c37] at H
                        exact absurd H (by simp)
              · rw [if_neg c16] at H
                exact absurd H (by simp)
            · rw [if_neg c15] at H
              exact absurd H (by simp)
          · rw [if_neg c13] at H
            exact absurd H (by simp)
        · rw [if_neg c12] at H
          exact absurd H (by simp)

end Go.Proofs.YtgocibnmgfmceaaDoor.P

namespace Go.Proofs.YtgocibnmgfmceaaDoor.Pure
open Go.RowKit Go.Proofs.YtgocibnmgfmceaaDoor.P Go.Proofs.YtgocibnmgfmceaaDoorW.PrintWords Go.Proofs.YtgocibnmgfmceaaDoorW.PrintLast Go.Proofs.YtgocibnmgfmceaaDoorW.PrintErr Go.Proofs.YtgocibnmgfmceaaDoorW.PrintMore Go.Proofs.YtgocibnmgfmceaaDoor.Lin
set_option linter.unusedVariables false
set_option linter.unusedSimpArgs false
/-- A sum of some of the rows. -/
structure SInv (rest : List (List Int)) (m : Nat) (s : List Int) : Prop where
  len : s.length = m
  u : ∀ x ∈ s, U64 x
  sp : Sp (rest.map hasB) (hasB s)
theorem hasB_zero (m : Nat) : hasB (List.replicate m 0) = v0 := by
  funext c
  unfold hasB v0
  have e : (List.replicate m (0 : Int)).getD (c / 64) 0 = 0 := by
    by_cases h : c / 64 < m
    · simp [List.getD_eq_getElem?_getD, h]
    · simp [List.getD_eq_getElem?_getD, h]
  rw [e]
  simp
theorem SInv.zero (rest : List (List Int)) (m : Nat) : SInv rest m (List.replicate m 0) :=
  ⟨by simp, fun x hx => by rw [List.eq_of_mem_replicate hx]; unfold U64; omega, by rw [hasB_zero]; exact Sp.zero⟩
theorem SInv.add {rest : List (List Int)} {m : Nat} {s r : List Int} (h : SInv rest m s) (hr : r ∈ rest) (hl : r.length = m) (hu : ∀ x ∈ r, U64 x) : SInv rest m (xorW s r) := by
  refine ⟨by rw [xorW_len _ _ (by rw [h.len, hl]), h.len], xorW_u64 _ _, ?_⟩
  rw [hasB_vx s r (by rw [h.len, hl]) h.u hu]
  exact Sp.vx h.sp (Sp.mem (List.mem_map_of_mem hr))
theorem rd_at (l : List Int) (j : Nat) (h : j < l.length) : rd l (j : Int) = l[j] := by
  have e : l = l.take j ++ l[j] :: l.drop (j + 1) := by rw [← List.drop_eq_getElem_cons h, List.take_append_drop]
  have h2 := rd_mid (l.take j) (l.drop (j + 1)) l[j]
  rw [← e, List.length_take, Nat.min_eq_left (Nat.le_of_lt h)] at h2
  exact h2
theorem rd_rowAt (l : List (List Int)) (i : Nat) (h : i < l.length) : rd_Lsu64 l (i : Int) = l[i] := by
  have e : l = l.take i ++ l[i] :: l.drop (i + 1) := by rw [← List.drop_eq_getElem_cons h, List.take_append_drop]
  have h2 := rd_rowW (l.take i) l[i] (l.drop (i + 1))
  rw [← e, List.length_take, Nat.min_eq_left (Nat.le_of_lt h)] at h2
  exact h2
/-- The sum on its way: the first j words are done. -/
def cur (s r : List Int) (j : Nat) : List Int := (xorW s r).take j ++ s.drop j
theorem cur_len (s r : List Int) (h : s.length = r.length) (j : Nat) (hj : j ≤ s.length) : (cur s r j).length = s.length := by
  simp [cur, xorW_len s r h]; omega
theorem cur_set (s r : List Int) (h : s.length = r.length) (j : Nat) (hj : j < s.length) :
    (cur s r j).set j (Go.bits .xor .u64 (rd (cur s r j) (j : Int)) (rd r (j : Int))) = cur s r (j + 1) := by
  have hx : (xorW s r).length = s.length := xorW_len s r h
  have ht : ((xorW s r).take j).length = j := by rw [List.length_take]; omega
  have e : cur s r j = (xorW s r).take j ++ s[j] :: s.drop (j + 1) := by unfold cur; rw [List.drop_eq_getElem_cons hj]
  have e1 : rd (cur s r j) (j : Int) = s[j] := by
    have := rd_mid ((xorW s r).take j) (s.drop (j + 1)) s[j]
    rw [ht] at this
    rw [e]; exact this
  have e2 : rd r (j : Int) = r[j]'(by omega) := rd_at r j (by omega)
  have e3 : (xorW s r)[j]'(by omega) = Go.bits .xor .u64 s[j] (r[j]'(by omega)) := by simp only [xorW, List.getElem_zipWith]; rfl
  rw [e1, e2, e, ← e3]
  unfold cur
  rw [List.take_succ_eq_append_getElem (by omega : j < (xorW s r).length)]
  rw [List.set_append_right _ _ (by omega), ht, Nat.sub_self, List.set_cons_zero, List.append_assoc]
  rfl
theorem sums_l1 (n : Int) (picks : List Bool) (first : List Int) (rest : List (List Int)) (s r : List Int) (i : Nat) (hi : i < rest.length) (hrest : rest.length < 1000000) (hr : rest[i] = r) (h : s.length = r.length) (hs : s.length ≤ 1000000) (v : Bool)
    (hn : Ev (fun k => geyserlaw03_MatrixSums.l0 k n picks first rest (xorW s r) ((i + 1 : Nat) : Int)) v) : ∀ d j : Nat, j + d = s.length →
    Ev (fun k => geyserlaw03_MatrixSums.l1 k n picks first rest (cur s r j) (i : Int) (j : Int)) v := by
  have e2 : wrap64 ((i : Int) + 1) = ((i + 1 : Nat) : Int) := by rw [w64s (by omega) (by omega)]; rfl
  have hri : rd_Lsu64 rest (i : Int) = r := by rw [rd_rowAt rest i hi, hr]
  have hx : (xorW s r).length = s.length := xorW_len s r h
  intro d
  induction d with
  | zero =>
    intro j hj
    have hc := cur_len s r h j (by omega)
    have e : cur s r j = xorW s r := by
      unfold cur
      rw [List.take_of_length_le (by omega), List.drop_eq_nil_of_le (by omega), List.append_nil]
    refine Ev.step (fun k => ?_) hn
    rw [geyserlaw03_MatrixSums.l1, if_neg (by omega), e, e2]
  | succ d ih =>
    intro j hj
    have hc := cur_len s r h j (by omega)
    have h' := ih (j + 1) (by omega)
    have e3 : wrap64 ((j : Int) + 1) = ((j + 1 : Nat) : Int) := by rw [w64s (by omega) (by omega)]; rfl
    refine Ev.step (fun k => ?_) h'
    rw [geyserlaw03_MatrixSums.l1, if_pos (by omega), if_pos (by omega), if_pos (by omega), if_pos (by omega), hri, if_pos (by omega), Int.toNat_natCast, cur_set s r h j (by omega), e3]
/-- What is asked of the rows that are summed. -/
structure SRest (n : Int) (rest : List (List Int)) : Prop where
  n0 : 0 ≤ n
  n1 : n ≤ 4096
  few : rest.length < 4096
  row : ∀ r ∈ rest, wokB r n = true ∧ ∀ x ∈ r, U64 x
theorem SRest.chk {n : Int} {rest : List (List Int)} (h : SRest n rest) (more : List (List Int)) (hm : more.length ≤ 1) (hw : ∀ r ∈ more, wokB r n = true) : chk3 (rest ++ more) n = 0 := by
  have := h.few; have := h.n0; have := h.n1
  unfold chk3
  rw [if_neg (by omega), if_neg (by rw [List.length_append]; omega), if_pos]
  rw [List.all_eq_true]
  intro r hr
  rcases List.mem_append.1 hr with hr | hr
  · exact (h.row r hr).1
  · exact hw r hr
theorem SRest.len {n : Int} {rest : List (List Int)} (h : SRest n rest) : ∀ r ∈ rest, r.length = nW n ∧ ∀ a ∈ r, U64 a :=
  fun r hr => ⟨((wokB_iff r n h.n0).1 (h.row r hr).1).1, (h.row r hr).2⟩
theorem SInv.wok {n : Int} {rest : List (List Int)} {s : List Int} (h : SRest n rest) (hI : SInv rest (nW n) s) : wokB s n = true := by
  rw [wokB_iff s n h.n0]
  refine ⟨hI.len, fun c hc => Sp.col (fun u hu => ?_) hI.sp⟩
  obtain ⟨r, hr, rfl⟩ := List.mem_map.1 hu
  exact ((wokB_iff r n h.n0).1 (h.row r hr).1).2 c hc
theorem SInv.rank {n : Int} {rest : List (List Int)} {s : List Int} (h : SRest n rest) (hI : SInv rest (nW n) s) : (byOf [] (rest ++ [s])).length = (byOf [] rest).length := by
  have h1 := (byOf_rk (nW n) (rest ++ [s]) (fun r hr => by
    rcases List.mem_append.1 hr with hr | hr
    · exact h.len r hr
    · obtain rfl : r = s := by simpa using hr
      exact ⟨hI.len, hI.u⟩)).1
  have h2 := (byOf_rk (nW n) rest h.len).1
  refine h1.eq h2 (fun x hx => ?_) (fun x hx => Sp.mem ?_)
  · rw [List.map_append, List.mem_append] at hx
    rcases hx with hx | hx
    · exact Sp.mem hx
    · have : x = hasB s := by simpa using hx
      rw [this]; exact hI.sp
  · rw [List.map_append, List.mem_append]; exact Or.inl hx
theorem stepW_spans (rest : List (List Int)) (row : List Int) : (byOf [] (rest ++ [row])).length = if spansB rest row = true then (byOf [] rest).length else (byOf [] rest).length + 1 := by
  rw [byOf_snoc]
  unfold stepW spansB
  by_cases h : fstI (lessW row (byOf [] rest)) < 0
  · rw [if_pos h, decide_eq_true h, if_pos rfl]
  · rw [if_neg h, decide_eq_false h, if_neg (by decide)]; simp
theorem sums_end (n : Int) (picks : List Bool) (first : List Int) (rest : List (List Int)) (s : List Int) (h : SRest n rest) (hI : SInv rest (nW n) s) (hf : wokB first n = true) (hfu : ∀ x ∈ first, U64 x) (i : Int) (hi : i = (rest.length : Int)) :
    Ev (fun k => geyserlaw03_MatrixSums.l0 k n picks first rest s i) true := by
  have hfew := h.few
  have c0 := h.chk [] (by simp) (by simp)
  rw [List.append_nil] at c0
  have c1 := h.chk [s] (by simp) (by simp [SInv.wok h hI])
  have c2 := h.chk [first] (by simp) (by simp [hf])
  have hu : ∀ r ∈ rest, ∀ x ∈ r, U64 x := fun r hr => (h.row r hr).2
  have hus : ∀ r ∈ rest ++ [s], ∀ x ∈ r, U64 x := fun r hr => by
    rcases List.mem_append.1 hr with hr | hr
    · exact hu r hr
    · obtain rfl : r = s := by simpa using hr
      exact hI.u
  have huf : ∀ r ∈ rest ++ [first], ∀ x ∈ r, U64 x := fun r hr => by
    rcases List.mem_append.1 hr with hr | hr
    · exact hu r hr
    · obtain rfl : r = first := by simpa using hr
      exact hfu
  have r0 := mrank_ev rest n (by omega) hu
  have r1 := mrank_ev (rest ++ [s]) n (by simp; omega) hus
  have r2 := mrank_ev (rest ++ [first]) n (by simp; omega) huf
  have p1 := mspans_ev rest n first (by omega) hu hfu
  have p2 := mspans_ev rest n s (by omega) hu hI.u
  have hs1 : spansB rest s = true := by
    have a := SInv.rank h hI
    have b := stepW_spans rest s
    by_cases hh : spansB rest s = true
    · exact hh
    · rw [if_neg hh] at b; omega
  have hrk := stepW_spans rest first
  have hle : (byOf [] rest).length ≤ rest.length := (byOf_rk (nW n) rest h.len).2
  unfold mrankR at r0 r1 r2
  unfold mspansR at p1 p2
  rw [if_pos c0] at r0 p1 p2
  rw [if_pos c1, SInv.rank h hI] at r1
  rw [if_pos c2] at r2
  rw [if_pos hf] at p1
  rw [if_pos (SInv.wok h hI), hs1] at p2
  refine Ev.step (f := fun k => (matrix_Rank.f k rest n).bind fun t1 => (matrix_Rank.f k (rest ++ [s]) n).bind fun t2 => (matrix_Rank.f k (rest ++ [first]) n).bind fun t3 => (matrix_Spans.f k rest n first).bind fun t4 => (matrix_Spans.f k rest n s).bind fun t5 =>
    (if (t1.2.length : Int) = 0 then (if (t2.2.length : Int) = 0 then (if (t3.2.length : Int) = 0 then (if (t4.2.length : Int) = 0 then (if (t5.2.length : Int) = 0 then (if t1.1 = t2.1 then (geyserlaw03_MatrixSums.j4 k t1.1 t3.1 t4.1 (!t5.1)) else (geyserlaw03_MatrixSums.j4 k t1.1 t3.1 t4.1 true)) else (geyserlaw03_MatrixSums.j4 k t1.1 t3.1 t4.1 true)) else (geyserlaw03_MatrixSums.j4 k t1.1 t3.1 t4.1 true)) else (geyserlaw03_MatrixSums.j4 k t1.1 t3.1 t4.1 true)) else (geyserlaw03_MatrixSums.j4 k t1.1 t3.1 t4.1 true)) else (geyserlaw03_MatrixSums.j4 k t1.1 t3.1 t4.1 true))) (fun k => ?_) ?_
  · rw [geyserlaw03_MatrixSums.l0, if_neg (by omega)]
    have b1 : 0 + rest.length < 5864062014805 := by omega
    have b2 : rest.length < 5864062014805 := by omega
    simp only [Option.bind_some, List.nil_append, List.length_nil, b1, b2, if_true]
  · refine Ev.bind r0 (Ev.bind r1 (Ev.bind r2 (Ev.bind p1 (Ev.bind p2 ?_))))
    simp only [List.length_nil, if_true, Int.natCast_zero, Bool.not_true]
    rw [hrk]
    refine Ev.step (f := fun k => (geyserlaw03_awake.f k).bind fun t => some t) (fun k => ?_) (Ev.bind awake03_ev (Ev.now _))
    rw [geyserlaw03_MatrixSums.j4, if_neg (by decide)]
    by_cases hh : spansB rest first = true
    · simp only [hh, if_true]
    · have hh' : spansB rest first = false := by simpa using hh
      simp only [hh', Bool.false_eq_true, if_false]
      rw [w64s (by omega) (by omega), if_pos (by omega)]
theorem sums_l0 (n : Int) (picks : List Bool) (first : List Int) (rest : List (List Int)) (h : SRest n rest) (hf : wokB first n = true) (hfu : ∀ x ∈ first, U64 x) (d : Nat) : ∀ (i : Nat) (s : List Int), i + d = rest.length → SInv rest (nW n) s →
    Ev (fun k => geyserlaw03_MatrixSums.l0 k n picks first rest s (i : Int)) true := by
  have hfew := h.few
  have hnw : nW n ≤ 64 := by
    have h2 := h.n0; have h3 := h.n1
    unfold nW; omega
  induction d with
  | zero =>
    intro i s hi hI
    exact sums_end n picks first rest s h hI hf hfu _ (by omega)
  | succ d ih =>
    intro i s hi hI
    have hlt : i < rest.length := by omega
    have e2 : wrap64 ((i : Int) + 1) = ((i + 1 : Nat) : Int) := by rw [w64s (by omega) (by omega)]; rfl
    have hno : Ev (fun k => geyserlaw03_MatrixSums.j2 k n picks first rest s (i : Int) false) true := by
      refine Ev.step (fun k => ?_) (ih (i + 1) s (by omega) hI)
      rw [geyserlaw03_MatrixSums.j2, if_neg (by decide), e2]
    have hyes : Ev (fun k => geyserlaw03_MatrixSums.j2 k n picks first rest s (i : Int) true) true := by
      have hmem : rest[i] ∈ rest := List.getElem_mem hlt
      have hl := h.len _ hmem
      have hsl : s.length = rest[i].length := by rw [hI.len, hl.1]
      have hx := sums_l1 n picks first rest s rest[i] i hlt (by omega) rfl hsl (by rw [hI.len]; omega) true (ih (i + 1) _ (by omega) (hI.add hmem hl.1 hl.2)) s.length 0 (by omega)
      have e : cur s rest[i] 0 = s := by simp [cur]
      rw [e] at hx
      refine Ev.step (fun k => ?_) hx
      rw [geyserlaw03_MatrixSums.j2, if_pos rfl]
      rfl
    by_cases hp : (i : Int) < (picks.length : Int)
    · cases hb : rdOf false picks (i : Int)
      · refine Ev.step (fun k => ?_) hno
        rw [geyserlaw03_MatrixSums.l0, if_pos (by omega), if_pos hp, if_pos (by omega), hb]
      · refine Ev.step (fun k => ?_) hyes
        rw [geyserlaw03_MatrixSums.l0, if_pos (by omega), if_pos hp, if_pos (by omega), hb]
    · refine Ev.step (fun k => ?_) hno
      rw [geyserlaw03_MatrixSums.l0, if_pos (by omega), if_neg hp]
theorem MatrixSums (rows : List (List Int)) (n : Int) (picks : List Bool) (hr : rows.length < 9223372036854775807) (hu : ∀ r ∈ rows, ∀ x ∈ r, U64 x) : ∃ k, geyserlaw03_MatrixSums.f k rows n picks = some true := by
  refine Ev.rounds (g := fun k => geyserlaw03_MatrixSums.f k rows n picks) ?_
  unfold geyserlaw03_MatrixSums.f
  obtain ⟨b, hb, _⟩ := big_some rows n
  simp only [hb, Option.bind_some]
  have hT : Ev (fun k => geyserlaw03_MatrixSums.j0 k rows n picks true) true := by
    refine Ev.step (f := fun k => (geyserlaw03_awake.f k).bind fun t => some t) (fun k => ?_) (Ev.bind awake03_ev (Ev.now _))
    rw [geyserlaw03_MatrixSums.j0, if_pos rfl]
  cases b
  · simp only [Bool.false_eq_true, if_false]
    cases rows with
    | nil => refine Ev.congr (fun k => ?_) hT; rw [if_pos (by simp)]
    | cons first rest =>
      refine Ev.congr (fun k => by rw [if_neg (by simp; omega)]) (Ev.bind (f := fun k t => geyserlaw03_MatrixSums.j0 k (first :: rest) n picks (t != 0)) (rcheck3_ev (first :: rest) n hr hu) ?_)
      by_cases h : chk3 (first :: rest) n = 0
      · obtain ⟨h0, h1, h2, h3⟩ := chk3_zero h
        have hlen : (first :: rest).length = rest.length + 1 := rfl
        have hS : SRest n rest := ⟨h0, h1, by omega, fun r hr => ⟨h3 r (List.mem_cons_of_mem _ hr), hu r (List.mem_cons_of_mem _ hr)⟩⟩
        have hx := sums_l0 n picks first rest hS (h3 first (by simp)) (hu first (by simp)) rest.length 0 _ (by omega) (SInv.zero rest (nW n))
        have hnw : nW n ≤ 64 := by unfold nW; omega
        have hfst : rd_Lsu64 (first :: rest) 0 = first := rd_rowW [] first rest
        have hsz := rsz_ev n
        rw [szR_in h0 h1] at hsz
        rw [h]
        refine Ev.step (f := fun k => (geyserref02_Size.f k n).bind fun t254 => (if 0 ≤ t254 then (if (t254 : Int).toNat ≤ 35184372088832 then (geyserlaw03_MatrixSums.l0 k n picks first rest (List.replicate (t254 : Int).toNat 0) 0) else (none)) else (none))) (fun k => ?_) (Ev.bind hsz ?_)
        · rw [geyserlaw03_MatrixSums.j0, if_neg (by decide), if_pos (by omega), if_pos (by omega), hfst]
          rfl
        · refine Ev.congr (fun k => ?_) hx
          rw [if_pos (by omega), Int.toNat_natCast, if_pos (by omega)]
          rfl
      · rw [show (chk3 (first :: rest) n != 0) = true by simp [h]]
        exact hT
  · simp only [if_true]
    exact hT
end Go.Proofs.YtgocibnmgfmceaaDoor.Pure
