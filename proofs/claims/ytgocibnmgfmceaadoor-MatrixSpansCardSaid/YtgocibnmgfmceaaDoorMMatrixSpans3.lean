-- joined by merge.py: Px45 PureMatrixSpans
import Derived.Test.YtgocibnmgfmceaaDoorMMatrixSpans2
namespace Go.Proofs.YtgocibnmgfmceaaDoor.P
open Go.RowKit Go.Proofs.YtgocibnmgfmceaaDoorW.PrintWords Go.Proofs.YtgocibnmgfmceaaDoorW.PrintLast Go.Proofs.YtgocibnmgfmceaaDoorW.PrintErr Go.Proofs.YtgocibnmgfmceaaDoorW.PrintMore
attribute [local go_sem] max2_int min2_int max_two min_two max_three min_three max_four min_four run_eql_errOf run_neq_errOf eqGuard_errOf   -- for this text's walks alone
set_option linter.unusedVariables false
set_option linter.unusedSimpArgs false

/-! ### geyserlaw03_MatrixSpans: function 6 -/
mutual
def geyserlaw03_MatrixSpans.j0 : Nat → List (List Int) → Int → List Int → Bool → Option (Bool)
  | 0, _, _, _, _ => none
  | k + 1, x0, x1, x2, x17 => if x17 = true then ((geyserlaw03_awake.f k).bind fun t413 => (some t413)) else ((matrix_Spans.f k x0 x1 x2).bind fun bt414 => ((geyserref03_Check.f k x0 x1).bind fun t418 => (if t418 = 0 then ((geyserref03_Whole.f k x2 x1).bind fun t419 => (geyserlaw03_MatrixSpans.j1 k x0 x1 x2 bt414.1 bt414.2 t418 (!t419))) else (geyserlaw03_MatrixSpans.j1 k x0 x1 x2 bt414.1 bt414.2 t418 false))))
def geyserlaw03_MatrixSpans.j1 : Nat → List (List Int) → Int → List Int → Bool → List FE → Int → Bool → Option (Bool)
  | 0, _, _, _, _, _, _, _ => none
  | k + 1, x0, x1, x2, x7, x8, x9, x36 => if x36 = true then (geyserlaw03_MatrixSpans.j2 k x0 x1 x2 x7 x8 2) else (geyserlaw03_MatrixSpans.j2 k x0 x1 x2 x7 x8 x9)
def geyserlaw03_MatrixSpans.j2 : Nat → List (List Int) → Int → List Int → Bool → List FE → Int → Option (Bool)
  | 0, _, _, _, _, _, _ => none
  | k + 1, x0, x1, x2, x7, x8, x9 => (geyserlaw03_tells.f x8 x9 (⟨#[109, 97, 116, 114, 105, 120, 46, 83, 112, 97, 110, 115]⟩ : ByteArray)).bind fun t420 => (if t420 = true then (if x9 = 0 then ((geyserref03_Spans.f k x0 x1 x2).bind fun t421 => (if (x7 == t421) = true then ((geyserlaw03_awake.f k).bind fun t422 => (some t422)) else (some false))) else (if x7 = true then (some false) else ((geyserlaw03_awake.f k).bind fun t423 => (some t423)))) else (some false))
end
def geyserlaw03_MatrixSpans.f (k : Nat) (l0 : List (List Int)) (a1 : Int) (l2 : List Int) : Option (Bool) := (geyserlaw03_big.f l0 a1).bind fun t412 => (if t412 = true then (geyserlaw03_MatrixSpans.j0 k l0 a1 l2 true) else (geyserlaw03_MatrixSpans.j0 k l0 a1 l2 (decide ((l2.length : Int) > 100))))
theorem geyserlaw03_MatrixSpans.mono_l : ∀ k, (∀ y0 y1 y2 y3, LeO (geyserlaw03_MatrixSpans.j0 k y0 y1 y2 y3) (geyserlaw03_MatrixSpans.j0 (k + 1) y0 y1 y2 y3)) ∧ (∀ y0 y1 y2 y3 y4 y5 y6, LeO (geyserlaw03_MatrixSpans.j1 k y0 y1 y2 y3 y4 y5 y6) (geyserlaw03_MatrixSpans.j1 (k + 1) y0 y1 y2 y3 y4 y5 y6)) ∧ (∀ y0 y1 y2 y3 y4 y5, LeO (geyserlaw03_MatrixSpans.j2 k y0 y1 y2 y3 y4 y5) (geyserlaw03_MatrixSpans.j2 (k + 1) y0 y1 y2 y3 y4 y5))
  | 0 => ⟨fun _ _ _ _ r h => by simp [geyserlaw03_MatrixSpans.j0] at h, fun _ _ _ _ _ _ _ r h => by simp [geyserlaw03_MatrixSpans.j1] at h, fun _ _ _ _ _ _ r h => by simp [geyserlaw03_MatrixSpans.j2] at h⟩
  | k + 1 => by
    obtain ⟨ih0, ih1, ih2⟩ := geyserlaw03_MatrixSpans.mono_l k
    refine ⟨?_, ?_, ?_⟩
    · intro y0 y1 y2 y3
      unfold geyserlaw03_MatrixSpans.j0
      repeat' first
      | (with_reducible exact ih0 _ _ _ _)
      | (with_reducible exact ih1 _ _ _ _ _ _ _)
      | (with_reducible exact ih2 _ _ _ _ _ _)
      | (with_reducible exact geyserlaw03_awake.mono _)
      | (with_reducible exact geyserref03_Check.mono _ _ _)
      | (with_reducible exact geyserref03_Spans.mono _ _ _ _)
      | (with_reducible exact geyserref03_Whole.mono _ _ _)
      | (with_reducible exact matrix_Spans.mono _ _ _ _)
      | (with_reducible exact LeO.refl _)
      | (with_reducible exact LeO.none _)
      | (with_reducible refine LeO.ite ?_ ?_)
      | (with_reducible refine LeO.bind ?_ (fun _ => ?_))
      | exact ih0 _ _ _ _
      | exact ih1 _ _ _ _ _ _ _
      | exact ih2 _ _ _ _ _ _
      | exact geyserlaw03_awake.mono _
      | exact geyserref03_Check.mono _ _ _
      | exact geyserref03_Spans.mono _ _ _ _
      | exact geyserref03_Whole.mono _ _ _
      | exact matrix_Spans.mono _ _ _ _
      | exact LeO.none _
      | refine LeO.ite ?_ ?_
      | refine LeO.bind ?_ (fun _ => ?_)
    · intro y0 y1 y2 y3 y4 y5 y6
      unfold geyserlaw03_MatrixSpans.j1
      repeat' first
      | (with_reducible exact ih0 _ _ _ _)
      | (with_reducible exact ih1 _ _ _ _ _ _ _)
      | (with_reducible exact ih2 _ _ _ _ _ _)
      | (with_reducible exact geyserlaw03_awake.mono _)
      | (with_reducible exact geyserref03_Check.mono _ _ _)
      | (with_reducible exact geyserref03_Spans.mono _ _ _ _)
      | (with_reducible exact geyserref03_Whole.mono _ _ _)
      | (with_reducible exact matrix_Spans.mono _ _ _ _)
      | (with_reducible exact LeO.refl _)
      | (with_reducible exact LeO.none _)
      | (with_reducible refine LeO.ite ?_ ?_)
      | (with_reducible refine LeO.bind ?_ (fun _ => ?_))
      | exact ih0 _ _ _ _
      | exact ih1 _ _ _ _ _ _ _
      | exact ih2 _ _ _ _ _ _
      | exact geyserlaw03_awake.mono _
      | exact geyserref03_Check.mono _ _ _
      | exact geyserref03_Spans.mono _ _ _ _
      | exact geyserref03_Whole.mono _ _ _
      | exact matrix_Spans.mono _ _ _ _
      | exact LeO.none _
      | refine LeO.ite ?_ ?_
      | refine LeO.bind ?_ (fun _ => ?_)
    · intro y0 y1 y2 y3 y4 y5
      unfold geyserlaw03_MatrixSpans.j2
      repeat' first
      | (with_reducible exact ih0 _ _ _ _)
      | (with_reducible exact ih1 _ _ _ _ _ _ _)
      | (with_reducible exact ih2 _ _ _ _ _ _)
      | (with_reducible exact geyserlaw03_awake.mono _)
      | (with_reducible exact geyserref03_Check.mono _ _ _)
      | (with_reducible exact geyserref03_Spans.mono _ _ _ _)
      | (with_reducible exact geyserref03_Whole.mono _ _ _)
      | (with_reducible exact matrix_Spans.mono _ _ _ _)
      | (with_reducible exact LeO.refl _)
      | (with_reducible exact LeO.none _)
      | (with_reducible refine LeO.ite ?_ ?_)
      | (with_reducible refine LeO.bind ?_ (fun _ => ?_))
      | exact ih0 _ _ _ _
      | exact ih1 _ _ _ _ _ _ _
      | exact ih2 _ _ _ _ _ _
      | exact geyserlaw03_awake.mono _
      | exact geyserref03_Check.mono _ _ _
      | exact geyserref03_Spans.mono _ _ _ _
      | exact geyserref03_Whole.mono _ _ _
      | exact matrix_Spans.mono _ _ _ _
      | exact LeO.none _
      | refine LeO.ite ?_ ?_
      | refine LeO.bind ?_ (fun _ => ?_)
theorem geyserlaw03_MatrixSpans.mono : ∀ a0 a1 a2 k, LeO (geyserlaw03_MatrixSpans.f k a0 a1 a2) (geyserlaw03_MatrixSpans.f (k + 1) a0 a1 a2) := by
  intro a0 a1 a2 k
  obtain ⟨ih0, ih1, ih2⟩ := geyserlaw03_MatrixSpans.mono_l k
  unfold geyserlaw03_MatrixSpans.f
  repeat' first
      | (with_reducible exact ih0 _ _ _ _)
      | (with_reducible exact ih1 _ _ _ _ _ _ _)
      | (with_reducible exact ih2 _ _ _ _ _ _)
      | (with_reducible exact geyserlaw03_awake.mono _)
      | (with_reducible exact geyserref03_Check.mono _ _ _)
      | (with_reducible exact geyserref03_Spans.mono _ _ _ _)
      | (with_reducible exact geyserref03_Whole.mono _ _ _)
      | (with_reducible exact matrix_Spans.mono _ _ _ _)
      | (with_reducible exact LeO.refl _)
      | (with_reducible exact LeO.none _)
      | (with_reducible refine LeO.ite ?_ ?_)
      | (with_reducible refine LeO.bind ?_ (fun _ => ?_))
      | exact ih0 _ _ _ _
      | exact ih1 _ _ _ _ _ _ _
      | exact ih2 _ _ _ _ _ _
      | exact geyserlaw03_awake.mono _
      | exact geyserref03_Check.mono _ _ _
      | exact geyserref03_Spans.mono _ _ _ _
      | exact geyserref03_Whole.mono _ _ _
      | exact matrix_Spans.mono _ _ _ _
      | exact LeO.none _
      | refine LeO.ite ?_ ?_
      | refine LeO.bind ?_ (fun _ => ?_)
set_option maxHeartbeats 8000000 in
set_option maxRecDepth 100000 in
theorem geyserlaw03_MatrixSpans.calls (k : Nat) (A0 : Option Addr) (c0 : Nat) (l0 : List (List Int)) (a1 : Int) (A2 : Option Addr) (c2 : Nat) (l2 : List Int) (r : Bool) (w : World) (ht : TabIn w) (he : ErrIn w) (hr0 : Kd.C (Kd.slice 29 (Kd.int .u64)) w A0 l0.length l0) (hc0 : l0.length ≤ c0) (hr2 : Kd.C (Kd.int .u64) w A2 l2.length l2) (hc2 : l2.length ≤ c2) (h : geyserlaw03_MatrixSpans.f k l0 a1 l2 = some r) :
    Calls Tryd.prog 6 #[.slice A0 l0.length c0, .int .i64 a1, .slice A2 l2.length c2] w fun e w' => e = .returned (.bool r) ∧ Below w.heap.size w w' := by
  have HR0 := Aside0.mk hr0
  have HC0 := Aside0.mk hc0
  clear hr0 hc0
  have HR2 := Aside0.mk hr2
  have HC2 := Aside0.mk hc2
  clear hr2 hc2
  have HB := Aside0.mk (Below.refl w.heap.size w)
  have HT := Aside0.mk ht
  clear ht
  have HEI := Aside0.mk he
  clear he
  have H : ((geyserlaw03_big.f l0 a1).bind fun t412 => (if t412 = true then (geyserlaw03_MatrixSpans.j0 k l0 a1 l2 true) else (geyserlaw03_MatrixSpans.j0 k l0 a1 l2 (decide ((l2.length : Int) > 100))))) = some r := h
  clear h
  have HC4 := Aside0.mk H
  clear H
  go_enter Tryd.func6, Tryd.ntmps6
  go_upto_region 1 with (fail)
  go_cut [17] (fun v17 wc => ∃ (kq : Nat) (x17_3 : Bool), v17 = .bool x17_3 ∧ Aside0 (geyserlaw03_MatrixSpans.j0 kq l0 a1 l2 x17_3 = some r) ∧ Aside0 (kq ≤ k) ∧ Aside0 (Below w.heap.size w wc))
  case first =>
    have H := HC4.out
    clear HC4
    replace H := Option.bind_eq_some_iff.mp H
    obtain ⟨t412, A50, H⟩ := H
    replace H : (if t412 = true then (geyserlaw03_MatrixSpans.j0 k l0 a1 l2 true) else (geyserlaw03_MatrixSpans.j0 k l0 a1 l2 (decide ((l2.length : Int) > 100)))) = some r := H
    have A5 := Aside0.mk A50
    clear A50
    by_cases c6 : t412 = true
    · subst c6
      have H1 : (geyserlaw03_MatrixSpans.j0 k l0 a1 l2 true) = some r := by rw [if_pos rfl] at H; exact H
      clear H
      have H := H1
      clear H1
      have H' := Aside0.mk H
      clear H
      go_wp2_with (first | ((with_reducible refine gate_callee (f := 10) rfl ?_); refine goesL_ (some 12) rfl rfl Tryd.func10 (by kernel_rfl) rfl #[.slice A0 l0.length c0, .int .i64 a1] rfl (by (try simp only [List.map_toArray, List.map_cons, List.map_nil]); first | done | rfl | (simp only [List.length_drop, List.length_take]; rfl)) ?_; (with_reducible refine (geyserlaw03_big.calls _ _ l0 a1 true _ ?side1 ?side2 A5.out).mono ?_); (case side1 => repeat (first | exact (Kd.C_below HR0.out HB.out) | (with_reducible refine Kd.C_alloc ?_ _) | (with_reducible refine Kd.C_drewN ?_ _) | (with_reducible refine Kd.C_drew ?_))); (case side2 => exact HC0.out); rintro e w' ⟨rfl, ⟨nd, rfl⟩⟩; refine ⟨_, rfl, ?_⟩))
      go_meet
      case rel => exact ⟨_, (true), (by first | rfl | (simp; done) | (simp [*]; done)), H', ⟨by first | omega | exact Nat.le_refl _⟩, ⟨by repeat (first | (with_reducible first | exact HB.out | apply below_alloc | apply pw_below_drewN | apply below_drew1) | exact HB.out)⟩⟩
    · replace c6 := Bool.eq_false_iff.mpr c6
      subst c6
      have H1 : (geyserlaw03_MatrixSpans.j0 k l0 a1 l2 (decide ((l2.length : Int) > 100))) = some r := by rw [if_neg (show ¬ (false = true) by decide)] at H; exact H
      clear H
      have H := H1
      clear H1
      have H' := Aside0.mk H
      clear H
      go_wp2_with (first | ((with_reducible refine gate_callee (f := 10) rfl ?_); refine goesL_ (some 12) rfl rfl Tryd.func10 (by kernel_rfl) rfl #[.slice A0 l0.length c0, .int .i64 a1] rfl (by (try simp only [List.map_toArray, List.map_cons, List.map_nil]); first | done | rfl | (simp only [List.length_drop, List.length_take]; rfl)) ?_; (with_reducible refine (geyserlaw03_big.calls _ _ l0 a1 false _ ?side1 ?side2 A5.out).mono ?_); (case side1 => repeat (first | exact (Kd.C_below HR0.out HB.out) | (with_reducible refine Kd.C_alloc ?_ _) | (with_reducible refine Kd.C_drewN ?_ _) | (with_reducible refine Kd.C_drew ?_))); (case side2 => exact HC0.out); rintro e w' ⟨rfl, ⟨nd, rfl⟩⟩; refine ⟨_, rfl, ?_⟩))
      go_meet
      case rel => exact ⟨_, (decide ((l2.length : Int) > 100)), (by first | rfl | (simp; done) | (simp [*]; done)), H', ⟨by first | omega | exact Nat.le_refl _⟩, ⟨by repeat (first | (with_reducible first | exact HB.out | apply below_alloc | apply pw_below_drewN | apply below_drew1) | exact HB.out)⟩⟩
  case rest =>
    clear HC4
    try clear c1
    try clear c2
    try clear p2
    try clear c6
    obtain ⟨kq, x17_3, rfl, HA, HJ3, HB⟩ := hcut
    cases kq with
    | zero => exact absurd HA.out (by simp [geyserlaw03_MatrixSpans.j0])
    | succ kj3 =>
      have H := HA.out
      clear HA
      simp only [geyserlaw03_MatrixSpans.j0] at H
      by_cases c7 : x17_3 = true
      · subst c7
        have H1 : ((geyserlaw03_awake.f kj3).bind fun t413 => (some t413)) = some r := by rw [if_pos rfl] at H; exact H
        clear H
        have H := H1
        clear H1
        replace H := Option.bind_eq_some_iff.mp H
        obtain ⟨t413, A80, H⟩ := H
        replace H : (some t413) = some r := H
        have A8 := Aside0.mk A80
        clear A80
        obtain rfl := Option.some.inj H
        go_wp2_with (first | ((with_reducible refine gate_callee (f := 12) rfl ?_); refine goesL_ (some 18) rfl rfl Tryd.func12 (by kernel_rfl) rfl #[] rfl (by (try simp only [List.map_toArray, List.map_cons, List.map_nil]); first | done | rfl | (simp only [List.length_drop, List.length_take]; rfl)) ?_; (with_reducible refine (geyserlaw03_awake.calls kj3  t413 _ ?side1 A8.out).mono ?_); (case side1 => first | exact HT.out | exact TabIn.below HT.out (by repeat (first | (with_reducible first | exact HB.out | apply below_alloc | apply pw_below_drewN | apply below_drew1) | exact HB.out)) | (repeat (first | apply TabIn.drewN | apply TabIn.drew | exact HT.out))); rintro e w9 ⟨rfl, hb⟩; refine ⟨_, rfl, ?_⟩; have n0_ := Aside0.mk (below_step (by repeat (first | (with_reducible first | exact HB.out | apply below_alloc | apply pw_below_drewN | apply below_drew1) | exact HB.out)) hb); clear HB; have HB := n0_; clear n0_; (try clear hb); (try clear hb2); (try clear hk); (try clear hi)))
        go_ret
        exact ⟨by first | rfl | (simp [errW_none, errW_some] <;> rfl) | (simp [*, errW_none, errW_some] <;> rfl), by repeat (first | (with_reducible first | exact HB.out | apply below_alloc | apply pw_below_drewN | apply below_drew1) | exact HB.out)⟩
      · replace c7 := Bool.eq_false_iff.mpr c7
        subst c7
        have H1 : ((matrix_Spans.f kj3 l0 a1 l2).bind fun bt414 => ((geyserref03_Check.f kj3 l0 a1).bind fun t418 => (if t418 = 0 then ((geyserref03_Whole.f kj3 l2 a1).bind fun t419 => (geyserlaw03_MatrixSpans.j1 kj3 l0 a1 l2 bt414.1 bt414.2 t418 (!t419))) else (geyserlaw03_MatrixSpans.j1 kj3 l0 a1 l2 bt414.1 bt414.2 t418 false)))) = some r := by rw [if_neg (show ¬ (false = true) by decide)] at H; exact H
        clear H
        have H := H1
        clear H1
        replace H := Option.bind_eq_some_iff.mp H
        obtain ⟨⟨t414, t415⟩, A100, H⟩ := H
        replace H : ((geyserref03_Check.f kj3 l0 a1).bind fun t418 => (if t418 = 0 then ((geyserref03_Whole.f kj3 l2 a1).bind fun t419 => (geyserlaw03_MatrixSpans.j1 kj3 l0 a1 l2 t414 t415 t418 (!t419))) else (geyserlaw03_MatrixSpans.j1 kj3 l0 a1 l2 t414 t415 t418 false))) = some r := H
        have A10 := Aside0.mk A100
        clear A100
        replace H := Option.bind_eq_some_iff.mp H
        obtain ⟨t418, A110, H⟩ := H
        replace H : (if t418 = 0 then ((geyserref03_Whole.f kj3 l2 a1).bind fun t419 => (geyserlaw03_MatrixSpans.j1 kj3 l0 a1 l2 t414 t415 t418 (!t419))) else (geyserlaw03_MatrixSpans.j1 kj3 l0 a1 l2 t414 t415 t418 false)) = some r := H
        have A11 := Aside0.mk A110
        clear A110
        have HC12 := Aside0.mk H
        clear H
        go_upto_region 5 with (first | ((with_reducible refine gate_callee (f := 15) rfl ?_); refine goesL_ (some 23) rfl rfl Tryd.func15 (by kernel_rfl) rfl #[.slice A0 l0.length c0, .int .i64 a1, .slice A2 l2.length c2] rfl (by (try simp only [List.map_toArray, List.map_cons, List.map_nil]); first | done | rfl | (simp only [List.length_drop, List.length_take]; rfl)) ?_; (with_reducible refine (matrix_Spans.calls kj3 _ _ l0 a1 _ _ l2 t414 t415 _ ?side1 ?side2 ?side3 ?side4 ?side5 A10.out).mono ?_); (case side1 => first | exact HT.out | exact TabIn.below HT.out (by repeat (first | (with_reducible first | exact HB.out | apply below_alloc | apply pw_below_drewN | apply below_drew1) | exact HB.out)) | (repeat (first | apply TabIn.drewN | apply TabIn.drew | exact HT.out))); (case side2 => repeat (first | exact (Kd.C_below HR0.out HB.out) | (with_reducible refine Kd.C_alloc ?_ _) | (with_reducible refine Kd.C_drewN ?_ _) | (with_reducible refine Kd.C_drew ?_))); (case side3 => exact HC0.out); (case side4 => repeat (first | exact (Kd.C_below HR2.out HB.out) | (with_reducible refine Kd.C_alloc ?_ _) | (with_reducible refine Kd.C_drewN ?_ _) | (with_reducible refine Kd.C_drew ?_))); (case side5 => exact HC2.out); rintro e w13 ⟨v416, rfl, ho0, hb⟩; refine ⟨_, rfl, ?_⟩; have n0_ := Aside0.mk (Kd.R_lower ho0 (below_size (by repeat (first | (with_reducible first | exact HB.out | apply below_alloc | apply pw_below_drewN | apply below_drew1) | exact HB.out)))); have n1_ := Aside0.mk (below_step (by repeat (first | (with_reducible first | exact HB.out | apply below_alloc | apply pw_below_drewN | apply below_drew1) | exact HB.out)) hb); clear HB; have HO417 := n0_; have HB := n1_; clear n0_ n1_; (try clear hb); (try clear hb2); (try clear hk); (try clear hi); (try clear ho0)) | ((with_reducible refine gate_callee (f := 11) rfl ?_); refine goesL_ (some 28) rfl rfl Tryd.func11 (by kernel_rfl) rfl #[.slice A0 l0.length c0, .int .i64 a1] rfl (by (try simp only [List.map_toArray, List.map_cons, List.map_nil]); first | done | rfl | (simp only [List.length_drop, List.length_take]; rfl)) ?_; (with_reducible refine (geyserref03_Check.calls kj3 _ _ l0 a1 t418 _ ?side1 ?side2 A11.out).mono ?_); (case side1 => repeat (first | exact (Kd.C_below HR0.out HB.out) | (with_reducible refine Kd.C_alloc ?_ _) | (with_reducible refine Kd.C_drewN ?_ _) | (with_reducible refine Kd.C_drew ?_))); (case side2 => exact HC0.out); rintro e w' ⟨rfl, ⟨nd, rfl⟩⟩; refine ⟨_, rfl, ?_⟩))
        (try simp only [Act.put, List.setIfInBounds_toArray, List.set_cons_zero, List.set_cons_succ])
        go_cut [36] (fun v36 wc => ∃ (kq : Nat) (x36_11 : Bool), v36 = .bool x36_11 ∧ Aside0 (geyserlaw03_MatrixSpans.j1 kq l0 a1 l2 t414 t415 t418 x36_11 = some r) ∧ Aside0 (kq ≤ kj3) ∧ Aside0 (Kd.R kF 64 wc w.heap.size (fun _ => True) v416 t415) ∧ Aside0 (Below w.heap.size w wc))
        case first =>
          have H := HC12.out
          clear HC12
          by_cases c14 : t418 = 0
          · rw [if_pos c14] at H
            have c14b0 : (t418 == 0) = true := beq_iff_eq.mpr c14
            have c14b1 : (t418 != 0) = false := bne_eq_false_iff_eq.mpr c14
            clear c14
            (first | rw [c14b0] | rw [c14b1] | (simp only [i64_w, i32_w]; rw [c14b0]) | skip)
            replace H := Option.bind_eq_some_iff.mp H
            obtain ⟨t419, A150, H⟩ := H
            replace H : (geyserlaw03_MatrixSpans.j1 kj3 l0 a1 l2 t414 t415 t418 (!t419)) = some r := H
            have A15 := Aside0.mk A150
            clear A150
            have H' := Aside0.mk H
            clear H
            go_wp2_with (first | (go_at_call 22; (with_reducible refine (geyserref03_Whole.calls kj3 _ _ l2 a1 t419 _ ?side1 ?side2 A15.out).mono ?_); (case side1 => repeat (first | exact (Kd.C_below HR2.out HB.out) | (with_reducible refine Kd.C_alloc ?_ _) | (with_reducible refine Kd.C_drewN ?_ _) | (with_reducible refine Kd.C_drew ?_))); (case side2 => exact HC2.out); rintro e w' ⟨rfl, ⟨nd, rfl⟩⟩))
            go_meet
            case rel => exact ⟨_, (!t419), (by first | rfl | (simp; done) | (simp [*]; done)), H', ⟨by have := HJ3.out; first | omega | exact Nat.le_refl _⟩, ⟨by (with_reducible repeat (first | apply Kd.R_alloc | apply Kd.R_drewN | apply Kd.R_drew)); exact HO417.out⟩, ⟨by repeat (first | (with_reducible first | exact HB.out | apply below_alloc | apply pw_below_drewN | apply below_drew1) | exact HB.out)⟩⟩
          · rw [if_neg c14] at H
            have c14b0 : (t418 == 0) = false := beq_eq_false_iff_ne.mpr c14
            have c14b1 : (t418 != 0) = true := bne_iff_ne.mpr c14
            (first | rw [c14b0] | rw [c14b1] | (simp only [i64_w, i32_w]; rw [c14b0]) | skip)
            have H' := Aside0.mk H
            clear H
            go_wp2
            go_meet
            case rel => exact ⟨_, (false), (by first | rfl | (simp; done) | (simp [*]; done)), H', ⟨by have := HJ3.out; first | omega | exact Nat.le_refl _⟩, ⟨by (with_reducible repeat (first | apply Kd.R_alloc | apply Kd.R_drewN | apply Kd.R_drew)); exact HO417.out⟩, ⟨by repeat (first | (with_reducible first | exact HB.out | apply below_alloc | apply pw_below_drewN | apply below_drew1) | exact HB.out)⟩⟩
        case rest =>
          clear HC12
          try clear c1
          try clear c2
          try clear p2
          try clear c6
          try clear c7
          try clear c10
          try clear c11
          try clear c12
          try clear c14
          try clear c14b0
          try clear c14b1
          try clear c15
          try clear p2
          obtain ⟨kq, x36_11, rfl, HA, HJ11, HO_8, HB⟩ := hcut
          cases kq with
          | zero => exact absurd HA.out (by simp [geyserlaw03_MatrixSpans.j1])
          | succ kj11 =>
            have H := HA.out
            clear HA
            simp only [geyserlaw03_MatrixSpans.j1] at H
            have HC16 := Aside0.mk H
            clear H
            go_upto_if 36 with (fail)
            go_cut [9] (fun v9 wc => ∃ (kq : Nat) (x9_15 : Int), v9 = .int .i64 x9_15 ∧ Aside0 (geyserlaw03_MatrixSpans.j2 kq l0 a1 l2 t414 t415 x9_15 = some r) ∧ Aside0 (kq ≤ kj11) ∧ Aside0 (Kd.R kF 64 wc w.heap.size (fun _ => True) v416 t415) ∧ Aside0 (Below w.heap.size w wc))
            case first =>
              have H := HC16.out
              clear HC16
              by_cases c17 : x36_11 = true
              · subst c17
                have H1 : (geyserlaw03_MatrixSpans.j2 kj11 l0 a1 l2 t414 t415 2) = some r := by rw [if_pos rfl] at H; exact H
                clear H
                have H := H1
                clear H1
                have H' := Aside0.mk H
                clear H
                go_wp2
                go_meet
                case rel => exact ⟨_, (2), (by first | rfl | (simp; done) | (simp [*]; done)), H', ⟨by have := HJ3.out; have := HJ11.out; first | omega | exact Nat.le_refl _⟩, ⟨by (with_reducible repeat (first | apply Kd.R_alloc | apply Kd.R_drewN | apply Kd.R_drew)); exact HO_8.out⟩, ⟨by repeat (first | (with_reducible first | exact HB.out | apply below_alloc | apply pw_below_drewN | apply below_drew1) | exact HB.out)⟩⟩
              · replace c17 := Bool.eq_false_iff.mpr c17
                subst c17
                have H1 : (geyserlaw03_MatrixSpans.j2 kj11 l0 a1 l2 t414 t415 t418) = some r := by rw [if_neg (show ¬ (false = true) by decide)] at H; exact H
                clear H
                have H := H1
                clear H1
                have H' := Aside0.mk H
                clear H
                go_wp2
                go_meet
                case rel => exact ⟨_, (t418), (by first | rfl | (simp; done) | (simp [*]; done)), H', ⟨by have := HJ3.out; have := HJ11.out; first | omega | exact Nat.le_refl _⟩, ⟨by (with_reducible repeat (first | apply Kd.R_alloc | apply Kd.R_drewN | apply Kd.R_drew)); exact HO_8.out⟩, ⟨by repeat (first | (with_reducible first | exact HB.out | apply below_alloc | apply pw_below_drewN | apply below_drew1) | exact HB.out)⟩⟩
            case rest =>
              clear HC16
              try clear c1
              try clear c2
              try clear p2
              try clear c6
              try clear c7
              try clear c10
              try clear c11
              try clear c12
              try clear c14
              try clear c14b0
              try clear c14b1
              try clear c15
              try clear c17
              try clear p2
              obtain ⟨kq, x9_15, rfl, HA, HJ15, HO_8, HB⟩ := hcut
              cases kq with
              | zero => exact absurd HA.out (by simp [geyserlaw03_MatrixSpans.j2])
              | succ kj15 =>
                have H := HA.out
                clear HA
                simp only [geyserlaw03_MatrixSpans.j2] at H
                replace H := Option.bind_eq_some_iff.mp H
                obtain ⟨t420, A180, H⟩ := H
                replace H : (if t420 = true then (if x9_15 = 0 then ((geyserref03_Spans.f kj15 l0 a1 l2).bind fun t421 => (if (t414 == t421) = true then ((geyserlaw03_awake.f kj15).bind fun t422 => (some t422)) else (some false))) else (if t414 = true then (some false) else ((geyserlaw03_awake.f kj15).bind fun t423 => (some t423)))) else (some false)) = some r := H
                have A18 := Aside0.mk A180
                clear A180
                by_cases c19 : t420 = true
                · subst c19
                  have H1 : (if x9_15 = 0 then ((geyserref03_Spans.f kj15 l0 a1 l2).bind fun t421 => (if (t414 == t421) = true then ((geyserlaw03_awake.f kj15).bind fun t422 => (some t422)) else (some false))) else (if t414 = true then (some false) else ((geyserlaw03_awake.f kj15).bind fun t423 => (some t423)))) = some r := by rw [if_pos rfl] at H; exact H
                  clear H
                  have H := H1
                  clear H1
                  by_cases c20 : x9_15 = 0
                  · rw [if_pos c20] at H
                    have c20b0 : (x9_15 == 0) = true := beq_iff_eq.mpr c20
                    have c20b1 : (x9_15 != 0) = false := bne_eq_false_iff_eq.mpr c20
                    clear c20
                    replace H := Option.bind_eq_some_iff.mp H
                    obtain ⟨t421, A210, H⟩ := H
                    replace H : (if (t414 == t421) = true then ((geyserlaw03_awake.f kj15).bind fun t422 => (some t422)) else (some false)) = some r := H
                    have A21 := Aside0.mk A210
                    clear A210
                    by_cases c22 : (t414 == t421) = true
                    · rw [if_pos c22] at H
                      have c22b0 : (t414 == t421) = true := c22
                      (try (have c22b1 : decide (t414 = t421) = true := by simpa using c22))
                      (try (have c22b2 : (t414 == t421) = true := by simpa using c22))
                      clear c22
                      replace H := Option.bind_eq_some_iff.mp H
                      obtain ⟨t422, A230, H⟩ := H
                      replace H : (some t422) = some r := H
                      have A23 := Aside0.mk A230
                      clear A230
                      obtain rfl := Option.some.inj H
                      obtain ⟨Ao24, co24, eo24⟩ := Kd.R_slice HO_8.out
                      subst eo24
                      go_wp2_with (first | ((with_reducible refine gate_callee (f := 16) rfl ?_); refine goesL_ (some 39) rfl rfl Tryd.func16 (by kernel_rfl) rfl #[errOf (.slice Ao24 t415.length co24), .int .i64 x9_15, .string (⟨#[109, 97, 116, 114, 105, 120, 46, 83, 112, 97, 110, 115]⟩ : ByteArray)] rfl (by (try simp only [List.map_toArray, List.map_cons, List.map_nil]); first | done | rfl | (simp only [List.length_drop, List.length_take]; rfl)) ?_; (with_reducible refine (geyserlaw03_tells.calls _ _ t415 x9_15 (⟨#[109, 97, 116, 114, 105, 120, 46, 83, 112, 97, 110, 115]⟩ : ByteArray) true _ ?side1 ?side2 ?side3 A18.out).mono ?_); (case side1 => first | exact HEI.out | exact ErrIn.below HEI.out (by repeat (first | (with_reducible first | exact HB.out | apply below_alloc | apply pw_below_drewN | apply below_drew1) | exact HB.out)) | (repeat (first | apply ErrIn.drewN | apply ErrIn.drew | exact HEI.out))); (case side2 => repeat (first | exact (Kd.R_reads' HO_8.out).2.2 | (with_reducible refine Kd.C_alloc ?_ _) | (with_reducible refine Kd.C_drewN ?_ _) | (with_reducible refine Kd.C_drew ?_))); (case side3 => exact (Kd.R_reads' HO_8.out).2.1); rintro e w25 ⟨rfl, hb⟩; refine ⟨_, rfl, ?_⟩; have n0_ := Aside0.mk (Kd.R_below (by (with_reducible repeat (first | apply Kd.R_alloc | apply Kd.R_drewN | apply Kd.R_drew)); exact HO_8.out) hb); have n1_ := Aside0.mk (below_step (by repeat (first | (with_reducible first | exact HB.out | apply below_alloc | apply pw_below_drewN | apply below_drew1) | exact HB.out)) hb); clear HO_8; clear HB; have HO_8 := n0_; have HB := n1_; clear n0_ n1_; (try clear hb); (try clear hb2); (try clear hk); (try clear hi)) | ((with_reducible refine gate_callee (f := 23) rfl ?_); refine goesL_ (some 52) rfl rfl Tryd.func23 (by kernel_rfl) rfl #[.slice A0 l0.length c0, .int .i64 a1, .slice A2 l2.length c2] rfl (by (try simp only [List.map_toArray, List.map_cons, List.map_nil]); first | done | rfl | (simp only [List.length_drop, List.length_take]; rfl)) ?_; (with_reducible refine (geyserref03_Spans.calls kj15 (fun k_ => k_ < w.heap.size) _ _ l0 a1 (fun k_ => k_ < w.heap.size) _ _ l2 t421 _ ?side1 ?side2 A21.out).mono ?_); (case side1 => exact Kd.V_mk HC0.out (Kd.F_below (Kd.C_F (Kd.heap_slice 29 (Kd.heap_int .u64)) HR0.out) (by repeat (first | (with_reducible first | exact HB.out | apply below_alloc | apply pw_below_drewN | apply below_drew1) | exact HB.out)))); (case side2 => exact Kd.V_mk HC2.out (Kd.F_below (Kd.C_F (Kd.heap_int .u64) HR2.out) (by repeat (first | (with_reducible first | exact HB.out | apply below_alloc | apply pw_below_drewN | apply below_drew1) | exact HB.out)))); rintro e w26 ⟨rfl, hb⟩; refine ⟨_, rfl, ?_⟩; have n0_ := Aside0.mk (Kd.R_below (by (with_reducible repeat (first | apply Kd.R_alloc | apply Kd.R_drewN | apply Kd.R_drew)); exact HO_8.out) hb); have n1_ := Aside0.mk (below_step (by repeat (first | (with_reducible first | exact HB.out | apply below_alloc | apply pw_below_drewN | apply below_drew1) | exact HB.out)) hb); clear HO_8; clear HB; have HO_8 := n0_; have HB := n1_; clear n0_ n1_; (try clear hb); (try clear hb2); (try clear hk); (try clear hi)) | (go_at_call 12; (with_reducible refine (geyserlaw03_awake.calls kj15  t422 _ ?side1 A23.out).mono ?_); (case side1 => first | exact HT.out | exact TabIn.below HT.out (by repeat (first | (with_reducible first | exact HB.out | apply below_alloc | apply pw_below_drewN | apply below_drew1) | exact HB.out)) | (repeat (first | apply TabIn.drewN | apply TabIn.drew | exact HT.out))); rintro e w27 ⟨rfl, hb⟩; have n0_ := Aside0.mk (Kd.R_below (by (with_reducible repeat (first | apply Kd.R_alloc | apply Kd.R_drewN | apply Kd.R_drew)); exact HO_8.out) hb); have n1_ := Aside0.mk (below_step (by repeat (first | (with_reducible first | exact HB.out | apply below_alloc | apply pw_below_drewN | apply below_drew1) | exact HB.out)) hb); clear HO_8; clear HB; have HO_8 := n0_; have HB := n1_; clear n0_ n1_; (try clear hb); (try clear hb2); (try clear hk); (try clear hi)))
                      go_ret
                      exact ⟨by first | rfl | (simp [errW_none, errW_some] <;> rfl) | (simp [*, errW_none, errW_some] <;> rfl), by repeat (first | (with_reducible first | exact HB.out | apply below_alloc | apply pw_below_drewN | apply below_drew1) | exact HB.out)⟩
                    · rw [if_neg c22] at H
                      have c22b0 : (t414 == t421) = false := by simpa using c22
                      (try (have c22b1 : decide (t414 = t421) = false := by simpa using c22))
                      (try (have c22b2 : (t414 == t421) = false := by simpa using c22))
                      (try (have c22b3 : ¬ (t414 = t421) := by simpa using c22))
                      clear c22
                      obtain rfl := Option.some.inj H
                      obtain ⟨Ao28, co28, eo28⟩ := Kd.R_slice HO_8.out
                      subst eo28
                      go_wp2_with (first | ((with_reducible refine gate_callee (f := 16) rfl ?_); refine goesL_ (some 39) rfl rfl Tryd.func16 (by kernel_rfl) rfl #[errOf (.slice Ao28 t415.length co28), .int .i64 x9_15, .string (⟨#[109, 97, 116, 114, 105, 120, 46, 83, 112, 97, 110, 115]⟩ : ByteArray)] rfl (by (try simp only [List.map_toArray, List.map_cons, List.map_nil]); first | done | rfl | (simp only [List.length_drop, List.length_take]; rfl)) ?_; (with_reducible refine (geyserlaw03_tells.calls _ _ t415 x9_15 (⟨#[109, 97, 116, 114, 105, 120, 46, 83, 112, 97, 110, 115]⟩ : ByteArray) true _ ?side1 ?side2 ?side3 A18.out).mono ?_); (case side1 => first | exact HEI.out | exact ErrIn.below HEI.out (by repeat (first | (with_reducible first | exact HB.out | apply below_alloc | apply pw_below_drewN | apply below_drew1) | exact HB.out)) | (repeat (first | apply ErrIn.drewN | apply ErrIn.drew | exact HEI.out))); (case side2 => repeat (first | exact (Kd.R_reads' HO_8.out).2.2 | (with_reducible refine Kd.C_alloc ?_ _) | (with_reducible refine Kd.C_drewN ?_ _) | (with_reducible refine Kd.C_drew ?_))); (case side3 => exact (Kd.R_reads' HO_8.out).2.1); rintro e w29 ⟨rfl, hb⟩; refine ⟨_, rfl, ?_⟩; have n0_ := Aside0.mk (Kd.R_below (by (with_reducible repeat (first | apply Kd.R_alloc | apply Kd.R_drewN | apply Kd.R_drew)); exact HO_8.out) hb); have n1_ := Aside0.mk (below_step (by repeat (first | (with_reducible first | exact HB.out | apply below_alloc | apply pw_below_drewN | apply below_drew1) | exact HB.out)) hb); clear HO_8; clear HB; have HO_8 := n0_; have HB := n1_; clear n0_ n1_; (try clear hb); (try clear hb2); (try clear hk); (try clear hi)) | ((with_reducible refine gate_callee (f := 23) rfl ?_); refine goesL_ (some 52) rfl rfl Tryd.func23 (by kernel_rfl) rfl #[.slice A0 l0.length c0, .int .i64 a1, .slice A2 l2.length c2] rfl (by (try simp only [List.map_toArray, List.map_cons, List.map_nil]); first | done | rfl | (simp only [List.length_drop, List.length_take]; rfl)) ?_; (with_reducible refine (geyserref03_Spans.calls kj15 (fun k_ => k_ < w.heap.size) _ _ l0 a1 (fun k_ => k_ < w.heap.size) _ _ l2 t421 _ ?side1 ?side2 A21.out).mono ?_); (case side1 => exact Kd.V_mk HC0.out (Kd.F_below (Kd.C_F (Kd.heap_slice 29 (Kd.heap_int .u64)) HR0.out) (by repeat (first | (with_reducible first | exact HB.out | apply below_alloc | apply pw_below_drewN | apply below_drew1) | exact HB.out)))); (case side2 => exact Kd.V_mk HC2.out (Kd.F_below (Kd.C_F (Kd.heap_int .u64) HR2.out) (by repeat (first | (with_reducible first | exact HB.out | apply below_alloc | apply pw_below_drewN | apply below_drew1) | exact HB.out)))); rintro e w30 ⟨rfl, hb⟩; refine ⟨_, rfl, ?_⟩; have n0_ := Aside0.mk (Kd.R_below (by (with_reducible repeat (first | apply Kd.R_alloc | apply Kd.R_drewN | apply Kd.R_drew)); exact HO_8.out) hb); have n1_ := Aside0.mk (below_step (by repeat (first | (with_reducible first | exact HB.out | apply below_alloc | apply pw_below_drewN | apply below_drew1) | exact HB.out)) hb); clear HO_8; clear HB; have HO_8 := n0_; have HB := n1_; clear n0_ n1_; (try clear hb); (try clear hb2); (try clear hk); (try clear hi)))
                      go_ret
                      exact ⟨by first | rfl | (simp [errW_none, errW_some] <;> rfl) | (simp [*, errW_none, errW_some] <;> rfl), by repeat (first | (with_reducible first | exact HB.out | apply below_alloc | apply pw_below_drewN | apply below_drew1) | exact HB.out)⟩
                  · rw [if_neg c20] at H
                    have c20b0 : (x9_15 == 0) = false := beq_eq_false_iff_ne.mpr c20
                    have c20b1 : (x9_15 != 0) = true := bne_iff_ne.mpr c20
                    by_cases c31 : t414 = true
                    · subst c31
                      have H1 : (some false) = some r := by rw [if_pos rfl] at H; exact H
                      clear H
                      have H := H1
                      clear H1
                      obtain rfl := Option.some.inj H
                      obtain ⟨Ao32, co32, eo32⟩ := Kd.R_slice HO_8.out
                      subst eo32
                      go_wp2_with (first | ((with_reducible refine gate_callee (f := 16) rfl ?_); refine goesL_ (some 39) rfl rfl Tryd.func16 (by kernel_rfl) rfl #[errOf (.slice Ao32 t415.length co32), .int .i64 x9_15, .string (⟨#[109, 97, 116, 114, 105, 120, 46, 83, 112, 97, 110, 115]⟩ : ByteArray)] rfl (by (try simp only [List.map_toArray, List.map_cons, List.map_nil]); first | done | rfl | (simp only [List.length_drop, List.length_take]; rfl)) ?_; (with_reducible refine (geyserlaw03_tells.calls _ _ t415 x9_15 (⟨#[109, 97, 116, 114, 105, 120, 46, 83, 112, 97, 110, 115]⟩ : ByteArray) true _ ?side1 ?side2 ?side3 A18.out).mono ?_); (case side1 => first | exact HEI.out | exact ErrIn.below HEI.out (by repeat (first | (with_reducible first | exact HB.out | apply below_alloc | apply pw_below_drewN | apply below_drew1) | exact HB.out)) | (repeat (first | apply ErrIn.drewN | apply ErrIn.drew | exact HEI.out))); (case side2 => repeat (first | exact (Kd.R_reads' HO_8.out).2.2 | (with_reducible refine Kd.C_alloc ?_ _) | (with_reducible refine Kd.C_drewN ?_ _) | (with_reducible refine Kd.C_drew ?_))); (case side3 => exact (Kd.R_reads' HO_8.out).2.1); rintro e w33 ⟨rfl, hb⟩; refine ⟨_, rfl, ?_⟩; have n0_ := Aside0.mk (Kd.R_below (by (with_reducible repeat (first | apply Kd.R_alloc | apply Kd.R_drewN | apply Kd.R_drew)); exact HO_8.out) hb); have n1_ := Aside0.mk (below_step (by repeat (first | (with_reducible first | exact HB.out | apply below_alloc | apply pw_below_drewN | apply below_drew1) | exact HB.out)) hb); clear HO_8; clear HB; have HO_8 := n0_; have HB := n1_; clear n0_ n1_; (try clear hb); (try clear hb2); (try clear hk); (try clear hi)))
                      go_ret
                      exact ⟨by first | rfl | (simp [errW_none, errW_some] <;> rfl) | (simp [*, errW_none, errW_some] <;> rfl), by repeat (first | (with_reducible first | exact HB.out | apply below_alloc | apply pw_below_drewN | apply below_drew1) | exact HB.out)⟩
                    · replace c31 := Bool.eq_false_iff.mpr c31
                      subst c31
                      have H1 : ((geyserlaw03_awake.f kj15).bind fun t423 => (some t423)) = some r := by rw [if_neg (show ¬ (false = true) by decide)] at H; exact H
                      clear H
                      have H := H1
                      clear H1
                      replace H := Option.bind_eq_some_iff.mp H
                      obtain ⟨t423, A340, H⟩ := H
                      replace H : (some t423) = some r := H
                      have A34 := Aside0.mk A340
                      clear A340
                      obtain rfl := Option.some.inj H
                      obtain ⟨Ao35, co35, eo35⟩ := Kd.R_slice HO_8.out
                      subst eo35
                      go_wp2_with (first | ((with_reducible refine gate_callee (f := 16) rfl ?_); refine goesL_ (some 39) rfl rfl Tryd.func16 (by kernel_rfl) rfl #[errOf (.slice Ao35 t415.length co35), .int .i64 x9_15, .string (⟨#[109, 97, 116, 114, 105, 120, 46, 83, 112, 97, 110, 115]⟩ : ByteArray)] rfl (by (try simp only [List.map_toArray, List.map_cons, List.map_nil]); first | done | rfl | (simp only [List.length_drop, List.length_take]; rfl)) ?_; (with_reducible refine (geyserlaw03_tells.calls _ _ t415 x9_15 (⟨#[109, 97, 116, 114, 105, 120, 46, 83, 112, 97, 110, 115]⟩ : ByteArray) true _ ?side1 ?side2 ?side3 A18.out).mono ?_); (case side1 => first | exact HEI.out | exact ErrIn.below HEI.out (by repeat (first | (with_reducible first | exact HB.out | apply below_alloc | apply pw_below_drewN | apply below_drew1) | exact HB.out)) | (repeat (first | apply ErrIn.drewN | apply ErrIn.drew | exact HEI.out))); (case side2 => repeat (first | exact (Kd.R_reads' HO_8.out).2.2 | (with_reducible refine Kd.C_alloc ?_ _) | (with_reducible refine Kd.C_drewN ?_ _) | (with_reducible refine Kd.C_drew ?_))); (case side3 => exact (Kd.R_reads' HO_8.out).2.1); rintro e w36 ⟨rfl, hb⟩; refine ⟨_, rfl, ?_⟩; have n0_ := Aside0.mk (Kd.R_below (by (with_reducible repeat (first | apply Kd.R_alloc | apply Kd.R_drewN | apply Kd.R_drew)); exact HO_8.out) hb); have n1_ := Aside0.mk (below_step (by repeat (first | (with_reducible first | exact HB.out | apply below_alloc | apply pw_below_drewN | apply below_drew1) | exact HB.out)) hb); clear HO_8; clear HB; have HO_8 := n0_; have HB := n1_; clear n0_ n1_; (try clear hb); (try clear hb2); (try clear hk); (try clear hi)) | (go_at_call 12; (with_reducible refine (geyserlaw03_awake.calls kj15  t423 _ ?side1 A34.out).mono ?_); (case side1 => first | exact HT.out | exact TabIn.below HT.out (by repeat (first | (with_reducible first | exact HB.out | apply below_alloc | apply pw_below_drewN | apply below_drew1) | exact HB.out)) | (repeat (first | apply TabIn.drewN | apply TabIn.drew | exact HT.out))); rintro e w37 ⟨rfl, hb⟩; have n0_ := Aside0.mk (Kd.R_below (by (with_reducible repeat (first | apply Kd.R_alloc | apply Kd.R_drewN | apply Kd.R_drew)); exact HO_8.out) hb); have n1_ := Aside0.mk (below_step (by repeat (first | (with_reducible first | exact HB.out | apply below_alloc | apply pw_below_drewN | apply below_drew1) | exact HB.out)) hb); clear HO_8; clear HB; have HO_8 := n0_; have HB := n1_; clear n0_ n1_; (try clear hb); (try clear hb2); (try clear hk); (try clear hi)))
                      go_ret
                      exact ⟨by first | rfl | (simp [errW_none, errW_some] <;> rfl) | (simp [*, errW_none, errW_some] <;> rfl), by repeat (first | (with_reducible first | exact HB.out | apply below_alloc | apply pw_below_drewN | apply below_drew1) | exact HB.out)⟩
                · replace c19 := Bool.eq_false_iff.mpr c19
                  subst c19
                  have H1 : (some false) = some r := by rw [if_neg (show ¬ (false = true) by decide)] at H; exact H
                  clear H
                  have H := H1
                  clear H1
                  obtain rfl := Option.some.inj H
                  obtain ⟨Ao38, co38, eo38⟩ := Kd.R_slice HO_8.out
                  subst eo38
                  go_wp2_with (first | ((with_reducible refine gate_callee (f := 16) rfl ?_); refine goesL_ (some 39) rfl rfl Tryd.func16 (by kernel_rfl) rfl #[errOf (.slice Ao38 t415.length co38), .int .i64 x9_15, .string (⟨#[109, 97, 116, 114, 105, 120, 46, 83, 112, 97, 110, 115]⟩ : ByteArray)] rfl (by (try simp only [List.map_toArray, List.map_cons, List.map_nil]); first | done | rfl | (simp only [List.length_drop, List.length_take]; rfl)) ?_; (with_reducible refine (geyserlaw03_tells.calls _ _ t415 x9_15 (⟨#[109, 97, 116, 114, 105, 120, 46, 83, 112, 97, 110, 115]⟩ : ByteArray) false _ ?side1 ?side2 ?side3 A18.out).mono ?_); (case side1 => first | exact HEI.out | exact ErrIn.below HEI.out (by repeat (first | (with_reducible first | exact HB.out | apply below_alloc | apply pw_below_drewN | apply below_drew1) | exact HB.out)) | (repeat (first | apply ErrIn.drewN | apply ErrIn.drew | exact HEI.out))); (case side2 => repeat (first | exact (Kd.R_reads' HO_8.out).2.2 | (with_reducible refine Kd.C_alloc ?_ _) | (with_reducible refine Kd.C_drewN ?_ _) | (with_reducible refine Kd.C_drew ?_))); (case side3 => exact (Kd.R_reads' HO_8.out).2.1); rintro e w39 ⟨rfl, hb⟩; refine ⟨_, rfl, ?_⟩; have n0_ := Aside0.mk (Kd.R_below (by (with_reducible repeat (first | apply Kd.R_alloc | apply Kd.R_drewN | apply Kd.R_drew)); exact HO_8.out) hb); have n1_ := Aside0.mk (below_step (by repeat (first | (with_reducible first | exact HB.out | apply below_alloc | apply pw_below_drewN | apply below_drew1) | exact HB.out)) hb); clear HO_8; clear HB; have HO_8 := n0_; have HB := n1_; clear n0_ n1_; (try clear hb); (try clear hb2); (try clear hk); (try clear hi)))
                  go_ret
                  exact ⟨by first | rfl | (simp [errW_none, errW_some] <;> rfl) | (simp [*, errW_none, errW_some] <;> rfl), by repeat (first | (with_reducible first | exact HB.out | apply below_alloc | apply pw_below_drewN | apply below_drew1) | exact HB.out)⟩

end Go.Proofs.YtgocibnmgfmceaaDoor.P

namespace Go.Proofs.YtgocibnmgfmceaaDoor.Pure
open Go.RowKit Go.Proofs.YtgocibnmgfmceaaDoor.P Go.Proofs.YtgocibnmgfmceaaDoorW.PrintWords Go.Proofs.YtgocibnmgfmceaaDoorW.PrintLast Go.Proofs.YtgocibnmgfmceaaDoorW.PrintErr Go.Proofs.YtgocibnmgfmceaaDoorW.PrintMore Go.Proofs.YtgocibnmgfmceaaDoor.Lin
set_option linter.unusedVariables false
set_option linter.unusedSimpArgs false
def spansName : ByteArray := ⟨#[109, 97, 116, 114, 105, 120, 46, 83, 112, 97, 110, 115]⟩
/-- Why there is no answer: 0, if there is. -/
def spansBad (rows : List (List Int)) (n : Int) (row : List Int) : Int := if chk3 rows n = 0 then (if wokB row n = true then 0 else 2) else chk3 rows n
def spansB (rows : List (List Int)) (row : List Int) : Bool := decide (fstI (lessW row (byOf [] rows)) < 0)
def mspansR (rows : List (List Int)) (n : Int) (row : List Int) : Bool × List FE :=
  if chk3 rows n = 0 then (if wokB row n = true then (spansB rows row, []) else (false, [⟨spansName, true, 2⟩])) else (false, [⟨spansName, false, chk3 rows n⟩])
theorem mspans_ev (rows : List (List Int)) (n : Int) (row : List Int) (hr : rows.length < 9223372036854775807) (hu : ∀ r ∈ rows, ∀ x ∈ r, U64 x) (hw : ∀ x ∈ row, U64 x) : Ev (fun k => matrix_Spans.f k rows n row) (mspansR rows n row) := by
  unfold matrix_Spans.f mspansR
  refine Ev.bind (mcheck_ev rows n hr hu) ?_
  unfold mcheckR
  by_cases h : chk3 rows n = 0
  · simp only [if_pos h]
    obtain ⟨hm, h0⟩ := Mat.of_chk h hu
    have h1 := (chk3_zero h).2.1
    have hwo := whole_eq row n hw h0 h1
    simp only [List.length_nil, Int.natCast_zero, if_true, hwo, Option.bind_some]
    by_cases hk : wokB row n = true
    · simp only [if_pos hk]
      obtain ⟨hl, _⟩ := (wokB_iff row n h0).1 hk
      have hnw := nW_le hm.2.1
      rw [Int.toNat_of_nonneg h0] at hnw
      have hI := RInv.all rows [] [] (RInv.nil (nW n)) (fun r hr => by
        have := hm.row r hr
        rw [Int.toNat_of_nonneg h0] at this
        exact ⟨this.1, this.2.1⟩)
      have hle := hI.len
      have hml := hm.1
      rw [List.nil_append] at hle
      have hless := less_ev (nW n) (by omega) row (byOf [] rows) (by omega) hl hw hI.good
      have hlen := lessW_len (byOf [] rows) row hl hI.good
      have hf := fst_ev (lessW row (byOf [] rows)) (lessW_u64 _ row hw) (by omega)
      exact Ev.bind (reduceM_ev rows n.toNat hm) (Ev.bind hless (Ev.bind hf (Ev.now _)))
    · simp only [if_neg hk]
      rw [new_eqM _ 2 (by decide)]
      exact Ev.now _
  · simp only [if_neg h]
    refine Ev.congr (fun k => ?_) (Ev.now _)
    rw [if_neg (by simp)]
    rfl
theorem rspans_ev (rows : List (List Int)) (n : Nat) (row : List Int) (hm : Mat rows n) (hlen : rows.length ≤ 4096) (hk : wokB row n = true) (hw : ∀ x ∈ row, U64 x) : Ev (fun k => geyserref03_Spans.f k rows (n : Int) row) (spansB rows row) := by
  unfold geyserref03_Spans.f
  simp only [Option.bind_some, List.nil_append, List.length_nil, Nat.zero_add]
  simp only [if_pos (show rows.length < 5864062014805 by omega), Option.bind_some]
  have hm2 : Mat (rows ++ [row]) n := ⟨by simp; omega, hm.2.1, fun r hr => by
    rcases List.mem_append.1 hr with hr | hr
    · exact hm.2.2 r hr
    · obtain rfl : r = row := by simpa using hr
      exact ⟨hk, hw⟩⟩
  refine Ev.bind (rank_ev (rows ++ [row]) n hm2) ?_
  refine Ev.bind (rank_ev rows n hm) ?_
  rw [byOf_snoc]
  have e : ((((stepW (byOf [] rows) row).length : Int)) == (((byOf [] rows).length : Int))) = spansB rows row := by
    unfold spansB stepW
    by_cases h : fstI (lessW row (byOf [] rows)) < 0
    · rw [if_pos h, decide_eq_true h]; simp
    · rw [if_neg h, decide_eq_false h]; simp; omega
  rw [e]
  exact Ev.now _
theorem spans_j2_bad (rows : List (List Int)) (n : Int) (row : List Int) (f : Bool) (x : Int) (hx : x ≠ 0) : Ev (fun k => geyserlaw03_MatrixSpans.j2 k rows n row false [⟨spansName, f, x⟩] x) true := by
  refine Ev.step (f := fun k => (geyserlaw03_awake.f k).bind fun t => some t) (fun k => ?_) (Ev.bind awake03_ev (Ev.now _))
  rw [geyserlaw03_MatrixSpans.j2, show (⟨#[109, 97, 116, 114, 105, 120, 46, 83, 112, 97, 110, 115]⟩ : ByteArray) = spansName from rfl]
  cases f
  · rw [tells03_deep spansName x hx]; simp [hx]
  · rw [tells03_flat spansName x hx]; simp [hx]
theorem MatrixSpans (rows : List (List Int)) (n : Int) (row : List Int) (hr : rows.length < 9223372036854775807) (hu : ∀ r ∈ rows, ∀ x ∈ r, U64 x) (hw : ∀ x ∈ row, U64 x) : ∃ k, geyserlaw03_MatrixSpans.f k rows n row = some true := by
  refine Ev.rounds (g := fun k => geyserlaw03_MatrixSpans.f k rows n row) ?_
  unfold geyserlaw03_MatrixSpans.f
  obtain ⟨b, hb, _⟩ := big_some rows n
  simp only [hb, Option.bind_some]
  have hT : Ev (fun k => geyserlaw03_MatrixSpans.j0 k rows n row true) true := by
    refine Ev.step (f := fun k => (geyserlaw03_awake.f k).bind fun t => some t) (fun k => ?_) (Ev.bind awake03_ev (Ev.now _))
    rw [geyserlaw03_MatrixSpans.j0, if_pos rfl]
  have j1f : ∀ (x : Bool) (e : List FE) (y : Int), Ev (fun k => geyserlaw03_MatrixSpans.j2 k rows n row x e y) true → Ev (fun k => geyserlaw03_MatrixSpans.j1 k rows n row x e y false) true := by
    intro x e y h
    refine Ev.step (fun k => ?_) h
    rw [geyserlaw03_MatrixSpans.j1, if_neg (by decide)]
  have j1t : ∀ (x : Bool) (e : List FE) (y : Int), Ev (fun k => geyserlaw03_MatrixSpans.j2 k rows n row x e 2) true → Ev (fun k => geyserlaw03_MatrixSpans.j1 k rows n row x e y true) true := by
    intro x e y h
    refine Ev.step (fun k => ?_) h
    rw [geyserlaw03_MatrixSpans.j1, if_pos rfl]
  have hF : Ev (fun k => geyserlaw03_MatrixSpans.j0 k rows n row false) true := by
    refine Ev.step (f := fun k => (matrix_Spans.f k rows n row).bind fun bt414 => ((geyserref03_Check.f k rows n).bind fun t418 => (if t418 = 0 then ((geyserref03_Whole.f k row n).bind fun t419 => (geyserlaw03_MatrixSpans.j1 k rows n row bt414.1 bt414.2 t418 (!t419))) else (geyserlaw03_MatrixSpans.j1 k rows n row bt414.1 bt414.2 t418 false)))) (fun k => ?_) (Ev.bind (mspans_ev rows n row hr hu hw) (Ev.bind (rcheck3_ev rows n hr hu) ?_))
    · rw [geyserlaw03_MatrixSpans.j0, if_neg (by decide)]
    · unfold mspansR
      by_cases h : chk3 rows n = 0
      · obtain ⟨hm, h0⟩ := Mat.of_chk h hu
        have hz := chk3_zero h
        simp only [if_pos h]
        refine Ev.bind (rwhole_ev row n hw h0 hz.2.1) ?_
        by_cases hk : wokB row n = true
        · simp only [hk, if_true, Bool.not_true]
          refine j1f _ _ _ ?_
          rw [h]
          have hs := rspans_ev rows n.toNat row hm hz.2.2.1 (by rw [Int.toNat_of_nonneg h0]; exact hk) hw
          rw [Int.toNat_of_nonneg h0] at hs
          refine Ev.step (f := fun k => (geyserref03_Spans.f k rows n row).bind fun t421 => (if (spansB rows row == t421) = true then ((geyserlaw03_awake.f k).bind fun t422 => (some t422)) else (some false))) (fun k => ?_) (Ev.bind hs ?_)
          · rw [geyserlaw03_MatrixSpans.j2, tells03_none]
            simp only [Option.bind_some, if_true]
          · simp only [beq_self_eq_true, if_true]
            exact Ev.bind awake03_ev (Ev.now _)
        · have hk' : wokB row n = false := by simpa using hk
          simp only [hk', Bool.false_eq_true, if_false, Bool.not_false]
          exact j1t _ _ _ (spans_j2_bad rows n row true 2 (by decide))
      · simp only [if_neg h]
        exact j1f _ _ _ (spans_j2_bad rows n row false _ h)
  cases b
  · simp only [Bool.false_eq_true, if_false]
    by_cases hl : (row.length : Int) > 100
    · rw [decide_eq_true hl]; exact hT
    · rw [decide_eq_false hl]; exact hF
  · simp only [if_true]
    exact hT
end Go.Proofs.YtgocibnmgfmceaaDoor.Pure
