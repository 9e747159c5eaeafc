-- joined by merge.py: Px31 Px32 PureBlockingBack
import Derived.Test.YtbhnhmkbccjnpaaMBlockingBack1
namespace Go.Proofs.Ytbhnhmkbccjnpaa.P
open Go.RowKit Go.Proofs.YtbhnhmkbccjnpaaW.PrintWords Go.Proofs.YtbhnhmkbccjnpaaW.PrintLast Go.Proofs.YtbhnhmkbccjnpaaW.PrintErr Go.Proofs.YtbhnhmkbccjnpaaW.PrintMore
attribute [local go_sem] max2_int min2_int max_two min_two max_three min_three max_four min_four run_eql_errOf run_neq_errOf eqGuard_errOf   -- for this text's walks alone
set_option linter.unusedVariables false
set_option linter.unusedSimpArgs false

/-! ### blocking_Join: function 23 -/
mutual
def blocking_Join.l0 : Nat → List Int → List (List (List Int)) → Int → Int → Int → Int → Int → Int → Int → Option (List Int × List FE)
  | 0, _, _, _, _, _, _, _, _, _ => none
  | k + 1, x7, x24, x25, x26, x441000, x441001, x441002, x441003, x441004 => if x26 < x25 then (if 0 ≤ x26 then (if x26 < (x24.length : Int) then ((blocking_source.f x441000 x441001 x441002 x441003 x441004 x26).bind fun t451 => (if ((rd_Lssu8 x24 x26).length : Int) = t451 then (blocking_Join.l1 k x7 x24 x25 x26 (rd_Lssu8 x24 x26) ((rd_Lssu8 x24 x26).length : Int) 0 x441000 x441001 x441002 x441003 x441004) else ((fault_New.f (⟨#[98, 108, 111, 99, 107, 105, 110, 103, 46, 74, 111, 105, 110]⟩ : ByteArray) 2).bind fun t452 => (some (([] : List Int), t452))))) else (none)) else (none)) else (if 0 ≤ x441000 then (if x441000 ≤ (x7.length : Int) then ((symbol_Zero.f k (x7.drop (x441000 : Int).toNat)).bind fun t467 => (if t467 = true then (some ((x7.take (x441000 : Int).toNat), ([] : List FE))) else ((fault_New.f (⟨#[98, 108, 111, 99, 107, 105, 110, 103, 46, 74, 111, 105, 110]⟩ : ByteArray) 2).bind fun t472 => (some (([] : List Int), t472))))) else (none)) else (none))
def blocking_Join.l1 : Nat → List Int → List (List (List Int)) → Int → Int → List (List Int) → Int → Int → Int → Int → Int → Int → Int → Option (List Int × List FE)
  | 0, _, _, _, _, _, _, _, _, _, _, _, _ => none
  | k + 1, x7, x24, x25, x26, x38, x39, x40, x441000, x441001, x441002, x441003, x441004 => if x40 < x39 then (if 0 ≤ x40 then (if x40 < (x38.length : Int) then (if ((rd_Lsu8 x38 x40).length : Int) = x441001 then (if x7.length + (rd_Lsu8 x38 x40).length < 140737488355328 then (blocking_Join.l1 k (x7 ++ (rd_Lsu8 x38 x40)) x24 x25 x26 x38 x39 (wrap64 (x40 + 1)) x441000 x441001 x441002 x441003 x441004) else (none)) else ((fault_New.f (⟨#[98, 108, 111, 99, 107, 105, 110, 103, 46, 74, 111, 105, 110]⟩ : ByteArray) 2).bind fun t459 => (some (([] : List Int), t459)))) else (none)) else (none)) else (blocking_Join.l0 k x7 x24 x25 (wrap64 (x26 + 1)) x441000 x441001 x441002 x441003 x441004)
end
def blocking_Join.f (k : Nat) (a0_0 : Int) (a0_1 : Int) (a0_2 : Int) (a0_3 : Int) (a0_4 : Int) (l1 : List (List (List Int))) : Option (List Int × List FE) := (blocking_Check.f k a0_0 a0_1 a0_2 a0_3 a0_4).bind fun t441 => (if (t441.length : Int) = 0 then (if (l1.length : Int) = a0_2 then (blocking_Join.l0 k ([] : List Int) l1 (l1.length : Int) 0 a0_0 a0_1 a0_2 a0_3 a0_4) else ((fault_New.f (⟨#[98, 108, 111, 99, 107, 105, 110, 103, 46, 74, 111, 105, 110]⟩ : ByteArray) 2).bind fun t447 => (some (([] : List Int), t447)))) else ((fault_Wrap.f (⟨#[98, 108, 111, 99, 107, 105, 110, 103, 46, 74, 111, 105, 110]⟩ : ByteArray) t441).bind fun t444 => (some (([] : List Int), t444))))
theorem blocking_Join.mono_l : ∀ k, (∀ y0 y1 y2 y3 y4 y5 y6 y7 y8, LeO (blocking_Join.l0 k y0 y1 y2 y3 y4 y5 y6 y7 y8) (blocking_Join.l0 (k + 1) y0 y1 y2 y3 y4 y5 y6 y7 y8)) ∧ (∀ y0 y1 y2 y3 y4 y5 y6 y7 y8 y9 y10 y11, LeO (blocking_Join.l1 k y0 y1 y2 y3 y4 y5 y6 y7 y8 y9 y10 y11) (blocking_Join.l1 (k + 1) y0 y1 y2 y3 y4 y5 y6 y7 y8 y9 y10 y11))
  | 0 => ⟨fun _ _ _ _ _ _ _ _ _ r h => by simp [blocking_Join.l0] at h, fun _ _ _ _ _ _ _ _ _ _ _ _ r h => by simp [blocking_Join.l1] at h⟩
  | k + 1 => by
    obtain ⟨ih0, ih1⟩ := blocking_Join.mono_l k
    refine ⟨?_, ?_⟩
    · intro y0 y1 y2 y3 y4 y5 y6 y7 y8
      unfold blocking_Join.l0
      repeat' first
      | (with_reducible exact ih0 _ _ _ _ _ _ _ _ _)
      | (with_reducible exact ih1 _ _ _ _ _ _ _ _ _ _ _ _)
      | (with_reducible exact blocking_Check.mono _ _ _ _ _ _)
      | (with_reducible exact symbol_Zero.mono _ _)
      | (with_reducible exact LeO.refl _)
      | (with_reducible exact LeO.none _)
      | (with_reducible refine LeO.ite ?_ ?_)
      | (with_reducible refine LeO.bind ?_ (fun _ => ?_))
      | exact ih0 _ _ _ _ _ _ _ _ _
      | exact ih1 _ _ _ _ _ _ _ _ _ _ _ _
      | exact blocking_Check.mono _ _ _ _ _ _
      | exact symbol_Zero.mono _ _
      | exact LeO.none _
      | refine LeO.ite ?_ ?_
      | refine LeO.bind ?_ (fun _ => ?_)
    · intro y0 y1 y2 y3 y4 y5 y6 y7 y8 y9 y10 y11
      unfold blocking_Join.l1
      repeat' first
      | (with_reducible exact ih0 _ _ _ _ _ _ _ _ _)
      | (with_reducible exact ih1 _ _ _ _ _ _ _ _ _ _ _ _)
      | (with_reducible exact blocking_Check.mono _ _ _ _ _ _)
      | (with_reducible exact symbol_Zero.mono _ _)
      | (with_reducible exact LeO.refl _)
      | (with_reducible exact LeO.none _)
      | (with_reducible refine LeO.ite ?_ ?_)
      | (with_reducible refine LeO.bind ?_ (fun _ => ?_))
      | exact ih0 _ _ _ _ _ _ _ _ _
      | exact ih1 _ _ _ _ _ _ _ _ _ _ _ _
      | exact blocking_Check.mono _ _ _ _ _ _
      | exact symbol_Zero.mono _ _
      | exact LeO.none _
      | refine LeO.ite ?_ ?_
      | refine LeO.bind ?_ (fun _ => ?_)
theorem blocking_Join.mono : ∀ a0 a1 a2 a3 a4 a5 k, LeO (blocking_Join.f k a0 a1 a2 a3 a4 a5) (blocking_Join.f (k + 1) a0 a1 a2 a3 a4 a5) := by
  intro a0 a1 a2 a3 a4 a5 k
  obtain ⟨ih0, ih1⟩ := blocking_Join.mono_l k
  unfold blocking_Join.f
  repeat' first
      | (with_reducible exact ih0 _ _ _ _ _ _ _ _ _)
      | (with_reducible exact ih1 _ _ _ _ _ _ _ _ _ _ _ _)
      | (with_reducible exact blocking_Check.mono _ _ _ _ _ _)
      | (with_reducible exact symbol_Zero.mono _ _)
      | (with_reducible exact LeO.refl _)
      | (with_reducible exact LeO.none _)
      | (with_reducible refine LeO.ite ?_ ?_)
      | (with_reducible refine LeO.bind ?_ (fun _ => ?_))
      | exact ih0 _ _ _ _ _ _ _ _ _
      | exact ih1 _ _ _ _ _ _ _ _ _ _ _ _
      | exact blocking_Check.mono _ _ _ _ _ _
      | exact symbol_Zero.mono _ _
      | exact LeO.none _
      | refine LeO.ite ?_ ?_
      | refine LeO.bind ?_ (fun _ => ?_)
set_option maxHeartbeats 8000000 in
set_option maxRecDepth 100000 in
theorem blocking_Join.calls (k : Nat) (a0_0 : Int) (a0_1 : Int) (a0_2 : Int) (a0_3 : Int) (a0_4 : Int) (A1 : Option Addr) (c1 : Nat) (l1 : List (List (List Int))) (r1 : List Int) (r2 : List FE) (w : World) (hr1 : Kd.C (Kd.slice 23 (Kd.slice 5 (Kd.int .u8))) w A1 l1.length l1) (hc1 : l1.length ≤ c1) (h : blocking_Join.f k a0_0 a0_1 a0_2 a0_3 a0_4 l1 = some (r1, r2)) :
    Calls Try.prog 23 #[.agg #[.int .i64 a0_0, .int .i64 a0_1, .int .i64 a0_2, .int .i64 a0_3, .int .i64 a0_4], .slice A1 l1.length c1] w fun e w' => ∃ v0_ v1_ : Value, e = .returned (.tuple #[v0_, (errOf v1_)]) ∧ Kd.V (Kd.int .u8) 5 w' w.heap.size (fun k_ => (w.heap.size ≤ k_) ∧ some k_ ≠ (v1_ : Value).ownBlock) v0_ r1 ∧ Kd.R kF 67 w' w.heap.size (fun k_ => (w.heap.size ≤ k_)) v1_ r2 ∧ Below w.heap.size w w' := by
  have hu36 := Try.underlying36
  have HR1 := Aside0.mk hr1
  have HC1 := Aside0.mk hc1
  clear hr1 hc1
  have HB := Aside0.mk (Below.refl w.heap.size w)
  have H : ((blocking_Check.f k a0_0 a0_1 a0_2 a0_3 a0_4).bind fun t441 => (if (t441.length : Int) = 0 then (if (l1.length : Int) = a0_2 then (blocking_Join.l0 k ([] : List Int) l1 (l1.length : Int) 0 a0_0 a0_1 a0_2 a0_3 a0_4) else ((fault_New.f (⟨#[98, 108, 111, 99, 107, 105, 110, 103, 46, 74, 111, 105, 110]⟩ : ByteArray) 2).bind fun t447 => (some (([] : List Int), t447)))) else ((fault_Wrap.f (⟨#[98, 108, 111, 99, 107, 105, 110, 103, 46, 74, 111, 105, 110]⟩ : ByteArray) t441).bind fun t444 => (some (([] : List Int), t444))))) = some (r1, r2) := h
  clear h
  replace H := Option.bind_eq_some_iff.mp H
  obtain ⟨t441, A30, H⟩ := H
  replace H : (if (t441.length : Int) = 0 then (if (l1.length : Int) = a0_2 then (blocking_Join.l0 k ([] : List Int) l1 (l1.length : Int) 0 a0_0 a0_1 a0_2 a0_3 a0_4) else ((fault_New.f (⟨#[98, 108, 111, 99, 107, 105, 110, 103, 46, 74, 111, 105, 110]⟩ : ByteArray) 2).bind fun t447 => (some (([] : List Int), t447)))) else ((fault_Wrap.f (⟨#[98, 108, 111, 99, 107, 105, 110, 103, 46, 74, 111, 105, 110]⟩ : ByteArray) t441).bind fun t444 => (some (([] : List Int), t444)))) = some (r1, r2) := H
  have A3 := Aside0.mk A30
  clear A30
  by_cases c4 : (t441.length : Int) = 0
  · rw [if_pos c4] at H
    have c4b0 : ((t441.length : Int) == 0) = true := beq_iff_eq.mpr c4
    have c4b1 : ((t441.length : Int) != 0) = false := bne_eq_false_iff_eq.mpr c4
    clear c4
    by_cases c5 : (l1.length : Int) = a0_2
    · rw [if_pos c5] at H
      have c5b0 : ((l1.length : Int) == a0_2) = true := beq_iff_eq.mpr c5
      have c5b1 : ((l1.length : Int) != a0_2) = false := bne_eq_false_iff_eq.mpr c5
      clear c5
      have H' := Aside0.mk H
      clear H
      go_enter Try.func23, Try.ntmps23
      go_wp2_with (first | ((with_reducible refine gate_dst (N := 2) rfl ?_); refine box_event ?hg (N := 2) ?hd (cs := #[.int .i64 a0_0, .int .i64 a0_1, .int .i64 a0_2, .int .i64 a0_3, .int .i64 a0_4]) (t := 36) ?hr ?_; (case hd => rfl); (case hg => rfl); (case hr => first | (go_simp; done) | (go_simp; rfl)); intro gb440 hg w6 hbox hb; have n0_ := Aside0.mk (below_step (by repeat (first | (with_reducible first | exact HB.out | apply below_alloc | apply pw_below_drewN | apply below_drew1) | exact HB.out)) hb); have n1_ := Aside0.mk (hbox); have n2_ := Aside0.mk ((by rw [hg]; exact (below_size (by repeat (first | (with_reducible first | exact HB.out | apply below_alloc | apply pw_below_drewN | apply below_drew1) | exact HB.out))) : w.heap.size ≤ gb440)); have n3_ := Aside0.mk ((by rw [hg]; exact (below_size (by repeat (first | (with_reducible first | exact HB.out | apply below_alloc | apply pw_below_drewN | apply below_drew1) | exact HB.out))) : w.heap.size ≤ gb440)); clear HB; have HB := n0_; have BK440 := n1_; have GW440 := n2_; have GE440 := n3_; clear n0_ n1_ n2_ n3_; clear hb hbox hg; have hcz7_0 : w6.cell? ⟨gb440, 0, none⟩ = some (.int .i64 a0_0) := (blk_cell BK440.out 0).trans rfl; have hcz7_1 : w6.cell? ⟨gb440, 1, none⟩ = some (.int .i64 a0_1) := (blk_cell BK440.out 1).trans rfl; have hcz7_2 : w6.cell? ⟨gb440, 2, none⟩ = some (.int .i64 a0_2) := (blk_cell BK440.out 2).trans rfl; have hcz7_3 : w6.cell? ⟨gb440, 3, none⟩ = some (.int .i64 a0_3) := (blk_cell BK440.out 3).trans rfl; have hcz7_4 : w6.cell? ⟨gb440, 4, none⟩ = some (.int .i64 a0_4) := (blk_cell BK440.out 4).trans rfl; have hfz7_0 := blk_frozen BK440.out 0; have hfz7_1 := blk_frozen BK440.out 1; have hfz7_2 := blk_frozen BK440.out 2; have hfz7_3 := blk_frozen BK440.out 3; have hfz7_4 := blk_frozen BK440.out 4) | ((with_reducible refine gate_callee (f := 15) rfl ?_); refine goesL_ (some 13) rfl rfl Try.func15 (by kernel_rfl) rfl #[.agg #[.int .i64 a0_0, .int .i64 a0_1, .int .i64 a0_2, .int .i64 a0_3, .int .i64 a0_4]] rfl (by (try simp only [List.map_toArray, List.map_cons, List.map_nil]); first | done | rfl | (simp only [List.length_drop, List.length_take]; rfl)) ?_; (with_reducible refine (blocking_Check.calls k a0_0 a0_1 a0_2 a0_3 a0_4 t441 _ A3.out).mono ?_); rintro e w8 ⟨v442, rfl, ho0, hb⟩; refine ⟨_, rfl, ?_⟩; have n0_ := Aside0.mk (Kd.R_lower (Kd.R_newM (M := fun k_ => (w.heap.size ≤ k_)) ho0 (below_size (by repeat (first | (with_reducible first | exact HB.out | apply below_alloc | apply pw_below_drewN | apply below_drew1 | refine below_set ?_ GE440.out) | exact HB.out))) (fun k_ h_ => h_)) (below_size (by repeat (first | (with_reducible first | exact HB.out | apply below_alloc | apply pw_below_drewN | apply below_drew1 | refine below_set ?_ GE440.out) | exact HB.out)))); have n1_ := Aside0.mk (blk_below (g := gb440) (o := .cells #[.int .i64 a0_0, .int .i64 a0_1, .int .i64 a0_2, .int .i64 a0_3, .int .i64 a0_4] 36 (0, 0)) (by (with_reducible repeat (first | refine blk_drewN ?_ _ | refine blk_drew ?_ | refine blk_alloc ?_ _)); exact BK440.out) hb); have n2_ := Aside0.mk (below_step (by repeat (first | (with_reducible first | exact HB.out | apply below_alloc | apply pw_below_drewN | apply below_drew1 | refine below_set ?_ GE440.out) | exact HB.out)) hb); clear BK440; clear HB; have HO443 := n0_; have BK440 := n1_; have HB := n2_; clear n0_ n1_ n2_; (try clear hb); (try clear hb2); (try clear hk); (try clear hi); (try clear ho0); obtain ⟨Ao9, co9, eo9⟩ := Kd.R_slice HO443.out; subst eo9; have hcz10_0 : w8.cell? ⟨gb440, 0, none⟩ = some (.int .i64 a0_0) := (blk_cell BK440.out 0).trans rfl; have hcz10_1 : w8.cell? ⟨gb440, 1, none⟩ = some (.int .i64 a0_1) := (blk_cell BK440.out 1).trans rfl; have hcz10_2 : w8.cell? ⟨gb440, 2, none⟩ = some (.int .i64 a0_2) := (blk_cell BK440.out 2).trans rfl; have hcz10_3 : w8.cell? ⟨gb440, 3, none⟩ = some (.int .i64 a0_3) := (blk_cell BK440.out 3).trans rfl; have hcz10_4 : w8.cell? ⟨gb440, 4, none⟩ = some (.int .i64 a0_4) := (blk_cell BK440.out 4).trans rfl; have hfz10_0 := blk_frozen BK440.out 0; have hfz10_1 := blk_frozen BK440.out 1; have hfz10_2 := blk_frozen BK440.out 2; have hfz10_3 := blk_frozen BK440.out 3; have hfz10_4 := blk_frozen BK440.out 4))
      go_loopg [7, 26] k (fun kq v7 v26 w' => ∃ (x7_1 : List Int) (x26_1 : Int), v26 = .int .i64 x26_1 ∧ Aside0 (blocking_Join.l0 kq x7_1 l1 (l1.length : Int) x26_1 a0_0 a0_1 a0_2 a0_3 a0_4 = some (r1, r2)) ∧ Aside0 (kq ≤ k) ∧ Aside0 (Kd.R (Kd.int .u8) 5 w' w.heap.size (fun k_ => (w.heap.size ≤ k_)) v7 x7_1) ∧ Aside0 (w'.heap[gb440]? = some (.cells #[.int .i64 a0_0, .int .i64 a0_1, .int .i64 a0_2, .int .i64 a0_3, .int .i64 a0_4] 36 (0, 0))) ∧ Aside0 (Below w.heap.size w w'))
      case atStart => exact ⟨(([] : List Int)), (0), (by first | rfl | (simp; done) | (simp [*]; done)), H', ⟨Nat.le_refl _⟩, ⟨by first | exact Kd.R_nil _ _ _ _ _ | exact Kd.N_nil _ _ _ _ _ | exact Kd.V_nil _ _ _ _ _ | exact Kd.Q_nil _ _ _ _ _ | exact Kd.S_nil _ _ _ _ _⟩, ⟨by (with_reducible repeat (first | refine blk_drewN ?_ _ | refine blk_drew ?_ | refine blk_alloc ?_ _)); exact BK440.out⟩, ⟨by repeat (first | (with_reducible first | exact HB.out | apply below_alloc | apply pw_below_drewN | apply below_drew1 | refine below_set ?_ GE440.out) | exact HB.out)⟩⟩
      case round =>
        clear H'
        try clear c1
        try clear c2
        try clear p2
        try clear c4
        try clear c4b0
        try clear c4b1
        try clear c5
        try clear c5b0
        try clear c5b1
        try clear hcz10_0
        try clear hcz10_1
        try clear hcz10_2
        try clear hcz10_3
        try clear hcz10_4
        try clear hcz7_0
        try clear hcz7_1
        try clear hcz7_2
        try clear hcz7_3
        try clear hcz7_4
        try clear hfz10_0
        try clear hfz10_1
        try clear hfz10_2
        try clear hfz10_3
        try clear hfz10_4
        try clear hfz7_0
        try clear hfz7_1
        try clear hfz7_2
        try clear hfz7_3
        try clear hfz7_4
        obtain ⟨x7_1, x26_1, rfl, HA, HK1, HO_7, BK440, HB⟩ := hrel
        cases gk with
        | zero => exact absurd HA.out (by simp [blocking_Join.l0])
        | succ k1 =>
          have H := HA.out
          clear HA
          simp only [blocking_Join.l0] at H
          by_cases c11 : x26_1 < (l1.length : Int)
          · rw [if_pos c11] at H
            have c11b0 : decide (x26_1 < (l1.length : Int)) = true := decide_eq_true c11
            clear c11
            by_cases c12 : 0 ≤ x26_1
            · rw [if_pos c12] at H
              have c12b0 : decide (0 ≤ x26_1) = true := decide_eq_true c12
              clear c12
              by_cases c13 : x26_1 < (l1.length : Int)
              · rw [if_pos c13] at H
                have c13b0 : decide (x26_1 < (l1.length : Int)) = true := decide_eq_true c13
                clear c13
                replace H := Option.bind_eq_some_iff.mp H
                obtain ⟨t451, A140, H⟩ := H
                replace H : (if ((rd_Lssu8 l1 x26_1).length : Int) = t451 then (blocking_Join.l1 k1 x7_1 l1 (l1.length : Int) x26_1 (rd_Lssu8 l1 x26_1) ((rd_Lssu8 l1 x26_1).length : Int) 0 a0_0 a0_1 a0_2 a0_3 a0_4) else ((fault_New.f (⟨#[98, 108, 111, 99, 107, 105, 110, 103, 46, 74, 111, 105, 110]⟩ : ByteArray) 2).bind fun t452 => (some (([] : List Int), t452)))) = some (r1, r2) := H
                have A14 := Aside0.mk A140
                clear A140
                by_cases c15 : ((rd_Lssu8 l1 x26_1).length : Int) = t451
                · rw [if_pos c15] at H
                  have c15b0 : (((rd_Lssu8 l1 x26_1).length : Int) == t451) = true := beq_iff_eq.mpr c15
                  have c15b1 : (((rd_Lssu8 l1 x26_1).length : Int) != t451) = false := bne_eq_false_iff_eq.mpr c15
                  clear c15
                  have H' := Aside0.mk H
                  clear H
                  have p450 : 0 ≤ (x26_1 : Int) := of_decide_eq_true (by first | (with_reducible assumption) | assumption)
                  have q450 : x26_1 < (l1.length : Int) := of_decide_eq_true (by first | (with_reducible assumption) | assumption)
                  obtain ⟨ad450, A450_0, c450_0, e450, hx450_0, hl450_0, hi450_0⟩ := at_Lssu8 HR1.out x26_1 p450 q450
                  cases e450
                  (first | replace hx450_0 := (HB.out.cell (World.block_lt_of_cell? w _ hx450_0)).trans hx450_0 | skip)
                  have HR450_0 := Aside0.mk hi450_0
                  have HC450_0 := Aside0.mk hl450_0
                  clear hi450_0 hl450_0
                  replace p450 := eq_true p450
                  replace q450 := eq_true q450
                  have hcz16_0 : wr.cell? ⟨gb440, 0, none⟩ = some (.int .i64 a0_0) := (blk_cell BK440.out 0).trans rfl
                  have hcz16_1 : wr.cell? ⟨gb440, 1, none⟩ = some (.int .i64 a0_1) := (blk_cell BK440.out 1).trans rfl
                  have hcz16_2 : wr.cell? ⟨gb440, 2, none⟩ = some (.int .i64 a0_2) := (blk_cell BK440.out 2).trans rfl
                  have hcz16_3 : wr.cell? ⟨gb440, 3, none⟩ = some (.int .i64 a0_3) := (blk_cell BK440.out 3).trans rfl
                  have hcz16_4 : wr.cell? ⟨gb440, 4, none⟩ = some (.int .i64 a0_4) := (blk_cell BK440.out 4).trans rfl
                  have hfz16_0 := blk_frozen BK440.out 0
                  have hfz16_1 := blk_frozen BK440.out 1
                  have hfz16_2 := blk_frozen BK440.out 2
                  have hfz16_3 := blk_frozen BK440.out 3
                  have hfz16_4 := blk_frozen BK440.out 4
                  go_wp2_with (first | ((with_reducible refine gate_callee (f := 31) rfl ?_); refine goesL_ (some 35) rfl rfl Try.func31 (by kernel_rfl) rfl #[.agg #[.int .i64 a0_0, .int .i64 a0_1, .int .i64 a0_2, .int .i64 a0_3, .int .i64 a0_4], .int .i64 x26_1] rfl (by (try simp only [List.map_toArray, List.map_cons, List.map_nil]); first | done | rfl | (simp only [List.length_drop, List.length_take]; rfl)) ?_; (with_reducible refine (blocking_source.calls a0_0 a0_1 a0_2 a0_3 a0_4 x26_1 t451 _ A14.out).mono ?_); rintro e w17 ⟨rfl, hb⟩; refine ⟨_, rfl, ?_⟩; have n0_ := Aside0.mk (Kd.R_below (by (with_reducible repeat (first | apply Kd.R_alloc | apply Kd.R_drewN | apply Kd.R_drew)); exact HO_7.out) hb); have n1_ := Aside0.mk (blk_below (g := gb440) (o := .cells #[.int .i64 a0_0, .int .i64 a0_1, .int .i64 a0_2, .int .i64 a0_3, .int .i64 a0_4] 36 (0, 0)) (by (with_reducible repeat (first | refine blk_drewN ?_ _ | refine blk_drew ?_ | refine blk_alloc ?_ _)); exact BK440.out) hb); have n2_ := Aside0.mk (below_step (by repeat (first | (with_reducible first | exact HB.out | apply below_alloc | apply pw_below_drewN | apply below_drew1 | refine below_set ?_ GE440.out) | exact HB.out)) hb); clear HO_7; clear BK440; clear HB; have HO_7 := n0_; have BK440 := n1_; have HB := n2_; clear n0_ n1_ n2_; (try clear hb); (try clear hb2); (try clear hk); (try clear hi)))
                  go_loopg [7, 40] k1 (fun kq v7 v40 w' => ∃ (x7_2 : List Int) (x40_2 : Int), v40 = .int .i64 x40_2 ∧ Aside0 (blocking_Join.l1 kq x7_2 l1 (l1.length : Int) x26_1 (rd_Lssu8 l1 x26_1) ((rd_Lssu8 l1 x26_1).length : Int) x40_2 a0_0 a0_1 a0_2 a0_3 a0_4 = some (r1, r2)) ∧ Aside0 (kq ≤ k1) ∧ Aside0 (Kd.R (Kd.int .u8) 5 w' w.heap.size (fun k_ => (w.heap.size ≤ k_)) v7 x7_2) ∧ Aside0 (w'.heap[gb440]? = some (.cells #[.int .i64 a0_0, .int .i64 a0_1, .int .i64 a0_2, .int .i64 a0_3, .int .i64 a0_4] 36 (0, 0))) ∧ Aside0 (Below w.heap.size w w'))
                  case atStart => exact ⟨(x7_1), (0), (by first | rfl | (simp; done) | (simp [*]; done)), H', ⟨Nat.le_refl _⟩, ⟨by (with_reducible repeat (first | apply Kd.R_alloc | apply Kd.R_drewN | apply Kd.R_drew)); exact HO_7.out⟩, ⟨by (with_reducible repeat (first | refine blk_drewN ?_ _ | refine blk_drew ?_ | refine blk_alloc ?_ _)); exact BK440.out⟩, ⟨by repeat (first | (with_reducible first | exact HB.out | apply below_alloc | apply pw_below_drewN | apply below_drew1 | refine below_set ?_ GE440.out) | exact HB.out)⟩⟩
                  case round =>
                    clear H'
                    try clear c1
                    try clear c2
                    try clear p2
                    try clear c3
                    try clear c4
                    try clear c4b0
                    try clear c4b1
                    try clear p4
                    try clear q4
                    try clear hx4
                    try clear c5
                    try clear c5b0
                    try clear c5b1
                    try clear c11
                    try clear c11b0
                    try clear c12
                    try clear c12b0
                    try clear c13
                    try clear c13b0
                    try clear c15
                    try clear c15b0
                    try clear c15b1
                    try clear hcz10_0
                    try clear hcz10_1
                    try clear hcz10_2
                    try clear hcz10_3
                    try clear hcz10_4
                    try clear hcz16_0
                    try clear hcz16_1
                    try clear hcz16_2
                    try clear hcz16_3
                    try clear hcz16_4
                    try clear hcz7_0
                    try clear hcz7_1
                    try clear hcz7_2
                    try clear hcz7_3
                    try clear hcz7_4
                    try clear hfz10_0
                    try clear hfz10_1
                    try clear hfz10_2
                    try clear hfz10_3
                    try clear hfz10_4
                    try clear hfz16_0
                    try clear hfz16_1
                    try clear hfz16_2
                    try clear hfz16_3
                    try clear hfz16_4
                    try clear hfz7_0
                    try clear hfz7_1
                    try clear hfz7_2
                    try clear hfz7_3
                    try clear hfz7_4
                    try clear hx450_0
                    try clear p2
                    try clear p450
                    try clear q450
                    obtain ⟨x7_2, x40_2, rfl, HA, HK2, HO_7, BK440, HB⟩ := hrel
                    cases gk with
                    | zero => exact absurd HA.out (by simp [blocking_Join.l1])
                    | succ k2 =>
                      have H := HA.out
                      clear HA
                      simp only [blocking_Join.l1] at H
                      by_cases c18 : x40_2 < ((rd_Lssu8 l1 x26_1).length : Int)
                      · rw [if_pos c18] at H
                        have c18b0 : decide (x40_2 < ((rd_Lssu8 l1 x26_1).length : Int)) = true := decide_eq_true c18
                        clear c18
                        by_cases c19 : 0 ≤ x40_2
                        · rw [if_pos c19] at H
                          have c19b0 : decide (0 ≤ x40_2) = true := decide_eq_true c19
                          clear c19
                          by_cases c20 : x40_2 < ((rd_Lssu8 l1 x26_1).length : Int)
                          · rw [if_pos c20] at H
                            have c20b0 : decide (x40_2 < ((rd_Lssu8 l1 x26_1).length : Int)) = true := decide_eq_true c20
                            clear c20
                            by_cases c21 : ((rd_Lsu8 (rd_Lssu8 l1 x26_1) x40_2).length : Int) = a0_1
                            · rw [if_pos c21] at H
                              have c21b0 : (((rd_Lsu8 (rd_Lssu8 l1 x26_1) x40_2).length : Int) == a0_1) = true := beq_iff_eq.mpr c21
                              have c21b1 : (((rd_Lsu8 (rd_Lssu8 l1 x26_1) x40_2).length : Int) != a0_1) = false := bne_eq_false_iff_eq.mpr c21
                              clear c21
                              by_cases c22 : x7_2.length + (rd_Lsu8 (rd_Lssu8 l1 x26_1) x40_2).length < 140737488355328
                              · rw [if_pos c22] at H
                                have LMc22 := Aside0.mk c22
                                clear c22
                                obtain ⟨y456, hy456⟩ : ∃ y_ : List Int, y_ = (x7_2 ++ (rd_Lsu8 (rd_Lssu8 l1 x26_1) x40_2)) := ⟨_, rfl⟩
                                replace H : (blocking_Join.l1 k2 y456 l1 (l1.length : Int) x26_1 (rd_Lssu8 l1 x26_1) ((rd_Lssu8 l1 x26_1).length : Int) (wrap64 (x40_2 + 1)) a0_0 a0_1 a0_2 a0_3 a0_4) = some (r1, r2) := by first | (rw [hy456]; with_reducible exact H) | (have H2_ := (Option.bind_some _ _).symm.trans H; rw [hy456]; with_reducible exact H2_) | (have H2_ := (Option.bind_some _ _).symm.trans H; with_reducible exact H2_) | with_reducible exact H | (rw [hy456]; exact H) | exact H
                                have Ny456 := Aside0.mk hy456
                                clear hy456
                                have H' := Aside0.mk H
                                clear H
                                have p455 : 0 ≤ (x40_2 : Int) := of_decide_eq_true (by first | (with_reducible assumption) | assumption)
                                have q455 : x40_2 < ((rd_Lssu8 l1 x26_1).length : Int) := of_decide_eq_true (by first | (with_reducible assumption) | assumption)
                                obtain ⟨ad455, A455_0, c455_0, e455, hx455_0, hl455_0, hi455_0⟩ := at_Lsu8 HR450_0.out x40_2 p455 q455
                                cases e455
                                (first | replace hx455_0 := (HB.out.cell (World.block_lt_of_cell? w _ hx455_0)).trans hx455_0 | skip)
                                have HR455_0 := Aside0.mk hi455_0
                                have HC455_0 := Aside0.mk hl455_0
                                clear hi455_0 hl455_0
                                replace p455 := eq_true p455
                                replace q455 := eq_true q455
                                have hcz23_0 : wr.cell? ⟨gb440, 0, none⟩ = some (.int .i64 a0_0) := (blk_cell BK440.out 0).trans rfl
                                have hcz23_1 : wr.cell? ⟨gb440, 1, none⟩ = some (.int .i64 a0_1) := (blk_cell BK440.out 1).trans rfl
                                have hcz23_2 : wr.cell? ⟨gb440, 2, none⟩ = some (.int .i64 a0_2) := (blk_cell BK440.out 2).trans rfl
                                have hcz23_3 : wr.cell? ⟨gb440, 3, none⟩ = some (.int .i64 a0_3) := (blk_cell BK440.out 3).trans rfl
                                have hcz23_4 : wr.cell? ⟨gb440, 4, none⟩ = some (.int .i64 a0_4) := (blk_cell BK440.out 4).trans rfl
                                have hfz23_0 := blk_frozen BK440.out 0
                                have hfz23_1 := blk_frozen BK440.out 1
                                have hfz23_2 := blk_frozen BK440.out 2
                                have hfz23_3 := blk_frozen BK440.out 3
                                have hfz23_4 := blk_frozen BK440.out 4
                                go_wp2_with (first | ((with_reducible refine gate_builtin (b := .append) (xs := #[.tmp 50, .tmp 51]) rfl ?_); at_builtin; refine Kd.R_append_rows (Kd.int .u8) (w0 := w) w.heap.size rfl (.tmp 50) (.tmp 51) 23 5 (.int .u8 0) 1 rfl Try.underlying23 info5 rfl (by decide) (by omega) u7 x7_2 (rd_Lsu8 (rd_Lssu8 l1 x26_1) x40_2) _ _ _ (fun k_ => (w.heap.size ≤ k_)) (fun _ => False) rfl rfl ?aO ?aR (fun _ _ h => h) (fun _ h => h.elim) ?aF ?aB ?aS ?aL ?_; (case aR => repeat (first | exact (Kd.C_below HR455_0.out HB.out) | (with_reducible refine Kd.C_alloc ?_ _) | (with_reducible refine Kd.C_drewN ?_ _) | (with_reducible refine Kd.C_drew ?_))); (case aB => exact (by repeat (first | (with_reducible first | exact HB.out | apply below_alloc | apply pw_below_drewN | apply below_drew1 | refine below_set ?_ GE440.out) | exact HB.out))); (case aF => exact (fun k_ hk => (Nat.le_trans (below_size (by repeat (first | (with_reducible first | exact HB.out | apply below_alloc | apply pw_below_drewN | apply below_drew1 | refine below_set ?_ GE440.out) | exact HB.out))) hk))); (case aO => exact (by (with_reducible repeat (first | apply Kd.R_alloc | apply Kd.R_drewN | apply Kd.R_drew)); exact HO_7.out)); (case aS => exact (below_size (by repeat (first | (with_reducible first | exact HB.out | apply below_alloc | apply pw_below_drewN | apply below_drew1 | refine below_set ?_ GE440.out) | exact HB.out)))); (case aL => have := LMc22.out; omega); intro v457 w24 ho hb hg hat; rw [← Ny456.out] at ho; have n0_ := Aside0.mk (blk_grown (g := gb440) (o := .cells #[.int .i64 a0_0, .int .i64 a0_1, .int .i64 a0_2, .int .i64 a0_3, .int .i64 a0_4] 36 (0, 0)) (by (with_reducible repeat (first | refine blk_drewN ?_ _ | refine blk_drew ?_ | refine blk_alloc ?_ _)); exact BK440.out) hg (Kd.R_ne HO_7.out BK440.out (by decide))); have n1_ := Aside0.mk (hb); have n2_ := Aside0.mk (ho); clear BK440; clear HB; clear HO_7; have BK440 := n0_; have HB := n1_; have HO458 := n2_; clear n0_ n1_ n2_; clear ho hb hg hat))
                                go_roundg k2
                                case measure => have := HK1.out; have := HK2.out; omega
                                case rel => exact ⟨(y456), (wrap64 (x40_2 + 1)), (by first | rfl | (simp; done) | (simp [*]; done)), H', ⟨by have := HK1.out; have := HK2.out; omega⟩, ⟨by (with_reducible repeat (first | apply Kd.R_alloc | apply Kd.R_drewN | apply Kd.R_drew)); exact HO458.out⟩, ⟨by (with_reducible repeat (first | refine blk_drewN ?_ _ | refine blk_drew ?_ | refine blk_alloc ?_ _)); exact BK440.out⟩, ⟨by repeat (first | (with_reducible first | exact HB.out | apply below_alloc | apply pw_below_drewN | apply below_drew1 | refine below_set ?_ GE440.out) | exact HB.out)⟩⟩
                              · rw [if_neg c22] at H
                                exact absurd H (by simp)
                            · rw [if_neg c21] at H
                              have c21b0 : (((rd_Lsu8 (rd_Lssu8 l1 x26_1) x40_2).length : Int) == a0_1) = false := beq_eq_false_iff_ne.mpr c21
                              have c21b1 : (((rd_Lsu8 (rd_Lssu8 l1 x26_1) x40_2).length : Int) != a0_1) = true := bne_iff_ne.mpr c21
                              replace H := Option.bind_eq_some_iff.mp H
                              obtain ⟨t459, A250, H⟩ := H
                              replace H : (some (([] : List Int), t459)) = some (r1, r2) := H
                              have A25 := Aside0.mk A250
                              clear A250
                              simp only [Option.some.injEq, Prod.mk.injEq] at H
                              obtain ⟨rfl, rfl⟩ := H
                              have p455 : 0 ≤ (x40_2 : Int) := of_decide_eq_true (by first | (with_reducible assumption) | assumption)
                              have q455 : x40_2 < ((rd_Lssu8 l1 x26_1).length : Int) := of_decide_eq_true (by first | (with_reducible assumption) | assumption)
                              obtain ⟨ad455, A455_0, c455_0, e455, hx455_0, hl455_0, hi455_0⟩ := at_Lsu8 HR450_0.out x40_2 p455 q455
                              cases e455
                              (first | replace hx455_0 := (HB.out.cell (World.block_lt_of_cell? w _ hx455_0)).trans hx455_0 | skip)
                              have HR455_0 := Aside0.mk hi455_0
                              have HC455_0 := Aside0.mk hl455_0
                              clear hi455_0 hl455_0
                              replace p455 := eq_true p455
                              replace q455 := eq_true q455
                              have hcz26_0 : wr.cell? ⟨gb440, 0, none⟩ = some (.int .i64 a0_0) := (blk_cell BK440.out 0).trans rfl
                              have hcz26_1 : wr.cell? ⟨gb440, 1, none⟩ = some (.int .i64 a0_1) := (blk_cell BK440.out 1).trans rfl
                              have hcz26_2 : wr.cell? ⟨gb440, 2, none⟩ = some (.int .i64 a0_2) := (blk_cell BK440.out 2).trans rfl
                              have hcz26_3 : wr.cell? ⟨gb440, 3, none⟩ = some (.int .i64 a0_3) := (blk_cell BK440.out 3).trans rfl
                              have hcz26_4 : wr.cell? ⟨gb440, 4, none⟩ = some (.int .i64 a0_4) := (blk_cell BK440.out 4).trans rfl
                              have hfz26_0 := blk_frozen BK440.out 0
                              have hfz26_1 := blk_frozen BK440.out 1
                              have hfz26_2 := blk_frozen BK440.out 2
                              have hfz26_3 := blk_frozen BK440.out 3
                              have hfz26_4 := blk_frozen BK440.out 4
                              go_wp2_with (first | ((with_reducible refine gate_callee (f := 25) rfl ?_); refine goesL_ (some 49) rfl rfl Try.func25 (by kernel_rfl) rfl #[.string (⟨#[98, 108, 111, 99, 107, 105, 110, 103, 46, 74, 111, 105, 110]⟩ : ByteArray), .int .i64 2] rfl (by (try simp only [List.map_toArray, List.map_cons, List.map_nil]); first | done | rfl | (simp only [List.length_drop, List.length_take]; rfl)) ?_; (with_reducible refine (fault_New.calls (⟨#[98, 108, 111, 99, 107, 105, 110, 103, 46, 74, 111, 105, 110]⟩ : ByteArray) 2 t459 _ A25.out).mono ?_); rintro e w27 ⟨v460, rfl, ho0, hb⟩; refine ⟨_, rfl, ?_⟩; have n0_ := Aside0.mk (Kd.R_below (by (with_reducible repeat (first | apply Kd.R_alloc | apply Kd.R_drewN | apply Kd.R_drew)); exact HO_7.out) hb); have n1_ := Aside0.mk (Kd.R_lower (Kd.R_newM (M := fun k_ => (w.heap.size ≤ k_)) ho0 (below_size (by repeat (first | (with_reducible first | exact HB.out | apply below_alloc | apply pw_below_drewN | apply below_drew1 | refine below_set ?_ GE440.out) | exact HB.out))) (fun k_ h_ => h_)) (below_size (by repeat (first | (with_reducible first | exact HB.out | apply below_alloc | apply pw_below_drewN | apply below_drew1 | refine below_set ?_ GE440.out) | exact HB.out)))); have n2_ := Aside0.mk (blk_below (g := gb440) (o := .cells #[.int .i64 a0_0, .int .i64 a0_1, .int .i64 a0_2, .int .i64 a0_3, .int .i64 a0_4] 36 (0, 0)) (by (with_reducible repeat (first | refine blk_drewN ?_ _ | refine blk_drew ?_ | refine blk_alloc ?_ _)); exact BK440.out) hb); have n3_ := Aside0.mk (below_step (by repeat (first | (with_reducible first | exact HB.out | apply below_alloc | apply pw_below_drewN | apply below_drew1 | refine below_set ?_ GE440.out) | exact HB.out)) hb); clear HO_7; clear BK440; clear HB; have HO_7 := n0_; have HO461 := n1_; have BK440 := n2_; have HB := n3_; clear n0_ n1_ n2_ n3_; (try clear hb); (try clear hb2); (try clear hk); (try clear hi); (try clear ho0)))
                              go_ret2
                              exact ⟨_, _, by first | rfl | (simp [errW_none, errW_some] <;> rfl) | (simp [*, errW_none, errW_some] <;> rfl), Kd.V_nil _ _ _ _ _, by (with_reducible repeat (first | apply Kd.R_alloc | apply Kd.R_drewN | apply Kd.R_drew)); exact Kd.R_mono HO461.out (fun _ hk => hk.1), by repeat (first | (with_reducible first | exact HB.out | apply below_alloc | apply pw_below_drewN | apply below_drew1 | refine below_set ?_ GE440.out) | exact HB.out)⟩
                          · rw [if_neg c20] at H
                            exact absurd H (by simp)
                        · rw [if_neg c19] at H
                          exact absurd H (by simp)
                      · rw [if_neg c18] at H
                        have c18b0 : decide (x40_2 < ((rd_Lssu8 l1 x26_1).length : Int)) = false := decide_eq_false c18
                        clear c18
                        have H' := Aside0.mk H
                        clear H
                        go_wp2
                        go_roundg k2
                        case measure => have := HK1.out; have := HK2.out; omega
                        case rel => exact ⟨(x7_2), (wrap64 (x26_1 + 1)), (by first | rfl | (simp; done) | (simp [*]; done)), H', ⟨by have := HK1.out; have := HK2.out; omega⟩, ⟨by (with_reducible repeat (first | apply Kd.R_alloc | apply Kd.R_drewN | apply Kd.R_drew)); exact HO_7.out⟩, ⟨by (with_reducible repeat (first | refine blk_drewN ?_ _ | refine blk_drew ?_ | refine blk_alloc ?_ _)); exact BK440.out⟩, ⟨by repeat (first | (with_reducible first | exact HB.out | apply below_alloc | apply pw_below_drewN | apply below_drew1 | refine below_set ?_ GE440.out) | exact HB.out)⟩⟩
                · rw [if_neg c15] at H
                  have c15b0 : (((rd_Lssu8 l1 x26_1).length : Int) == t451) = false := beq_eq_false_iff_ne.mpr c15
                  have c15b1 : (((rd_Lssu8 l1 x26_1).length : Int) != t451) = true := bne_iff_ne.mpr c15
                  replace H := Option.bind_eq_some_iff.mp H
                  obtain ⟨t452, A280, H⟩ := H
                  replace H : (some (([] : List Int), t452)) = some (r1, r2) := H
                  have A28 := Aside0.mk A280
                  clear A280
                  simp only [Option.some.injEq, Prod.mk.injEq] at H
                  obtain ⟨rfl, rfl⟩ := H
                  have p450 : 0 ≤ (x26_1 : Int) := of_decide_eq_true (by first | (with_reducible assumption) | assumption)
                  have q450 : x26_1 < (l1.length : Int) := of_decide_eq_true (by first | (with_reducible assumption) | assumption)
                  obtain ⟨ad450, A450_0, c450_0, e450, hx450_0, hl450_0, hi450_0⟩ := at_Lssu8 HR1.out x26_1 p450 q450
                  cases e450
                  (first | replace hx450_0 := (HB.out.cell (World.block_lt_of_cell? w _ hx450_0)).trans hx450_0 | skip)
                  have HR450_0 := Aside0.mk hi450_0
                  have HC450_0 := Aside0.mk hl450_0
                  clear hi450_0 hl450_0
                  replace p450 := eq_true p450
                  replace q450 := eq_true q450
                  have hcz29_0 : wr.cell? ⟨gb440, 0, none⟩ = some (.int .i64 a0_0) := (blk_cell BK440.out 0).trans rfl
                  have hcz29_1 : wr.cell? ⟨gb440, 1, none⟩ = some (.int .i64 a0_1) := (blk_cell BK440.out 1).trans rfl
                  have hcz29_2 : wr.cell? ⟨gb440, 2, none⟩ = some (.int .i64 a0_2) := (blk_cell BK440.out 2).trans rfl
                  have hcz29_3 : wr.cell? ⟨gb440, 3, none⟩ = some (.int .i64 a0_3) := (blk_cell BK440.out 3).trans rfl
                  have hcz29_4 : wr.cell? ⟨gb440, 4, none⟩ = some (.int .i64 a0_4) := (blk_cell BK440.out 4).trans rfl
                  have hfz29_0 := blk_frozen BK440.out 0
                  have hfz29_1 := blk_frozen BK440.out 1
                  have hfz29_2 := blk_frozen BK440.out 2
                  have hfz29_3 := blk_frozen BK440.out 3
                  have hfz29_4 := blk_frozen BK440.out 4
                  go_wp2_with (first | ((with_reducible refine gate_callee (f := 31) rfl ?_); refine goesL_ (some 35) rfl rfl Try.func31 (by kernel_rfl) rfl #[.agg #[.int .i64 a0_0, .int .i64 a0_1, .int .i64 a0_2, .int .i64 a0_3, .int .i64 a0_4], .int .i64 x26_1] rfl (by (try simp only [List.map_toArray, List.map_cons, List.map_nil]); first | done | rfl | (simp only [List.length_drop, List.length_take]; rfl)) ?_; (with_reducible refine (blocking_source.calls a0_0 a0_1 a0_2 a0_3 a0_4 x26_1 t451 _ A14.out).mono ?_); rintro e w30 ⟨rfl, hb⟩; refine ⟨_, rfl, ?_⟩; have n0_ := Aside0.mk (Kd.R_below (by (with_reducible repeat (first | apply Kd.R_alloc | apply Kd.R_drewN | apply Kd.R_drew)); exact HO_7.out) hb); have n1_ := Aside0.mk (blk_below (g := gb440) (o := .cells #[.int .i64 a0_0, .int .i64 a0_1, .int .i64 a0_2, .int .i64 a0_3, .int .i64 a0_4] 36 (0, 0)) (by (with_reducible repeat (first | refine blk_drewN ?_ _ | refine blk_drew ?_ | refine blk_alloc ?_ _)); exact BK440.out) hb); have n2_ := Aside0.mk (below_step (by repeat (first | (with_reducible first | exact HB.out | apply below_alloc | apply pw_below_drewN | apply below_drew1 | refine below_set ?_ GE440.out) | exact HB.out)) hb); clear HO_7; clear BK440; clear HB; have HO_7 := n0_; have BK440 := n1_; have HB := n2_; clear n0_ n1_ n2_; (try clear hb); (try clear hb2); (try clear hk); (try clear hi)) | ((with_reducible refine gate_callee (f := 25) rfl ?_); refine goesL_ (some 37) rfl rfl Try.func25 (by kernel_rfl) rfl #[.string (⟨#[98, 108, 111, 99, 107, 105, 110, 103, 46, 74, 111, 105, 110]⟩ : ByteArray), .int .i64 2] rfl (by (try simp only [List.map_toArray, List.map_cons, List.map_nil]); first | done | rfl | (simp only [List.length_drop, List.length_take]; rfl)) ?_; (with_reducible refine (fault_New.calls (⟨#[98, 108, 111, 99, 107, 105, 110, 103, 46, 74, 111, 105, 110]⟩ : ByteArray) 2 t452 _ A28.out).mono ?_); rintro e w31 ⟨v453, rfl, ho0, hb⟩; refine ⟨_, rfl, ?_⟩; have n0_ := Aside0.mk (Kd.R_below (by (with_reducible repeat (first | apply Kd.R_alloc | apply Kd.R_drewN | apply Kd.R_drew)); exact HO_7.out) hb); have n1_ := Aside0.mk (Kd.R_lower (Kd.R_newM (M := fun k_ => (w.heap.size ≤ k_)) ho0 (below_size (by repeat (first | (with_reducible first | exact HB.out | apply below_alloc | apply pw_below_drewN | apply below_drew1 | refine below_set ?_ GE440.out) | exact HB.out))) (fun k_ h_ => h_)) (below_size (by repeat (first | (with_reducible first | exact HB.out | apply below_alloc | apply pw_below_drewN | apply below_drew1 | refine below_set ?_ GE440.out) | exact HB.out)))); have n2_ := Aside0.mk (blk_below (g := gb440) (o := .cells #[.int .i64 a0_0, .int .i64 a0_1, .int .i64 a0_2, .int .i64 a0_3, .int .i64 a0_4] 36 (0, 0)) (by (with_reducible repeat (first | refine blk_drewN ?_ _ | refine blk_drew ?_ | refine blk_alloc ?_ _)); exact BK440.out) hb); have n3_ := Aside0.mk (below_step (by repeat (first | (with_reducible first | exact HB.out | apply below_alloc | apply pw_below_drewN | apply below_drew1 | refine below_set ?_ GE440.out) | exact HB.out)) hb); clear HO_7; clear BK440; clear HB; have HO_7 := n0_; have HO454 := n1_; have BK440 := n2_; have HB := n3_; clear n0_ n1_ n2_ n3_; (try clear hb); (try clear hb2); (try clear hk); (try clear hi); (try clear ho0)))
                  go_ret2
                  exact ⟨_, _, by first | rfl | (simp [errW_none, errW_some] <;> rfl) | (simp [*, errW_none, errW_some] <;> rfl), Kd.V_nil _ _ _ _ _, by (with_reducible repeat (first | apply Kd.R_alloc | apply Kd.R_drewN | apply Kd.R_drew)); exact Kd.R_mono HO454.out (fun _ hk => hk.1), by repeat (first | (with_reducible first | exact HB.out | apply below_alloc | apply pw_below_drewN | apply below_drew1 | refine below_set ?_ GE440.out) | exact HB.out)⟩
              · rw [if_neg c13] at H
                exact absurd H (by simp)
            · rw [if_neg c12] at H
              exact absurd H (by simp)
          · rw [if_neg c11] at H
            have c11b0 : decide (x26_1 < (l1.length : Int)) = false := decide_eq_false c11
            clear c11
            by_cases c32 : 0 ≤ a0_0
            · rw [if_pos c32] at H
              have c32b0 := eq_true c32
              have c32b1 : decide (0 ≤ a0_0) = true := decide_eq_true c32
              clear c32
              by_cases c33 : a0_0 ≤ (x7_1.length : Int)
              · rw [if_pos c33] at H
                have c33b0 := eq_true c33
                have c33b1 : decide (a0_0 ≤ (x7_1.length : Int)) = true := decide_eq_true c33
                clear c33
                obtain ⟨y462, hy462⟩ : ∃ y_ : List Int, y_ = (x7_1.drop (a0_0 : Int).toNat) := ⟨_, rfl⟩
                replace H : ((symbol_Zero.f k1 y462).bind fun t467 => (if t467 = true then (some ((x7_1.take (a0_0 : Int).toNat), ([] : List FE))) else ((fault_New.f (⟨#[98, 108, 111, 99, 107, 105, 110, 103, 46, 74, 111, 105, 110]⟩ : ByteArray) 2).bind fun t472 => (some (([] : List Int), t472))))) = some (r1, r2) := by first | (rw [hy462]; with_reducible exact H) | (have H2_ := (Option.bind_some _ _).symm.trans H; rw [hy462]; with_reducible exact H2_) | (have H2_ := (Option.bind_some _ _).symm.trans H; with_reducible exact H2_) | with_reducible exact H | (rw [hy462]; exact H) | exact H
                have Ny462 := Aside0.mk hy462
                clear hy462
                replace H := Option.bind_eq_some_iff.mp H
                obtain ⟨t467, A340, H⟩ := H
                replace H : (if t467 = true then (some ((x7_1.take (a0_0 : Int).toNat), ([] : List FE))) else ((fault_New.f (⟨#[98, 108, 111, 99, 107, 105, 110, 103, 46, 74, 111, 105, 110]⟩ : ByteArray) 2).bind fun t472 => (some (([] : List Int), t472)))) = some (r1, r2) := H
                have A34 := Aside0.mk A340
                clear A340
                by_cases c35 : t467 = true
                · subst c35
                  have H1 : (some ((x7_1.take (a0_0 : Int).toNat), ([] : List FE))) = some (r1, r2) := by rw [if_pos rfl] at H; exact H
                  clear H
                  have H := H1
                  clear H1
                  have c36b0 := eq_true (of_decide_eq_true (by first | (with_reducible assumption) | assumption) : 0 ≤ a0_0)
                  have c37b0 := eq_true (of_decide_eq_true (by first | (with_reducible assumption) | assumption) : a0_0 ≤ (x7_1.length : Int))
                  obtain ⟨y468, hy468⟩ : ∃ y_ : List Int, y_ = (x7_1.take (a0_0 : Int).toNat) := ⟨_, rfl⟩
                  replace H : (some (y468, ([] : List FE))) = some (r1, r2) := by first | (rw [hy468]; with_reducible exact H) | (have H2_ := (Option.bind_some _ _).symm.trans H; rw [hy468]; with_reducible exact H2_) | (have H2_ := (Option.bind_some _ _).symm.trans H; with_reducible exact H2_) | with_reducible exact H | (rw [hy468]; exact H) | exact H
                  have Ny468 := Aside0.mk hy468
                  clear hy468
                  simp only [Option.some.injEq, Prod.mk.injEq] at H
                  obtain ⟨rfl, rfl⟩ := H
                  have hcz38_0 : wr.cell? ⟨gb440, 0, none⟩ = some (.int .i64 a0_0) := (blk_cell BK440.out 0).trans rfl
                  have hcz38_1 : wr.cell? ⟨gb440, 1, none⟩ = some (.int .i64 a0_1) := (blk_cell BK440.out 1).trans rfl
                  have hcz38_2 : wr.cell? ⟨gb440, 2, none⟩ = some (.int .i64 a0_2) := (blk_cell BK440.out 2).trans rfl
                  have hcz38_3 : wr.cell? ⟨gb440, 3, none⟩ = some (.int .i64 a0_3) := (blk_cell BK440.out 3).trans rfl
                  have hcz38_4 : wr.cell? ⟨gb440, 4, none⟩ = some (.int .i64 a0_4) := (blk_cell BK440.out 4).trans rfl
                  have hfz38_0 := blk_frozen BK440.out 0
                  have hfz38_1 := blk_frozen BK440.out 1
                  have hfz38_2 := blk_frozen BK440.out 2
                  have hfz38_3 := blk_frozen BK440.out 3
                  have hfz38_4 := blk_frozen BK440.out 4
                  obtain ⟨Ao40, co40, eo40⟩ := Kd.R_slice HO_7.out
                  subst eo40
                  have q39 : (a0_0 : Int) ≤ ((x7_1.length : Int) : Int) := of_decide_eq_true (by first | (with_reducible assumption) | assumption)
                  obtain ⟨i039, hi039, _, hsz39, _⟩ := info_parts info5
                  have hroom39 : x7_1.length ≤ co40 := (Kd.R_reads' HO_7.out).2.1
                  have hC39 : Kd.F (Kd.int .u8) _ _ Ao40 x7_1.length x7_1 := (Kd.V_at (base := w.heap.size) (Kd.R_V (Kd.R_types (HO_7.out) BK440.out (by decide)))).2.2
                  have q039 : (0 : Int) ≤ (a0_0 : Int) := of_decide_eq_true (by first | (with_reducible assumption) | assumption)
                  have hcut39 := cut_from (P := Try.prog) 23 5 .i64 Try.underlying23 hi039 1 hsz39 Ao40 x7_1.length co40 a0_0 q039 q39
                  have hr39 := Kd.F_cut (m := (a0_0 : Int).toNat) (c := co40) hC39 (by omega) hroom39
                  obtain ⟨A39, hA39⟩ : ∃ A1, A1 = (if co40 = (a0_0 : Int).toNat then Ao40 else (Ao40 : Option Addr).map (·.add ((a0_0 : Int).toNat * 1))) := ⟨_, rfl⟩
                  obtain ⟨c39, hc39⟩ : ∃ c1, c1 = co40 - (a0_0 : Int).toNat := ⟨_, rfl⟩
                  have hy39 : y462.length = x7_1.length - (a0_0 : Int).toNat := (by rw [Ny462.out, List.length_drop] <;> omega)
                  rw [show (x7_1).drop (a0_0 : Int).toNat = y462 from Ny462.out.symm] at hr39
                  replace hr39 : Kd.F (Kd.int .u8) _ _ A39 y462.length y462 := (by rw [hA39]; exact hr39)
                  rw [← hy39, ← hA39, ← hc39] at hcut39
                  have HO466 := Aside0.mk (show Kd.V (Kd.int .u8) 5 _ w.heap.size _ (.slice A39 y462.length c39) y462 from Kd.V_mk (by rw [hy39, hc39]; exact Nat.sub_le_sub_right hroom39 _) hr39)
                  have HC466 := Aside0.mk (show y462.length ≤ c39 from by rw [hy39, hc39]; exact Nat.sub_le_sub_right hroom39 _)
                  clear hr39 hC39 hroom39 hi039 hsz39 hc39
                  have KY39 := Aside0.mk hy39
                  have KA39 := Aside0.mk hA39
                  clear hy39 hA39
                  replace q39 := eq_true q39
                  go_wp2_with (first | ((with_reducible refine gate_callee (f := 10) rfl ?_); refine goesL_ (some 59) rfl rfl Try.func10 (by kernel_rfl) rfl #[.slice A39 y462.length c39] rfl (by (try simp only [List.map_toArray, List.map_cons, List.map_nil]); first | done | rfl | (simp only [List.length_drop, List.length_take]; rfl)) ?_; (with_reducible refine (symbol_Zero.calls k1 _ _ y462 true _ ?side1 ?side2 A34.out).mono ?_); (case side1 => repeat (first | exact (Kd.V_reads' HO466.out).2.2 | (with_reducible refine Kd.C_alloc ?_ _) | (with_reducible refine Kd.C_drewN ?_ _) | (with_reducible refine Kd.C_drew ?_))); (case side2 => exact (Kd.V_reads' HO466.out).2.1); rintro e w' ⟨rfl, ⟨nd, rfl⟩⟩; refine ⟨_, rfl, ?_⟩; have q41 : (a0_0 : Int) ≤ ((x7_1.length : Int) : Int) := of_decide_eq_true (by first | (with_reducible assumption) | assumption); obtain ⟨i041, hi041, _, hsz41, _⟩ := info_parts info5; have hroom41 : x7_1.length ≤ co40 := (Kd.R_reads' HO_7.out).2.1; have hC41 : Kd.F (Kd.int .u8) _ _ Ao40 x7_1.length x7_1 := (Kd.V_at (base := w.heap.size) (Kd.R_V (Kd.R_types (HO_7.out) BK440.out (by decide)))).2.2; have hcut41 : ∀ W_ : World, (Instr.slice 23 (.slice Ao40 x7_1.length co40) none (some (.int .i64 a0_0)) (some (.int .i64 a0_0))).run Try.prog W_ = .ok (.slice Ao40 (a0_0 : Int).toNat (a0_0 : Int).toNat) W_ := (by intro W_; have hel_ : Try.prog.elem 23 = 5 := (by simp [Program.elem, Try.underlying23]); have hu_ : Try.prog.underlying 23 = some (.slice (Try.prog.elem 23)) := (by rw [hel_]; exact Try.underlying23); have ha_ : ((Ao40).map fun x => x.add 0) = Ao40 := (by cases (Ao40) <;> simp [Addr.add]); rw [run_slice_hm W_ 23 Ao40 x7_1.length co40 hu_ .i64 .i64 a0_0 a0_0 (of_decide_eq_true (by first | (with_reducible assumption) | assumption)) (Int.le_refl _) (by have := q41; have := hroom41; omega), hel_]; simp [sizeOf, typeInfo, hi041, sliced, Result.andThen, ha_]); have hr41 := Kd.F_take (m := (a0_0 : Int).toNat) hC41 (by omega); have hy41 : y468.length = (a0_0 : Int).toNat := (by rw [Ny468.out, List.length_take]; omega); rw [← Ny468.out] at hr41; rw [← hy41] at hcut41; have HO471 := Aside0.mk (show Kd.V (Kd.int .u8) 5 _ w.heap.size _ (.slice Ao40 y468.length y468.length) y468 from Kd.V_mk (Nat.le_refl _) hr41); have HC471 := Aside0.mk (show y468.length ≤ y468.length from Nat.le_refl _); clear hr41 hC41 hroom41 hi041 hsz41; have KY41 := Aside0.mk hy41; clear hy41; replace q41 := eq_true q41))
                  go_ret2
                  exact ⟨_, (.slice none 0 0), by first | rfl | (simp [errW_none, errW_some] <;> rfl) | (simp [*, errW_none, errW_some] <;> rfl), by (with_reducible repeat (first | apply Kd.V_alloc | apply Kd.V_drewN | apply Kd.V_drew)); exact Kd.V_mono HO471.out (fun _ hk => ⟨hk.1, (by simp [Value.ownBlock])⟩), by first | exact Kd.R_nil _ _ _ _ _ | exact Kd.N_nil _ _ _ _ _ | exact Kd.V_nil _ _ _ _ _ | exact Kd.Q_nil _ _ _ _ _ | exact Kd.S_nil _ _ _ _ _, by repeat (first | (with_reducible first | exact HB.out | apply below_alloc | apply pw_below_drewN | apply below_drew1 | refine below_set ?_ GE440.out) | exact HB.out)⟩
                · replace c35 := Bool.eq_false_iff.mpr c35
                  subst c35
                  have H1 : ((fault_New.f (⟨#[98, 108, 111, 99, 107, 105, 110, 103, 46, 74, 111, 105, 110]⟩ : ByteArray) 2).bind fun t472 => (some (([] : List Int), t472))) = some (r1, r2) := by rw [if_neg (show ¬ (false = true) by decide)] at H; exact H
                  clear H
                  have H := H1
                  clear H1
                  replace H := Option.bind_eq_some_iff.mp H
                  obtain ⟨t472, A420, H⟩ := H
                  replace H : (some (([] : List Int), t472)) = some (r1, r2) := H
                  have A42 := Aside0.mk A420
                  clear A420
                  simp only [Option.some.injEq, Prod.mk.injEq] at H
                  obtain ⟨rfl, rfl⟩ := H
                  have hcz43_0 : wr.cell? ⟨gb440, 0, none⟩ = some (.int .i64 a0_0) := (blk_cell BK440.out 0).trans rfl
                  have hcz43_1 : wr.cell? ⟨gb440, 1, none⟩ = some (.int .i64 a0_1) := (blk_cell BK440.out 1).trans rfl
                  have hcz43_2 : wr.cell? ⟨gb440, 2, none⟩ = some (.int .i64 a0_2) := (blk_cell BK440.out 2).trans rfl
                  have hcz43_3 : wr.cell? ⟨gb440, 3, none⟩ = some (.int .i64 a0_3) := (blk_cell BK440.out 3).trans rfl
                  have hcz43_4 : wr.cell? ⟨gb440, 4, none⟩ = some (.int .i64 a0_4) := (blk_cell BK440.out 4).trans rfl
                  have hfz43_0 := blk_frozen BK440.out 0
                  have hfz43_1 := blk_frozen BK440.out 1
                  have hfz43_2 := blk_frozen BK440.out 2
                  have hfz43_3 := blk_frozen BK440.out 3
                  have hfz43_4 := blk_frozen BK440.out 4
                  obtain ⟨Ao45, co45, eo45⟩ := Kd.R_slice HO_7.out
                  subst eo45
                  have q44 : (a0_0 : Int) ≤ ((x7_1.length : Int) : Int) := of_decide_eq_true (by first | (with_reducible assumption) | assumption)
                  obtain ⟨i044, hi044, _, hsz44, _⟩ := info_parts info5
                  have hroom44 : x7_1.length ≤ co45 := (Kd.R_reads' HO_7.out).2.1
                  have hC44 : Kd.F (Kd.int .u8) _ _ Ao45 x7_1.length x7_1 := (Kd.V_at (base := w.heap.size) (Kd.R_V (Kd.R_types (HO_7.out) BK440.out (by decide)))).2.2
                  have q044 : (0 : Int) ≤ (a0_0 : Int) := of_decide_eq_true (by first | (with_reducible assumption) | assumption)
                  have hcut44 := cut_from (P := Try.prog) 23 5 .i64 Try.underlying23 hi044 1 hsz44 Ao45 x7_1.length co45 a0_0 q044 q44
                  have hr44 := Kd.F_cut (m := (a0_0 : Int).toNat) (c := co45) hC44 (by omega) hroom44
                  obtain ⟨A44, hA44⟩ : ∃ A1, A1 = (if co45 = (a0_0 : Int).toNat then Ao45 else (Ao45 : Option Addr).map (·.add ((a0_0 : Int).toNat * 1))) := ⟨_, rfl⟩
                  obtain ⟨c44, hc44⟩ : ∃ c1, c1 = co45 - (a0_0 : Int).toNat := ⟨_, rfl⟩
                  have hy44 : y462.length = x7_1.length - (a0_0 : Int).toNat := (by rw [Ny462.out, List.length_drop] <;> omega)
                  rw [show (x7_1).drop (a0_0 : Int).toNat = y462 from Ny462.out.symm] at hr44
                  replace hr44 : Kd.F (Kd.int .u8) _ _ A44 y462.length y462 := (by rw [hA44]; exact hr44)
                  rw [← hy44, ← hA44, ← hc44] at hcut44
                  have HO466 := Aside0.mk (show Kd.V (Kd.int .u8) 5 _ w.heap.size _ (.slice A44 y462.length c44) y462 from Kd.V_mk (by rw [hy44, hc44]; exact Nat.sub_le_sub_right hroom44 _) hr44)
                  have HC466 := Aside0.mk (show y462.length ≤ c44 from by rw [hy44, hc44]; exact Nat.sub_le_sub_right hroom44 _)
                  clear hr44 hC44 hroom44 hi044 hsz44 hc44
                  have KY44 := Aside0.mk hy44
                  have KA44 := Aside0.mk hA44
                  clear hy44 hA44
                  replace q44 := eq_true q44
                  go_wp2_with (first | ((with_reducible refine gate_callee (f := 10) rfl ?_); refine goesL_ (some 59) rfl rfl Try.func10 (by kernel_rfl) rfl #[.slice A44 y462.length c44] rfl (by (try simp only [List.map_toArray, List.map_cons, List.map_nil]); first | done | rfl | (simp only [List.length_drop, List.length_take]; rfl)) ?_; (with_reducible refine (symbol_Zero.calls k1 _ _ y462 false _ ?side1 ?side2 A34.out).mono ?_); (case side1 => repeat (first | exact (Kd.V_reads' HO466.out).2.2 | (with_reducible refine Kd.C_alloc ?_ _) | (with_reducible refine Kd.C_drewN ?_ _) | (with_reducible refine Kd.C_drew ?_))); (case side2 => exact (Kd.V_reads' HO466.out).2.1); rintro e w' ⟨rfl, ⟨nd, rfl⟩⟩; refine ⟨_, rfl, ?_⟩) | ((with_reducible refine gate_callee (f := 25) rfl ?_); refine goesL_ (some 61) rfl rfl Try.func25 (by kernel_rfl) rfl #[.string (⟨#[98, 108, 111, 99, 107, 105, 110, 103, 46, 74, 111, 105, 110]⟩ : ByteArray), .int .i64 2] rfl (by (try simp only [List.map_toArray, List.map_cons, List.map_nil]); first | done | rfl | (simp only [List.length_drop, List.length_take]; rfl)) ?_; (with_reducible refine (fault_New.calls (⟨#[98, 108, 111, 99, 107, 105, 110, 103, 46, 74, 111, 105, 110]⟩ : ByteArray) 2 t472 _ A42.out).mono ?_); rintro e w46 ⟨v473, rfl, ho0, hb⟩; refine ⟨_, rfl, ?_⟩; have n0_ := Aside0.mk (Kd.R_below (by (with_reducible repeat (first | apply Kd.R_alloc | apply Kd.R_drewN | apply Kd.R_drew)); exact HO_7.out) hb); have n1_ := Aside0.mk (Kd.V_below (by (with_reducible repeat (first | apply Kd.V_alloc | apply Kd.V_drewN | apply Kd.V_drew)); exact HO466.out) hb); have n2_ := Aside0.mk (Kd.R_lower (Kd.R_newM (M := fun k_ => (w.heap.size ≤ k_)) ho0 (below_size (by repeat (first | (with_reducible first | exact HB.out | apply below_alloc | apply pw_below_drewN | apply below_drew1 | refine below_set ?_ GE440.out) | exact HB.out))) (fun k_ h_ => h_)) (below_size (by repeat (first | (with_reducible first | exact HB.out | apply below_alloc | apply pw_below_drewN | apply below_drew1 | refine below_set ?_ GE440.out) | exact HB.out)))); have n3_ := Aside0.mk (blk_below (g := gb440) (o := .cells #[.int .i64 a0_0, .int .i64 a0_1, .int .i64 a0_2, .int .i64 a0_3, .int .i64 a0_4] 36 (0, 0)) (by (with_reducible repeat (first | refine blk_drewN ?_ _ | refine blk_drew ?_ | refine blk_alloc ?_ _)); exact BK440.out) hb); have n4_ := Aside0.mk (below_step (by repeat (first | (with_reducible first | exact HB.out | apply below_alloc | apply pw_below_drewN | apply below_drew1 | refine below_set ?_ GE440.out) | exact HB.out)) hb); clear HO_7; clear HO466; clear BK440; clear HB; have HO_7 := n0_; have HO466 := n1_; have HO474 := n2_; have BK440 := n3_; have HB := n4_; clear n0_ n1_ n2_ n3_ n4_; (try clear hb); (try clear hb2); (try clear hk); (try clear hi); (try clear ho0)))
                  go_ret2
                  exact ⟨_, _, by first | rfl | (simp [errW_none, errW_some] <;> rfl) | (simp [*, errW_none, errW_some] <;> rfl), Kd.V_nil _ _ _ _ _, by (with_reducible repeat (first | apply Kd.R_alloc | apply Kd.R_drewN | apply Kd.R_drew)); exact Kd.R_mono HO474.out (fun _ hk => hk.1), by repeat (first | (with_reducible first | exact HB.out | apply below_alloc | apply pw_below_drewN | apply below_drew1 | refine below_set ?_ GE440.out) | exact HB.out)⟩
              · rw [if_neg c33] at H
                exact absurd H (by simp)
            · rw [if_neg c32] at H
              exact absurd H (by simp)
    · rw [if_neg c5] at H
      have c5b0 : ((l1.length : Int) == a0_2) = false := beq_eq_false_iff_ne.mpr c5
      have c5b1 : ((l1.length : Int) != a0_2) = true := bne_iff_ne.mpr c5
      replace H := Option.bind_eq_some_iff.mp H
      obtain ⟨t447, A470, H⟩ := H
      replace H : (some (([] : List Int), t447)) = some (r1, r2) := H
      have A47 := Aside0.mk A470
      clear A470
      simp only [Option.some.injEq, Prod.mk.injEq] at H
      obtain ⟨rfl, rfl⟩ := H
      go_enter Try.func23, Try.ntmps23
      go_wp2_with (first | ((with_reducible refine gate_dst (N := 2) rfl ?_); refine box_event ?hg (N := 2) ?hd (cs := #[.int .i64 a0_0, .int .i64 a0_1, .int .i64 a0_2, .int .i64 a0_3, .int .i64 a0_4]) (t := 36) ?hr ?_; (case hd => rfl); (case hg => rfl); (case hr => first | (go_simp; done) | (go_simp; rfl)); intro gb440 hg w48 hbox hb; have n0_ := Aside0.mk (below_step (by repeat (first | (with_reducible first | exact HB.out | apply below_alloc | apply pw_below_drewN | apply below_drew1) | exact HB.out)) hb); have n1_ := Aside0.mk (hbox); have n2_ := Aside0.mk ((by rw [hg]; exact (below_size (by repeat (first | (with_reducible first | exact HB.out | apply below_alloc | apply pw_below_drewN | apply below_drew1) | exact HB.out))) : w.heap.size ≤ gb440)); have n3_ := Aside0.mk ((by rw [hg]; exact (below_size (by repeat (first | (with_reducible first | exact HB.out | apply below_alloc | apply pw_below_drewN | apply below_drew1) | exact HB.out))) : w.heap.size ≤ gb440)); clear HB; have HB := n0_; have BK440 := n1_; have GW440 := n2_; have GE440 := n3_; clear n0_ n1_ n2_ n3_; clear hb hbox hg; have hcz49_0 : w48.cell? ⟨gb440, 0, none⟩ = some (.int .i64 a0_0) := (blk_cell BK440.out 0).trans rfl; have hcz49_1 : w48.cell? ⟨gb440, 1, none⟩ = some (.int .i64 a0_1) := (blk_cell BK440.out 1).trans rfl; have hcz49_2 : w48.cell? ⟨gb440, 2, none⟩ = some (.int .i64 a0_2) := (blk_cell BK440.out 2).trans rfl; have hcz49_3 : w48.cell? ⟨gb440, 3, none⟩ = some (.int .i64 a0_3) := (blk_cell BK440.out 3).trans rfl; have hcz49_4 : w48.cell? ⟨gb440, 4, none⟩ = some (.int .i64 a0_4) := (blk_cell BK440.out 4).trans rfl; have hfz49_0 := blk_frozen BK440.out 0; have hfz49_1 := blk_frozen BK440.out 1; have hfz49_2 := blk_frozen BK440.out 2; have hfz49_3 := blk_frozen BK440.out 3; have hfz49_4 := blk_frozen BK440.out 4) | ((with_reducible refine gate_callee (f := 15) rfl ?_); refine goesL_ (some 13) rfl rfl Try.func15 (by kernel_rfl) rfl #[.agg #[.int .i64 a0_0, .int .i64 a0_1, .int .i64 a0_2, .int .i64 a0_3, .int .i64 a0_4]] rfl (by (try simp only [List.map_toArray, List.map_cons, List.map_nil]); first | done | rfl | (simp only [List.length_drop, List.length_take]; rfl)) ?_; (with_reducible refine (blocking_Check.calls k a0_0 a0_1 a0_2 a0_3 a0_4 t441 _ A3.out).mono ?_); rintro e w50 ⟨v442, rfl, ho0, hb⟩; refine ⟨_, rfl, ?_⟩; have n0_ := Aside0.mk (Kd.R_lower (Kd.R_newM (M := fun k_ => (w.heap.size ≤ k_)) ho0 (below_size (by repeat (first | (with_reducible first | exact HB.out | apply below_alloc | apply pw_below_drewN | apply below_drew1 | refine below_set ?_ GE440.out) | exact HB.out))) (fun k_ h_ => h_)) (below_size (by repeat (first | (with_reducible first | exact HB.out | apply below_alloc | apply pw_below_drewN | apply below_drew1 | refine below_set ?_ GE440.out) | exact HB.out)))); have n1_ := Aside0.mk (blk_below (g := gb440) (o := .cells #[.int .i64 a0_0, .int .i64 a0_1, .int .i64 a0_2, .int .i64 a0_3, .int .i64 a0_4] 36 (0, 0)) (by (with_reducible repeat (first | refine blk_drewN ?_ _ | refine blk_drew ?_ | refine blk_alloc ?_ _)); exact BK440.out) hb); have n2_ := Aside0.mk (below_step (by repeat (first | (with_reducible first | exact HB.out | apply below_alloc | apply pw_below_drewN | apply below_drew1 | refine below_set ?_ GE440.out) | exact HB.out)) hb); clear BK440; clear HB; have HO443 := n0_; have BK440 := n1_; have HB := n2_; clear n0_ n1_ n2_; (try clear hb); (try clear hb2); (try clear hk); (try clear hi); (try clear ho0); obtain ⟨Ao51, co51, eo51⟩ := Kd.R_slice HO443.out; subst eo51; have hcz52_0 : w50.cell? ⟨gb440, 0, none⟩ = some (.int .i64 a0_0) := (blk_cell BK440.out 0).trans rfl; have hcz52_1 : w50.cell? ⟨gb440, 1, none⟩ = some (.int .i64 a0_1) := (blk_cell BK440.out 1).trans rfl; have hcz52_2 : w50.cell? ⟨gb440, 2, none⟩ = some (.int .i64 a0_2) := (blk_cell BK440.out 2).trans rfl; have hcz52_3 : w50.cell? ⟨gb440, 3, none⟩ = some (.int .i64 a0_3) := (blk_cell BK440.out 3).trans rfl; have hcz52_4 : w50.cell? ⟨gb440, 4, none⟩ = some (.int .i64 a0_4) := (blk_cell BK440.out 4).trans rfl; have hfz52_0 := blk_frozen BK440.out 0; have hfz52_1 := blk_frozen BK440.out 1; have hfz52_2 := blk_frozen BK440.out 2; have hfz52_3 := blk_frozen BK440.out 3; have hfz52_4 := blk_frozen BK440.out 4) | ((with_reducible refine gate_callee (f := 25) rfl ?_); refine goesL_ (some 23) rfl rfl Try.func25 (by kernel_rfl) rfl #[.string (⟨#[98, 108, 111, 99, 107, 105, 110, 103, 46, 74, 111, 105, 110]⟩ : ByteArray), .int .i64 2] rfl (by (try simp only [List.map_toArray, List.map_cons, List.map_nil]); first | done | rfl | (simp only [List.length_drop, List.length_take]; rfl)) ?_; (with_reducible refine (fault_New.calls (⟨#[98, 108, 111, 99, 107, 105, 110, 103, 46, 74, 111, 105, 110]⟩ : ByteArray) 2 t447 _ A47.out).mono ?_); rintro e w53 ⟨v448, rfl, ho0, hb⟩; refine ⟨_, rfl, ?_⟩; have n0_ := Aside0.mk (Kd.R_below (by (with_reducible repeat (first | apply Kd.R_alloc | apply Kd.R_drewN | apply Kd.R_drew)); exact HO443.out) hb); have n1_ := Aside0.mk (Kd.R_lower (Kd.R_newM (M := fun k_ => (w.heap.size ≤ k_)) ho0 (below_size (by repeat (first | (with_reducible first | exact HB.out | apply below_alloc | apply pw_below_drewN | apply below_drew1 | refine below_set ?_ GE440.out) | exact HB.out))) (fun k_ h_ => h_)) (below_size (by repeat (first | (with_reducible first | exact HB.out | apply below_alloc | apply pw_below_drewN | apply below_drew1 | refine below_set ?_ GE440.out) | exact HB.out)))); have n2_ := Aside0.mk (blk_below (g := gb440) (o := .cells #[.int .i64 a0_0, .int .i64 a0_1, .int .i64 a0_2, .int .i64 a0_3, .int .i64 a0_4] 36 (0, 0)) (by (with_reducible repeat (first | refine blk_drewN ?_ _ | refine blk_drew ?_ | refine blk_alloc ?_ _)); exact BK440.out) hb); have n3_ := Aside0.mk (below_step (by repeat (first | (with_reducible first | exact HB.out | apply below_alloc | apply pw_below_drewN | apply below_drew1 | refine below_set ?_ GE440.out) | exact HB.out)) hb); clear HO443; clear BK440; clear HB; have HO443 := n0_; have HO449 := n1_; have BK440 := n2_; have HB := n3_; clear n0_ n1_ n2_ n3_; (try clear hb); (try clear hb2); (try clear hk); (try clear hi); (try clear ho0)))
      go_ret2
      exact ⟨_, _, by first | rfl | (simp [errW_none, errW_some] <;> rfl) | (simp [*, errW_none, errW_some] <;> rfl), Kd.V_nil _ _ _ _ _, by (with_reducible repeat (first | apply Kd.R_alloc | apply Kd.R_drewN | apply Kd.R_drew)); exact Kd.R_mono HO449.out (fun _ hk => hk.1), by repeat (first | (with_reducible first | exact HB.out | apply below_alloc | apply pw_below_drewN | apply below_drew1 | refine below_set ?_ GE440.out) | exact HB.out)⟩
  · rw [if_neg c4] at H
    have c4b0 : ((t441.length : Int) == 0) = false := beq_eq_false_iff_ne.mpr c4
    have c4b1 : ((t441.length : Int) != 0) = true := bne_iff_ne.mpr c4
    have c4b2 : ¬ (t441 = []) := fun h_ => c4 (by rw [h_]; rfl)
    replace H := Option.bind_eq_some_iff.mp H
    obtain ⟨t444, A540, H⟩ := H
    replace H : (some (([] : List Int), t444)) = some (r1, r2) := H
    have A54 := Aside0.mk A540
    clear A540
    simp only [Option.some.injEq, Prod.mk.injEq] at H
    obtain ⟨rfl, rfl⟩ := H
    go_enter Try.func23, Try.ntmps23
    go_wp2_with (first | ((with_reducible refine gate_dst (N := 2) rfl ?_); refine box_event ?hg (N := 2) ?hd (cs := #[.int .i64 a0_0, .int .i64 a0_1, .int .i64 a0_2, .int .i64 a0_3, .int .i64 a0_4]) (t := 36) ?hr ?_; (case hd => rfl); (case hg => rfl); (case hr => first | (go_simp; done) | (go_simp; rfl)); intro gb440 hg w55 hbox hb; have n0_ := Aside0.mk (below_step (by repeat (first | (with_reducible first | exact HB.out | apply below_alloc | apply pw_below_drewN | apply below_drew1) | exact HB.out)) hb); have n1_ := Aside0.mk (hbox); have n2_ := Aside0.mk ((by rw [hg]; exact (below_size (by repeat (first | (with_reducible first | exact HB.out | apply below_alloc | apply pw_below_drewN | apply below_drew1) | exact HB.out))) : w.heap.size ≤ gb440)); have n3_ := Aside0.mk ((by rw [hg]; exact (below_size (by repeat (first | (with_reducible first | exact HB.out | apply below_alloc | apply pw_below_drewN | apply below_drew1) | exact HB.out))) : w.heap.size ≤ gb440)); clear HB; have HB := n0_; have BK440 := n1_; have GW440 := n2_; have GE440 := n3_; clear n0_ n1_ n2_ n3_; clear hb hbox hg; have hcz56_0 : w55.cell? ⟨gb440, 0, none⟩ = some (.int .i64 a0_0) := (blk_cell BK440.out 0).trans rfl; have hcz56_1 : w55.cell? ⟨gb440, 1, none⟩ = some (.int .i64 a0_1) := (blk_cell BK440.out 1).trans rfl; have hcz56_2 : w55.cell? ⟨gb440, 2, none⟩ = some (.int .i64 a0_2) := (blk_cell BK440.out 2).trans rfl; have hcz56_3 : w55.cell? ⟨gb440, 3, none⟩ = some (.int .i64 a0_3) := (blk_cell BK440.out 3).trans rfl; have hcz56_4 : w55.cell? ⟨gb440, 4, none⟩ = some (.int .i64 a0_4) := (blk_cell BK440.out 4).trans rfl; have hfz56_0 := blk_frozen BK440.out 0; have hfz56_1 := blk_frozen BK440.out 1; have hfz56_2 := blk_frozen BK440.out 2; have hfz56_3 := blk_frozen BK440.out 3; have hfz56_4 := blk_frozen BK440.out 4) | ((with_reducible refine gate_callee (f := 15) rfl ?_); refine goesL_ (some 13) rfl rfl Try.func15 (by kernel_rfl) rfl #[.agg #[.int .i64 a0_0, .int .i64 a0_1, .int .i64 a0_2, .int .i64 a0_3, .int .i64 a0_4]] rfl (by (try simp only [List.map_toArray, List.map_cons, List.map_nil]); first | done | rfl | (simp only [List.length_drop, List.length_take]; rfl)) ?_; (with_reducible refine (blocking_Check.calls k a0_0 a0_1 a0_2 a0_3 a0_4 t441 _ A3.out).mono ?_); rintro e w57 ⟨v442, rfl, ho0, hb⟩; refine ⟨_, rfl, ?_⟩; have n0_ := Aside0.mk (Kd.R_lower (Kd.R_newM (M := fun k_ => (w.heap.size ≤ k_)) ho0 (below_size (by repeat (first | (with_reducible first | exact HB.out | apply below_alloc | apply pw_below_drewN | apply below_drew1 | refine below_set ?_ GE440.out) | exact HB.out))) (fun k_ h_ => h_)) (below_size (by repeat (first | (with_reducible first | exact HB.out | apply below_alloc | apply pw_below_drewN | apply below_drew1 | refine below_set ?_ GE440.out) | exact HB.out)))); have n1_ := Aside0.mk (blk_below (g := gb440) (o := .cells #[.int .i64 a0_0, .int .i64 a0_1, .int .i64 a0_2, .int .i64 a0_3, .int .i64 a0_4] 36 (0, 0)) (by (with_reducible repeat (first | refine blk_drewN ?_ _ | refine blk_drew ?_ | refine blk_alloc ?_ _)); exact BK440.out) hb); have n2_ := Aside0.mk (below_step (by repeat (first | (with_reducible first | exact HB.out | apply below_alloc | apply pw_below_drewN | apply below_drew1 | refine below_set ?_ GE440.out) | exact HB.out)) hb); clear BK440; clear HB; have HO443 := n0_; have BK440 := n1_; have HB := n2_; clear n0_ n1_ n2_; (try clear hb); (try clear hb2); (try clear hk); (try clear hi); (try clear ho0); obtain ⟨Ao58, co58, eo58⟩ := Kd.R_slice HO443.out; subst eo58) | ((with_reducible refine gate_callee (f := 30) rfl ?_); refine goesL_ (some 17) rfl rfl Try.func30 (by kernel_rfl) rfl #[.string (⟨#[98, 108, 111, 99, 107, 105, 110, 103, 46, 74, 111, 105, 110]⟩ : ByteArray), errOf (.slice Ao58 t441.length co58)] rfl (by (try simp only [List.map_toArray, List.map_cons, List.map_nil]); first | done | rfl | (simp only [List.length_drop, List.length_take]; rfl)) ?_; (with_reducible refine (fault_Wrap.calls (⟨#[98, 108, 111, 99, 107, 105, 110, 103, 46, 74, 111, 105, 110]⟩ : ByteArray) (fun k_ => some k_ = (.slice Ao58 t441.length co58 : Value).ownBlock) (.slice Ao58 t441.length co58) t441 t444 w _ ?side1 ?side2 A54.out).mono ?_); (case side1 => repeat (first | (with_reducible first | exact HB.out | apply below_alloc | apply pw_below_drewN | apply below_drew1 | refine below_set ?_ GE440.out) | exact HB.out)); (case side2 => exact Kd.R_tight rfl (kF0_of HO443.out)); rintro e w59 ⟨v445, rfl, ho0, hb, hkp⟩; refine ⟨_, rfl, ?_⟩; have n0_ := Aside0.mk (blk_kept (by (with_reducible repeat (first | refine blk_drewN ?_ _ | refine blk_drew ?_ | refine blk_alloc ?_ _)); exact BK440.out) hkp (fun hs_ => (fun e_ => (Kd.R_ne HO443.out BK440.out (by decide)) e_) hs_)); have n1_ := Aside0.mk (Kd.R_mono (ok' := fun k_ => (w.heap.size ≤ k_)) ho0 (fun k_ hk_ => Or.elim hk_ (fun hs_ => (HO443.out.1 k_ (hs_).symm).1) (fun hn_ => (Nat.le_trans (below_size (by repeat (first | (with_reducible first | exact HB.out | apply below_alloc | apply pw_below_drewN | apply below_drew1 | refine below_set ?_ GE440.out) | exact HB.out))) hn_)))); have n2_ := Aside0.mk (hb); clear BK440; clear HB; clear HO443; have BK440 := n0_; have HO446 := n1_; have HB := n2_; clear n0_ n1_ n2_; (try clear hb); (try clear hkp); (try clear ho0)))
    go_ret2
    exact ⟨_, _, by first | rfl | (simp [errW_none, errW_some] <;> rfl) | (simp [*, errW_none, errW_some] <;> rfl), Kd.V_nil _ _ _ _ _, by (with_reducible repeat (first | apply Kd.R_alloc | apply Kd.R_drewN | apply Kd.R_drew)); exact HO446.out, by repeat (first | (with_reducible first | exact HB.out | apply below_alloc | apply pw_below_drewN | apply below_drew1 | refine below_set ?_ GE440.out) | exact HB.out)⟩

end Go.Proofs.Ytbhnhmkbccjnpaa.P

namespace Go.Proofs.Ytbhnhmkbccjnpaa.P
open Go.RowKit Go.Proofs.YtbhnhmkbccjnpaaW.PrintWords Go.Proofs.YtbhnhmkbccjnpaaW.PrintLast Go.Proofs.YtbhnhmkbccjnpaaW.PrintErr Go.Proofs.YtbhnhmkbccjnpaaW.PrintMore
attribute [local go_sem] max2_int min2_int max_two min_two max_three min_three max_four min_four run_eql_errOf run_neq_errOf eqGuard_errOf   -- for this text's walks alone
set_option linter.unusedVariables false
set_option linter.unusedSimpArgs false

attribute [local go_sem high] eqA36
/-! ### geyserlaw14_BlockingBack: function 7 -/
def geyserlaw14_BlockingBack.f (k : Nat) (l0 : List Int) (a1 : Int) (a2 : Int) : Option (Bool) := (blocking_Of.f k (l0.length : Int) a1 a2).bind fun bt475 => (if (bt475.2.2.2.2.2.length : Int) = 0 then ((blocking_Cut.f k l0 bt475.1 bt475.2.1 bt475.2.2.1 bt475.2.2.2.1 bt475.2.2.2.2.1).bind fun bt484 => ((blocking_Join.f k bt475.1 bt475.2.1 bt475.2.2.1 bt475.2.2.2.1 bt475.2.2.2.2.1 bt484.1).bind fun bt490 => (if (bt484.2.length : Int) = 0 then (if (bt490.2.length : Int) = 0 then (if (strOfNums bt490.1).toList = (strOfNums l0).toList then (if (bt484.1.length : Int) = bt475.2.2.1 then ((geyserlaw14_awake.f k).bind fun t496 => (some t496)) else (some false)) else (some false)) else (some false)) else (some false)))) else (if (bt475.1 == 0 && (bt475.2.1 == 0 && (bt475.2.2.1 == 0 && (bt475.2.2.2.1 == 0 && (bt475.2.2.2.2.1 == 0))))) = true then ((geyserlaw14_awake.f k).bind fun t497 => (some t497)) else (some false)))
theorem geyserlaw14_BlockingBack.mono : ∀ a0 a1 a2 k, LeO (geyserlaw14_BlockingBack.f k a0 a1 a2) (geyserlaw14_BlockingBack.f (k + 1) a0 a1 a2) := by
  intro a0 a1 a2 k
  unfold geyserlaw14_BlockingBack.f
  repeat' first
      | (with_reducible exact blocking_Cut.mono _ _ _ _ _ _ _)
      | (with_reducible exact blocking_Join.mono _ _ _ _ _ _ _)
      | (with_reducible exact blocking_Of.mono _ _ _ _)
      | (with_reducible exact geyserlaw14_awake.mono _)
      | (with_reducible exact LeO.refl _)
      | (with_reducible exact LeO.none _)
      | (with_reducible refine LeO.ite ?_ ?_)
      | (with_reducible refine LeO.bind ?_ (fun _ => ?_))
      | exact blocking_Cut.mono _ _ _ _ _ _ _
      | exact blocking_Join.mono _ _ _ _ _ _ _
      | exact blocking_Of.mono _ _ _ _
      | exact geyserlaw14_awake.mono _
      | exact LeO.none _
      | refine LeO.ite ?_ ?_
      | refine LeO.bind ?_ (fun _ => ?_)
set_option maxHeartbeats 8000000 in
set_option maxRecDepth 100000 in
theorem geyserlaw14_BlockingBack.calls (k : Nat) (A0 : Option Addr) (c0 : Nat) (l0 : List Int) (a1 : Int) (a2 : Int) (r : Bool) (w : World) (hr0 : Kd.C (Kd.int .u8) w A0 l0.length l0) (hc0 : l0.length ≤ c0) (h : geyserlaw14_BlockingBack.f k l0 a1 a2 = some r) :
    Calls Try.prog 7 #[.slice A0 l0.length c0, .int .i64 a1, .int .i64 a2] w fun e w' => e = .returned (.bool r) ∧ Below w.heap.size w w' := by
  have hu36 := Try.underlying36
  have HR0 := Aside0.mk hr0
  have HC0 := Aside0.mk hc0
  clear hr0 hc0
  have HB := Aside0.mk (Below.refl w.heap.size w)
  have H : ((blocking_Of.f k (l0.length : Int) a1 a2).bind fun bt475 => (if (bt475.2.2.2.2.2.length : Int) = 0 then ((blocking_Cut.f k l0 bt475.1 bt475.2.1 bt475.2.2.1 bt475.2.2.2.1 bt475.2.2.2.2.1).bind fun bt484 => ((blocking_Join.f k bt475.1 bt475.2.1 bt475.2.2.1 bt475.2.2.2.1 bt475.2.2.2.2.1 bt484.1).bind fun bt490 => (if (bt484.2.length : Int) = 0 then (if (bt490.2.length : Int) = 0 then (if (strOfNums bt490.1).toList = (strOfNums l0).toList then (if (bt484.1.length : Int) = bt475.2.2.1 then ((geyserlaw14_awake.f k).bind fun t496 => (some t496)) else (some false)) else (some false)) else (some false)) else (some false)))) else (if (bt475.1 == 0 && (bt475.2.1 == 0 && (bt475.2.2.1 == 0 && (bt475.2.2.2.1 == 0 && (bt475.2.2.2.2.1 == 0))))) = true then ((geyserlaw14_awake.f k).bind fun t497 => (some t497)) else (some false)))) = some r := h
  clear h
  replace H := Option.bind_eq_some_iff.mp H
  obtain ⟨⟨t475, t476, t477, t478, t479, t480⟩, A40, H⟩ := H
  replace H : (if (t480.length : Int) = 0 then ((blocking_Cut.f k l0 t475 t476 t477 t478 t479).bind fun bt484 => ((blocking_Join.f k t475 t476 t477 t478 t479 bt484.1).bind fun bt490 => (if (bt484.2.length : Int) = 0 then (if (bt490.2.length : Int) = 0 then (if (strOfNums bt490.1).toList = (strOfNums l0).toList then (if (bt484.1.length : Int) = t477 then ((geyserlaw14_awake.f k).bind fun t496 => (some t496)) else (some false)) else (some false)) else (some false)) else (some false)))) else (if (t475 == 0 && (t476 == 0 && (t477 == 0 && (t478 == 0 && (t479 == 0))))) = true then ((geyserlaw14_awake.f k).bind fun t497 => (some t497)) else (some false))) = some r := H
  have A4 := Aside0.mk A40
  clear A40
  by_cases c5 : (t480.length : Int) = 0
  · rw [if_pos c5] at H
    have c5b0 : ((t480.length : Int) == 0) = true := beq_iff_eq.mpr c5
    have c5b1 : ((t480.length : Int) != 0) = false := bne_eq_false_iff_eq.mpr c5
    clear c5
    replace H := Option.bind_eq_some_iff.mp H
    obtain ⟨⟨t484, t487⟩, A60, H⟩ := H
    replace H : ((blocking_Join.f k t475 t476 t477 t478 t479 t484).bind fun bt490 => (if (t487.length : Int) = 0 then (if (bt490.2.length : Int) = 0 then (if (strOfNums bt490.1).toList = (strOfNums l0).toList then (if (t484.length : Int) = t477 then ((geyserlaw14_awake.f k).bind fun t496 => (some t496)) else (some false)) else (some false)) else (some false)) else (some false))) = some r := H
    have A6 := Aside0.mk A60
    clear A60
    replace H := Option.bind_eq_some_iff.mp H
    obtain ⟨⟨t490, t493⟩, A70, H⟩ := H
    replace H : (if (t487.length : Int) = 0 then (if (t493.length : Int) = 0 then (if (strOfNums t490).toList = (strOfNums l0).toList then (if (t484.length : Int) = t477 then ((geyserlaw14_awake.f k).bind fun t496 => (some t496)) else (some false)) else (some false)) else (some false)) else (some false)) = some r := H
    have A7 := Aside0.mk A70
    clear A70
    by_cases c8 : (t487.length : Int) = 0
    · rw [if_pos c8] at H
      have c8b0 : ((t487.length : Int) == 0) = true := beq_iff_eq.mpr c8
      have c8b1 : ((t487.length : Int) != 0) = false := bne_eq_false_iff_eq.mpr c8
      clear c8
      by_cases c9 : (t493.length : Int) = 0
      · rw [if_pos c9] at H
        have c9b0 : ((t493.length : Int) == 0) = true := beq_iff_eq.mpr c9
        have c9b1 : ((t493.length : Int) != 0) = false := bne_eq_false_iff_eq.mpr c9
        clear c9
        by_cases c10 : (strOfNums t490).toList = (strOfNums l0).toList
        · rw [if_pos c10] at H
          have c10b0 : ((strOfNums t490).toList == (strOfNums l0).toList) = true := beq_iff_eq.mpr c10
          have c10b1 : ((strOfNums t490).toList != (strOfNums l0).toList) = false := bne_eq_false_iff_eq.mpr c10
          clear c10
          by_cases c11 : (t484.length : Int) = t477
          · rw [if_pos c11] at H
            have c11b0 : ((t484.length : Int) == t477) = true := beq_iff_eq.mpr c11
            have c11b1 : ((t484.length : Int) != t477) = false := bne_eq_false_iff_eq.mpr c11
            clear c11
            replace H := Option.bind_eq_some_iff.mp H
            obtain ⟨t496, A120, H⟩ := H
            replace H : (some t496) = some r := H
            have A12 := Aside0.mk A120
            clear A120
            obtain rfl := Option.some.inj H
            go_enter Try.func7, Try.ntmps7
            go_wp2_with (first | ((with_reducible refine gate_callee (f := 13) rfl ?_); refine goesL_ (some 18) rfl rfl Try.func13 (by kernel_rfl) rfl #[.int .i64 (l0.length : Int), .int .i64 a1, .int .i64 a2] rfl (by (try simp only [List.map_toArray, List.map_cons, List.map_nil]); first | done | rfl | (simp only [List.length_drop, List.length_take]; rfl)) ?_; (with_reducible refine (blocking_Of.calls k (l0.length : Int) a1 a2 t475 t476 t477 t478 t479 t480 _ A4.out).mono ?_); rintro e w13 ⟨v481, rfl, ho0, hb⟩; refine ⟨_, rfl, ?_⟩; have n0_ := Aside0.mk (Kd.R_lower ho0 (below_size (by repeat (first | (with_reducible first | exact HB.out | apply below_alloc | apply pw_below_drewN | apply below_drew1) | exact HB.out)))); have n1_ := Aside0.mk (below_step (by repeat (first | (with_reducible first | exact HB.out | apply below_alloc | apply pw_below_drewN | apply below_drew1) | exact HB.out)) hb); clear HB; have HO482 := n0_; have HB := n1_; clear n0_ n1_; (try clear hb); (try clear hb2); (try clear hk); (try clear hi); (try clear ho0)) | ((with_reducible refine gate_dst (N := 7) rfl ?_); (try (refine gate_guard (by rfl) ?_; dsimp only)); refine box_event ?hg (N := 7) ?hd (cs := #[.int .i64 0, .int .i64 0, .int .i64 0, .int .i64 0, .int .i64 0]) (t := 36) ?hr ?_; (case hd => rfl); (case hg => rfl); (case hr => first | (go_simp; done) | (go_simp; rfl)); intro gb483 hg w14 hbox hb; have n0_ := Aside0.mk (Kd.R_below (by (with_reducible repeat (first | apply Kd.R_alloc | apply Kd.R_drewN | apply Kd.R_drew)); exact HO482.out) hb); have n1_ := Aside0.mk (below_step (by repeat (first | (with_reducible first | exact HB.out | apply below_alloc | apply pw_below_drewN | apply below_drew1) | exact HB.out)) hb); have n2_ := Aside0.mk (hbox); have n3_ := Aside0.mk ((by rw [hg]; exact (below_size (by repeat (first | (with_reducible first | exact HB.out | apply below_alloc | apply pw_below_drewN | apply below_drew1) | exact HB.out))) : w.heap.size ≤ gb483)); have n4_ := Aside0.mk ((by rw [hg]; exact (below_size (by repeat (first | (with_reducible first | exact HB.out | apply below_alloc | apply pw_below_drewN | apply below_drew1) | exact HB.out))) : w.heap.size ≤ gb483)); clear HO482; clear HB; have HO482 := n0_; have HB := n1_; have BK483 := n2_; have GW483 := n3_; have GE483 := n4_; clear n0_ n1_ n2_ n3_ n4_; clear hb hbox hg; have hcz15_0 : w14.cell? ⟨gb483, 0, none⟩ = some (.int .i64 0) := (blk_cell BK483.out 0).trans rfl; have hcz15_1 : w14.cell? ⟨gb483, 1, none⟩ = some (.int .i64 0) := (blk_cell BK483.out 1).trans rfl; have hcz15_2 : w14.cell? ⟨gb483, 2, none⟩ = some (.int .i64 0) := (blk_cell BK483.out 2).trans rfl; have hcz15_3 : w14.cell? ⟨gb483, 3, none⟩ = some (.int .i64 0) := (blk_cell BK483.out 3).trans rfl; have hcz15_4 : w14.cell? ⟨gb483, 4, none⟩ = some (.int .i64 0) := (blk_cell BK483.out 4).trans rfl; have hfz15_0 := blk_frozen BK483.out 0; have hfz15_1 := blk_frozen BK483.out 1; have hfz15_2 := blk_frozen BK483.out 2; have hfz15_3 := blk_frozen BK483.out 3; have hfz15_4 := blk_frozen BK483.out 4) | ((with_reducible refine gate_store (t := 36) (p := 7) rfl ?_); refine store_event (t := 36) (p := 7) (v := ?vo_w16) (w1 := (((((w14.setCell ⟨gb483, 0, none⟩ (.int .i64 t475)).setCell ⟨gb483, 1, none⟩ (.int .i64 t476)).setCell ⟨gb483, 2, none⟩ (.int .i64 t477)).setCell ⟨gb483, 3, none⟩ (.int .i64 t478)).setCell ⟨gb483, 4, none⟩ (.int .i64 t479))) ?hg ?ho ?hn ?hr ?_; (case ho => rfl); (case hg => rfl); (case hn => rfl); (case hr => first | (go_simp; done) | (go_simp; rfl)); intro w16 hw; have n0_ : Aside0 (Kd.R kF 67 w16 w.heap.size (fun _ => True) v481 t480) := ⟨(by rw [hw]; exact (by (with_reducible repeat (first | apply Kd.R_alloc | apply Kd.R_drewN | apply Kd.R_drew)); exact Kd.R_mono (Kd.R_far (p := ⟨gb483, 4, none⟩) (Kd.R_far (p := ⟨gb483, 3, none⟩) (Kd.R_far (p := ⟨gb483, 2, none⟩) (Kd.R_far (p := ⟨gb483, 1, none⟩) (Kd.R_far (p := ⟨gb483, 0, none⟩) (Kd.R_types HO482.out BK483.out (by decide)) (fun _ hk => hk.2) (.int .i64 t475)) (fun _ hk => hk.2) (.int .i64 t476)) (fun _ hk => hk.2) (.int .i64 t477)) (fun _ hk => hk.2) (.int .i64 t478)) (fun _ hk => hk.2) (.int .i64 t479)) (fun _ hk => trivial)))⟩; have n1_ : Aside0 (w16.heap[gb483]? = some (.cells #[.int .i64 t475, .int .i64 t476, .int .i64 t477, .int .i64 t478, .int .i64 t479] 36 (0, 0))) := ⟨(by rw [hw]; exact (by (with_reducible repeat (first | refine blk_drewN ?_ _ | refine blk_drew ?_ | refine blk_alloc ?_ _)); refine blk_put (cs := #[.int .i64 t475, .int .i64 t476, .int .i64 t477, .int .i64 t478, .int .i64 0]) ?_ 4 _ rfl; (with_reducible repeat (first | refine blk_drewN ?_ _ | refine blk_drew ?_ | refine blk_alloc ?_ _)); refine blk_put (cs := #[.int .i64 t475, .int .i64 t476, .int .i64 t477, .int .i64 0, .int .i64 0]) ?_ 3 _ rfl; (with_reducible repeat (first | refine blk_drewN ?_ _ | refine blk_drew ?_ | refine blk_alloc ?_ _)); refine blk_put (cs := #[.int .i64 t475, .int .i64 t476, .int .i64 0, .int .i64 0, .int .i64 0]) ?_ 2 _ rfl; (with_reducible repeat (first | refine blk_drewN ?_ _ | refine blk_drew ?_ | refine blk_alloc ?_ _)); refine blk_put (cs := #[.int .i64 t475, .int .i64 0, .int .i64 0, .int .i64 0, .int .i64 0]) ?_ 1 _ rfl; (with_reducible repeat (first | refine blk_drewN ?_ _ | refine blk_drew ?_ | refine blk_alloc ?_ _)); refine blk_put (cs := #[.int .i64 0, .int .i64 0, .int .i64 0, .int .i64 0, .int .i64 0]) ?_ 0 _ rfl; (with_reducible repeat (first | refine blk_drewN ?_ _ | refine blk_drew ?_ | refine blk_alloc ?_ _)); exact BK483.out))⟩; have n2_ : Aside0 (Below w.heap.size w w16) := ⟨(by rw [hw]; exact (by repeat (first | (with_reducible first | exact HB.out | apply below_alloc | apply pw_below_drewN | apply below_drew1 | refine below_set ?_ GE483.out) | exact HB.out)))⟩; clear hw; clear HO482; clear BK483; clear HB; have HO482 := n0_; have BK483 := n1_; have HB := n2_; clear n0_ n1_ n2_; obtain ⟨Ao17, co17, eo17⟩ := Kd.R_slice HO482.out; subst eo17; have hcz18_0 : w16.cell? ⟨gb483, 0, none⟩ = some (.int .i64 t475) := (blk_cell BK483.out 0).trans rfl; have hcz18_1 : w16.cell? ⟨gb483, 1, none⟩ = some (.int .i64 t476) := (blk_cell BK483.out 1).trans rfl; have hcz18_2 : w16.cell? ⟨gb483, 2, none⟩ = some (.int .i64 t477) := (blk_cell BK483.out 2).trans rfl; have hcz18_3 : w16.cell? ⟨gb483, 3, none⟩ = some (.int .i64 t478) := (blk_cell BK483.out 3).trans rfl; have hcz18_4 : w16.cell? ⟨gb483, 4, none⟩ = some (.int .i64 t479) := (blk_cell BK483.out 4).trans rfl; have hfz18_0 := blk_frozen BK483.out 0; have hfz18_1 := blk_frozen BK483.out 1; have hfz18_2 := blk_frozen BK483.out 2; have hfz18_3 := blk_frozen BK483.out 3; have hfz18_4 := blk_frozen BK483.out 4) | ((with_reducible refine gate_callee (f := 22) rfl ?_); refine goesL_ (some 32) rfl rfl Try.func22 (by kernel_rfl) rfl #[.slice A0 l0.length c0, .agg #[.int .i64 t475, .int .i64 t476, .int .i64 t477, .int .i64 t478, .int .i64 t479]] rfl (by (try simp only [List.map_toArray, List.map_cons, List.map_nil]); first | done | rfl | (simp only [List.length_drop, List.length_take]; rfl)) ?_; (with_reducible refine (blocking_Cut.calls k (fun k_ => k_ < w.heap.size) _ _ l0 t475 t476 t477 t478 t479 t484 t487 _ ?side1 A6.out).mono ?_); (case side1 => exact Kd.V_mk HC0.out (Kd.F_below (Kd.C_F (Kd.heap_int .u8) HR0.out) (by repeat (first | (with_reducible first | exact HB.out | apply below_alloc | apply pw_below_drewN | apply below_drew1 | refine below_set ?_ GE483.out) | exact HB.out)))); rintro e w19 ⟨v485, v488, rfl, ho0, ho1, hb⟩; refine ⟨_, rfl, ?_⟩; (try replace ho0 := Kd.N_mono (ok' := fun k_ => ((k_ < w.heap.size) ∨ _ ≤ k_) ∧ some k_ ≠ (v488 : Value).ownBlock) (Kd.S_N (Kd.S_apart' ho0 (Kd.R_typed ho1) (by decide))) (fun k_ hk => ⟨.inr hk.1, hk.2⟩)); have n0_ := Aside0.mk (Kd.R_below (by (with_reducible repeat (first | apply Kd.R_alloc | apply Kd.R_drewN | apply Kd.R_drew)); exact HO482.out) hb); have n1_ := Aside0.mk (Kd.N_lower (Kd.N_mono (ok' := fun k_ => some k_ ≠ (v488 : Value).ownBlock ∧ some k_ ≠ (.slice Ao17 t480.length co17 : Value).ownBlock ∧ k_ ≠ gb483) ho0 (fun k_ hk_ => ⟨hk_.2, Or.elim hk_.1 (fun hs_ => fun e_ => Nat.not_le.2 hs_ (Kd.R_base HO482.out k_ e_.symm)) (fun hn_ => (Kd.fresh' (Kd.R_lt (by (with_reducible repeat (first | apply Kd.R_alloc | apply Kd.R_drewN | apply Kd.R_drew)); exact HO482.out)) k_ hn_)), Or.elim hk_.1 (fun hs_ => fun e_ => Nat.not_le.2 hs_ (by rw [e_]; exact GW483.out)) (fun hn_ => (Kd.freshB (g := gb483) (o := .cells #[.int .i64 t475, .int .i64 t476, .int .i64 t477, .int .i64 t478, .int .i64 t479] 36 (0, 0)) (by (with_reducible repeat (first | refine blk_drewN ?_ _ | refine blk_drew ?_ | refine blk_alloc ?_ _)); exact BK483.out) k_ hn_))⟩)) (below_size (by repeat (first | (with_reducible first | exact HB.out | apply below_alloc | apply pw_below_drewN | apply below_drew1 | refine below_set ?_ GE483.out) | exact HB.out)))); have n2_ := Aside0.mk (Kd.R_lower (Kd.R_mono (ok' := fun k_ => True) ho1 (fun _ hk_ => trivial)) (below_size (by repeat (first | (with_reducible first | exact HB.out | apply below_alloc | apply pw_below_drewN | apply below_drew1 | refine below_set ?_ GE483.out) | exact HB.out)))); have n3_ := Aside0.mk (blk_below (g := gb483) (o := .cells #[.int .i64 t475, .int .i64 t476, .int .i64 t477, .int .i64 t478, .int .i64 t479] 36 (0, 0)) (by (with_reducible repeat (first | refine blk_drewN ?_ _ | refine blk_drew ?_ | refine blk_alloc ?_ _)); exact BK483.out) hb); have n4_ := Aside0.mk (below_step (by repeat (first | (with_reducible first | exact HB.out | apply below_alloc | apply pw_below_drewN | apply below_drew1 | refine below_set ?_ GE483.out) | exact HB.out)) hb); clear HO482; clear BK483; clear HB; have HO482 := n0_; have HO486 := n1_; have HO489 := n2_; have BK483 := n3_; have HB := n4_; clear n0_ n1_ n2_ n3_ n4_; (try clear hb); (try clear hb2); (try clear hk); (try clear hi); (try clear ho0); (try clear ho1); have hcz20_0 : w19.cell? ⟨gb483, 0, none⟩ = some (.int .i64 t475) := (blk_cell BK483.out 0).trans rfl; have hcz20_1 : w19.cell? ⟨gb483, 1, none⟩ = some (.int .i64 t476) := (blk_cell BK483.out 1).trans rfl; have hcz20_2 : w19.cell? ⟨gb483, 2, none⟩ = some (.int .i64 t477) := (blk_cell BK483.out 2).trans rfl; have hcz20_3 : w19.cell? ⟨gb483, 3, none⟩ = some (.int .i64 t478) := (blk_cell BK483.out 3).trans rfl; have hcz20_4 : w19.cell? ⟨gb483, 4, none⟩ = some (.int .i64 t479) := (blk_cell BK483.out 4).trans rfl; have hfz20_0 := blk_frozen BK483.out 0; have hfz20_1 := blk_frozen BK483.out 1; have hfz20_2 := blk_frozen BK483.out 2; have hfz20_3 := blk_frozen BK483.out 3; have hfz20_4 := blk_frozen BK483.out 4; obtain ⟨Ao21, co21, eo21⟩ := Kd.N_slice HO486.out; subst eo21) | ((with_reducible refine gate_callee (f := 23) rfl ?_); refine goesL_ (some 38) rfl rfl Try.func23 (by kernel_rfl) rfl #[.agg #[.int .i64 t475, .int .i64 t476, .int .i64 t477, .int .i64 t478, .int .i64 t479], .slice Ao21 t484.length co21] rfl (by (try simp only [List.map_toArray, List.map_cons, List.map_nil]); first | done | rfl | (simp only [List.length_drop, List.length_take]; rfl)) ?_; (with_reducible refine (blocking_Join.calls k t475 t476 t477 t478 t479 _ _ t484 t490 t493 _ ?side1 ?side2 A7.out).mono ?_); (case side1 => repeat (first | exact (Kd.N_reads' HO486.out).2.2 | (with_reducible refine Kd.C_alloc ?_ _) | (with_reducible refine Kd.C_drewN ?_ _) | (with_reducible refine Kd.C_drew ?_))); (case side2 => exact (Kd.N_reads' HO486.out).2.1); rintro e w22 ⟨v491, v494, rfl, ho0, ho1, hb⟩; refine ⟨_, rfl, ?_⟩; have n0_ := Aside0.mk (Kd.R_below (by (with_reducible repeat (first | apply Kd.R_alloc | apply Kd.R_drewN | apply Kd.R_drew)); exact HO482.out) hb); have n1_ := Aside0.mk (Kd.N_elder' (by (with_reducible repeat (first | apply Kd.N_alloc | apply Kd.N_drewN | apply Kd.N_drew)); exact HO486.out) (Kd.R_base ho1) hb); have n2_ := Aside0.mk (Kd.R_below (by (with_reducible repeat (first | apply Kd.R_alloc | apply Kd.R_drewN | apply Kd.R_drew)); exact HO489.out) hb); have n3_ := Aside0.mk (Kd.V_lower (Kd.V_mono (ok' := fun k_ => some k_ ≠ (v494 : Value).ownBlock ∧ some k_ ≠ (.slice Ao17 t480.length co17 : Value).ownBlock ∧ some k_ ≠ (.slice Ao21 t484.length co21 : Value).ownBlock ∧ some k_ ≠ (v488 : Value).ownBlock ∧ k_ ≠ gb483) ho0 (fun k_ hk_ => ⟨hk_.2, (Kd.fresh' (Kd.R_lt (by (with_reducible repeat (first | apply Kd.R_alloc | apply Kd.R_drewN | apply Kd.R_drew)); exact HO482.out)) k_ hk_.1), (Kd.fresh' (Kd.N_lt (by (with_reducible repeat (first | apply Kd.N_alloc | apply Kd.N_drewN | apply Kd.N_drew)); exact HO486.out)) k_ hk_.1), (Kd.fresh' (Kd.R_lt (by (with_reducible repeat (first | apply Kd.R_alloc | apply Kd.R_drewN | apply Kd.R_drew)); exact HO489.out)) k_ hk_.1), (Kd.freshB (g := gb483) (o := .cells #[.int .i64 t475, .int .i64 t476, .int .i64 t477, .int .i64 t478, .int .i64 t479] 36 (0, 0)) (by (with_reducible repeat (first | refine blk_drewN ?_ _ | refine blk_drew ?_ | refine blk_alloc ?_ _)); exact BK483.out) k_ hk_.1)⟩)) (below_size (by repeat (first | (with_reducible first | exact HB.out | apply below_alloc | apply pw_below_drewN | apply below_drew1 | refine below_set ?_ GE483.out) | exact HB.out)))); have n4_ := Aside0.mk (Kd.R_lower (Kd.R_mono (ok' := fun k_ => True) ho1 (fun _ hk_ => trivial)) (below_size (by repeat (first | (with_reducible first | exact HB.out | apply below_alloc | apply pw_below_drewN | apply below_drew1 | refine below_set ?_ GE483.out) | exact HB.out)))); have n5_ := Aside0.mk (blk_below (g := gb483) (o := .cells #[.int .i64 t475, .int .i64 t476, .int .i64 t477, .int .i64 t478, .int .i64 t479] 36 (0, 0)) (by (with_reducible repeat (first | refine blk_drewN ?_ _ | refine blk_drew ?_ | refine blk_alloc ?_ _)); exact BK483.out) hb); have n6_ := Aside0.mk (below_step (by repeat (first | (with_reducible first | exact HB.out | apply below_alloc | apply pw_below_drewN | apply below_drew1 | refine below_set ?_ GE483.out) | exact HB.out)) hb); clear HO482; clear HO486; clear HO489; clear BK483; clear HB; have HO482 := n0_; have HO486 := n1_; have HO489 := n2_; have HO492 := n3_; have HO495 := n4_; have BK483 := n5_; have HB := n6_; clear n0_ n1_ n2_ n3_ n4_ n5_ n6_; (try clear hb); (try clear hb2); (try clear hk); (try clear hi); (try clear ho0); (try clear ho1); obtain ⟨Ao23, co23, eo23⟩ := Kd.R_slice HO489.out; subst eo23; obtain ⟨Ao24, co24, eo24⟩ := Kd.R_slice HO495.out; subst eo24; obtain ⟨Ao25, co25, eo25⟩ := Kd.V_slice HO492.out; subst eo25; have hcv26 := Kd.C_string (P := Try.prog) (A := Ao25) (c := co25) Try.underlying23 Try.underlying5 Try.underlying9 (Kd.V_reads' HO492.out).2.2; have hcv27 := Kd.C_string (P := Try.prog) (A := A0) (c := c0) Try.underlying23 Try.underlying5 Try.underlying9 (Kd.C_below HR0.out HB.out); have hcz28_0 : w22.cell? ⟨gb483, 0, none⟩ = some (.int .i64 t475) := (blk_cell BK483.out 0).trans rfl; have hcz28_1 : w22.cell? ⟨gb483, 1, none⟩ = some (.int .i64 t476) := (blk_cell BK483.out 1).trans rfl; have hcz28_2 : w22.cell? ⟨gb483, 2, none⟩ = some (.int .i64 t477) := (blk_cell BK483.out 2).trans rfl; have hcz28_3 : w22.cell? ⟨gb483, 3, none⟩ = some (.int .i64 t478) := (blk_cell BK483.out 3).trans rfl; have hcz28_4 : w22.cell? ⟨gb483, 4, none⟩ = some (.int .i64 t479) := (blk_cell BK483.out 4).trans rfl; have hfz28_0 := blk_frozen BK483.out 0; have hfz28_1 := blk_frozen BK483.out 1; have hfz28_2 := blk_frozen BK483.out 2; have hfz28_3 := blk_frozen BK483.out 3; have hfz28_4 := blk_frozen BK483.out 4) | (go_at_call 14; (with_reducible refine (geyserlaw14_awake.calls k  t496 _ A12.out).mono ?_); rintro e w29 ⟨rfl, hb⟩; have n0_ := Aside0.mk (Kd.R_below (by (with_reducible repeat (first | apply Kd.R_alloc | apply Kd.R_drewN | apply Kd.R_drew)); exact HO482.out) hb); have n1_ := Aside0.mk (Kd.N_below (by (with_reducible repeat (first | apply Kd.N_alloc | apply Kd.N_drewN | apply Kd.N_drew)); exact HO486.out) hb); have n2_ := Aside0.mk (Kd.R_below (by (with_reducible repeat (first | apply Kd.R_alloc | apply Kd.R_drewN | apply Kd.R_drew)); exact HO489.out) hb); have n3_ := Aside0.mk (Kd.V_below (by (with_reducible repeat (first | apply Kd.V_alloc | apply Kd.V_drewN | apply Kd.V_drew)); exact HO492.out) hb); have n4_ := Aside0.mk (Kd.R_below (by (with_reducible repeat (first | apply Kd.R_alloc | apply Kd.R_drewN | apply Kd.R_drew)); exact HO495.out) hb); have n5_ := Aside0.mk (blk_below (g := gb483) (o := .cells #[.int .i64 t475, .int .i64 t476, .int .i64 t477, .int .i64 t478, .int .i64 t479] 36 (0, 0)) (by (with_reducible repeat (first | refine blk_drewN ?_ _ | refine blk_drew ?_ | refine blk_alloc ?_ _)); exact BK483.out) hb); have n6_ := Aside0.mk (below_step (by repeat (first | (with_reducible first | exact HB.out | apply below_alloc | apply pw_below_drewN | apply below_drew1 | refine below_set ?_ GE483.out) | exact HB.out)) hb); clear HO482; clear HO486; clear HO489; clear HO492; clear HO495; clear BK483; clear HB; have HO482 := n0_; have HO486 := n1_; have HO489 := n2_; have HO492 := n3_; have HO495 := n4_; have BK483 := n5_; have HB := n6_; clear n0_ n1_ n2_ n3_ n4_ n5_ n6_; (try clear hb); (try clear hb2); (try clear hk); (try clear hi)))
            go_ret
            exact ⟨by first | rfl | (simp [errW_none, errW_some] <;> rfl) | (simp [*, errW_none, errW_some] <;> rfl), by repeat (first | (with_reducible first | exact HB.out | apply below_alloc | apply pw_below_drewN | apply below_drew1 | refine below_set ?_ GE483.out) | exact HB.out)⟩
          · rw [if_neg c11] at H
            have c11b0 : ((t484.length : Int) == t477) = false := beq_eq_false_iff_ne.mpr c11
            have c11b1 : ((t484.length : Int) != t477) = true := bne_iff_ne.mpr c11
            obtain rfl := Option.some.inj H
            go_enter Try.func7, Try.ntmps7
            go_wp2_with (first | ((with_reducible refine gate_callee (f := 13) rfl ?_); refine goesL_ (some 18) rfl rfl Try.func13 (by kernel_rfl) rfl #[.int .i64 (l0.length : Int), .int .i64 a1, .int .i64 a2] rfl (by (try simp only [List.map_toArray, List.map_cons, List.map_nil]); first | done | rfl | (simp only [List.length_drop, List.length_take]; rfl)) ?_; (with_reducible refine (blocking_Of.calls k (l0.length : Int) a1 a2 t475 t476 t477 t478 t479 t480 _ A4.out).mono ?_); rintro e w30 ⟨v481, rfl, ho0, hb⟩; refine ⟨_, rfl, ?_⟩; have n0_ := Aside0.mk (Kd.R_lower ho0 (below_size (by repeat (first | (with_reducible first | exact HB.out | apply below_alloc | apply pw_below_drewN | apply below_drew1) | exact HB.out)))); have n1_ := Aside0.mk (below_step (by repeat (first | (with_reducible first | exact HB.out | apply below_alloc | apply pw_below_drewN | apply below_drew1) | exact HB.out)) hb); clear HB; have HO482 := n0_; have HB := n1_; clear n0_ n1_; (try clear hb); (try clear hb2); (try clear hk); (try clear hi); (try clear ho0)) | ((with_reducible refine gate_dst (N := 7) rfl ?_); (try (refine gate_guard (by rfl) ?_; dsimp only)); refine box_event ?hg (N := 7) ?hd (cs := #[.int .i64 0, .int .i64 0, .int .i64 0, .int .i64 0, .int .i64 0]) (t := 36) ?hr ?_; (case hd => rfl); (case hg => rfl); (case hr => first | (go_simp; done) | (go_simp; rfl)); intro gb483 hg w31 hbox hb; have n0_ := Aside0.mk (Kd.R_below (by (with_reducible repeat (first | apply Kd.R_alloc | apply Kd.R_drewN | apply Kd.R_drew)); exact HO482.out) hb); have n1_ := Aside0.mk (below_step (by repeat (first | (with_reducible first | exact HB.out | apply below_alloc | apply pw_below_drewN | apply below_drew1) | exact HB.out)) hb); have n2_ := Aside0.mk (hbox); have n3_ := Aside0.mk ((by rw [hg]; exact (below_size (by repeat (first | (with_reducible first | exact HB.out | apply below_alloc | apply pw_below_drewN | apply below_drew1) | exact HB.out))) : w.heap.size ≤ gb483)); have n4_ := Aside0.mk ((by rw [hg]; exact (below_size (by repeat (first | (with_reducible first | exact HB.out | apply below_alloc | apply pw_below_drewN | apply below_drew1) | exact HB.out))) : w.heap.size ≤ gb483)); clear HO482; clear HB; have HO482 := n0_; have HB := n1_; have BK483 := n2_; have GW483 := n3_; have GE483 := n4_; clear n0_ n1_ n2_ n3_ n4_; clear hb hbox hg; have hcz32_0 : w31.cell? ⟨gb483, 0, none⟩ = some (.int .i64 0) := (blk_cell BK483.out 0).trans rfl; have hcz32_1 : w31.cell? ⟨gb483, 1, none⟩ = some (.int .i64 0) := (blk_cell BK483.out 1).trans rfl; have hcz32_2 : w31.cell? ⟨gb483, 2, none⟩ = some (.int .i64 0) := (blk_cell BK483.out 2).trans rfl; have hcz32_3 : w31.cell? ⟨gb483, 3, none⟩ = some (.int .i64 0) := (blk_cell BK483.out 3).trans rfl; have hcz32_4 : w31.cell? ⟨gb483, 4, none⟩ = some (.int .i64 0) := (blk_cell BK483.out 4).trans rfl; have hfz32_0 := blk_frozen BK483.out 0; have hfz32_1 := blk_frozen BK483.out 1; have hfz32_2 := blk_frozen BK483.out 2; have hfz32_3 := blk_frozen BK483.out 3; have hfz32_4 := blk_frozen BK483.out 4) | ((with_reducible refine gate_store (t := 36) (p := 7) rfl ?_); refine store_event (t := 36) (p := 7) (v := ?vo_w33) (w1 := (((((w31.setCell ⟨gb483, 0, none⟩ (.int .i64 t475)).setCell ⟨gb483, 1, none⟩ (.int .i64 t476)).setCell ⟨gb483, 2, none⟩ (.int .i64 t477)).setCell ⟨gb483, 3, none⟩ (.int .i64 t478)).setCell ⟨gb483, 4, none⟩ (.int .i64 t479))) ?hg ?ho ?hn ?hr ?_; (case ho => rfl); (case hg => rfl); (case hn => rfl); (case hr => first | (go_simp; done) | (go_simp; rfl)); intro w33 hw; have n0_ : Aside0 (Kd.R kF 67 w33 w.heap.size (fun _ => True) v481 t480) := ⟨(by rw [hw]; exact (by (with_reducible repeat (first | apply Kd.R_alloc | apply Kd.R_drewN | apply Kd.R_drew)); exact Kd.R_mono (Kd.R_far (p := ⟨gb483, 4, none⟩) (Kd.R_far (p := ⟨gb483, 3, none⟩) (Kd.R_far (p := ⟨gb483, 2, none⟩) (Kd.R_far (p := ⟨gb483, 1, none⟩) (Kd.R_far (p := ⟨gb483, 0, none⟩) (Kd.R_types HO482.out BK483.out (by decide)) (fun _ hk => hk.2) (.int .i64 t475)) (fun _ hk => hk.2) (.int .i64 t476)) (fun _ hk => hk.2) (.int .i64 t477)) (fun _ hk => hk.2) (.int .i64 t478)) (fun _ hk => hk.2) (.int .i64 t479)) (fun _ hk => trivial)))⟩; have n1_ : Aside0 (w33.heap[gb483]? = some (.cells #[.int .i64 t475, .int .i64 t476, .int .i64 t477, .int .i64 t478, .int .i64 t479] 36 (0, 0))) := ⟨(by rw [hw]; exact (by (with_reducible repeat (first | refine blk_drewN ?_ _ | refine blk_drew ?_ | refine blk_alloc ?_ _)); refine blk_put (cs := #[.int .i64 t475, .int .i64 t476, .int .i64 t477, .int .i64 t478, .int .i64 0]) ?_ 4 _ rfl; (with_reducible repeat (first | refine blk_drewN ?_ _ | refine blk_drew ?_ | refine blk_alloc ?_ _)); refine blk_put (cs := #[.int .i64 t475, .int .i64 t476, .int .i64 t477, .int .i64 0, .int .i64 0]) ?_ 3 _ rfl; (with_reducible repeat (first | refine blk_drewN ?_ _ | refine blk_drew ?_ | refine blk_alloc ?_ _)); refine blk_put (cs := #[.int .i64 t475, .int .i64 t476, .int .i64 0, .int .i64 0, .int .i64 0]) ?_ 2 _ rfl; (with_reducible repeat (first | refine blk_drewN ?_ _ | refine blk_drew ?_ | refine blk_alloc ?_ _)); refine blk_put (cs := #[.int .i64 t475, .int .i64 0, .int .i64 0, .int .i64 0, .int .i64 0]) ?_ 1 _ rfl; (with_reducible repeat (first | refine blk_drewN ?_ _ | refine blk_drew ?_ | refine blk_alloc ?_ _)); refine blk_put (cs := #[.int .i64 0, .int .i64 0, .int .i64 0, .int .i64 0, .int .i64 0]) ?_ 0 _ rfl; (with_reducible repeat (first | refine blk_drewN ?_ _ | refine blk_drew ?_ | refine blk_alloc ?_ _)); exact BK483.out))⟩; have n2_ : Aside0 (Below w.heap.size w w33) := ⟨(by rw [hw]; exact (by repeat (first | (with_reducible first | exact HB.out | apply below_alloc | apply pw_below_drewN | apply below_drew1 | refine below_set ?_ GE483.out) | exact HB.out)))⟩; clear hw; clear HO482; clear BK483; clear HB; have HO482 := n0_; have BK483 := n1_; have HB := n2_; clear n0_ n1_ n2_; obtain ⟨Ao34, co34, eo34⟩ := Kd.R_slice HO482.out; subst eo34; have hcz35_0 : w33.cell? ⟨gb483, 0, none⟩ = some (.int .i64 t475) := (blk_cell BK483.out 0).trans rfl; have hcz35_1 : w33.cell? ⟨gb483, 1, none⟩ = some (.int .i64 t476) := (blk_cell BK483.out 1).trans rfl; have hcz35_2 : w33.cell? ⟨gb483, 2, none⟩ = some (.int .i64 t477) := (blk_cell BK483.out 2).trans rfl; have hcz35_3 : w33.cell? ⟨gb483, 3, none⟩ = some (.int .i64 t478) := (blk_cell BK483.out 3).trans rfl; have hcz35_4 : w33.cell? ⟨gb483, 4, none⟩ = some (.int .i64 t479) := (blk_cell BK483.out 4).trans rfl; have hfz35_0 := blk_frozen BK483.out 0; have hfz35_1 := blk_frozen BK483.out 1; have hfz35_2 := blk_frozen BK483.out 2; have hfz35_3 := blk_frozen BK483.out 3; have hfz35_4 := blk_frozen BK483.out 4) | ((with_reducible refine gate_callee (f := 22) rfl ?_); refine goesL_ (some 32) rfl rfl Try.func22 (by kernel_rfl) rfl #[.slice A0 l0.length c0, .agg #[.int .i64 t475, .int .i64 t476, .int .i64 t477, .int .i64 t478, .int .i64 t479]] rfl (by (try simp only [List.map_toArray, List.map_cons, List.map_nil]); first | done | rfl | (simp only [List.length_drop, List.length_take]; rfl)) ?_; (with_reducible refine (blocking_Cut.calls k (fun k_ => k_ < w.heap.size) _ _ l0 t475 t476 t477 t478 t479 t484 t487 _ ?side1 A6.out).mono ?_); (case side1 => exact Kd.V_mk HC0.out (Kd.F_below (Kd.C_F (Kd.heap_int .u8) HR0.out) (by repeat (first | (with_reducible first | exact HB.out | apply below_alloc | apply pw_below_drewN | apply below_drew1 | refine below_set ?_ GE483.out) | exact HB.out)))); rintro e w36 ⟨v485, v488, rfl, ho0, ho1, hb⟩; refine ⟨_, rfl, ?_⟩; (try replace ho0 := Kd.N_mono (ok' := fun k_ => ((k_ < w.heap.size) ∨ _ ≤ k_) ∧ some k_ ≠ (v488 : Value).ownBlock) (Kd.S_N (Kd.S_apart' ho0 (Kd.R_typed ho1) (by decide))) (fun k_ hk => ⟨.inr hk.1, hk.2⟩)); have n0_ := Aside0.mk (Kd.R_below (by (with_reducible repeat (first | apply Kd.R_alloc | apply Kd.R_drewN | apply Kd.R_drew)); exact HO482.out) hb); have n1_ := Aside0.mk (Kd.N_lower (Kd.N_mono (ok' := fun k_ => some k_ ≠ (v488 : Value).ownBlock ∧ some k_ ≠ (.slice Ao34 t480.length co34 : Value).ownBlock ∧ k_ ≠ gb483) ho0 (fun k_ hk_ => ⟨hk_.2, Or.elim hk_.1 (fun hs_ => fun e_ => Nat.not_le.2 hs_ (Kd.R_base HO482.out k_ e_.symm)) (fun hn_ => (Kd.fresh' (Kd.R_lt (by (with_reducible repeat (first | apply Kd.R_alloc | apply Kd.R_drewN | apply Kd.R_drew)); exact HO482.out)) k_ hn_)), Or.elim hk_.1 (fun hs_ => fun e_ => Nat.not_le.2 hs_ (by rw [e_]; exact GW483.out)) (fun hn_ => (Kd.freshB (g := gb483) (o := .cells #[.int .i64 t475, .int .i64 t476, .int .i64 t477, .int .i64 t478, .int .i64 t479] 36 (0, 0)) (by (with_reducible repeat (first | refine blk_drewN ?_ _ | refine blk_drew ?_ | refine blk_alloc ?_ _)); exact BK483.out) k_ hn_))⟩)) (below_size (by repeat (first | (with_reducible first | exact HB.out | apply below_alloc | apply pw_below_drewN | apply below_drew1 | refine below_set ?_ GE483.out) | exact HB.out)))); have n2_ := Aside0.mk (Kd.R_lower (Kd.R_mono (ok' := fun k_ => True) ho1 (fun _ hk_ => trivial)) (below_size (by repeat (first | (with_reducible first | exact HB.out | apply below_alloc | apply pw_below_drewN | apply below_drew1 | refine below_set ?_ GE483.out) | exact HB.out)))); have n3_ := Aside0.mk (blk_below (g := gb483) (o := .cells #[.int .i64 t475, .int .i64 t476, .int .i64 t477, .int .i64 t478, .int .i64 t479] 36 (0, 0)) (by (with_reducible repeat (first | refine blk_drewN ?_ _ | refine blk_drew ?_ | refine blk_alloc ?_ _)); exact BK483.out) hb); have n4_ := Aside0.mk (below_step (by repeat (first | (with_reducible first | exact HB.out | apply below_alloc | apply pw_below_drewN | apply below_drew1 | refine below_set ?_ GE483.out) | exact HB.out)) hb); clear HO482; clear BK483; clear HB; have HO482 := n0_; have HO486 := n1_; have HO489 := n2_; have BK483 := n3_; have HB := n4_; clear n0_ n1_ n2_ n3_ n4_; (try clear hb); (try clear hb2); (try clear hk); (try clear hi); (try clear ho0); (try clear ho1); have hcz37_0 : w36.cell? ⟨gb483, 0, none⟩ = some (.int .i64 t475) := (blk_cell BK483.out 0).trans rfl; have hcz37_1 : w36.cell? ⟨gb483, 1, none⟩ = some (.int .i64 t476) := (blk_cell BK483.out 1).trans rfl; have hcz37_2 : w36.cell? ⟨gb483, 2, none⟩ = some (.int .i64 t477) := (blk_cell BK483.out 2).trans rfl; have hcz37_3 : w36.cell? ⟨gb483, 3, none⟩ = some (.int .i64 t478) := (blk_cell BK483.out 3).trans rfl; have hcz37_4 : w36.cell? ⟨gb483, 4, none⟩ = some (.int .i64 t479) := (blk_cell BK483.out 4).trans rfl; have hfz37_0 := blk_frozen BK483.out 0; have hfz37_1 := blk_frozen BK483.out 1; have hfz37_2 := blk_frozen BK483.out 2; have hfz37_3 := blk_frozen BK483.out 3; have hfz37_4 := blk_frozen BK483.out 4; obtain ⟨Ao38, co38, eo38⟩ := Kd.N_slice HO486.out; subst eo38) | ((with_reducible refine gate_callee (f := 23) rfl ?_); refine goesL_ (some 38) rfl rfl Try.func23 (by kernel_rfl) rfl #[.agg #[.int .i64 t475, .int .i64 t476, .int .i64 t477, .int .i64 t478, .int .i64 t479], .slice Ao38 t484.length co38] rfl (by (try simp only [List.map_toArray, List.map_cons, List.map_nil]); first | done | rfl | (simp only [List.length_drop, List.length_take]; rfl)) ?_; (with_reducible refine (blocking_Join.calls k t475 t476 t477 t478 t479 _ _ t484 t490 t493 _ ?side1 ?side2 A7.out).mono ?_); (case side1 => repeat (first | exact (Kd.N_reads' HO486.out).2.2 | (with_reducible refine Kd.C_alloc ?_ _) | (with_reducible refine Kd.C_drewN ?_ _) | (with_reducible refine Kd.C_drew ?_))); (case side2 => exact (Kd.N_reads' HO486.out).2.1); rintro e w39 ⟨v491, v494, rfl, ho0, ho1, hb⟩; refine ⟨_, rfl, ?_⟩; have n0_ := Aside0.mk (Kd.R_below (by (with_reducible repeat (first | apply Kd.R_alloc | apply Kd.R_drewN | apply Kd.R_drew)); exact HO482.out) hb); have n1_ := Aside0.mk (Kd.N_elder' (by (with_reducible repeat (first | apply Kd.N_alloc | apply Kd.N_drewN | apply Kd.N_drew)); exact HO486.out) (Kd.R_base ho1) hb); have n2_ := Aside0.mk (Kd.R_below (by (with_reducible repeat (first | apply Kd.R_alloc | apply Kd.R_drewN | apply Kd.R_drew)); exact HO489.out) hb); have n3_ := Aside0.mk (Kd.V_lower (Kd.V_mono (ok' := fun k_ => some k_ ≠ (v494 : Value).ownBlock ∧ some k_ ≠ (.slice Ao34 t480.length co34 : Value).ownBlock ∧ some k_ ≠ (.slice Ao38 t484.length co38 : Value).ownBlock ∧ some k_ ≠ (v488 : Value).ownBlock ∧ k_ ≠ gb483) ho0 (fun k_ hk_ => ⟨hk_.2, (Kd.fresh' (Kd.R_lt (by (with_reducible repeat (first | apply Kd.R_alloc | apply Kd.R_drewN | apply Kd.R_drew)); exact HO482.out)) k_ hk_.1), (Kd.fresh' (Kd.N_lt (by (with_reducible repeat (first | apply Kd.N_alloc | apply Kd.N_drewN | apply Kd.N_drew)); exact HO486.out)) k_ hk_.1), (Kd.fresh' (Kd.R_lt (by (with_reducible repeat (first | apply Kd.R_alloc | apply Kd.R_drewN | apply Kd.R_drew)); exact HO489.out)) k_ hk_.1), (Kd.freshB (g := gb483) (o := .cells #[.int .i64 t475, .int .i64 t476, .int .i64 t477, .int .i64 t478, .int .i64 t479] 36 (0, 0)) (by (with_reducible repeat (first | refine blk_drewN ?_ _ | refine blk_drew ?_ | refine blk_alloc ?_ _)); exact BK483.out) k_ hk_.1)⟩)) (below_size (by repeat (first | (with_reducible first | exact HB.out | apply below_alloc | apply pw_below_drewN | apply below_drew1 | refine below_set ?_ GE483.out) | exact HB.out)))); have n4_ := Aside0.mk (Kd.R_lower (Kd.R_mono (ok' := fun k_ => True) ho1 (fun _ hk_ => trivial)) (below_size (by repeat (first | (with_reducible first | exact HB.out | apply below_alloc | apply pw_below_drewN | apply below_drew1 | refine below_set ?_ GE483.out) | exact HB.out)))); have n5_ := Aside0.mk (blk_below (g := gb483) (o := .cells #[.int .i64 t475, .int .i64 t476, .int .i64 t477, .int .i64 t478, .int .i64 t479] 36 (0, 0)) (by (with_reducible repeat (first | refine blk_drewN ?_ _ | refine blk_drew ?_ | refine blk_alloc ?_ _)); exact BK483.out) hb); have n6_ := Aside0.mk (below_step (by repeat (first | (with_reducible first | exact HB.out | apply below_alloc | apply pw_below_drewN | apply below_drew1 | refine below_set ?_ GE483.out) | exact HB.out)) hb); clear HO482; clear HO486; clear HO489; clear BK483; clear HB; have HO482 := n0_; have HO486 := n1_; have HO489 := n2_; have HO492 := n3_; have HO495 := n4_; have BK483 := n5_; have HB := n6_; clear n0_ n1_ n2_ n3_ n4_ n5_ n6_; (try clear hb); (try clear hb2); (try clear hk); (try clear hi); (try clear ho0); (try clear ho1); obtain ⟨Ao40, co40, eo40⟩ := Kd.R_slice HO489.out; subst eo40; obtain ⟨Ao41, co41, eo41⟩ := Kd.R_slice HO495.out; subst eo41; obtain ⟨Ao42, co42, eo42⟩ := Kd.V_slice HO492.out; subst eo42; have hcv43 := Kd.C_string (P := Try.prog) (A := Ao42) (c := co42) Try.underlying23 Try.underlying5 Try.underlying9 (Kd.V_reads' HO492.out).2.2; have hcv44 := Kd.C_string (P := Try.prog) (A := A0) (c := c0) Try.underlying23 Try.underlying5 Try.underlying9 (Kd.C_below HR0.out HB.out); have hcz45_0 : w39.cell? ⟨gb483, 0, none⟩ = some (.int .i64 t475) := (blk_cell BK483.out 0).trans rfl; have hcz45_1 : w39.cell? ⟨gb483, 1, none⟩ = some (.int .i64 t476) := (blk_cell BK483.out 1).trans rfl; have hcz45_2 : w39.cell? ⟨gb483, 2, none⟩ = some (.int .i64 t477) := (blk_cell BK483.out 2).trans rfl; have hcz45_3 : w39.cell? ⟨gb483, 3, none⟩ = some (.int .i64 t478) := (blk_cell BK483.out 3).trans rfl; have hcz45_4 : w39.cell? ⟨gb483, 4, none⟩ = some (.int .i64 t479) := (blk_cell BK483.out 4).trans rfl; have hfz45_0 := blk_frozen BK483.out 0; have hfz45_1 := blk_frozen BK483.out 1; have hfz45_2 := blk_frozen BK483.out 2; have hfz45_3 := blk_frozen BK483.out 3; have hfz45_4 := blk_frozen BK483.out 4))
            go_ret
            exact ⟨by first | rfl | (simp [errW_none, errW_some] <;> rfl) | (simp [*, errW_none, errW_some] <;> rfl), by repeat (first | (with_reducible first | exact HB.out | apply below_alloc | apply pw_below_drewN | apply below_drew1 | refine below_set ?_ GE483.out) | exact HB.out)⟩
        · rw [if_neg c10] at H
          have c10b0 : ((strOfNums t490).toList == (strOfNums l0).toList) = false := beq_eq_false_iff_ne.mpr c10
          have c10b1 : ((strOfNums t490).toList != (strOfNums l0).toList) = true := bne_iff_ne.mpr c10
          obtain rfl := Option.some.inj H
          go_enter Try.func7, Try.ntmps7
          go_wp2_with (first | ((with_reducible refine gate_callee (f := 13) rfl ?_); refine goesL_ (some 18) rfl rfl Try.func13 (by kernel_rfl) rfl #[.int .i64 (l0.length : Int), .int .i64 a1, .int .i64 a2] rfl (by (try simp only [List.map_toArray, List.map_cons, List.map_nil]); first | done | rfl | (simp only [List.length_drop, List.length_take]; rfl)) ?_; (with_reducible refine (blocking_Of.calls k (l0.length : Int) a1 a2 t475 t476 t477 t478 t479 t480 _ A4.out).mono ?_); rintro e w46 ⟨v481, rfl, ho0, hb⟩; refine ⟨_, rfl, ?_⟩; have n0_ := Aside0.mk (Kd.R_lower ho0 (below_size (by repeat (first | (with_reducible first | exact HB.out | apply below_alloc | apply pw_below_drewN | apply below_drew1) | exact HB.out)))); have n1_ := Aside0.mk (below_step (by repeat (first | (with_reducible first | exact HB.out | apply below_alloc | apply pw_below_drewN | apply below_drew1) | exact HB.out)) hb); clear HB; have HO482 := n0_; have HB := n1_; clear n0_ n1_; (try clear hb); (try clear hb2); (try clear hk); (try clear hi); (try clear ho0)) | ((with_reducible refine gate_dst (N := 7) rfl ?_); (try (refine gate_guard (by rfl) ?_; dsimp only)); refine box_event ?hg (N := 7) ?hd (cs := #[.int .i64 0, .int .i64 0, .int .i64 0, .int .i64 0, .int .i64 0]) (t := 36) ?hr ?_; (case hd => rfl); (case hg => rfl); (case hr => first | (go_simp; done) | (go_simp; rfl)); intro gb483 hg w47 hbox hb; have n0_ := Aside0.mk (Kd.R_below (by (with_reducible repeat (first | apply Kd.R_alloc | apply Kd.R_drewN | apply Kd.R_drew)); exact HO482.out) hb); have n1_ := Aside0.mk (below_step (by repeat (first | (with_reducible first | exact HB.out | apply below_alloc | apply pw_below_drewN | apply below_drew1) | exact HB.out)) hb); have n2_ := Aside0.mk (hbox); have n3_ := Aside0.mk ((by rw [hg]; exact (below_size (by repeat (first | (with_reducible first | exact HB.out | apply below_alloc | apply pw_below_drewN | apply below_drew1) | exact HB.out))) : w.heap.size ≤ gb483)); have n4_ := Aside0.mk ((by rw [hg]; exact (below_size (by repeat (first | (with_reducible first | exact HB.out | apply below_alloc | apply pw_below_drewN | apply below_drew1) | exact HB.out))) : w.heap.size ≤ gb483)); clear HO482; clear HB; have HO482 := n0_; have HB := n1_; have BK483 := n2_; have GW483 := n3_; have GE483 := n4_; clear n0_ n1_ n2_ n3_ n4_; clear hb hbox hg; have hcz48_0 : w47.cell? ⟨gb483, 0, none⟩ = some (.int .i64 0) := (blk_cell BK483.out 0).trans rfl; have hcz48_1 : w47.cell? ⟨gb483, 1, none⟩ = some (.int .i64 0) := (blk_cell BK483.out 1).trans rfl; have hcz48_2 : w47.cell? ⟨gb483, 2, none⟩ = some (.int .i64 0) := (blk_cell BK483.out 2).trans rfl; have hcz48_3 : w47.cell? ⟨gb483, 3, none⟩ = some (.int .i64 0) := (blk_cell BK483.out 3).trans rfl; have hcz48_4 : w47.cell? ⟨gb483, 4, none⟩ = some (.int .i64 0) := (blk_cell BK483.out 4).trans rfl; have hfz48_0 := blk_frozen BK483.out 0; have hfz48_1 := blk_frozen BK483.out 1; have hfz48_2 := blk_frozen BK483.out 2; have hfz48_3 := blk_frozen BK483.out 3; have hfz48_4 := blk_frozen BK483.out 4) | ((with_reducible refine gate_store (t := 36) (p := 7) rfl ?_); refine store_event (t := 36) (p := 7) (v := ?vo_w49) (w1 := (((((w47.setCell ⟨gb483, 0, none⟩ (.int .i64 t475)).setCell ⟨gb483, 1, none⟩ (.int .i64 t476)).setCell ⟨gb483, 2, none⟩ (.int .i64 t477)).setCell ⟨gb483, 3, none⟩ (.int .i64 t478)).setCell ⟨gb483, 4, none⟩ (.int .i64 t479))) ?hg ?ho ?hn ?hr ?_; (case ho => rfl); (case hg => rfl); (case hn => rfl); (case hr => first | (go_simp; done) | (go_simp; rfl)); intro w49 hw; have n0_ : Aside0 (Kd.R kF 67 w49 w.heap.size (fun _ => True) v481 t480) := ⟨(by rw [hw]; exact (by (with_reducible repeat (first | apply Kd.R_alloc | apply Kd.R_drewN | apply Kd.R_drew)); exact Kd.R_mono (Kd.R_far (p := ⟨gb483, 4, none⟩) (Kd.R_far (p := ⟨gb483, 3, none⟩) (Kd.R_far (p := ⟨gb483, 2, none⟩) (Kd.R_far (p := ⟨gb483, 1, none⟩) (Kd.R_far (p := ⟨gb483, 0, none⟩) (Kd.R_types HO482.out BK483.out (by decide)) (fun _ hk => hk.2) (.int .i64 t475)) (fun _ hk => hk.2) (.int .i64 t476)) (fun _ hk => hk.2) (.int .i64 t477)) (fun _ hk => hk.2) (.int .i64 t478)) (fun _ hk => hk.2) (.int .i64 t479)) (fun _ hk => trivial)))⟩; have n1_ : Aside0 (w49.heap[gb483]? = some (.cells #[.int .i64 t475, .int .i64 t476, .int .i64 t477, .int .i64 t478, .int .i64 t479] 36 (0, 0))) := ⟨(by rw [hw]; exact (by (with_reducible repeat (first | refine blk_drewN ?_ _ | refine blk_drew ?_ | refine blk_alloc ?_ _)); refine blk_put (cs := #[.int .i64 t475, .int .i64 t476, .int .i64 t477, .int .i64 t478, .int .i64 0]) ?_ 4 _ rfl; (with_reducible repeat (first | refine blk_drewN ?_ _ | refine blk_drew ?_ | refine blk_alloc ?_ _)); refine blk_put (cs := #[.int .i64 t475, .int .i64 t476, .int .i64 t477, .int .i64 0, .int .i64 0]) ?_ 3 _ rfl; (with_reducible repeat (first | refine blk_drewN ?_ _ | refine blk_drew ?_ | refine blk_alloc ?_ _)); refine blk_put (cs := #[.int .i64 t475, .int .i64 t476, .int .i64 0, .int .i64 0, .int .i64 0]) ?_ 2 _ rfl; (with_reducible repeat (first | refine blk_drewN ?_ _ | refine blk_drew ?_ | refine blk_alloc ?_ _)); refine blk_put (cs := #[.int .i64 t475, .int .i64 0, .int .i64 0, .int .i64 0, .int .i64 0]) ?_ 1 _ rfl; (with_reducible repeat (first | refine blk_drewN ?_ _ | refine blk_drew ?_ | refine blk_alloc ?_ _)); refine blk_put (cs := #[.int .i64 0, .int .i64 0, .int .i64 0, .int .i64 0, .int .i64 0]) ?_ 0 _ rfl; (with_reducible repeat (first | refine blk_drewN ?_ _ | refine blk_drew ?_ | refine blk_alloc ?_ _)); exact BK483.out))⟩; have n2_ : Aside0 (Below w.heap.size w w49) := ⟨(by rw [hw]; exact (by repeat (first | (with_reducible first | exact HB.out | apply below_alloc | apply pw_below_drewN | apply below_drew1 | refine below_set ?_ GE483.out) | exact HB.out)))⟩; clear hw; clear HO482; clear BK483; clear HB; have HO482 := n0_; have BK483 := n1_; have HB := n2_; clear n0_ n1_ n2_; obtain ⟨Ao50, co50, eo50⟩ := Kd.R_slice HO482.out; subst eo50; have hcz51_0 : w49.cell? ⟨gb483, 0, none⟩ = some (.int .i64 t475) := (blk_cell BK483.out 0).trans rfl; have hcz51_1 : w49.cell? ⟨gb483, 1, none⟩ = some (.int .i64 t476) := (blk_cell BK483.out 1).trans rfl; have hcz51_2 : w49.cell? ⟨gb483, 2, none⟩ = some (.int .i64 t477) := (blk_cell BK483.out 2).trans rfl; have hcz51_3 : w49.cell? ⟨gb483, 3, none⟩ = some (.int .i64 t478) := (blk_cell BK483.out 3).trans rfl; have hcz51_4 : w49.cell? ⟨gb483, 4, none⟩ = some (.int .i64 t479) := (blk_cell BK483.out 4).trans rfl; have hfz51_0 := blk_frozen BK483.out 0; have hfz51_1 := blk_frozen BK483.out 1; have hfz51_2 := blk_frozen BK483.out 2; have hfz51_3 := blk_frozen BK483.out 3; have hfz51_4 := blk_frozen BK483.out 4) | ((with_reducible refine gate_callee (f := 22) rfl ?_); refine goesL_ (some 32) rfl rfl Try.func22 (by kernel_rfl) rfl #[.slice A0 l0.length c0, .agg #[.int .i64 t475, .int .i64 t476, .int .i64 t477, .int .i64 t478, .int .i64 t479]] rfl (by (try simp only [List.map_toArray, List.map_cons, List.map_nil]); first | done | rfl | (simp only [List.length_drop, List.length_take]; rfl)) ?_; (with_reducible refine (blocking_Cut.calls k (fun k_ => k_ < w.heap.size) _ _ l0 t475 t476 t477 t478 t479 t484 t487 _ ?side1 A6.out).mono ?_); (case side1 => exact Kd.V_mk HC0.out (Kd.F_below (Kd.C_F (Kd.heap_int .u8) HR0.out) (by repeat (first | (with_reducible first | exact HB.out | apply below_alloc | apply pw_below_drewN | apply below_drew1 | refine below_set ?_ GE483.out) | exact HB.out)))); rintro e w52 ⟨v485, v488, rfl, ho0, ho1, hb⟩; refine ⟨_, rfl, ?_⟩; (try replace ho0 := Kd.N_mono (ok' := fun k_ => ((k_ < w.heap.size) ∨ _ ≤ k_) ∧ some k_ ≠ (v488 : Value).ownBlock) (Kd.S_N (Kd.S_apart' ho0 (Kd.R_typed ho1) (by decide))) (fun k_ hk => ⟨.inr hk.1, hk.2⟩)); have n0_ := Aside0.mk (Kd.R_below (by (with_reducible repeat (first | apply Kd.R_alloc | apply Kd.R_drewN | apply Kd.R_drew)); exact HO482.out) hb); have n1_ := Aside0.mk (Kd.N_lower (Kd.N_mono (ok' := fun k_ => some k_ ≠ (v488 : Value).ownBlock ∧ some k_ ≠ (.slice Ao50 t480.length co50 : Value).ownBlock ∧ k_ ≠ gb483) ho0 (fun k_ hk_ => ⟨hk_.2, Or.elim hk_.1 (fun hs_ => fun e_ => Nat.not_le.2 hs_ (Kd.R_base HO482.out k_ e_.symm)) (fun hn_ => (Kd.fresh' (Kd.R_lt (by (with_reducible repeat (first | apply Kd.R_alloc | apply Kd.R_drewN | apply Kd.R_drew)); exact HO482.out)) k_ hn_)), Or.elim hk_.1 (fun hs_ => fun e_ => Nat.not_le.2 hs_ (by rw [e_]; exact GW483.out)) (fun hn_ => (Kd.freshB (g := gb483) (o := .cells #[.int .i64 t475, .int .i64 t476, .int .i64 t477, .int .i64 t478, .int .i64 t479] 36 (0, 0)) (by (with_reducible repeat (first | refine blk_drewN ?_ _ | refine blk_drew ?_ | refine blk_alloc ?_ _)); exact BK483.out) k_ hn_))⟩)) (below_size (by repeat (first | (with_reducible first | exact HB.out | apply below_alloc | apply pw_below_drewN | apply below_drew1 | refine below_set ?_ GE483.out) | exact HB.out)))); have n2_ := Aside0.mk (Kd.R_lower (Kd.R_mono (ok' := fun k_ => True) ho1 (fun _ hk_ => trivial)) (below_size (by repeat (first | (with_reducible first | exact HB.out | apply below_alloc | apply pw_below_drewN | apply below_drew1 | refine below_set ?_ GE483.out) | exact HB.out)))); have n3_ := Aside0.mk (blk_below (g := gb483) (o := .cells #[.int .i64 t475, .int .i64 t476, .int .i64 t477, .int .i64 t478, .int .i64 t479] 36 (0, 0)) (by (with_reducible repeat (first | refine blk_drewN ?_ _ | refine blk_drew ?_ | refine blk_alloc ?_ _)); exact BK483.out) hb); have n4_ := Aside0.mk (below_step (by repeat (first | (with_reducible first | exact HB.out | apply below_alloc | apply pw_below_drewN | apply below_drew1 | refine below_set ?_ GE483.out) | exact HB.out)) hb); clear HO482; clear BK483; clear HB; have HO482 := n0_; have HO486 := n1_; have HO489 := n2_; have BK483 := n3_; have HB := n4_; clear n0_ n1_ n2_ n3_ n4_; (try clear hb); (try clear hb2); (try clear hk); (try clear hi); (try clear ho0); (try clear ho1); have hcz53_0 : w52.cell? ⟨gb483, 0, none⟩ = some (.int .i64 t475) := (blk_cell BK483.out 0).trans rfl; have hcz53_1 : w52.cell? ⟨gb483, 1, none⟩ = some (.int .i64 t476) := (blk_cell BK483.out 1).trans rfl; have hcz53_2 : w52.cell? ⟨gb483, 2, none⟩ = some (.int .i64 t477) := (blk_cell BK483.out 2).trans rfl; have hcz53_3 : w52.cell? ⟨gb483, 3, none⟩ = some (.int .i64 t478) := (blk_cell BK483.out 3).trans rfl; have hcz53_4 : w52.cell? ⟨gb483, 4, none⟩ = some (.int .i64 t479) := (blk_cell BK483.out 4).trans rfl; have hfz53_0 := blk_frozen BK483.out 0; have hfz53_1 := blk_frozen BK483.out 1; have hfz53_2 := blk_frozen BK483.out 2; have hfz53_3 := blk_frozen BK483.out 3; have hfz53_4 := blk_frozen BK483.out 4; obtain ⟨Ao54, co54, eo54⟩ := Kd.N_slice HO486.out; subst eo54) | ((with_reducible refine gate_callee (f := 23) rfl ?_); refine goesL_ (some 38) rfl rfl Try.func23 (by kernel_rfl) rfl #[.agg #[.int .i64 t475, .int .i64 t476, .int .i64 t477, .int .i64 t478, .int .i64 t479], .slice Ao54 t484.length co54] rfl (by (try simp only [List.map_toArray, List.map_cons, List.map_nil]); first | done | rfl | (simp only [List.length_drop, List.length_take]; rfl)) ?_; (with_reducible refine (blocking_Join.calls k t475 t476 t477 t478 t479 _ _ t484 t490 t493 _ ?side1 ?side2 A7.out).mono ?_); (case side1 => repeat (first | exact (Kd.N_reads' HO486.out).2.2 | (with_reducible refine Kd.C_alloc ?_ _) | (with_reducible refine Kd.C_drewN ?_ _) | (with_reducible refine Kd.C_drew ?_))); (case side2 => exact (Kd.N_reads' HO486.out).2.1); rintro e w55 ⟨v491, v494, rfl, ho0, ho1, hb⟩; refine ⟨_, rfl, ?_⟩; have n0_ := Aside0.mk (Kd.R_below (by (with_reducible repeat (first | apply Kd.R_alloc | apply Kd.R_drewN | apply Kd.R_drew)); exact HO482.out) hb); have n1_ := Aside0.mk (Kd.N_elder' (by (with_reducible repeat (first | apply Kd.N_alloc | apply Kd.N_drewN | apply Kd.N_drew)); exact HO486.out) (Kd.R_base ho1) hb); have n2_ := Aside0.mk (Kd.R_below (by (with_reducible repeat (first | apply Kd.R_alloc | apply Kd.R_drewN | apply Kd.R_drew)); exact HO489.out) hb); have n3_ := Aside0.mk (Kd.V_lower (Kd.V_mono (ok' := fun k_ => some k_ ≠ (v494 : Value).ownBlock ∧ some k_ ≠ (.slice Ao50 t480.length co50 : Value).ownBlock ∧ some k_ ≠ (.slice Ao54 t484.length co54 : Value).ownBlock ∧ some k_ ≠ (v488 : Value).ownBlock ∧ k_ ≠ gb483) ho0 (fun k_ hk_ => ⟨hk_.2, (Kd.fresh' (Kd.R_lt (by (with_reducible repeat (first | apply Kd.R_alloc | apply Kd.R_drewN | apply Kd.R_drew)); exact HO482.out)) k_ hk_.1), (Kd.fresh' (Kd.N_lt (by (with_reducible repeat (first | apply Kd.N_alloc | apply Kd.N_drewN | apply Kd.N_drew)); exact HO486.out)) k_ hk_.1), (Kd.fresh' (Kd.R_lt (by (with_reducible repeat (first | apply Kd.R_alloc | apply Kd.R_drewN | apply Kd.R_drew)); exact HO489.out)) k_ hk_.1), (Kd.freshB (g := gb483) (o := .cells #[.int .i64 t475, .int .i64 t476, .int .i64 t477, .int .i64 t478, .int .i64 t479] 36 (0, 0)) (by (with_reducible repeat (first | refine blk_drewN ?_ _ | refine blk_drew ?_ | refine blk_alloc ?_ _)); exact BK483.out) k_ hk_.1)⟩)) (below_size (by repeat (first | (with_reducible first | exact HB.out | apply below_alloc | apply pw_below_drewN | apply below_drew1 | refine below_set ?_ GE483.out) | exact HB.out)))); have n4_ := Aside0.mk (Kd.R_lower (Kd.R_mono (ok' := fun k_ => True) ho1 (fun _ hk_ => trivial)) (below_size (by repeat (first | (with_reducible first | exact HB.out | apply below_alloc | apply pw_below_drewN | apply below_drew1 | refine below_set ?_ GE483.out) | exact HB.out)))); have n5_ := Aside0.mk (blk_below (g := gb483) (o := .cells #[.int .i64 t475, .int .i64 t476, .int .i64 t477, .int .i64 t478, .int .i64 t479] 36 (0, 0)) (by (with_reducible repeat (first | refine blk_drewN ?_ _ | refine blk_drew ?_ | refine blk_alloc ?_ _)); exact BK483.out) hb); have n6_ := Aside0.mk (below_step (by repeat (first | (with_reducible first | exact HB.out | apply below_alloc | apply pw_below_drewN | apply below_drew1 | refine below_set ?_ GE483.out) | exact HB.out)) hb); clear HO482; clear HO486; clear HO489; clear BK483; clear HB; have HO482 := n0_; have HO486 := n1_; have HO489 := n2_; have HO492 := n3_; have HO495 := n4_; have BK483 := n5_; have HB := n6_; clear n0_ n1_ n2_ n3_ n4_ n5_ n6_; (try clear hb); (try clear hb2); (try clear hk); (try clear hi); (try clear ho0); (try clear ho1); obtain ⟨Ao56, co56, eo56⟩ := Kd.R_slice HO489.out; subst eo56; obtain ⟨Ao57, co57, eo57⟩ := Kd.R_slice HO495.out; subst eo57; obtain ⟨Ao58, co58, eo58⟩ := Kd.V_slice HO492.out; subst eo58; have hcv59 := Kd.C_string (P := Try.prog) (A := Ao58) (c := co58) Try.underlying23 Try.underlying5 Try.underlying9 (Kd.V_reads' HO492.out).2.2; have hcv60 := Kd.C_string (P := Try.prog) (A := A0) (c := c0) Try.underlying23 Try.underlying5 Try.underlying9 (Kd.C_below HR0.out HB.out)))
          go_ret
          exact ⟨by first | rfl | (simp [errW_none, errW_some] <;> rfl) | (simp [*, errW_none, errW_some] <;> rfl), by repeat (first | (with_reducible first | exact HB.out | apply below_alloc | apply pw_below_drewN | apply below_drew1 | refine below_set ?_ GE483.out) | exact HB.out)⟩
      · rw [if_neg c9] at H
        have c9b0 : ((t493.length : Int) == 0) = false := beq_eq_false_iff_ne.mpr c9
        have c9b1 : ((t493.length : Int) != 0) = true := bne_iff_ne.mpr c9
        have c9b2 : ¬ (t493 = []) := fun h_ => c9 (by rw [h_]; rfl)
        obtain rfl := Option.some.inj H
        go_enter Try.func7, Try.ntmps7
        go_wp2_with (first | ((with_reducible refine gate_callee (f := 13) rfl ?_); refine goesL_ (some 18) rfl rfl Try.func13 (by kernel_rfl) rfl #[.int .i64 (l0.length : Int), .int .i64 a1, .int .i64 a2] rfl (by (try simp only [List.map_toArray, List.map_cons, List.map_nil]); first | done | rfl | (simp only [List.length_drop, List.length_take]; rfl)) ?_; (with_reducible refine (blocking_Of.calls k (l0.length : Int) a1 a2 t475 t476 t477 t478 t479 t480 _ A4.out).mono ?_); rintro e w61 ⟨v481, rfl, ho0, hb⟩; refine ⟨_, rfl, ?_⟩; have n0_ := Aside0.mk (Kd.R_lower ho0 (below_size (by repeat (first | (with_reducible first | exact HB.out | apply below_alloc | apply pw_below_drewN | apply below_drew1) | exact HB.out)))); have n1_ := Aside0.mk (below_step (by repeat (first | (with_reducible first | exact HB.out | apply below_alloc | apply pw_below_drewN | apply below_drew1) | exact HB.out)) hb); clear HB; have HO482 := n0_; have HB := n1_; clear n0_ n1_; (try clear hb); (try clear hb2); (try clear hk); (try clear hi); (try clear ho0)) | ((with_reducible refine gate_dst (N := 7) rfl ?_); (try (refine gate_guard (by rfl) ?_; dsimp only)); refine box_event ?hg (N := 7) ?hd (cs := #[.int .i64 0, .int .i64 0, .int .i64 0, .int .i64 0, .int .i64 0]) (t := 36) ?hr ?_; (case hd => rfl); (case hg => rfl); (case hr => first | (go_simp; done) | (go_simp; rfl)); intro gb483 hg w62 hbox hb; have n0_ := Aside0.mk (Kd.R_below (by (with_reducible repeat (first | apply Kd.R_alloc | apply Kd.R_drewN | apply Kd.R_drew)); exact HO482.out) hb); have n1_ := Aside0.mk (below_step (by repeat (first | (with_reducible first | exact HB.out | apply below_alloc | apply pw_below_drewN | apply below_drew1) | exact HB.out)) hb); have n2_ := Aside0.mk (hbox); have n3_ := Aside0.mk ((by rw [hg]; exact (below_size (by repeat (first | (with_reducible first | exact HB.out | apply below_alloc | apply pw_below_drewN | apply below_drew1) | exact HB.out))) : w.heap.size ≤ gb483)); have n4_ := Aside0.mk ((by rw [hg]; exact (below_size (by repeat (first | (with_reducible first | exact HB.out | apply below_alloc | apply pw_below_drewN | apply below_drew1) | exact HB.out))) : w.heap.size ≤ gb483)); clear HO482; clear HB; have HO482 := n0_; have HB := n1_; have BK483 := n2_; have GW483 := n3_; have GE483 := n4_; clear n0_ n1_ n2_ n3_ n4_; clear hb hbox hg; have hcz63_0 : w62.cell? ⟨gb483, 0, none⟩ = some (.int .i64 0) := (blk_cell BK483.out 0).trans rfl; have hcz63_1 : w62.cell? ⟨gb483, 1, none⟩ = some (.int .i64 0) := (blk_cell BK483.out 1).trans rfl; have hcz63_2 : w62.cell? ⟨gb483, 2, none⟩ = some (.int .i64 0) := (blk_cell BK483.out 2).trans rfl; have hcz63_3 : w62.cell? ⟨gb483, 3, none⟩ = some (.int .i64 0) := (blk_cell BK483.out 3).trans rfl; have hcz63_4 : w62.cell? ⟨gb483, 4, none⟩ = some (.int .i64 0) := (blk_cell BK483.out 4).trans rfl; have hfz63_0 := blk_frozen BK483.out 0; have hfz63_1 := blk_frozen BK483.out 1; have hfz63_2 := blk_frozen BK483.out 2; have hfz63_3 := blk_frozen BK483.out 3; have hfz63_4 := blk_frozen BK483.out 4) | ((with_reducible refine gate_store (t := 36) (p := 7) rfl ?_); refine store_event (t := 36) (p := 7) (v := ?vo_w64) (w1 := (((((w62.setCell ⟨gb483, 0, none⟩ (.int .i64 t475)).setCell ⟨gb483, 1, none⟩ (.int .i64 t476)).setCell ⟨gb483, 2, none⟩ (.int .i64 t477)).setCell ⟨gb483, 3, none⟩ (.int .i64 t478)).setCell ⟨gb483, 4, none⟩ (.int .i64 t479))) ?hg ?ho ?hn ?hr ?_; (case ho => rfl); (case hg => rfl); (case hn => rfl); (case hr => first | (go_simp; done) | (go_simp; rfl)); intro w64 hw; have n0_ : Aside0 (Kd.R kF 67 w64 w.heap.size (fun _ => True) v481 t480) := ⟨(by rw [hw]; exact (by (with_reducible repeat (first | apply Kd.R_alloc | apply Kd.R_drewN | apply Kd.R_drew)); exact Kd.R_mono (Kd.R_far (p := ⟨gb483, 4, none⟩) (Kd.R_far (p := ⟨gb483, 3, none⟩) (Kd.R_far (p := ⟨gb483, 2, none⟩) (Kd.R_far (p := ⟨gb483, 1, none⟩) (Kd.R_far (p := ⟨gb483, 0, none⟩) (Kd.R_types HO482.out BK483.out (by decide)) (fun _ hk => hk.2) (.int .i64 t475)) (fun _ hk => hk.2) (.int .i64 t476)) (fun _ hk => hk.2) (.int .i64 t477)) (fun _ hk => hk.2) (.int .i64 t478)) (fun _ hk => hk.2) (.int .i64 t479)) (fun _ hk => trivial)))⟩; have n1_ : Aside0 (w64.heap[gb483]? = some (.cells #[.int .i64 t475, .int .i64 t476, .int .i64 t477, .int .i64 t478, .int .i64 t479] 36 (0, 0))) := ⟨(by rw [hw]; exact (by (with_reducible repeat (first | refine blk_drewN ?_ _ | refine blk_drew ?_ | refine blk_alloc ?_ _)); refine blk_put (cs := #[.int .i64 t475, .int .i64 t476, .int .i64 t477, .int .i64 t478, .int .i64 0]) ?_ 4 _ rfl; (with_reducible repeat (first | refine blk_drewN ?_ _ | refine blk_drew ?_ | refine blk_alloc ?_ _)); refine blk_put (cs := #[.int .i64 t475, .int .i64 t476, .int .i64 t477, .int .i64 0, .int .i64 0]) ?_ 3 _ rfl; (with_reducible repeat (first | refine blk_drewN ?_ _ | refine blk_drew ?_ | refine blk_alloc ?_ _)); refine blk_put (cs := #[.int .i64 t475, .int .i64 t476, .int .i64 0, .int .i64 0, .int .i64 0]) ?_ 2 _ rfl; (with_reducible repeat (first | refine blk_drewN ?_ _ | refine blk_drew ?_ | refine blk_alloc ?_ _)); refine blk_put (cs := #[.int .i64 t475, .int .i64 0, .int .i64 0, .int .i64 0, .int .i64 0]) ?_ 1 _ rfl; (with_reducible repeat (first | refine blk_drewN ?_ _ | refine blk_drew ?_ | refine blk_alloc ?_ _)); refine blk_put (cs := #[.int .i64 0, .int .i64 0, .int .i64 0, .int .i64 0, .int .i64 0]) ?_ 0 _ rfl; (with_reducible repeat (first | refine blk_drewN ?_ _ | refine blk_drew ?_ | refine blk_alloc ?_ _)); exact BK483.out))⟩; have n2_ : Aside0 (Below w.heap.size w w64) := ⟨(by rw [hw]; exact (by repeat (first | (with_reducible first | exact HB.out | apply below_alloc | apply pw_below_drewN | apply below_drew1 | refine below_set ?_ GE483.out) | exact HB.out)))⟩; clear hw; clear HO482; clear BK483; clear HB; have HO482 := n0_; have BK483 := n1_; have HB := n2_; clear n0_ n1_ n2_; obtain ⟨Ao65, co65, eo65⟩ := Kd.R_slice HO482.out; subst eo65; have hcz66_0 : w64.cell? ⟨gb483, 0, none⟩ = some (.int .i64 t475) := (blk_cell BK483.out 0).trans rfl; have hcz66_1 : w64.cell? ⟨gb483, 1, none⟩ = some (.int .i64 t476) := (blk_cell BK483.out 1).trans rfl; have hcz66_2 : w64.cell? ⟨gb483, 2, none⟩ = some (.int .i64 t477) := (blk_cell BK483.out 2).trans rfl; have hcz66_3 : w64.cell? ⟨gb483, 3, none⟩ = some (.int .i64 t478) := (blk_cell BK483.out 3).trans rfl; have hcz66_4 : w64.cell? ⟨gb483, 4, none⟩ = some (.int .i64 t479) := (blk_cell BK483.out 4).trans rfl; have hfz66_0 := blk_frozen BK483.out 0; have hfz66_1 := blk_frozen BK483.out 1; have hfz66_2 := blk_frozen BK483.out 2; have hfz66_3 := blk_frozen BK483.out 3; have hfz66_4 := blk_frozen BK483.out 4) | ((with_reducible refine gate_callee (f := 22) rfl ?_); refine goesL_ (some 32) rfl rfl Try.func22 (by kernel_rfl) rfl #[.slice A0 l0.length c0, .agg #[.int .i64 t475, .int .i64 t476, .int .i64 t477, .int .i64 t478, .int .i64 t479]] rfl (by (try simp only [List.map_toArray, List.map_cons, List.map_nil]); first | done | rfl | (simp only [List.length_drop, List.length_take]; rfl)) ?_; (with_reducible refine (blocking_Cut.calls k (fun k_ => k_ < w.heap.size) _ _ l0 t475 t476 t477 t478 t479 t484 t487 _ ?side1 A6.out).mono ?_); (case side1 => exact Kd.V_mk HC0.out (Kd.F_below (Kd.C_F (Kd.heap_int .u8) HR0.out) (by repeat (first | (with_reducible first | exact HB.out | apply below_alloc | apply pw_below_drewN | apply below_drew1 | refine below_set ?_ GE483.out) | exact HB.out)))); rintro e w67 ⟨v485, v488, rfl, ho0, ho1, hb⟩; refine ⟨_, rfl, ?_⟩; (try replace ho0 := Kd.N_mono (ok' := fun k_ => ((k_ < w.heap.size) ∨ _ ≤ k_) ∧ some k_ ≠ (v488 : Value).ownBlock) (Kd.S_N (Kd.S_apart' ho0 (Kd.R_typed ho1) (by decide))) (fun k_ hk => ⟨.inr hk.1, hk.2⟩)); have n0_ := Aside0.mk (Kd.R_below (by (with_reducible repeat (first | apply Kd.R_alloc | apply Kd.R_drewN | apply Kd.R_drew)); exact HO482.out) hb); have n1_ := Aside0.mk (Kd.N_lower (Kd.N_mono (ok' := fun k_ => some k_ ≠ (v488 : Value).ownBlock ∧ some k_ ≠ (.slice Ao65 t480.length co65 : Value).ownBlock ∧ k_ ≠ gb483) ho0 (fun k_ hk_ => ⟨hk_.2, Or.elim hk_.1 (fun hs_ => fun e_ => Nat.not_le.2 hs_ (Kd.R_base HO482.out k_ e_.symm)) (fun hn_ => (Kd.fresh' (Kd.R_lt (by (with_reducible repeat (first | apply Kd.R_alloc | apply Kd.R_drewN | apply Kd.R_drew)); exact HO482.out)) k_ hn_)), Or.elim hk_.1 (fun hs_ => fun e_ => Nat.not_le.2 hs_ (by rw [e_]; exact GW483.out)) (fun hn_ => (Kd.freshB (g := gb483) (o := .cells #[.int .i64 t475, .int .i64 t476, .int .i64 t477, .int .i64 t478, .int .i64 t479] 36 (0, 0)) (by (with_reducible repeat (first | refine blk_drewN ?_ _ | refine blk_drew ?_ | refine blk_alloc ?_ _)); exact BK483.out) k_ hn_))⟩)) (below_size (by repeat (first | (with_reducible first | exact HB.out | apply below_alloc | apply pw_below_drewN | apply below_drew1 | refine below_set ?_ GE483.out) | exact HB.out)))); have n2_ := Aside0.mk (Kd.R_lower (Kd.R_mono (ok' := fun k_ => True) ho1 (fun _ hk_ => trivial)) (below_size (by repeat (first | (with_reducible first | exact HB.out | apply below_alloc | apply pw_below_drewN | apply below_drew1 | refine below_set ?_ GE483.out) | exact HB.out)))); have n3_ := Aside0.mk (blk_below (g := gb483) (o := .cells #[.int .i64 t475, .int .i64 t476, .int .i64 t477, .int .i64 t478, .int .i64 t479] 36 (0, 0)) (by (with_reducible repeat (first | refine blk_drewN ?_ _ | refine blk_drew ?_ | refine blk_alloc ?_ _)); exact BK483.out) hb); have n4_ := Aside0.mk (below_step (by repeat (first | (with_reducible first | exact HB.out | apply below_alloc | apply pw_below_drewN | apply below_drew1 | refine below_set ?_ GE483.out) | exact HB.out)) hb); clear HO482; clear BK483; clear HB; have HO482 := n0_; have HO486 := n1_; have HO489 := n2_; have BK483 := n3_; have HB := n4_; clear n0_ n1_ n2_ n3_ n4_; (try clear hb); (try clear hb2); (try clear hk); (try clear hi); (try clear ho0); (try clear ho1); have hcz68_0 : w67.cell? ⟨gb483, 0, none⟩ = some (.int .i64 t475) := (blk_cell BK483.out 0).trans rfl; have hcz68_1 : w67.cell? ⟨gb483, 1, none⟩ = some (.int .i64 t476) := (blk_cell BK483.out 1).trans rfl; have hcz68_2 : w67.cell? ⟨gb483, 2, none⟩ = some (.int .i64 t477) := (blk_cell BK483.out 2).trans rfl; have hcz68_3 : w67.cell? ⟨gb483, 3, none⟩ = some (.int .i64 t478) := (blk_cell BK483.out 3).trans rfl; have hcz68_4 : w67.cell? ⟨gb483, 4, none⟩ = some (.int .i64 t479) := (blk_cell BK483.out 4).trans rfl; have hfz68_0 := blk_frozen BK483.out 0; have hfz68_1 := blk_frozen BK483.out 1; have hfz68_2 := blk_frozen BK483.out 2; have hfz68_3 := blk_frozen BK483.out 3; have hfz68_4 := blk_frozen BK483.out 4; obtain ⟨Ao69, co69, eo69⟩ := Kd.N_slice HO486.out; subst eo69) | ((with_reducible refine gate_callee (f := 23) rfl ?_); refine goesL_ (some 38) rfl rfl Try.func23 (by kernel_rfl) rfl #[.agg #[.int .i64 t475, .int .i64 t476, .int .i64 t477, .int .i64 t478, .int .i64 t479], .slice Ao69 t484.length co69] rfl (by (try simp only [List.map_toArray, List.map_cons, List.map_nil]); first | done | rfl | (simp only [List.length_drop, List.length_take]; rfl)) ?_; (with_reducible refine (blocking_Join.calls k t475 t476 t477 t478 t479 _ _ t484 t490 t493 _ ?side1 ?side2 A7.out).mono ?_); (case side1 => repeat (first | exact (Kd.N_reads' HO486.out).2.2 | (with_reducible refine Kd.C_alloc ?_ _) | (with_reducible refine Kd.C_drewN ?_ _) | (with_reducible refine Kd.C_drew ?_))); (case side2 => exact (Kd.N_reads' HO486.out).2.1); rintro e w70 ⟨v491, v494, rfl, ho0, ho1, hb⟩; refine ⟨_, rfl, ?_⟩; have n0_ := Aside0.mk (Kd.R_below (by (with_reducible repeat (first | apply Kd.R_alloc | apply Kd.R_drewN | apply Kd.R_drew)); exact HO482.out) hb); have n1_ := Aside0.mk (Kd.N_elder' (by (with_reducible repeat (first | apply Kd.N_alloc | apply Kd.N_drewN | apply Kd.N_drew)); exact HO486.out) (Kd.R_base ho1) hb); have n2_ := Aside0.mk (Kd.R_below (by (with_reducible repeat (first | apply Kd.R_alloc | apply Kd.R_drewN | apply Kd.R_drew)); exact HO489.out) hb); have n3_ := Aside0.mk (Kd.V_lower (Kd.V_mono (ok' := fun k_ => some k_ ≠ (v494 : Value).ownBlock ∧ some k_ ≠ (.slice Ao65 t480.length co65 : Value).ownBlock ∧ some k_ ≠ (.slice Ao69 t484.length co69 : Value).ownBlock ∧ some k_ ≠ (v488 : Value).ownBlock ∧ k_ ≠ gb483) ho0 (fun k_ hk_ => ⟨hk_.2, (Kd.fresh' (Kd.R_lt (by (with_reducible repeat (first | apply Kd.R_alloc | apply Kd.R_drewN | apply Kd.R_drew)); exact HO482.out)) k_ hk_.1), (Kd.fresh' (Kd.N_lt (by (with_reducible repeat (first | apply Kd.N_alloc | apply Kd.N_drewN | apply Kd.N_drew)); exact HO486.out)) k_ hk_.1), (Kd.fresh' (Kd.R_lt (by (with_reducible repeat (first | apply Kd.R_alloc | apply Kd.R_drewN | apply Kd.R_drew)); exact HO489.out)) k_ hk_.1), (Kd.freshB (g := gb483) (o := .cells #[.int .i64 t475, .int .i64 t476, .int .i64 t477, .int .i64 t478, .int .i64 t479] 36 (0, 0)) (by (with_reducible repeat (first | refine blk_drewN ?_ _ | refine blk_drew ?_ | refine blk_alloc ?_ _)); exact BK483.out) k_ hk_.1)⟩)) (below_size (by repeat (first | (with_reducible first | exact HB.out | apply below_alloc | apply pw_below_drewN | apply below_drew1 | refine below_set ?_ GE483.out) | exact HB.out)))); have n4_ := Aside0.mk (Kd.R_lower (Kd.R_mono (ok' := fun k_ => True) ho1 (fun _ hk_ => trivial)) (below_size (by repeat (first | (with_reducible first | exact HB.out | apply below_alloc | apply pw_below_drewN | apply below_drew1 | refine below_set ?_ GE483.out) | exact HB.out)))); have n5_ := Aside0.mk (blk_below (g := gb483) (o := .cells #[.int .i64 t475, .int .i64 t476, .int .i64 t477, .int .i64 t478, .int .i64 t479] 36 (0, 0)) (by (with_reducible repeat (first | refine blk_drewN ?_ _ | refine blk_drew ?_ | refine blk_alloc ?_ _)); exact BK483.out) hb); have n6_ := Aside0.mk (below_step (by repeat (first | (with_reducible first | exact HB.out | apply below_alloc | apply pw_below_drewN | apply below_drew1 | refine below_set ?_ GE483.out) | exact HB.out)) hb); clear HO482; clear HO486; clear HO489; clear BK483; clear HB; have HO482 := n0_; have HO486 := n1_; have HO489 := n2_; have HO492 := n3_; have HO495 := n4_; have BK483 := n5_; have HB := n6_; clear n0_ n1_ n2_ n3_ n4_ n5_ n6_; (try clear hb); (try clear hb2); (try clear hk); (try clear hi); (try clear ho0); (try clear ho1); obtain ⟨Ao71, co71, eo71⟩ := Kd.R_slice HO489.out; subst eo71; obtain ⟨Ao72, co72, eo72⟩ := Kd.R_slice HO495.out; subst eo72))
        go_ret
        exact ⟨by first | rfl | (simp [errW_none, errW_some] <;> rfl) | (simp [*, errW_none, errW_some] <;> rfl), by repeat (first | (with_reducible first | exact HB.out | apply below_alloc | apply pw_below_drewN | apply below_drew1 | refine below_set ?_ GE483.out) | exact HB.out)⟩
    · rw [if_neg c8] at H
      have c8b0 : ((t487.length : Int) == 0) = false := beq_eq_false_iff_ne.mpr c8
      have c8b1 : ((t487.length : Int) != 0) = true := bne_iff_ne.mpr c8
      have c8b2 : ¬ (t487 = []) := fun h_ => c8 (by rw [h_]; rfl)
      obtain rfl := Option.some.inj H
      go_enter Try.func7, Try.ntmps7
      go_wp2_with (first | ((with_reducible refine gate_callee (f := 13) rfl ?_); refine goesL_ (some 18) rfl rfl Try.func13 (by kernel_rfl) rfl #[.int .i64 (l0.length : Int), .int .i64 a1, .int .i64 a2] rfl (by (try simp only [List.map_toArray, List.map_cons, List.map_nil]); first | done | rfl | (simp only [List.length_drop, List.length_take]; rfl)) ?_; (with_reducible refine (blocking_Of.calls k (l0.length : Int) a1 a2 t475 t476 t477 t478 t479 t480 _ A4.out).mono ?_); rintro e w73 ⟨v481, rfl, ho0, hb⟩; refine ⟨_, rfl, ?_⟩; have n0_ := Aside0.mk (Kd.R_lower ho0 (below_size (by repeat (first | (with_reducible first | exact HB.out | apply below_alloc | apply pw_below_drewN | apply below_drew1) | exact HB.out)))); have n1_ := Aside0.mk (below_step (by repeat (first | (with_reducible first | exact HB.out | apply below_alloc | apply pw_below_drewN | apply below_drew1) | exact HB.out)) hb); clear HB; have HO482 := n0_; have HB := n1_; clear n0_ n1_; (try clear hb); (try clear hb2); (try clear hk); (try clear hi); (try clear ho0)) | ((with_reducible refine gate_dst (N := 7) rfl ?_); (try (refine gate_guard (by rfl) ?_; dsimp only)); refine box_event ?hg (N := 7) ?hd (cs := #[.int .i64 0, .int .i64 0, .int .i64 0, .int .i64 0, .int .i64 0]) (t := 36) ?hr ?_; (case hd => rfl); (case hg => rfl); (case hr => first | (go_simp; done) | (go_simp; rfl)); intro gb483 hg w74 hbox hb; have n0_ := Aside0.mk (Kd.R_below (by (with_reducible repeat (first | apply Kd.R_alloc | apply Kd.R_drewN | apply Kd.R_drew)); exact HO482.out) hb); have n1_ := Aside0.mk (below_step (by repeat (first | (with_reducible first | exact HB.out | apply below_alloc | apply pw_below_drewN | apply below_drew1) | exact HB.out)) hb); have n2_ := Aside0.mk (hbox); have n3_ := Aside0.mk ((by rw [hg]; exact (below_size (by repeat (first | (with_reducible first | exact HB.out | apply below_alloc | apply pw_below_drewN | apply below_drew1) | exact HB.out))) : w.heap.size ≤ gb483)); have n4_ := Aside0.mk ((by rw [hg]; exact (below_size (by repeat (first | (with_reducible first | exact HB.out | apply below_alloc | apply pw_below_drewN | apply below_drew1) | exact HB.out))) : w.heap.size ≤ gb483)); clear HO482; clear HB; have HO482 := n0_; have HB := n1_; have BK483 := n2_; have GW483 := n3_; have GE483 := n4_; clear n0_ n1_ n2_ n3_ n4_; clear hb hbox hg; have hcz75_0 : w74.cell? ⟨gb483, 0, none⟩ = some (.int .i64 0) := (blk_cell BK483.out 0).trans rfl; have hcz75_1 : w74.cell? ⟨gb483, 1, none⟩ = some (.int .i64 0) := (blk_cell BK483.out 1).trans rfl; have hcz75_2 : w74.cell? ⟨gb483, 2, none⟩ = some (.int .i64 0) := (blk_cell BK483.out 2).trans rfl; have hcz75_3 : w74.cell? ⟨gb483, 3, none⟩ = some (.int .i64 0) := (blk_cell BK483.out 3).trans rfl; have hcz75_4 : w74.cell? ⟨gb483, 4, none⟩ = some (.int .i64 0) := (blk_cell BK483.out 4).trans rfl; have hfz75_0 := blk_frozen BK483.out 0; have hfz75_1 := blk_frozen BK483.out 1; have hfz75_2 := blk_frozen BK483.out 2; have hfz75_3 := blk_frozen BK483.out 3; have hfz75_4 := blk_frozen BK483.out 4) | ((with_reducible refine gate_store (t := 36) (p := 7) rfl ?_); refine store_event (t := 36) (p := 7) (v := ?vo_w76) (w1 := (((((w74.setCell ⟨gb483, 0, none⟩ (.int .i64 t475)).setCell ⟨gb483, 1, none⟩ (.int .i64 t476)).setCell ⟨gb483, 2, none⟩ (.int .i64 t477)).setCell ⟨gb483, 3, none⟩ (.int .i64 t478)).setCell ⟨gb483, 4, none⟩ (.int .i64 t479))) ?hg ?ho ?hn ?hr ?_; (case ho => rfl); (case hg => rfl); (case hn => rfl); (case hr => first | (go_simp; done) | (go_simp; rfl)); intro w76 hw; have n0_ : Aside0 (Kd.R kF 67 w76 w.heap.size (fun _ => True) v481 t480) := ⟨(by rw [hw]; exact (by (with_reducible repeat (first | apply Kd.R_alloc | apply Kd.R_drewN | apply Kd.R_drew)); exact Kd.R_mono (Kd.R_far (p := ⟨gb483, 4, none⟩) (Kd.R_far (p := ⟨gb483, 3, none⟩) (Kd.R_far (p := ⟨gb483, 2, none⟩) (Kd.R_far (p := ⟨gb483, 1, none⟩) (Kd.R_far (p := ⟨gb483, 0, none⟩) (Kd.R_types HO482.out BK483.out (by decide)) (fun _ hk => hk.2) (.int .i64 t475)) (fun _ hk => hk.2) (.int .i64 t476)) (fun _ hk => hk.2) (.int .i64 t477)) (fun _ hk => hk.2) (.int .i64 t478)) (fun _ hk => hk.2) (.int .i64 t479)) (fun _ hk => trivial)))⟩; have n1_ : Aside0 (w76.heap[gb483]? = some (.cells #[.int .i64 t475, .int .i64 t476, .int .i64 t477, .int .i64 t478, .int .i64 t479] 36 (0, 0))) := ⟨(by rw [hw]; exact (by (with_reducible repeat (first | refine blk_drewN ?_ _ | refine blk_drew ?_ | refine blk_alloc ?_ _)); refine blk_put (cs := #[.int .i64 t475, .int .i64 t476, .int .i64 t477, .int .i64 t478, .int .i64 0]) ?_ 4 _ rfl; (with_reducible repeat (first | refine blk_drewN ?_ _ | refine blk_drew ?_ | refine blk_alloc ?_ _)); refine blk_put (cs := #[.int .i64 t475, .int .i64 t476, .int .i64 t477, .int .i64 0, .int .i64 0]) ?_ 3 _ rfl; (with_reducible repeat (first | refine blk_drewN ?_ _ | refine blk_drew ?_ | refine blk_alloc ?_ _)); refine blk_put (cs := #[.int .i64 t475, .int .i64 t476, .int .i64 0, .int .i64 0, .int .i64 0]) ?_ 2 _ rfl; (with_reducible repeat (first | refine blk_drewN ?_ _ | refine blk_drew ?_ | refine blk_alloc ?_ _)); refine blk_put (cs := #[.int .i64 t475, .int .i64 0, .int .i64 0, .int .i64 0, .int .i64 0]) ?_ 1 _ rfl; (with_reducible repeat (first | refine blk_drewN ?_ _ | refine blk_drew ?_ | refine blk_alloc ?_ _)); refine blk_put (cs := #[.int .i64 0, .int .i64 0, .int .i64 0, .int .i64 0, .int .i64 0]) ?_ 0 _ rfl; (with_reducible repeat (first | refine blk_drewN ?_ _ | refine blk_drew ?_ | refine blk_alloc ?_ _)); exact BK483.out))⟩; have n2_ : Aside0 (Below w.heap.size w w76) := ⟨(by rw [hw]; exact (by repeat (first | (with_reducible first | exact HB.out | apply below_alloc | apply pw_below_drewN | apply below_drew1 | refine below_set ?_ GE483.out) | exact HB.out)))⟩; clear hw; clear HO482; clear BK483; clear HB; have HO482 := n0_; have BK483 := n1_; have HB := n2_; clear n0_ n1_ n2_; obtain ⟨Ao77, co77, eo77⟩ := Kd.R_slice HO482.out; subst eo77; have hcz78_0 : w76.cell? ⟨gb483, 0, none⟩ = some (.int .i64 t475) := (blk_cell BK483.out 0).trans rfl; have hcz78_1 : w76.cell? ⟨gb483, 1, none⟩ = some (.int .i64 t476) := (blk_cell BK483.out 1).trans rfl; have hcz78_2 : w76.cell? ⟨gb483, 2, none⟩ = some (.int .i64 t477) := (blk_cell BK483.out 2).trans rfl; have hcz78_3 : w76.cell? ⟨gb483, 3, none⟩ = some (.int .i64 t478) := (blk_cell BK483.out 3).trans rfl; have hcz78_4 : w76.cell? ⟨gb483, 4, none⟩ = some (.int .i64 t479) := (blk_cell BK483.out 4).trans rfl; have hfz78_0 := blk_frozen BK483.out 0; have hfz78_1 := blk_frozen BK483.out 1; have hfz78_2 := blk_frozen BK483.out 2; have hfz78_3 := blk_frozen BK483.out 3; have hfz78_4 := blk_frozen BK483.out 4) | ((with_reducible refine gate_callee (f := 22) rfl ?_); refine goesL_ (some 32) rfl rfl Try.func22 (by kernel_rfl) rfl #[.slice A0 l0.length c0, .agg #[.int .i64 t475, .int .i64 t476, .int .i64 t477, .int .i64 t478, .int .i64 t479]] rfl (by (try simp only [List.map_toArray, List.map_cons, List.map_nil]); first | done | rfl | (simp only [List.length_drop, List.length_take]; rfl)) ?_; (with_reducible refine (blocking_Cut.calls k (fun k_ => k_ < w.heap.size) _ _ l0 t475 t476 t477 t478 t479 t484 t487 _ ?side1 A6.out).mono ?_); (case side1 => exact Kd.V_mk HC0.out (Kd.F_below (Kd.C_F (Kd.heap_int .u8) HR0.out) (by repeat (first | (with_reducible first | exact HB.out | apply below_alloc | apply pw_below_drewN | apply below_drew1 | refine below_set ?_ GE483.out) | exact HB.out)))); rintro e w79 ⟨v485, v488, rfl, ho0, ho1, hb⟩; refine ⟨_, rfl, ?_⟩; (try replace ho0 := Kd.N_mono (ok' := fun k_ => ((k_ < w.heap.size) ∨ _ ≤ k_) ∧ some k_ ≠ (v488 : Value).ownBlock) (Kd.S_N (Kd.S_apart' ho0 (Kd.R_typed ho1) (by decide))) (fun k_ hk => ⟨.inr hk.1, hk.2⟩)); have n0_ := Aside0.mk (Kd.R_below (by (with_reducible repeat (first | apply Kd.R_alloc | apply Kd.R_drewN | apply Kd.R_drew)); exact HO482.out) hb); have n1_ := Aside0.mk (Kd.N_lower (Kd.N_mono (ok' := fun k_ => some k_ ≠ (v488 : Value).ownBlock ∧ some k_ ≠ (.slice Ao77 t480.length co77 : Value).ownBlock ∧ k_ ≠ gb483) ho0 (fun k_ hk_ => ⟨hk_.2, Or.elim hk_.1 (fun hs_ => fun e_ => Nat.not_le.2 hs_ (Kd.R_base HO482.out k_ e_.symm)) (fun hn_ => (Kd.fresh' (Kd.R_lt (by (with_reducible repeat (first | apply Kd.R_alloc | apply Kd.R_drewN | apply Kd.R_drew)); exact HO482.out)) k_ hn_)), Or.elim hk_.1 (fun hs_ => fun e_ => Nat.not_le.2 hs_ (by rw [e_]; exact GW483.out)) (fun hn_ => (Kd.freshB (g := gb483) (o := .cells #[.int .i64 t475, .int .i64 t476, .int .i64 t477, .int .i64 t478, .int .i64 t479] 36 (0, 0)) (by (with_reducible repeat (first | refine blk_drewN ?_ _ | refine blk_drew ?_ | refine blk_alloc ?_ _)); exact BK483.out) k_ hn_))⟩)) (below_size (by repeat (first | (with_reducible first | exact HB.out | apply below_alloc | apply pw_below_drewN | apply below_drew1 | refine below_set ?_ GE483.out) | exact HB.out)))); have n2_ := Aside0.mk (Kd.R_lower (Kd.R_mono (ok' := fun k_ => True) ho1 (fun _ hk_ => trivial)) (below_size (by repeat (first | (with_reducible first | exact HB.out | apply below_alloc | apply pw_below_drewN | apply below_drew1 | refine below_set ?_ GE483.out) | exact HB.out)))); have n3_ := Aside0.mk (blk_below (g := gb483) (o := .cells #[.int .i64 t475, .int .i64 t476, .int .i64 t477, .int .i64 t478, .int .i64 t479] 36 (0, 0)) (by (with_reducible repeat (first | refine blk_drewN ?_ _ | refine blk_drew ?_ | refine blk_alloc ?_ _)); exact BK483.out) hb); have n4_ := Aside0.mk (below_step (by repeat (first | (with_reducible first | exact HB.out | apply below_alloc | apply pw_below_drewN | apply below_drew1 | refine below_set ?_ GE483.out) | exact HB.out)) hb); clear HO482; clear BK483; clear HB; have HO482 := n0_; have HO486 := n1_; have HO489 := n2_; have BK483 := n3_; have HB := n4_; clear n0_ n1_ n2_ n3_ n4_; (try clear hb); (try clear hb2); (try clear hk); (try clear hi); (try clear ho0); (try clear ho1); have hcz80_0 : w79.cell? ⟨gb483, 0, none⟩ = some (.int .i64 t475) := (blk_cell BK483.out 0).trans rfl; have hcz80_1 : w79.cell? ⟨gb483, 1, none⟩ = some (.int .i64 t476) := (blk_cell BK483.out 1).trans rfl; have hcz80_2 : w79.cell? ⟨gb483, 2, none⟩ = some (.int .i64 t477) := (blk_cell BK483.out 2).trans rfl; have hcz80_3 : w79.cell? ⟨gb483, 3, none⟩ = some (.int .i64 t478) := (blk_cell BK483.out 3).trans rfl; have hcz80_4 : w79.cell? ⟨gb483, 4, none⟩ = some (.int .i64 t479) := (blk_cell BK483.out 4).trans rfl; have hfz80_0 := blk_frozen BK483.out 0; have hfz80_1 := blk_frozen BK483.out 1; have hfz80_2 := blk_frozen BK483.out 2; have hfz80_3 := blk_frozen BK483.out 3; have hfz80_4 := blk_frozen BK483.out 4; obtain ⟨Ao81, co81, eo81⟩ := Kd.N_slice HO486.out; subst eo81) | ((with_reducible refine gate_callee (f := 23) rfl ?_); refine goesL_ (some 38) rfl rfl Try.func23 (by kernel_rfl) rfl #[.agg #[.int .i64 t475, .int .i64 t476, .int .i64 t477, .int .i64 t478, .int .i64 t479], .slice Ao81 t484.length co81] rfl (by (try simp only [List.map_toArray, List.map_cons, List.map_nil]); first | done | rfl | (simp only [List.length_drop, List.length_take]; rfl)) ?_; (with_reducible refine (blocking_Join.calls k t475 t476 t477 t478 t479 _ _ t484 t490 t493 _ ?side1 ?side2 A7.out).mono ?_); (case side1 => repeat (first | exact (Kd.N_reads' HO486.out).2.2 | (with_reducible refine Kd.C_alloc ?_ _) | (with_reducible refine Kd.C_drewN ?_ _) | (with_reducible refine Kd.C_drew ?_))); (case side2 => exact (Kd.N_reads' HO486.out).2.1); rintro e w82 ⟨v491, v494, rfl, ho0, ho1, hb⟩; refine ⟨_, rfl, ?_⟩; have n0_ := Aside0.mk (Kd.R_below (by (with_reducible repeat (first | apply Kd.R_alloc | apply Kd.R_drewN | apply Kd.R_drew)); exact HO482.out) hb); have n1_ := Aside0.mk (Kd.N_elder' (by (with_reducible repeat (first | apply Kd.N_alloc | apply Kd.N_drewN | apply Kd.N_drew)); exact HO486.out) (Kd.R_base ho1) hb); have n2_ := Aside0.mk (Kd.R_below (by (with_reducible repeat (first | apply Kd.R_alloc | apply Kd.R_drewN | apply Kd.R_drew)); exact HO489.out) hb); have n3_ := Aside0.mk (Kd.V_lower (Kd.V_mono (ok' := fun k_ => some k_ ≠ (v494 : Value).ownBlock ∧ some k_ ≠ (.slice Ao77 t480.length co77 : Value).ownBlock ∧ some k_ ≠ (.slice Ao81 t484.length co81 : Value).ownBlock ∧ some k_ ≠ (v488 : Value).ownBlock ∧ k_ ≠ gb483) ho0 (fun k_ hk_ => ⟨hk_.2, (Kd.fresh' (Kd.R_lt (by (with_reducible repeat (first | apply Kd.R_alloc | apply Kd.R_drewN | apply Kd.R_drew)); exact HO482.out)) k_ hk_.1), (Kd.fresh' (Kd.N_lt (by (with_reducible repeat (first | apply Kd.N_alloc | apply Kd.N_drewN | apply Kd.N_drew)); exact HO486.out)) k_ hk_.1), (Kd.fresh' (Kd.R_lt (by (with_reducible repeat (first | apply Kd.R_alloc | apply Kd.R_drewN | apply Kd.R_drew)); exact HO489.out)) k_ hk_.1), (Kd.freshB (g := gb483) (o := .cells #[.int .i64 t475, .int .i64 t476, .int .i64 t477, .int .i64 t478, .int .i64 t479] 36 (0, 0)) (by (with_reducible repeat (first | refine blk_drewN ?_ _ | refine blk_drew ?_ | refine blk_alloc ?_ _)); exact BK483.out) k_ hk_.1)⟩)) (below_size (by repeat (first | (with_reducible first | exact HB.out | apply below_alloc | apply pw_below_drewN | apply below_drew1 | refine below_set ?_ GE483.out) | exact HB.out)))); have n4_ := Aside0.mk (Kd.R_lower (Kd.R_mono (ok' := fun k_ => True) ho1 (fun _ hk_ => trivial)) (below_size (by repeat (first | (with_reducible first | exact HB.out | apply below_alloc | apply pw_below_drewN | apply below_drew1 | refine below_set ?_ GE483.out) | exact HB.out)))); have n5_ := Aside0.mk (blk_below (g := gb483) (o := .cells #[.int .i64 t475, .int .i64 t476, .int .i64 t477, .int .i64 t478, .int .i64 t479] 36 (0, 0)) (by (with_reducible repeat (first | refine blk_drewN ?_ _ | refine blk_drew ?_ | refine blk_alloc ?_ _)); exact BK483.out) hb); have n6_ := Aside0.mk (below_step (by repeat (first | (with_reducible first | exact HB.out | apply below_alloc | apply pw_below_drewN | apply below_drew1 | refine below_set ?_ GE483.out) | exact HB.out)) hb); clear HO482; clear HO486; clear HO489; clear BK483; clear HB; have HO482 := n0_; have HO486 := n1_; have HO489 := n2_; have HO492 := n3_; have HO495 := n4_; have BK483 := n5_; have HB := n6_; clear n0_ n1_ n2_ n3_ n4_ n5_ n6_; (try clear hb); (try clear hb2); (try clear hk); (try clear hi); (try clear ho0); (try clear ho1); obtain ⟨Ao83, co83, eo83⟩ := Kd.R_slice HO489.out; subst eo83))
      go_ret
      exact ⟨by first | rfl | (simp [errW_none, errW_some] <;> rfl) | (simp [*, errW_none, errW_some] <;> rfl), by repeat (first | (with_reducible first | exact HB.out | apply below_alloc | apply pw_below_drewN | apply below_drew1 | refine below_set ?_ GE483.out) | exact HB.out)⟩
  · rw [if_neg c5] at H
    have c5b0 : ((t480.length : Int) == 0) = false := beq_eq_false_iff_ne.mpr c5
    have c5b1 : ((t480.length : Int) != 0) = true := bne_iff_ne.mpr c5
    have c5b2 : ¬ (t480 = []) := fun h_ => c5 (by rw [h_]; rfl)
    by_cases c84 : (t475 == 0 && (t476 == 0 && (t477 == 0 && (t478 == 0 && (t479 == 0))))) = true
    · rw [if_pos c84] at H
      have c84b0 : (t475 == 0 && (t476 == 0 && (t477 == 0 && (t478 == 0 && (t479 == 0))))) = true := c84
      (try (have c84b1 : decide (t475 = 0 && (t476 == 0 && (t477 == 0 && (t478 == 0 && (t479 == 0))))) = true := by simpa using c84))
      (try (have c84b2 : (t475 == 0 && (t476 == 0 && (t477 == 0 && (t478 == 0 && (t479 == 0))))) = true := by simpa using c84))
      clear c84
      replace H := Option.bind_eq_some_iff.mp H
      obtain ⟨t497, A850, H⟩ := H
      replace H : (some t497) = some r := H
      have A85 := Aside0.mk A850
      clear A850
      obtain rfl := Option.some.inj H
      go_enter Try.func7, Try.ntmps7
      go_wp2_with (first | ((with_reducible refine gate_callee (f := 13) rfl ?_); refine goesL_ (some 18) rfl rfl Try.func13 (by kernel_rfl) rfl #[.int .i64 (l0.length : Int), .int .i64 a1, .int .i64 a2] rfl (by (try simp only [List.map_toArray, List.map_cons, List.map_nil]); first | done | rfl | (simp only [List.length_drop, List.length_take]; rfl)) ?_; (with_reducible refine (blocking_Of.calls k (l0.length : Int) a1 a2 t475 t476 t477 t478 t479 t480 _ A4.out).mono ?_); rintro e w86 ⟨v481, rfl, ho0, hb⟩; refine ⟨_, rfl, ?_⟩; have n0_ := Aside0.mk (Kd.R_lower ho0 (below_size (by repeat (first | (with_reducible first | exact HB.out | apply below_alloc | apply pw_below_drewN | apply below_drew1) | exact HB.out)))); have n1_ := Aside0.mk (below_step (by repeat (first | (with_reducible first | exact HB.out | apply below_alloc | apply pw_below_drewN | apply below_drew1) | exact HB.out)) hb); clear HB; have HO482 := n0_; have HB := n1_; clear n0_ n1_; (try clear hb); (try clear hb2); (try clear hk); (try clear hi); (try clear ho0)) | ((with_reducible refine gate_dst (N := 7) rfl ?_); (try (refine gate_guard (by rfl) ?_; dsimp only)); refine box_event ?hg (N := 7) ?hd (cs := #[.int .i64 0, .int .i64 0, .int .i64 0, .int .i64 0, .int .i64 0]) (t := 36) ?hr ?_; (case hd => rfl); (case hg => rfl); (case hr => first | (go_simp; done) | (go_simp; rfl)); intro gb483 hg w87 hbox hb; have n0_ := Aside0.mk (Kd.R_below (by (with_reducible repeat (first | apply Kd.R_alloc | apply Kd.R_drewN | apply Kd.R_drew)); exact HO482.out) hb); have n1_ := Aside0.mk (below_step (by repeat (first | (with_reducible first | exact HB.out | apply below_alloc | apply pw_below_drewN | apply below_drew1) | exact HB.out)) hb); have n2_ := Aside0.mk (hbox); have n3_ := Aside0.mk ((by rw [hg]; exact (below_size (by repeat (first | (with_reducible first | exact HB.out | apply below_alloc | apply pw_below_drewN | apply below_drew1) | exact HB.out))) : w.heap.size ≤ gb483)); have n4_ := Aside0.mk ((by rw [hg]; exact (below_size (by repeat (first | (with_reducible first | exact HB.out | apply below_alloc | apply pw_below_drewN | apply below_drew1) | exact HB.out))) : w.heap.size ≤ gb483)); clear HO482; clear HB; have HO482 := n0_; have HB := n1_; have BK483 := n2_; have GW483 := n3_; have GE483 := n4_; clear n0_ n1_ n2_ n3_ n4_; clear hb hbox hg; have hcz88_0 : w87.cell? ⟨gb483, 0, none⟩ = some (.int .i64 0) := (blk_cell BK483.out 0).trans rfl; have hcz88_1 : w87.cell? ⟨gb483, 1, none⟩ = some (.int .i64 0) := (blk_cell BK483.out 1).trans rfl; have hcz88_2 : w87.cell? ⟨gb483, 2, none⟩ = some (.int .i64 0) := (blk_cell BK483.out 2).trans rfl; have hcz88_3 : w87.cell? ⟨gb483, 3, none⟩ = some (.int .i64 0) := (blk_cell BK483.out 3).trans rfl; have hcz88_4 : w87.cell? ⟨gb483, 4, none⟩ = some (.int .i64 0) := (blk_cell BK483.out 4).trans rfl; have hfz88_0 := blk_frozen BK483.out 0; have hfz88_1 := blk_frozen BK483.out 1; have hfz88_2 := blk_frozen BK483.out 2; have hfz88_3 := blk_frozen BK483.out 3; have hfz88_4 := blk_frozen BK483.out 4; obtain ⟨Ao89, co89, eo89⟩ := Kd.R_slice HO482.out; subst eo89) | (go_at_call 14; (with_reducible refine (geyserlaw14_awake.calls k  t497 _ A85.out).mono ?_); rintro e w90 ⟨rfl, hb⟩; have n0_ := Aside0.mk (Kd.R_below (by (with_reducible repeat (first | apply Kd.R_alloc | apply Kd.R_drewN | apply Kd.R_drew)); exact (Kd.R_mono (Kd.R_far (p := ⟨gb483, 4, none⟩) (Kd.R_far (p := ⟨gb483, 3, none⟩) (Kd.R_far (p := ⟨gb483, 2, none⟩) (Kd.R_far (p := ⟨gb483, 1, none⟩) (Kd.R_far (p := ⟨gb483, 0, none⟩) (Kd.R_types HO482.out BK483.out (by decide)) (fun _ hk => hk.2) (.int .i64 t475)) (fun _ hk => hk.2) (.int .i64 t476)) (fun _ hk => hk.2) (.int .i64 t477)) (fun _ hk => hk.2) (.int .i64 t478)) (fun _ hk => hk.2) (.int .i64 t479)) (fun _ h_ => h_.1))) hb); have n1_ := Aside0.mk (blk_below (g := gb483) (o := .cells #[.int .i64 t475, .int .i64 t476, .int .i64 t477, .int .i64 t478, .int .i64 t479] 36 (0, 0)) (by (with_reducible repeat (first | refine blk_drewN ?_ _ | refine blk_drew ?_ | refine blk_alloc ?_ _)); refine blk_put (cs := #[.int .i64 t475, .int .i64 t476, .int .i64 t477, .int .i64 t478, .int .i64 0]) ?_ 4 _ rfl; (with_reducible repeat (first | refine blk_drewN ?_ _ | refine blk_drew ?_ | refine blk_alloc ?_ _)); refine blk_put (cs := #[.int .i64 t475, .int .i64 t476, .int .i64 t477, .int .i64 0, .int .i64 0]) ?_ 3 _ rfl; (with_reducible repeat (first | refine blk_drewN ?_ _ | refine blk_drew ?_ | refine blk_alloc ?_ _)); refine blk_put (cs := #[.int .i64 t475, .int .i64 t476, .int .i64 0, .int .i64 0, .int .i64 0]) ?_ 2 _ rfl; (with_reducible repeat (first | refine blk_drewN ?_ _ | refine blk_drew ?_ | refine blk_alloc ?_ _)); refine blk_put (cs := #[.int .i64 t475, .int .i64 0, .int .i64 0, .int .i64 0, .int .i64 0]) ?_ 1 _ rfl; (with_reducible repeat (first | refine blk_drewN ?_ _ | refine blk_drew ?_ | refine blk_alloc ?_ _)); refine blk_put (cs := #[.int .i64 0, .int .i64 0, .int .i64 0, .int .i64 0, .int .i64 0]) ?_ 0 _ rfl; (with_reducible repeat (first | refine blk_drewN ?_ _ | refine blk_drew ?_ | refine blk_alloc ?_ _)); exact BK483.out) hb); have n2_ := Aside0.mk (below_step (by repeat (first | (with_reducible first | exact HB.out | apply below_alloc | apply pw_below_drewN | apply below_drew1 | refine below_set ?_ GE483.out) | exact HB.out)) hb); clear HO482; clear BK483; clear HB; have HO482 := n0_; have BK483 := n1_; have HB := n2_; clear n0_ n1_ n2_; (try clear hb); (try clear hb2); (try clear hk); (try clear hi)))
      go_ret
      exact ⟨by first | rfl | (simp [errW_none, errW_some] <;> rfl) | (simp [*, errW_none, errW_some] <;> rfl), by repeat (first | (with_reducible first | exact HB.out | apply below_alloc | apply pw_below_drewN | apply below_drew1 | refine below_set ?_ GE483.out) | exact HB.out)⟩
    · rw [if_neg c84] at H
      have c84b0 : (t475 == 0 && (t476 == 0 && (t477 == 0 && (t478 == 0 && (t479 == 0))))) = false := by simpa using c84
      (try (have c84b1 : decide (t475 = 0 && (t476 == 0 && (t477 == 0 && (t478 == 0 && (t479 == 0))))) = false := by simpa using c84))
      (try (have c84b2 : (t475 == 0 && (t476 == 0 && (t477 == 0 && (t478 == 0 && (t479 == 0))))) = false := by simpa using c84))
      (try (have c84b3 : ¬ (t475 = 0 && (t476 == 0 && (t477 == 0 && (t478 == 0 && (t479 == 0))))) := by simpa using c84))
      clear c84
      obtain rfl := Option.some.inj H
      go_enter Try.func7, Try.ntmps7
      go_wp2_with (first | ((with_reducible refine gate_callee (f := 13) rfl ?_); refine goesL_ (some 18) rfl rfl Try.func13 (by kernel_rfl) rfl #[.int .i64 (l0.length : Int), .int .i64 a1, .int .i64 a2] rfl (by (try simp only [List.map_toArray, List.map_cons, List.map_nil]); first | done | rfl | (simp only [List.length_drop, List.length_take]; rfl)) ?_; (with_reducible refine (blocking_Of.calls k (l0.length : Int) a1 a2 t475 t476 t477 t478 t479 t480 _ A4.out).mono ?_); rintro e w91 ⟨v481, rfl, ho0, hb⟩; refine ⟨_, rfl, ?_⟩; have n0_ := Aside0.mk (Kd.R_lower ho0 (below_size (by repeat (first | (with_reducible first | exact HB.out | apply below_alloc | apply pw_below_drewN | apply below_drew1) | exact HB.out)))); have n1_ := Aside0.mk (below_step (by repeat (first | (with_reducible first | exact HB.out | apply below_alloc | apply pw_below_drewN | apply below_drew1) | exact HB.out)) hb); clear HB; have HO482 := n0_; have HB := n1_; clear n0_ n1_; (try clear hb); (try clear hb2); (try clear hk); (try clear hi); (try clear ho0)) | ((with_reducible refine gate_dst (N := 7) rfl ?_); (try (refine gate_guard (by rfl) ?_; dsimp only)); refine box_event ?hg (N := 7) ?hd (cs := #[.int .i64 0, .int .i64 0, .int .i64 0, .int .i64 0, .int .i64 0]) (t := 36) ?hr ?_; (case hd => rfl); (case hg => rfl); (case hr => first | (go_simp; done) | (go_simp; rfl)); intro gb483 hg w92 hbox hb; have n0_ := Aside0.mk (Kd.R_below (by (with_reducible repeat (first | apply Kd.R_alloc | apply Kd.R_drewN | apply Kd.R_drew)); exact HO482.out) hb); have n1_ := Aside0.mk (below_step (by repeat (first | (with_reducible first | exact HB.out | apply below_alloc | apply pw_below_drewN | apply below_drew1) | exact HB.out)) hb); have n2_ := Aside0.mk (hbox); have n3_ := Aside0.mk ((by rw [hg]; exact (below_size (by repeat (first | (with_reducible first | exact HB.out | apply below_alloc | apply pw_below_drewN | apply below_drew1) | exact HB.out))) : w.heap.size ≤ gb483)); have n4_ := Aside0.mk ((by rw [hg]; exact (below_size (by repeat (first | (with_reducible first | exact HB.out | apply below_alloc | apply pw_below_drewN | apply below_drew1) | exact HB.out))) : w.heap.size ≤ gb483)); clear HO482; clear HB; have HO482 := n0_; have HB := n1_; have BK483 := n2_; have GW483 := n3_; have GE483 := n4_; clear n0_ n1_ n2_ n3_ n4_; clear hb hbox hg; have hcz93_0 : w92.cell? ⟨gb483, 0, none⟩ = some (.int .i64 0) := (blk_cell BK483.out 0).trans rfl; have hcz93_1 : w92.cell? ⟨gb483, 1, none⟩ = some (.int .i64 0) := (blk_cell BK483.out 1).trans rfl; have hcz93_2 : w92.cell? ⟨gb483, 2, none⟩ = some (.int .i64 0) := (blk_cell BK483.out 2).trans rfl; have hcz93_3 : w92.cell? ⟨gb483, 3, none⟩ = some (.int .i64 0) := (blk_cell BK483.out 3).trans rfl; have hcz93_4 : w92.cell? ⟨gb483, 4, none⟩ = some (.int .i64 0) := (blk_cell BK483.out 4).trans rfl; have hfz93_0 := blk_frozen BK483.out 0; have hfz93_1 := blk_frozen BK483.out 1; have hfz93_2 := blk_frozen BK483.out 2; have hfz93_3 := blk_frozen BK483.out 3; have hfz93_4 := blk_frozen BK483.out 4; obtain ⟨Ao94, co94, eo94⟩ := Kd.R_slice HO482.out; subst eo94))
      go_ret
      exact ⟨by first | rfl | (simp [errW_none, errW_some] <;> rfl) | (simp [*, errW_none, errW_some] <;> rfl), by repeat (first | (with_reducible first | exact HB.out | apply below_alloc | apply pw_below_drewN | apply below_drew1 | refine below_set ?_ GE483.out) | exact HB.out)⟩

end Go.Proofs.Ytbhnhmkbccjnpaa.P

namespace Go.Proofs.Ytbhnhmkbccjnpaa.Pure
open Go.RowKit Go.Proofs.Ytbhnhmkbccjnpaa.P Go.Proofs.YtbhnhmkbccjnpaaW.PrintWords Go.Proofs.YtbhnhmkbccjnpaaW.PrintLast Go.Proofs.YtbhnhmkbccjnpaaW.PrintErr Go.Proofs.YtbhnhmkbccjnpaaW.PrintMore
set_option linter.unusedVariables false
set_option linter.unusedSimpArgs false
theorem splitL_flat (n : Nat) (hn : 1 ≤ n) : ∀ (f : Nat) (u : List Int), u.length ≤ f → ∃ p, p < n ∧ (splitL f n u).flatten = u ++ List.replicate p 0 := by
  intro f
  induction f with
  | zero =>
    intro u hu
    obtain rfl : u = [] := List.eq_nil_of_length_eq_zero (by omega)
    exact ⟨0, by omega, rfl⟩
  | succ f ih =>
    intro u hu
    rw [splitL]
    by_cases h : u.length = 0
    · obtain rfl : u = [] := List.eq_nil_of_length_eq_zero h
      exact ⟨0, by omega, by simp⟩
    · rw [if_neg h]
      by_cases hb : n ≤ u.length
      · obtain ⟨p, hp, e⟩ := ih (u.drop n) (by rw [List.length_drop]; omega)
        refine ⟨p, hp, ?_⟩
        rw [List.flatten_cons, e]
        unfold padS
        rw [show n - u.length = 0 by omega, List.replicate_zero, List.append_nil, ← List.append_assoc, List.take_append_drop]
      · have ed : u.drop n = [] := List.drop_eq_nil_of_le (by omega)
        have es : splitL f n [] = [] := by cases f <;> simp [splitL]
        refine ⟨n - u.length, by omega, ?_⟩
        rw [ed, es, List.flatten_cons, List.flatten_nil, List.append_nil]
        unfold padS
        rw [List.take_of_length_le (by omega)]
theorem allZero_rep (p : Nat) : allZero (List.replicate p 0) = true := by
  unfold allZero
  rw [List.all_eq_true]
  intro x hx
  rw [List.eq_of_mem_replicate hx]
  rfl
theorem Ev.from_ {α : Type} {g : Nat → Option α} {r : α} (c : Nat) (h : ∀ k, g (k + c) = some r) : Ev g r := ⟨c, fun k hk => by
  obtain ⟨m, rfl⟩ : ∃ m, k = m + c := ⟨k - c, by omega⟩
  exact h m⟩
theorem awake14_evB : Ev (fun k => geyserlaw14_awake.f k) true := Ev.from_ 5 awake14_k
theorem of_evB (s b m : Int) (h2 : s ≤ 9223372036854775807) : Ev (fun k => blocking_Of.f k s b m) (OfR s b m) := Ev.from_ 1 fun k => of_eq k s b m h2
theorem check14_evB (s b n l q : Int) (h2 : s ≤ 9223372036854775807) (hq : q ≤ 9223372036854775807) (hq0 : -9223372036854775808 ≤ q) : Ev (fun k => blocking_Check.f k s b n l q) (checkR s b n l q) := Ev.from_ 4 fun k => check_eq k s b n l q h2 hq hq0
/-- How many symbols block i has. -/
def src (r q i : Int) : Int := if i < r then q + 1 else q
theorem src_eq (s b n r q i : Int) (h0 : 0 ≤ q) (h1 : q ≤ 128) : blocking_source.f s b n r q i = some (src r q i) := by
  unfold blocking_source.f src
  by_cases h : i < r
  · rw [if_pos h, if_pos h, w64s (by omega) (by omega)]
  · rw [if_neg h, if_neg h]
theorem src_pos (r q i : Int) (h0 : 0 ≤ q) : 0 ≤ src r q i := by unfold src; split <;> omega
/-- How many symbols d blocks from block i on have. -/
def tot (r q : Int) : Nat → Int → Nat
  | 0, _ => 0
  | d + 1, i => (src r q i).toNat + tot r q d (i + 1)
theorem tot_eq (r q B : Int) (hr : r ≤ B) (hq : 0 ≤ q) : ∀ (d : Nat) (i : Int), i + d = B → tot r q d i = d * q.toNat + (r - i).toNat
  | 0, i, h => by
    have : (r - i).toNat = 0 := by omega
    simp [tot, this]
  | d + 1, i, h => by
    rw [tot, tot_eq r q B hr hq d (i + 1) (by omega), Nat.succ_mul]
    unfold src
    split <;> omega
def cutL (r q : Int) : Nat → Int → List (List Int) → List (List (List Int))
  | 0, _, _ => []
  | d + 1, i, L => L.take (src r q i).toNat :: cutL r q d (i + 1) (L.drop (src r q i).toNat)
theorem cutL_len (r q : Int) : ∀ (d : Nat) (i : Int) (L : List (List Int)), (cutL r q d i L).length = d
  | 0, _, _ => rfl
  | d + 1, i, L => by rw [cutL, List.length_cons, cutL_len r q d]
theorem cut_l0 (s b B r q : Int) (hq0 : 0 ≤ q) (hq : q ≤ 128) (hB : B ≤ 16) : ∀ (d : Nat) (i : Int) (L : List (List Int)) (acc : List (List (List Int))), 0 ≤ i → i + d = B → L.length = tot r q d i → L.length < 5864062014805 → acc.length ≤ i →
    Ev (fun k => blocking_Cut.l0 k L acc B i s b B r q) (acc ++ cutL r q d i L, [])
  | 0, i, L, acc, h0, hd, hL, hLb, ha => by
    refine Ev.step (f := fun _ => some (acc ++ cutL r q 0 i L, [])) (fun k => ?_) (Ev.now _)
    rw [blocking_Cut.l0, if_neg (by omega)]
    simp [cutL]
  | d + 1, i, L, acc, h0, hd, hL, hLb, ha => by
    have hp := src_pos r q i hq0
    rw [tot] at hL
    have hn : (src r q i).toNat ≤ L.length := by omega
    have h' := cut_l0 s b B r q hq0 hq hB d (i + 1) (L.drop (src r q i).toNat) (acc ++ [L.take (src r q i).toNat]) (by omega) (by omega) (by rw [List.length_drop]; omega) (by rw [List.length_drop]; omega) (by simp; omega)
    rw [List.append_assoc] at h'
    refine Ev.step (fun k => ?_) h'
    have e2 : wrap64 (i + 1) = i + 1 := w64s (by omega) (by omega)
    have ht : (L.take (src r q i).toNat).length < 5864062014805 := by rw [List.length_take]; omega
    rw [blocking_Cut.l0, if_pos (by omega), src_eq s b B r q i hq0 hq]
    simp only [Option.bind_some, List.nil_append, List.length_nil, Nat.zero_add]
    rw [if_pos hp, if_pos (by omega), if_pos ht, if_pos (by omega), e2]
theorem rd_row3 (P : List (List (List Int))) (s : List (List Int)) (S : List (List (List Int))) : rd_Lssu8 (P ++ s :: S) (P.length : Int) = s := by
  unfold rd_Lssu8
  rw [Int.toNat_natCast, List.getD_eq_getElem?_getD, List.getElem?_append_right (Nat.le_refl _)]
  simp
theorem join_l1 (s b B r q : Int) (bs : List (List (List Int))) (i : Int) (v : List Int × List FE) (S : List (List Int)) : ∀ (P : List (List Int)) (acc : List Int), (∀ x ∈ S, (x.length : Int) = b) → (P ++ S).length < 5864062014805 → (acc ++ S.flatten).length < 140737488355328 →
    Ev (fun k => blocking_Join.l0 k (acc ++ S.flatten) bs B (wrap64 (i + 1)) s b B r q) v →
    Ev (fun k => blocking_Join.l1 k acc bs B i (P ++ S) ((P ++ S).length : Int) (P.length : Int) s b B r q) v := by
  induction S with
  | nil =>
    intro P acc _ hP _ h
    refine Ev.step (fun k => ?_) h
    rw [blocking_Join.l1, if_neg (by simp)]
    simp
  | cons x S ih =>
    intro P acc hx hP ha h
    have hl : (P ++ x :: S).length = P.length + (S.length + 1) := by simp
    have e1 : P ++ [x] ++ S = P ++ x :: S := by simp
    have e2 : ((P ++ [x]).length : Int) = wrap64 ((P.length : Int) + 1) := by rw [w64s (by omega) (by omega)]; simp
    have e3 : acc ++ x ++ S.flatten = acc ++ (x :: S).flatten := by simp
    have h' := ih (P ++ [x]) (acc ++ x) (fun y hy => hx y (List.mem_cons_of_mem _ hy)) (by rw [e1]; exact hP) (by rw [e3]; exact ha) (by rw [e3]; exact h)
    rw [e1, e2] at h'
    have hb := hx x (by simp)
    have hroom : acc.length + x.length < 140737488355328 := by
      rw [List.length_append, List.flatten_cons, List.length_append] at ha
      omega
    refine Ev.step (fun k => ?_) h'
    rw [blocking_Join.l1, if_pos (by omega), if_pos (by omega), rd_row, if_pos (by omega), if_pos hb, if_pos hroom]
theorem join_step (k : Nat) (acc : List Int) (bs : List (List (List Int))) (N i s b B r q n : Int) (blk : List (List Int)) (c1 : i < N) (c2 : 0 ≤ i) (c3 : i < (bs.length : Int)) (hrd : rd_Lssu8 bs i = blk) (hs : blocking_source.f s b B r q i = some n) (hn : (blk.length : Int) = n) :
    blocking_Join.l0 (k + 1) acc bs N i s b B r q = blocking_Join.l1 k acc bs N i blk (blk.length : Int) 0 s b B r q := by
  rw [blocking_Join.l0, if_pos c1, if_pos c2, if_pos c3, hs]
  simp only [Option.bind_some]
  rw [hrd, if_pos hn]
theorem join_end (k : Nat) (acc : List Int) (bs : List (List (List Int))) (N i s b B r q : Int) (u z : List Int) (c1 : ¬ i < N) (ha : acc = u ++ z) (hs : s = (u.length : Int)) (g : Nat) (hz : symbol_Zero.f k z = some true) :
    blocking_Join.l0 (k + 1) acc bs N i s b B r q = some (u, []) := by
  subst ha hs
  rw [blocking_Join.l0, if_neg c1, if_pos (by omega), if_pos (by rw [List.length_append]; omega), Int.toNat_natCast, List.drop_left, List.take_left, hz]
  rfl
theorem join_l0 (s b B r q : Int) (hq0 : 0 ≤ q) (hq : q ≤ 128) (hB : B ≤ 16) (u : List Int) (p : Nat) (hs : s = (u.length : Int)) (hFl : u.length + p < 140737488355328) (d : Nat) : ∀ (L : List (List Int)) (P : List (List (List Int))) (acc : List Int), (P.length : Int) + d = B → L.length = tot r q d (P.length : Int) → L.length < 5864062014805 → (∀ x ∈ L, (x.length : Int) = b) → acc ++ L.flatten = u ++ List.replicate p 0 →
    Ev (fun k => blocking_Join.l0 k acc (P ++ cutL r q d (P.length : Int) L) B (P.length : Int) s b B r q) (u, []) := by
  induction d with
  | zero =>
    intro L P acc hd hL hLb hx hf
    have hn : L = [] := List.length_eq_zero_iff.1 hL
    rw [hn, List.flatten_nil, List.append_nil] at hf
    have hz := zero_ev (List.replicate p 0) (by simp; omega)
    rw [allZero_rep] at hz
    obtain ⟨K, hK⟩ := hz
    refine ⟨K + 1, fun k hk => ?_⟩
    obtain ⟨m, rfl⟩ : ∃ m, k = m + 1 := ⟨k - 1, by omega⟩
    exact join_end m acc _ B _ s b B r q u (List.replicate p 0) (by omega) hf hs 0 (hK m (by omega))
  | succ d ih =>
    intro L P acc hd hL hLb hx hf
    have hc1 : (P.length : Int) < B := by clear hf hx hL hLb hFl ih; omega
    have hp := src_pos r q (P.length : Int) hq0
    rw [tot] at hL
    obtain ⟨n, en⟩ : ∃ n, n = (src r q (P.length : Int)).toNat := ⟨_, rfl⟩
    rw [← en] at hL
    have enI : (n : Int) = src r q (P.length : Int) := by omega
    have hn : n ≤ L.length := by omega
    have ht : (L.take n).length = n := by rw [List.length_take]; omega
    have hdl : (L.drop n).length = tot r q d ((P.length : Int) + 1) := by rw [List.length_drop]; omega
    have hdb : (L.drop n).length < 5864062014805 := by rw [List.length_drop]; omega
    have e1 : ((P ++ [L.take n]).length : Int) = (P.length : Int) + 1 := by simp
    have e2 : wrap64 ((P.length : Int) + 1) = (P.length : Int) + 1 := w64s (by omega) (by omega)
    have e3 : acc ++ (L.take n).flatten ++ (L.drop n).flatten = u ++ List.replicate p 0 := by
      rw [List.append_assoc, ← List.flatten_append, List.take_append_drop]; exact hf
    have hcut : cutL r q (d + 1) (P.length : Int) L = L.take n :: cutL r q d ((P.length : Int) + 1) (L.drop n) := by rw [cutL, ← en]
    have hP : P ++ [L.take n] ++ cutL r q d ((P.length : Int) + 1) (L.drop n) = P ++ cutL r q (d + 1) (P.length : Int) L := by rw [hcut]; simp
    have h' := ih (L.drop n) (P ++ [L.take n]) (acc ++ (L.take n).flatten) (by rw [e1]; omega) (by rw [e1]; exact hdl) hdb (fun x h => hx x (List.mem_of_mem_drop h)) e3
    rw [e1, hP, ← e2] at h'
    have hlt : ([] ++ L.take n).length < 5864062014805 := Nat.lt_of_le_of_lt (by rw [List.nil_append, List.length_take]; exact Nat.min_le_right _ _) hLb
    have hle : (acc ++ (L.take n).flatten).length < 140737488355328 := by
      have h4 := congrArg List.length e3
      simp only [List.length_append, List.length_replicate] at h4 ⊢
      omega
    have hj := join_l1 s b B r q (P ++ cutL r q (d + 1) (P.length : Int) L) (P.length : Int) (u, []) (L.take n) [] acc (fun x h => hx x (List.mem_of_mem_take h)) hlt hle h'
    rw [List.nil_append] at hj
    have hc3 : (P.length : Int) < ((P ++ cutL r q (d + 1) (P.length : Int) L).length : Int) := by rw [List.length_append, cutL_len]; omega
    have hrd : rd_Lssu8 (P ++ cutL r q (d + 1) (P.length : Int) L) (P.length : Int) = L.take n := by rw [hcut, rd_row3]
    exact Ev.step (fun k => join_step k acc _ B (P.length : Int) s b B r q (src r q (P.length : Int)) (L.take n) hc1 (Int.natCast_nonneg _) hc3 hrd (src_eq s b B r q _ hq0 hq) (by rw [ht, enI])) hj
/-- How many symbols so many bytes are cut into. -/
theorem splitL_count (n : Nat) (hn : 1 ≤ n) : ∀ (f : Nat) (u : List Int), u.length ≤ f → ((splitL f n u).length : Int) = U (u.length : Int) (n : Int) := by
  intro f
  induction f with
  | zero =>
    intro u hu
    obtain rfl : u = [] := List.eq_nil_of_length_eq_zero (by omega)
    simp [splitL, U]
  | succ f ih =>
    intro u hu
    rw [splitL]
    by_cases h : u.length = 0
    · obtain rfl : u = [] := List.eq_nil_of_length_eq_zero h
      simp [U]
    · rw [if_neg h, List.length_cons]
      have h' := ih (u.drop n) (by rw [List.length_drop]; omega)
      rw [List.length_drop] at h'
      have h'' : (((splitL f n (u.drop n)).length + 1 : Nat) : Int) = U ((u.length - n : Nat) : Int) (n : Int) + 1 := by rw [← h']; simp
      rw [h'']
      obtain ⟨a, ea⟩ : ∃ a, a = u.length := ⟨_, rfl⟩
      rw [← ea] at h ⊢
      obtain ⟨_, _, u3, u4⟩ := U_bounds (a : Int) (n : Int) (by omega) (by omega)
      obtain ⟨u5, u6⟩ := u4 (by omega)
      by_cases hb : n ≤ a
      · have e : ((a - n : Nat) : Int) = (a : Int) - n := by omega
        unfold U
        rw [e, Int.sub_ediv_of_dvd _ (Int.dvd_refl _), Int.ediv_self (by omega), Int.sub_emod_right]
        omega
      · have e : a - n = 0 := by omega
        have e0 : U ((0 : Nat) : Int) (n : Int) = 0 := by simp [U]
        rw [e, e0]
        unfold U
        rw [Int.ediv_eq_zero_of_lt (by omega) (by omega), Int.emod_eq_of_lt (by omega) (by omega), if_pos (by omega)]
/-- What Cut cuts of an object. -/
def one0 (u : List Int) : List Int := if u.length = 0 then [0] else u
theorem sizeBad_nil (b : Int) (h1 : 1 ≤ b) (h2 : b ≤ 64) : sizeBad [] b = 0 := by unfold sizeBad; rw [if_neg (by omega), if_pos (by simp)]
theorem one0_len (u : List Int) : (one0 u).length = max 1 u.length := by 
  unfold one0
  by_cases h : u.length = 0
  · rw [if_pos h, h]; rfl
  · rw [if_neg h]; omega
theorem back_count (u : List Int) (b : Int) (h1 : 1 ≤ b) : ((splitL (one0 u).length b.toNat (one0 u)).length : Int) = T (u.length : Int) b := by
  rw [splitL_count b.toNat (by omega) _ _ (Nat.le_refl _), one0_len, Int.toNat_of_nonneg (by omega)]
  unfold T mx
  by_cases h : u.length = 0
  · rw [h]
    have e1 : U ((max 1 0 : Nat) : Int) b = 1 := by
      unfold U
      by_cases hb : b = 1
      · subst hb; rfl
      · rw [show ((max 1 0 : Nat) : Int) = 1 from rfl, Int.ediv_eq_zero_of_lt (by omega) (by omega), Int.emod_eq_of_lt (by omega) (by omega)]; rfl
    have e2 : U ((0 : Nat) : Int) b = 0 := by simp [U]
    rw [e1, e2]; rfl
  · rw [show max 1 u.length = u.length by omega]
    obtain ⟨_, _, _, u4⟩ := U_bounds (u.length : Int) b (by omega) h1
    have := (u4 (by omega)).2
    split <;> omega
theorem back_flat (u : List Int) (b : Int) (h1 : 1 ≤ b) (h2 : b ≤ 64) : ∃ p : Nat, p < 65 ∧ (splitL (one0 u).length b.toNat (one0 u)).flatten = u ++ List.replicate p 0 := by
  obtain ⟨p, hp, e⟩ := splitL_flat b.toNat (by omega) (one0 u).length (one0 u) (Nat.le_refl _)
  by_cases h : u.length = 0
  · obtain rfl : u = [] := List.eq_nil_of_length_eq_zero h
    refine ⟨p + 1, by omega, ?_⟩
    rw [e]
    show [0] ++ List.replicate p 0 = [] ++ List.replicate (p + 1) (0 : Int)
    rw [List.replicate_succ]; rfl
  · refine ⟨p, by omega, ?_⟩
    rw [e]
    have : one0 u = u := if_neg h
    rw [this]
theorem cut_j0 (s b B r q : Int) (hq0 : 0 ≤ q) (hq : q ≤ 128) (hB0 : 0 ≤ B) (hB : B ≤ 16) (hb1 : 1 ≤ b) (hb2 : b ≤ 64) (t : List Int) (ht : t.length ≤ 5864062014804) (hc : (splitL t.length b.toNat t).length = tot r q B.toNat 0) :
    Ev (fun k => blocking_Cut.j0 k t s b B r q) (cutL r q B.toNat 0 (splitL t.length b.toNat t), []) := by
  have hsp := split_ev t b ht
  have e : splitR t b = (splitL t.length b.toNat t, []) := if_pos (sizeBad_nil b hb1 hb2)
  rw [e] at hsp
  have hl := splitL_length b.toNat (by omega) t.length t
  have hc0 := cut_l0 s b B r q hq0 hq hB B.toNat 0 (splitL t.length b.toNat t) [] (by omega) (by omega) hc (by omega) (by simp)
  rw [List.nil_append] at hc0
  refine Ev.step (f := fun k => (symbol_Split.f k t b).bind fun bt408 => (if (bt408.2.length : Int) = 0 then (blocking_Cut.l0 k (bt408.1) ([] : List (List (List Int))) B 0 s b B r q) else ((fault_Wrap.f (⟨#[98, 108, 111, 99, 107, 105, 110, 103, 46, 67, 117, 116]⟩ : ByteArray) bt408.2).bind fun t417 => (some (([] : List (List (List Int))), t417))))) (fun k => by rw [blocking_Cut.j0]) ?_
  refine Ev.bind hsp ?_
  simp only [List.length_nil, Int.natCast_zero, if_true]
  exact hc0
theorem cut_ev (u : List Int) (b B r q : Int) (hq0 : 0 ≤ q) (hq : q ≤ 128) (hB0 : 0 ≤ B) (hB : B ≤ 16) (hb1 : 1 ≤ b) (hb2 : b ≤ 64) (hw : whyR (u.length : Int) b B r q = 0) (hu : u.length ≤ 5864062014804) (hc : (splitL (one0 u).length b.toNat (one0 u)).length = tot r q B.toNat 0) :
    Ev (fun k => blocking_Cut.f k u (u.length : Int) b B r q) (cutL r q B.toNat 0 (splitL (one0 u).length b.toNat (one0 u)), []) := by
  have hck := check14_evB (u.length : Int) b B r q (by omega) (by omega) (by omega)
  have e : checkR (u.length : Int) b B r q = [] := if_pos hw
  rw [e] at hck
  have hj := cut_j0 (u.length : Int) b B r q hq0 hq hB0 hB hb1 hb2 (one0 u) (by rw [one0_len]; omega) hc
  unfold blocking_Cut.f
  refine Ev.bind hck ?_
  simp only [List.length_nil, Int.natCast_zero, if_true]
  unfold one0 at hj ⊢
  by_cases h : u.length = 0
  · refine Ev.congr (fun k => ?_) hj
    rw [if_pos (by omega), if_pos (by omega), if_pos h]; rfl
  · refine Ev.congr (fun k => ?_) hj
    rw [if_neg (by omega), if_neg h]
theorem back_good (u : List Int) (b m B r q : Int) (t : Nat) (ht : (t : Int) = T (u.length : Int) b) (h1 : 1 ≤ b) (h3 : b ≤ 64) (hq1 : 1 ≤ q) (hq : q ≤ 128) (hB1 : 1 ≤ B) (hB : B ≤ 16) (hr0 : 0 ≤ r) (hr : r < B) (hw : whyR (u.length : Int) b B r q = 0)
    (hsum : B * q + r = (t : Int)) (hu : u.length ≤ 140737488351232) (hlen : u.length ≤ 5864062014804) :
    Ev (fun k => blocking_Cut.f k u (u.length : Int) b B r q) (cutL r q B.toNat 0 (splitL (one0 u).length b.toNat (one0 u)), []) ∧
    Ev (fun k => blocking_Join.f k (u.length : Int) b B r q (cutL r q B.toNat 0 (splitL (one0 u).length b.toNat (one0 u)))) (u, []) ∧
    ((cutL r q B.toNat 0 (splitL (one0 u).length b.toNat (one0 u))).length : Int) = B := by
  have htot : tot r q B.toNat 0 = t := by
    rw [tot_eq r q B (by omega) (by omega) B.toNat 0 (by omega)]
    obtain ⟨B', rfl⟩ := Int.eq_ofNat_of_zero_le (show 0 ≤ B by omega)
    obtain ⟨q', rfl⟩ := Int.eq_ofNat_of_zero_le (show 0 ≤ q by omega)
    obtain ⟨r', rfl⟩ := Int.eq_ofNat_of_zero_le (show 0 ≤ r by omega)
    simp only [Int.toNat_natCast, Int.sub_zero]
    have : ((B' * q' + r' : Nat) : Int) = (t : Int) := by simpa using hsum
    omega
  have hcount := back_count u b h1
  have hc : (splitL (one0 u).length b.toNat (one0 u)).length = tot r q B.toNat 0 := by rw [htot]; omega
  obtain ⟨p, hp, hflat⟩ := back_flat u b h1 h3
  have hcut := cut_ev u b B r q (by omega) (by omega) (by omega) (by omega) h1 h3 hw hlen hc
  have hL : ∀ x ∈ splitL (one0 u).length b.toNat (one0 u), (x.length : Int) = b := fun x hx => by
    have := splitL_mem b.toNat (one0 u).length (one0 u) x hx
    omega
  have hck := check14_evB (u.length : Int) b B r q (by omega) (by omega) (by omega)
  have eck : checkR (u.length : Int) b B r q = [] := if_pos hw
  rw [eck] at hck
  have hll := splitL_length b.toNat (by omega) (one0 u).length (one0 u)
  have hol := one0_len u
  have hjl := join_l0 (u.length : Int) b B r q (by omega) (by omega) (by omega) u p rfl (by omega) B.toNat (splitL (one0 u).length b.toNat (one0 u)) [] [] (by simp; omega) (by simpa using hc) (by omega) hL (by simpa using hflat)
  simp only [List.length_nil, Int.natCast_zero, List.nil_append] at hjl
  have hcl := cutL_len r q B.toNat 0 (splitL (one0 u).length b.toNat (one0 u))
  have e5 : ((cutL r q B.toNat 0 (splitL (one0 u).length b.toNat (one0 u))).length : Int) = B := by omega
  refine ⟨hcut, ?_, e5⟩
  unfold blocking_Join.f
  refine Ev.bind hck ?_
  refine Ev.congr (fun k => ?_) hjl
  rw [if_pos (by rfl), if_pos e5, e5]
theorem BlockingBack (u : List Int) (b m : Int) (hu : u.length ≤ 140737488351232) : ∃ k, geyserlaw14_BlockingBack.f k u b m = some true := by
  refine Ev.rounds (g := fun k => geyserlaw14_BlockingBack.f k u b m) ?_
  have hof := of_evB (u.length : Int) b m (by omega)
  have hbad : ∀ x : List FE, x ≠ [] → OfR (u.length : Int) b m = (0, 0, 0, 0, 0, x) → Ev (fun k => geyserlaw14_BlockingBack.f k u b m) true := by
    intro x hx e
    rw [e] at hof
    unfold geyserlaw14_BlockingBack.f
    refine Ev.bind hof ?_
    refine Ev.congr (fun k => ?_) (Ev.bind (f := fun _ t => some t) awake14_evB (Ev.now _))
    have : ¬ ((x.length : Int) = 0) := by
      intro h
      exact hx (List.eq_nil_of_length_eq_zero (by omega))
    rw [if_neg this, if_pos (by rfl)]
  by_cases h : inRange (u.length : Int) b m
  · by_cases hB : U (T (u.length : Int) b) m > 16
    · exact hbad [⟨ofName, true, 3⟩] (by simp) (by unfold OfR; rw [if_pos h, if_pos hB])
    · obtain ⟨p1, p2, p3, p4, p5, p6, p7, p8⟩ := plan_right (u.length : Int) b m h (by omega) hB
      have e : OfR (u.length : Int) b m = ((u.length : Int), b, U (T (u.length : Int) b) m, T (u.length : Int) b % U (T (u.length : Int) b) m, T (u.length : Int) b / U (T (u.length : Int) b) m, []) := by unfold OfR; rw [if_pos h, if_neg hB]
      rw [e] at hof
      obtain ⟨h0, h1, h3, h4, h5⟩ := h
      have hT := T_bounds (u.length : Int) b h0 h1 (by omega)
      have hTm := (U_bounds (T (u.length : Int) b) m (by omega) h4).2.2.1
      have hUb := U_bounds (u.length : Int) b h0 h1
      have hUt : U (u.length : Int) b ≤ T (u.length : Int) b := by unfold T mx; split <;> omega
      have hBm : U (T (u.length : Int) b) m * m ≤ 16 * 128 := Int.mul_le_mul (by omega) (by omega) (by omega) (by omega)
      have hsz : (u.length : Int) ≤ 2048 * 64 := by
        have h6 : U (u.length : Int) b * b ≤ 2048 * 64 := Int.mul_le_mul (by omega) (by omega) (by omega) (by omega)
        omega
      have hq2 : T (u.length : Int) b / U (T (u.length : Int) b) m ≤ m := by split at p6 <;> omega
      obtain ⟨g1, g2, g3⟩ := back_good u b m _ _ _ (T (u.length : Int) b).toNat (by omega) h1 h3 p5 (by omega) p2 (by omega) p3 p4 p1 (by omega) hu (by omega)
      unfold geyserlaw14_BlockingBack.f
      refine Ev.bind hof ?_
      simp only [List.length_nil, Int.natCast_zero, if_true]
      refine Ev.bind g1 ?_
      refine Ev.bind g2 ?_
      refine Ev.congr (fun k => ?_) (Ev.bind (f := fun _ t => some t) awake14_evB (Ev.now _))
      rw [if_pos (by rfl), if_pos (by rfl), if_pos rfl, if_pos g3]
  · exact hbad [⟨ofName, true, 1⟩] (by simp) (by unfold OfR; rw [if_neg h])
end Go.Proofs.Ytbhnhmkbccjnpaa.Pure
