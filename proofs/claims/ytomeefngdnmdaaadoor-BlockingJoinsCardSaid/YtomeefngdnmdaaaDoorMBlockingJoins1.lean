-- joined by merge.py: Px24 Px25 Px16 PureRef14 Px34 Px28 PureS Px39 PureSplit Px35 PureSplitR Px36 PureCut
import Derived.Laws.BitsLemmas
import Derived.Laws.Bits64
import Derived.Test.YtomeefngdnmdaaaDoorMBlockingJoins0
namespace Go.Proofs.YtomeefngdnmdaaaDoor.P
open Go.RowKit Go.Proofs.YtomeefngdnmdaaaDoorW.PrintWords Go.Proofs.YtomeefngdnmdaaaDoorW.PrintLast Go.Proofs.YtomeefngdnmdaaaDoorW.PrintErr Go.Proofs.YtomeefngdnmdaaaDoorW.PrintMore
attribute [local go_sem] max2_int min2_int max_two min_two max_three min_three max_four min_four run_eql_errOf run_neq_errOf eqGuard_errOf   -- for this text's walks alone
set_option linter.unusedVariables false
set_option linter.unusedSimpArgs false

/-! ### geyserref14_Check: function 11 -/
mutual
def geyserref14_Check.j0 : Nat → Bool → Int → Int → Int → Int → Int → Option (Int)
 | 0, _, _, _, _, _, _ => none
 | k + 1, x15, x164000, x164001, x164002, x164003, x164004 => if x15 = true then (some 1) else (if x164002 < 1 then (geyserref14_Check.j1 k true x164000 x164001 x164002 x164003 x164004) else (if x164002 > 16 then (geyserref14_Check.j1 k true x164000 x164001 x164002 x164003 x164004) else (if x164003 < 0 then (geyserref14_Check.j1 k true x164000 x164001 x164002 x164003 x164004) else (if x164003 ≥ x164002 then (geyserref14_Check.j1 k true x164000 x164001 x164002 x164003 x164004) else (if x164004 < 1 then (geyserref14_Check.j1 k true x164000 x164001 x164002 x164003 x164004) else (if x164004 > 128 then (geyserref14_Check.j1 k true x164000 x164001 x164002 x164003 x164004) else (if x164003 > 0 then (geyserref14_Check.j1 k (x164004 == 128) x164000 x164001 x164002 x164003 x164004) else (geyserref14_Check.j1 k false x164000 x164001 x164002 x164003 x164004))))))))
def geyserref14_Check.j1 : Nat → Bool → Int → Int → Int → Int → Int → Option (Int)
 | 0, _, _, _, _, _, _ => none
 | k + 1, x55, x164000, x164001, x164002, x164003, x164004 => if x55 = true then (some 2) else ((geyserref14_Symbols.f x164000 x164001).bind fun t164 => (if (wrap64 ((wrap64 (x164002 * x164004)) + x164003)) = t164 then (some 0) else (some 2)))
end
def geyserref14_Check.f (k : Nat) (a0_0 : Int) (a0_1 : Int) (a0_2 : Int) (a0_3 : Int) (a0_4 : Int) : Option (Int) := if a0_0 < 0 then (geyserref14_Check.j0 k true a0_0 a0_1 a0_2 a0_3 a0_4) else (if a0_1 < 1 then (geyserref14_Check.j0 k true a0_0 a0_1 a0_2 a0_3 a0_4) else (geyserref14_Check.j0 k (decide (a0_1 > 64)) a0_0 a0_1 a0_2 a0_3 a0_4))
theorem geyserref14_Check.mono_l : ∀ k, (∀ y0 y1 y2 y3 y4 y5, LeO (geyserref14_Check.j0 k y0 y1 y2 y3 y4 y5) (geyserref14_Check.j0 (k + 1) y0 y1 y2 y3 y4 y5)) ∧ (∀ y0 y1 y2 y3 y4 y5, LeO (geyserref14_Check.j1 k y0 y1 y2 y3 y4 y5) (geyserref14_Check.j1 (k + 1) y0 y1 y2 y3 y4 y5))
 | 0 => ⟨fun _ _ _ _ _ _ r h => by simp [geyserref14_Check.j0] at h, fun _ _ _ _ _ _ r h => by simp [geyserref14_Check.j1] at h⟩
 | k + 1 => by
  obtain ⟨ih0, ih1⟩ := geyserref14_Check.mono_l k
  refine ⟨?_, ?_⟩
  ·intro y0 y1 y2 y3 y4 y5
   unfold geyserref14_Check.j0
   repeat' first
   | (with_reducible exact ih0 _ _ _ _ _ _)
   | (with_reducible exact ih1 _ _ _ _ _ _)
   | (with_reducible exact LeO.refl _)
   | (with_reducible exact LeO.none _)
   | (with_reducible refine LeO.ite ?_ ?_)
   | (with_reducible refine LeO.bind ?_ (fun _ => ?_))
   | exact ih0 _ _ _ _ _ _
   | exact ih1 _ _ _ _ _ _
   | exact LeO.none _
   | refine LeO.ite ?_ ?_
   | refine LeO.bind ?_ (fun _ => ?_)
  ·intro y0 y1 y2 y3 y4 y5
   unfold geyserref14_Check.j1
   repeat' first
   | (with_reducible exact ih0 _ _ _ _ _ _)
   | (with_reducible exact ih1 _ _ _ _ _ _)
   | (with_reducible exact LeO.refl _)
   | (with_reducible exact LeO.none _)
   | (with_reducible refine LeO.ite ?_ ?_)
   | (with_reducible refine LeO.bind ?_ (fun _ => ?_))
   | exact ih0 _ _ _ _ _ _
   | exact ih1 _ _ _ _ _ _
   | exact LeO.none _
   | refine LeO.ite ?_ ?_
   | refine LeO.bind ?_ (fun _ => ?_)
theorem geyserref14_Check.mono : ∀ a0 a1 a2 a3 a4 k, LeO (geyserref14_Check.f k a0 a1 a2 a3 a4) (geyserref14_Check.f (k + 1) a0 a1 a2 a3 a4) := by
 intro a0 a1 a2 a3 a4 k
 obtain ⟨ih0, ih1⟩ := geyserref14_Check.mono_l k
 unfold geyserref14_Check.f
 repeat' first
   | (with_reducible exact ih0 _ _ _ _ _ _)
   | (with_reducible exact ih1 _ _ _ _ _ _)
   | (with_reducible exact LeO.refl _)
   | (with_reducible exact LeO.none _)
   | (with_reducible refine LeO.ite ?_ ?_)
   | (with_reducible refine LeO.bind ?_ (fun _ => ?_))
   | exact ih0 _ _ _ _ _ _
   | exact ih1 _ _ _ _ _ _
   | exact LeO.none _
   | refine LeO.ite ?_ ?_
   | refine LeO.bind ?_ (fun _ => ?_)
set_option maxHeartbeats 8000000 in
set_option maxRecDepth 100000 in
theorem geyserref14_Check.calls (k : Nat) (a0_0 : Int) (a0_1 : Int) (a0_2 : Int) (a0_3 : Int) (a0_4 : Int) (r : Int) (w : World) (h : geyserref14_Check.f k a0_0 a0_1 a0_2 a0_3 a0_4 = some r) :
  Calls Tryd.prog 11 #[.agg #[.int .i64 a0_0, .int .i64 a0_1, .int .i64 a0_2, .int .i64 a0_3, .int .i64 a0_4]] w fun e w' => e = .returned (.int .i64 r) ∧ Below w.heap.size w w' := by
 have hu23 := Tryd.underlying23
 have HB := Aside0.mk (Below.refl w.heap.size w)
 have H : (if a0_0 < 0 then (geyserref14_Check.j0 k true a0_0 a0_1 a0_2 a0_3 a0_4) else (if a0_1 < 1 then (geyserref14_Check.j0 k true a0_0 a0_1 a0_2 a0_3 a0_4) else (geyserref14_Check.j0 k (decide (a0_1 > 64)) a0_0 a0_1 a0_2 a0_3 a0_4))) = some r := h
 clear h
 have HC2 := Aside0.mk H
 clear H
 go_enter Tryd.func11, Tryd.ntmps11
 go_upto_region 1 with (first | ((with_reducible refine gate_dst (N := 1) rfl ?_); refine box_event ?hg (N := 1) ?hd (cs := #[.int .i64 a0_0, .int .i64 a0_1, .int .i64 a0_2, .int .i64 a0_3, .int .i64 a0_4]) (t := 23) ?hr ?_; (case hd => rfl); (case hg => rfl); (case hr => first | (go_simp; done) | (go_simp; rfl)); intro gb163 hg w3 hbox hb; have n0_ := Aside0.mk (below_step (by repeat (first | (with_reducible first | exact HB.out | apply below_alloc | apply pw_below_drewN | apply below_drew1) | exact HB.out)) hb); have n1_ := Aside0.mk (hbox); have n2_ := Aside0.mk ((by rw [hg]; exact (below_size (by repeat (first | (with_reducible first | exact HB.out | apply below_alloc | apply pw_below_drewN | apply below_drew1) | exact HB.out))) : w.heap.size ≤ gb163)); have n3_ := Aside0.mk ((by rw [hg]; exact (below_size (by repeat (first | (with_reducible first | exact HB.out | apply below_alloc | apply pw_below_drewN | apply below_drew1) | exact HB.out))) : w.heap.size ≤ gb163)); clear HB; have HB := n0_; have BK163 := n1_; have GW163 := n2_; have GE163 := n3_; clear n0_ n1_ n2_ n3_; clear hb hbox hg))
 repeat (go_quiet (first | ((with_reducible refine gate_dst (N := 1) rfl ?_); refine box_event ?hg (N := 1) ?hd (cs := #[.int .i64 a0_0, .int .i64 a0_1, .int .i64 a0_2, .int .i64 a0_3, .int .i64 a0_4]) (t := 23) ?hr ?_; (case hd => rfl); (case hg => rfl); (case hr => first | (go_simp; done) | (go_simp; rfl)); intro gb163 hg w3 hbox hb; have n0_ := Aside0.mk (below_step (by repeat (first | (with_reducible first | exact HB.out | apply below_alloc | apply pw_below_drewN | apply below_drew1) | exact HB.out)) hb); have n1_ := Aside0.mk (hbox); have n2_ := Aside0.mk ((by rw [hg]; exact (below_size (by repeat (first | (with_reducible first | exact HB.out | apply below_alloc | apply pw_below_drewN | apply below_drew1) | exact HB.out))) : w.heap.size ≤ gb163)); have n3_ := Aside0.mk ((by rw [hg]; exact (below_size (by repeat (first | (with_reducible first | exact HB.out | apply below_alloc | apply pw_below_drewN | apply below_drew1) | exact HB.out))) : w.heap.size ≤ gb163)); clear HB; have HB := n0_; have BK163 := n1_; have GW163 := n2_; have GE163 := n3_; clear n0_ n1_ n2_ n3_; clear hb hbox hg)); go_upto_region 1 with (first | ((with_reducible refine gate_dst (N := 1) rfl ?_); refine box_event ?hg (N := 1) ?hd (cs := #[.int .i64 a0_0, .int .i64 a0_1, .int .i64 a0_2, .int .i64 a0_3, .int .i64 a0_4]) (t := 23) ?hr ?_; (case hd => rfl); (case hg => rfl); (case hr => first | (go_simp; done) | (go_simp; rfl)); intro gb163 hg w3 hbox hb; have n0_ := Aside0.mk (below_step (by repeat (first | (with_reducible first | exact HB.out | apply below_alloc | apply pw_below_drewN | apply below_drew1) | exact HB.out)) hb); have n1_ := Aside0.mk (hbox); have n2_ := Aside0.mk ((by rw [hg]; exact (below_size (by repeat (first | (with_reducible first | exact HB.out | apply below_alloc | apply pw_below_drewN | apply below_drew1) | exact HB.out))) : w.heap.size ≤ gb163)); have n3_ := Aside0.mk ((by rw [hg]; exact (below_size (by repeat (first | (with_reducible first | exact HB.out | apply below_alloc | apply pw_below_drewN | apply below_drew1) | exact HB.out))) : w.heap.size ≤ gb163)); clear HB; have HB := n0_; have BK163 := n1_; have GW163 := n2_; have GE163 := n3_; clear n0_ n1_ n2_ n3_; clear hb hbox hg)))
 (try simp only [Act.put, List.setIfInBounds_toArray, List.set_cons_zero, List.set_cons_succ])
 go_cut [15] (fun v15 wc => ∃ (kq : Nat) (x15_1 : Bool), v15 = .bool x15_1 ∧ Aside0 (geyserref14_Check.j0 kq x15_1 a0_0 a0_1 a0_2 a0_3 a0_4 = some r) ∧ Aside0 (kq ≤ k) ∧ Aside0 (wc.heap[gb163]? = some (.cells #[.int .i64 a0_0, .int .i64 a0_1, .int .i64 a0_2, .int .i64 a0_3, .int .i64 a0_4] 23 (0, 0))) ∧ Aside0 (Below w.heap.size w wc))
 case first =>
  have H := HC2.out
  clear HC2
  by_cases c4 : a0_0 < 0
  ·rw [if_pos c4] at H
   have c4b0 : decide (a0_0 < 0) = true := decide_eq_true c4
   clear c4
   (first | rw [c4b0] | rw [c4b1] | (simp only [i64_w, i32_w]; rw [c4b0]) | skip)
   have H' := Aside0.mk H
   clear H
   have hcz5_0 : w3.cell? ⟨gb163, 0, none⟩ = some (.int .i64 a0_0) := (blk_cell BK163.out 0).trans rfl
   have hcz5_1 : w3.cell? ⟨gb163, 1, none⟩ = some (.int .i64 a0_1) := (blk_cell BK163.out 1).trans rfl
   have hcz5_2 : w3.cell? ⟨gb163, 2, none⟩ = some (.int .i64 a0_2) := (blk_cell BK163.out 2).trans rfl
   have hcz5_3 : w3.cell? ⟨gb163, 3, none⟩ = some (.int .i64 a0_3) := (blk_cell BK163.out 3).trans rfl
   have hcz5_4 : w3.cell? ⟨gb163, 4, none⟩ = some (.int .i64 a0_4) := (blk_cell BK163.out 4).trans rfl
   have hfz5_0 := blk_frozen BK163.out 0
   have hfz5_1 := blk_frozen BK163.out 1
   have hfz5_2 := blk_frozen BK163.out 2
   have hfz5_3 := blk_frozen BK163.out 3
   have hfz5_4 := blk_frozen BK163.out 4
   go_wp2
   repeat (go_quiet (fail); try go_wp2)
   go_meet
   case rel => exact ⟨_, (true), (by first | rfl | (simp; done) | (simp [*]; done)), H', ⟨by first | omega | exact Nat.le_refl _⟩, ⟨by (with_reducible repeat (first | refine blk_drewN ?_ _ | refine blk_drew ?_ | refine blk_alloc ?_ _)); exact BK163.out⟩, ⟨by repeat (first | (with_reducible first | exact HB.out | apply below_alloc | apply pw_below_drewN | apply below_drew1 | refine below_set ?_ GE163.out) | exact HB.out)⟩⟩
  ·rw [if_neg c4] at H
   have c4b0 : decide (a0_0 < 0) = false := decide_eq_false c4
   clear c4
   (first | rw [c4b0] | rw [c4b1] | (simp only [i64_w, i32_w]; rw [c4b0]) | skip)
   by_cases c6 : a0_1 < 1
   ·rw [if_pos c6] at H
    have c6b0 : decide (a0_1 < 1) = true := decide_eq_true c6
    clear c6
    have H' := Aside0.mk H
    clear H
    have hcz7_0 : w3.cell? ⟨gb163, 0, none⟩ = some (.int .i64 a0_0) := (blk_cell BK163.out 0).trans rfl
    have hcz7_1 : w3.cell? ⟨gb163, 1, none⟩ = some (.int .i64 a0_1) := (blk_cell BK163.out 1).trans rfl
    have hcz7_2 : w3.cell? ⟨gb163, 2, none⟩ = some (.int .i64 a0_2) := (blk_cell BK163.out 2).trans rfl
    have hcz7_3 : w3.cell? ⟨gb163, 3, none⟩ = some (.int .i64 a0_3) := (blk_cell BK163.out 3).trans rfl
    have hcz7_4 : w3.cell? ⟨gb163, 4, none⟩ = some (.int .i64 a0_4) := (blk_cell BK163.out 4).trans rfl
    have hfz7_0 := blk_frozen BK163.out 0
    have hfz7_1 := blk_frozen BK163.out 1
    have hfz7_2 := blk_frozen BK163.out 2
    have hfz7_3 := blk_frozen BK163.out 3
    have hfz7_4 := blk_frozen BK163.out 4
    go_wp2
    repeat (go_quiet (fail); try go_wp2)
    go_meet
    case rel => exact ⟨_, (true), (by first | rfl | (simp; done) | (simp [*]; done)), H', ⟨by first | omega | exact Nat.le_refl _⟩, ⟨by (with_reducible repeat (first | refine blk_drewN ?_ _ | refine blk_drew ?_ | refine blk_alloc ?_ _)); exact BK163.out⟩, ⟨by repeat (first | (with_reducible first | exact HB.out | apply below_alloc | apply pw_below_drewN | apply below_drew1 | refine below_set ?_ GE163.out) | exact HB.out)⟩⟩
   ·rw [if_neg c6] at H
    have c6b0 : decide (a0_1 < 1) = false := decide_eq_false c6
    clear c6
    have H' := Aside0.mk H
    clear H
    have hcz8_0 : w3.cell? ⟨gb163, 0, none⟩ = some (.int .i64 a0_0) := (blk_cell BK163.out 0).trans rfl
    have hcz8_1 : w3.cell? ⟨gb163, 1, none⟩ = some (.int .i64 a0_1) := (blk_cell BK163.out 1).trans rfl
    have hcz8_2 : w3.cell? ⟨gb163, 2, none⟩ = some (.int .i64 a0_2) := (blk_cell BK163.out 2).trans rfl
    have hcz8_3 : w3.cell? ⟨gb163, 3, none⟩ = some (.int .i64 a0_3) := (blk_cell BK163.out 3).trans rfl
    have hcz8_4 : w3.cell? ⟨gb163, 4, none⟩ = some (.int .i64 a0_4) := (blk_cell BK163.out 4).trans rfl
    have hfz8_0 := blk_frozen BK163.out 0
    have hfz8_1 := blk_frozen BK163.out 1
    have hfz8_2 := blk_frozen BK163.out 2
    have hfz8_3 := blk_frozen BK163.out 3
    have hfz8_4 := blk_frozen BK163.out 4
    go_wp2
    repeat (go_quiet (fail); try go_wp2)
    go_meet
    case rel => exact ⟨_, (decide (a0_1 > 64)), (by first | rfl | (simp; done) | (simp [*]; done)), H', ⟨by first | omega | exact Nat.le_refl _⟩, ⟨by (with_reducible repeat (first | refine blk_drewN ?_ _ | refine blk_drew ?_ | refine blk_alloc ?_ _)); exact BK163.out⟩, ⟨by repeat (first | (with_reducible first | exact HB.out | apply below_alloc | apply pw_below_drewN | apply below_drew1 | refine below_set ?_ GE163.out) | exact HB.out)⟩⟩
 case rest =>
  clear HC2
  try clear c1
  try clear p2
  try clear c4
  try clear c4b0
  try clear c4b1
  try clear c6
  try clear c6b0
  try clear hcz5_0
  try clear hcz5_1
  try clear hcz5_2
  try clear hcz5_3
  try clear hcz5_4
  try clear hcz7_0
  try clear hcz7_1
  try clear hcz7_2
  try clear hcz7_3
  try clear hcz7_4
  try clear hcz8_0
  try clear hcz8_1
  try clear hcz8_2
  try clear hcz8_3
  try clear hcz8_4
  try clear hfz5_0
  try clear hfz5_1
  try clear hfz5_2
  try clear hfz5_3
  try clear hfz5_4
  try clear hfz7_0
  try clear hfz7_1
  try clear hfz7_2
  try clear hfz7_3
  try clear hfz7_4
  try clear hfz8_0
  try clear hfz8_1
  try clear hfz8_2
  try clear hfz8_3
  try clear hfz8_4
  obtain ⟨kq, x15_1, rfl, HA, HJ1, BK163, HB⟩ := hcut
  cases kq with
  | zero => exact absurd HA.out (by simp [geyserref14_Check.j0])
  | succ kj1 =>
   have H := HA.out
   clear HA
   simp only [geyserref14_Check.j0] at H
   by_cases c9 : x15_1 = true
   ·subst c9
    have H1 : (some 1) = some r := by rw [if_pos rfl] at H; exact H
    clear H
    have H := H1
    clear H1
    obtain rfl := Option.some.inj H
    go_wp2
    repeat (go_quiet (fail); try go_wp2)
    go_ret
    exact ⟨by first | rfl | (simp [errW_none, errW_some] <;> rfl) | (simp [*, errW_none, errW_some] <;> rfl), by repeat (first | (with_reducible first | exact HB.out | apply below_alloc | apply pw_below_drewN | apply below_drew1 | refine below_set ?_ GE163.out) | exact HB.out)⟩
   ·replace c9 := Bool.eq_false_iff.mpr c9
    subst c9
    have H1 : (if a0_2 < 1 then (geyserref14_Check.j1 kj1 true a0_0 a0_1 a0_2 a0_3 a0_4) else (if a0_2 > 16 then (geyserref14_Check.j1 kj1 true a0_0 a0_1 a0_2 a0_3 a0_4) else (if a0_3 < 0 then (geyserref14_Check.j1 kj1 true a0_0 a0_1 a0_2 a0_3 a0_4) else (if a0_3 ≥ a0_2 then (geyserref14_Check.j1 kj1 true a0_0 a0_1 a0_2 a0_3 a0_4) else (if a0_4 < 1 then (geyserref14_Check.j1 kj1 true a0_0 a0_1 a0_2 a0_3 a0_4) else (if a0_4 > 128 then (geyserref14_Check.j1 kj1 true a0_0 a0_1 a0_2 a0_3 a0_4) else (if a0_3 > 0 then (geyserref14_Check.j1 kj1 (a0_4 == 128) a0_0 a0_1 a0_2 a0_3 a0_4) else (geyserref14_Check.j1 kj1 false a0_0 a0_1 a0_2 a0_3 a0_4)))))))) = some r := by rw [if_neg (show ¬ (false = true) by decide)] at H; exact H
    clear H
    have H := H1
    clear H1
    have HC10 := Aside0.mk H
    clear H
    go_upto_region 3 with (fail)
    repeat (go_quiet (fail); go_upto_region 3 with (fail))
    go_cut [55] (fun v55 wc => ∃ (kq : Nat) (x55_9 : Bool), v55 = .bool x55_9 ∧ Aside0 (geyserref14_Check.j1 kq x55_9 a0_0 a0_1 a0_2 a0_3 a0_4 = some r) ∧ Aside0 (kq ≤ kj1) ∧ Aside0 (wc.heap[gb163]? = some (.cells #[.int .i64 a0_0, .int .i64 a0_1, .int .i64 a0_2, .int .i64 a0_3, .int .i64 a0_4] 23 (0, 0))) ∧ Aside0 (Below w.heap.size w wc))
    case first =>
     have H := HC10.out
     clear HC10
     by_cases c11 : a0_2 < 1
     ·rw [if_pos c11] at H
      have c11b0 : decide (a0_2 < 1) = true := decide_eq_true c11
      clear c11
      (first | rw [c11b0] | rw [c11b1] | (simp only [i64_w, i32_w]; rw [c11b0]) | skip)
      have H' := Aside0.mk H
      clear H
      have hcz12_0 : wc.cell? ⟨gb163, 0, none⟩ = some (.int .i64 a0_0) := (blk_cell BK163.out 0).trans rfl
      have hcz12_1 : wc.cell? ⟨gb163, 1, none⟩ = some (.int .i64 a0_1) := (blk_cell BK163.out 1).trans rfl
      have hcz12_2 : wc.cell? ⟨gb163, 2, none⟩ = some (.int .i64 a0_2) := (blk_cell BK163.out 2).trans rfl
      have hcz12_3 : wc.cell? ⟨gb163, 3, none⟩ = some (.int .i64 a0_3) := (blk_cell BK163.out 3).trans rfl
      have hcz12_4 : wc.cell? ⟨gb163, 4, none⟩ = some (.int .i64 a0_4) := (blk_cell BK163.out 4).trans rfl
      have hfz12_0 := blk_frozen BK163.out 0
      have hfz12_1 := blk_frozen BK163.out 1
      have hfz12_2 := blk_frozen BK163.out 2
      have hfz12_3 := blk_frozen BK163.out 3
      have hfz12_4 := blk_frozen BK163.out 4
      go_wp2
      repeat (go_quiet (fail); try go_wp2)
      go_meet
      case rel => exact ⟨_, (true), (by first | rfl | (simp; done) | (simp [*]; done)), H', ⟨by have := HJ1.out; first | omega | exact Nat.le_refl _⟩, ⟨by (with_reducible repeat (first | refine blk_drewN ?_ _ | refine blk_drew ?_ | refine blk_alloc ?_ _)); exact BK163.out⟩, ⟨by repeat (first | (with_reducible first | exact HB.out | apply below_alloc | apply pw_below_drewN | apply below_drew1 | refine below_set ?_ GE163.out) | exact HB.out)⟩⟩
     ·rw [if_neg c11] at H
      have c11b0 : decide (a0_2 < 1) = false := decide_eq_false c11
      clear c11
      (first | rw [c11b0] | rw [c11b1] | (simp only [i64_w, i32_w]; rw [c11b0]) | skip)
      by_cases c13 : a0_2 > 16
      ·rw [if_pos c13] at H
       have c13b0 : decide (16 < a0_2) = true := decide_eq_true c13
       clear c13
       have H' := Aside0.mk H
       clear H
       have hcz14_0 : wc.cell? ⟨gb163, 0, none⟩ = some (.int .i64 a0_0) := (blk_cell BK163.out 0).trans rfl
       have hcz14_1 : wc.cell? ⟨gb163, 1, none⟩ = some (.int .i64 a0_1) := (blk_cell BK163.out 1).trans rfl
       have hcz14_2 : wc.cell? ⟨gb163, 2, none⟩ = some (.int .i64 a0_2) := (blk_cell BK163.out 2).trans rfl
       have hcz14_3 : wc.cell? ⟨gb163, 3, none⟩ = some (.int .i64 a0_3) := (blk_cell BK163.out 3).trans rfl
       have hcz14_4 : wc.cell? ⟨gb163, 4, none⟩ = some (.int .i64 a0_4) := (blk_cell BK163.out 4).trans rfl
       have hfz14_0 := blk_frozen BK163.out 0
       have hfz14_1 := blk_frozen BK163.out 1
       have hfz14_2 := blk_frozen BK163.out 2
       have hfz14_3 := blk_frozen BK163.out 3
       have hfz14_4 := blk_frozen BK163.out 4
       go_wp2
       repeat (go_quiet (fail); try go_wp2)
       go_meet
       case rel => exact ⟨_, (true), (by first | rfl | (simp; done) | (simp [*]; done)), H', ⟨by have := HJ1.out; first | omega | exact Nat.le_refl _⟩, ⟨by (with_reducible repeat (first | refine blk_drewN ?_ _ | refine blk_drew ?_ | refine blk_alloc ?_ _)); exact BK163.out⟩, ⟨by repeat (first | (with_reducible first | exact HB.out | apply below_alloc | apply pw_below_drewN | apply below_drew1 | refine below_set ?_ GE163.out) | exact HB.out)⟩⟩
      ·rw [if_neg c13] at H
       have c13b0 : decide (16 < a0_2) = false := decide_eq_false c13
       clear c13
       by_cases c15 : a0_3 < 0
       ·rw [if_pos c15] at H
        have c15b0 : decide (a0_3 < 0) = true := decide_eq_true c15
        clear c15
        have H' := Aside0.mk H
        clear H
        have hcz16_0 : wc.cell? ⟨gb163, 0, none⟩ = some (.int .i64 a0_0) := (blk_cell BK163.out 0).trans rfl
        have hcz16_1 : wc.cell? ⟨gb163, 1, none⟩ = some (.int .i64 a0_1) := (blk_cell BK163.out 1).trans rfl
        have hcz16_2 : wc.cell? ⟨gb163, 2, none⟩ = some (.int .i64 a0_2) := (blk_cell BK163.out 2).trans rfl
        have hcz16_3 : wc.cell? ⟨gb163, 3, none⟩ = some (.int .i64 a0_3) := (blk_cell BK163.out 3).trans rfl
        have hcz16_4 : wc.cell? ⟨gb163, 4, none⟩ = some (.int .i64 a0_4) := (blk_cell BK163.out 4).trans rfl
        have hfz16_0 := blk_frozen BK163.out 0
        have hfz16_1 := blk_frozen BK163.out 1
        have hfz16_2 := blk_frozen BK163.out 2
        have hfz16_3 := blk_frozen BK163.out 3
        have hfz16_4 := blk_frozen BK163.out 4
        go_wp2
        repeat (go_quiet (fail); try go_wp2)
        go_meet
        case rel => exact ⟨_, (true), (by first | rfl | (simp; done) | (simp [*]; done)), H', ⟨by have := HJ1.out; first | omega | exact Nat.le_refl _⟩, ⟨by (with_reducible repeat (first | refine blk_drewN ?_ _ | refine blk_drew ?_ | refine blk_alloc ?_ _)); exact BK163.out⟩, ⟨by repeat (first | (with_reducible first | exact HB.out | apply below_alloc | apply pw_below_drewN | apply below_drew1 | refine below_set ?_ GE163.out) | exact HB.out)⟩⟩
       ·rw [if_neg c15] at H
        have c15b0 : decide (a0_3 < 0) = false := decide_eq_false c15
        clear c15
        by_cases c17 : a0_3 ≥ a0_2
        ·rw [if_pos c17] at H
         have c17b0 : decide (a0_2 ≤ a0_3) = true := decide_eq_true c17
         clear c17
         have H' := Aside0.mk H
         clear H
         have hcz18_0 : wc.cell? ⟨gb163, 0, none⟩ = some (.int .i64 a0_0) := (blk_cell BK163.out 0).trans rfl
         have hcz18_1 : wc.cell? ⟨gb163, 1, none⟩ = some (.int .i64 a0_1) := (blk_cell BK163.out 1).trans rfl
         have hcz18_2 : wc.cell? ⟨gb163, 2, none⟩ = some (.int .i64 a0_2) := (blk_cell BK163.out 2).trans rfl
         have hcz18_3 : wc.cell? ⟨gb163, 3, none⟩ = some (.int .i64 a0_3) := (blk_cell BK163.out 3).trans rfl
         have hcz18_4 : wc.cell? ⟨gb163, 4, none⟩ = some (.int .i64 a0_4) := (blk_cell BK163.out 4).trans rfl
         have hfz18_0 := blk_frozen BK163.out 0
         have hfz18_1 := blk_frozen BK163.out 1
         have hfz18_2 := blk_frozen BK163.out 2
         have hfz18_3 := blk_frozen BK163.out 3
         have hfz18_4 := blk_frozen BK163.out 4
         go_wp2
         repeat (go_quiet (fail); try go_wp2)
         go_meet
         case rel => exact ⟨_, (true), (by first | rfl | (simp; done) | (simp [*]; done)), H', ⟨by have := HJ1.out; first | omega | exact Nat.le_refl _⟩, ⟨by (with_reducible repeat (first | refine blk_drewN ?_ _ | refine blk_drew ?_ | refine blk_alloc ?_ _)); exact BK163.out⟩, ⟨by repeat (first | (with_reducible first | exact HB.out | apply below_alloc | apply pw_below_drewN | apply below_drew1 | refine below_set ?_ GE163.out) | exact HB.out)⟩⟩
        ·rw [if_neg c17] at H
         have c17b0 : decide (a0_2 ≤ a0_3) = false := decide_eq_false c17
         clear c17
         by_cases c19 : a0_4 < 1
         ·rw [if_pos c19] at H
          have c19b0 : decide (a0_4 < 1) = true := decide_eq_true c19
          clear c19
          have H' := Aside0.mk H
          clear H
          have hcz20_0 : wc.cell? ⟨gb163, 0, none⟩ = some (.int .i64 a0_0) := (blk_cell BK163.out 0).trans rfl
          have hcz20_1 : wc.cell? ⟨gb163, 1, none⟩ = some (.int .i64 a0_1) := (blk_cell BK163.out 1).trans rfl
          have hcz20_2 : wc.cell? ⟨gb163, 2, none⟩ = some (.int .i64 a0_2) := (blk_cell BK163.out 2).trans rfl
          have hcz20_3 : wc.cell? ⟨gb163, 3, none⟩ = some (.int .i64 a0_3) := (blk_cell BK163.out 3).trans rfl
          have hcz20_4 : wc.cell? ⟨gb163, 4, none⟩ = some (.int .i64 a0_4) := (blk_cell BK163.out 4).trans rfl
          have hfz20_0 := blk_frozen BK163.out 0
          have hfz20_1 := blk_frozen BK163.out 1
          have hfz20_2 := blk_frozen BK163.out 2
          have hfz20_3 := blk_frozen BK163.out 3
          have hfz20_4 := blk_frozen BK163.out 4
          go_wp2
          repeat (go_quiet (fail); try go_wp2)
          go_meet
          case rel => exact ⟨_, (true), (by first | rfl | (simp; done) | (simp [*]; done)), H', ⟨by have := HJ1.out; first | omega | exact Nat.le_refl _⟩, ⟨by (with_reducible repeat (first | refine blk_drewN ?_ _ | refine blk_drew ?_ | refine blk_alloc ?_ _)); exact BK163.out⟩, ⟨by repeat (first | (with_reducible first | exact HB.out | apply below_alloc | apply pw_below_drewN | apply below_drew1 | refine below_set ?_ GE163.out) | exact HB.out)⟩⟩
         ·rw [if_neg c19] at H
          have c19b0 : decide (a0_4 < 1) = false := decide_eq_false c19
          clear c19
          by_cases c21 : a0_4 > 128
          ·rw [if_pos c21] at H
           have c21b0 : decide (128 < a0_4) = true := decide_eq_true c21
           clear c21
           have H' := Aside0.mk H
           clear H
           have hcz22_0 : wc.cell? ⟨gb163, 0, none⟩ = some (.int .i64 a0_0) := (blk_cell BK163.out 0).trans rfl
           have hcz22_1 : wc.cell? ⟨gb163, 1, none⟩ = some (.int .i64 a0_1) := (blk_cell BK163.out 1).trans rfl
           have hcz22_2 : wc.cell? ⟨gb163, 2, none⟩ = some (.int .i64 a0_2) := (blk_cell BK163.out 2).trans rfl
           have hcz22_3 : wc.cell? ⟨gb163, 3, none⟩ = some (.int .i64 a0_3) := (blk_cell BK163.out 3).trans rfl
           have hcz22_4 : wc.cell? ⟨gb163, 4, none⟩ = some (.int .i64 a0_4) := (blk_cell BK163.out 4).trans rfl
           have hfz22_0 := blk_frozen BK163.out 0
           have hfz22_1 := blk_frozen BK163.out 1
           have hfz22_2 := blk_frozen BK163.out 2
           have hfz22_3 := blk_frozen BK163.out 3
           have hfz22_4 := blk_frozen BK163.out 4
           go_wp2
           repeat (go_quiet (fail); try go_wp2)
           go_meet
           case rel => exact ⟨_, (true), (by first | rfl | (simp; done) | (simp [*]; done)), H', ⟨by have := HJ1.out; first | omega | exact Nat.le_refl _⟩, ⟨by (with_reducible repeat (first | refine blk_drewN ?_ _ | refine blk_drew ?_ | refine blk_alloc ?_ _)); exact BK163.out⟩, ⟨by repeat (first | (with_reducible first | exact HB.out | apply below_alloc | apply pw_below_drewN | apply below_drew1 | refine below_set ?_ GE163.out) | exact HB.out)⟩⟩
          ·rw [if_neg c21] at H
           have c21b0 : decide (128 < a0_4) = false := decide_eq_false c21
           clear c21
           by_cases c23 : a0_3 > 0
           ·rw [if_pos c23] at H
            have c23b0 : decide (0 < a0_3) = true := decide_eq_true c23
            clear c23
            have H' := Aside0.mk H
            clear H
            have hcz24_0 : wc.cell? ⟨gb163, 0, none⟩ = some (.int .i64 a0_0) := (blk_cell BK163.out 0).trans rfl
            have hcz24_1 : wc.cell? ⟨gb163, 1, none⟩ = some (.int .i64 a0_1) := (blk_cell BK163.out 1).trans rfl
            have hcz24_2 : wc.cell? ⟨gb163, 2, none⟩ = some (.int .i64 a0_2) := (blk_cell BK163.out 2).trans rfl
            have hcz24_3 : wc.cell? ⟨gb163, 3, none⟩ = some (.int .i64 a0_3) := (blk_cell BK163.out 3).trans rfl
            have hcz24_4 : wc.cell? ⟨gb163, 4, none⟩ = some (.int .i64 a0_4) := (blk_cell BK163.out 4).trans rfl
            have hfz24_0 := blk_frozen BK163.out 0
            have hfz24_1 := blk_frozen BK163.out 1
            have hfz24_2 := blk_frozen BK163.out 2
            have hfz24_3 := blk_frozen BK163.out 3
            have hfz24_4 := blk_frozen BK163.out 4
            go_wp2
            repeat (go_quiet (fail); try go_wp2)
            go_meet
            case rel => exact ⟨_, ((a0_4 == 128)), (by first | rfl | (simp; done) | (simp [*]; done)), H', ⟨by have := HJ1.out; first | omega | exact Nat.le_refl _⟩, ⟨by (with_reducible repeat (first | refine blk_drewN ?_ _ | refine blk_drew ?_ | refine blk_alloc ?_ _)); exact BK163.out⟩, ⟨by repeat (first | (with_reducible first | exact HB.out | apply below_alloc | apply pw_below_drewN | apply below_drew1 | refine below_set ?_ GE163.out) | exact HB.out)⟩⟩
           ·rw [if_neg c23] at H
            have c23b0 : decide (0 < a0_3) = false := decide_eq_false c23
            clear c23
            have H' := Aside0.mk H
            clear H
            have hcz25_0 : wc.cell? ⟨gb163, 0, none⟩ = some (.int .i64 a0_0) := (blk_cell BK163.out 0).trans rfl
            have hcz25_1 : wc.cell? ⟨gb163, 1, none⟩ = some (.int .i64 a0_1) := (blk_cell BK163.out 1).trans rfl
            have hcz25_2 : wc.cell? ⟨gb163, 2, none⟩ = some (.int .i64 a0_2) := (blk_cell BK163.out 2).trans rfl
            have hcz25_3 : wc.cell? ⟨gb163, 3, none⟩ = some (.int .i64 a0_3) := (blk_cell BK163.out 3).trans rfl
            have hcz25_4 : wc.cell? ⟨gb163, 4, none⟩ = some (.int .i64 a0_4) := (blk_cell BK163.out 4).trans rfl
            have hfz25_0 := blk_frozen BK163.out 0
            have hfz25_1 := blk_frozen BK163.out 1
            have hfz25_2 := blk_frozen BK163.out 2
            have hfz25_3 := blk_frozen BK163.out 3
            have hfz25_4 := blk_frozen BK163.out 4
            go_wp2
            repeat (go_quiet (fail); try go_wp2)
            go_meet
            case rel => exact ⟨_, (false), (by first | rfl | (simp; done) | (simp [*]; done)), H', ⟨by have := HJ1.out; first | omega | exact Nat.le_refl _⟩, ⟨by (with_reducible repeat (first | refine blk_drewN ?_ _ | refine blk_drew ?_ | refine blk_alloc ?_ _)); exact BK163.out⟩, ⟨by repeat (first | (with_reducible first | exact HB.out | apply below_alloc | apply pw_below_drewN | apply below_drew1 | refine below_set ?_ GE163.out) | exact HB.out)⟩⟩
    case rest =>
     clear HC10
     try clear c1
     try clear c2
     try clear p2
     try clear c4
     try clear c4b0
     try clear c4b1
     try clear c6
     try clear c6b0
     try clear c9
     try clear c11
     try clear c11b0
     try clear c11b1
     try clear c13
     try clear c13b0
     try clear c15
     try clear c15b0
     try clear c17
     try clear c17b0
     try clear c19
     try clear c19b0
     try clear c21
     try clear c21b0
     try clear c23
     try clear c23b0
     try clear hcz12_0
     try clear hcz12_1
     try clear hcz12_2
     try clear hcz12_3
     try clear hcz12_4
     try clear hcz14_0
     try clear hcz14_1
     try clear hcz14_2
     try clear hcz14_3
     try clear hcz14_4
     try clear hcz16_0
     try clear hcz16_1
     try clear hcz16_2
     try clear hcz16_3
     try clear hcz16_4
     try clear hcz18_0
     try clear hcz18_1
     try clear hcz18_2
     try clear hcz18_3
     try clear hcz18_4
     try clear hcz20_0
     try clear hcz20_1
     try clear hcz20_2
     try clear hcz20_3
     try clear hcz20_4
     try clear hcz22_0
     try clear hcz22_1
     try clear hcz22_2
     try clear hcz22_3
     try clear hcz22_4
     try clear hcz24_0
     try clear hcz24_1
     try clear hcz24_2
     try clear hcz24_3
     try clear hcz24_4
     try clear hcz25_0
     try clear hcz25_1
     try clear hcz25_2
     try clear hcz25_3
     try clear hcz25_4
     try clear hcz5_0
     try clear hcz5_1
     try clear hcz5_2
     try clear hcz5_3
     try clear hcz5_4
     try clear hcz7_0
     try clear hcz7_1
     try clear hcz7_2
     try clear hcz7_3
     try clear hcz7_4
     try clear hcz8_0
     try clear hcz8_1
     try clear hcz8_2
     try clear hcz8_3
     try clear hcz8_4
     try clear hfz12_0
     try clear hfz12_1
     try clear hfz12_2
     try clear hfz12_3
     try clear hfz12_4
     try clear hfz14_0
     try clear hfz14_1
     try clear hfz14_2
     try clear hfz14_3
     try clear hfz14_4
     try clear hfz16_0
     try clear hfz16_1
     try clear hfz16_2
     try clear hfz16_3
     try clear hfz16_4
     try clear hfz18_0
     try clear hfz18_1
     try clear hfz18_2
     try clear hfz18_3
     try clear hfz18_4
     try clear hfz20_0
     try clear hfz20_1
     try clear hfz20_2
     try clear hfz20_3
     try clear hfz20_4
     try clear hfz22_0
     try clear hfz22_1
     try clear hfz22_2
     try clear hfz22_3
     try clear hfz22_4
     try clear hfz24_0
     try clear hfz24_1
     try clear hfz24_2
     try clear hfz24_3
     try clear hfz24_4
     try clear hfz25_0
     try clear hfz25_1
     try clear hfz25_2
     try clear hfz25_3
     try clear hfz25_4
     try clear hfz5_0
     try clear hfz5_1
     try clear hfz5_2
     try clear hfz5_3
     try clear hfz5_4
     try clear hfz7_0
     try clear hfz7_1
     try clear hfz7_2
     try clear hfz7_3
     try clear hfz7_4
     try clear hfz8_0
     try clear hfz8_1
     try clear hfz8_2
     try clear hfz8_3
     try clear hfz8_4
     try clear p2
     obtain ⟨kq, x55_9, rfl, HA, HJ9, BK163, HB⟩ := hcut
     cases kq with
     | zero => exact absurd HA.out (by simp [geyserref14_Check.j1])
     | succ kj9 =>
      have H := HA.out
      clear HA
      simp only [geyserref14_Check.j1] at H
      by_cases c26 : x55_9 = true
      ·subst c26
       have H1 : (some 2) = some r := by rw [if_pos rfl] at H; exact H
       clear H
       have H := H1
       clear H1
       obtain rfl := Option.some.inj H
       go_wp2
       repeat (go_quiet (fail); try go_wp2)
       go_ret
       exact ⟨by first | rfl | (simp [errW_none, errW_some] <;> rfl) | (simp [*, errW_none, errW_some] <;> rfl), by repeat (first | (with_reducible first | exact HB.out | apply below_alloc | apply pw_below_drewN | apply below_drew1 | refine below_set ?_ GE163.out) | exact HB.out)⟩
      ·replace c26 := Bool.eq_false_iff.mpr c26
       subst c26
       have H1 : ((geyserref14_Symbols.f a0_0 a0_1).bind fun t164 => (if (wrap64 ((wrap64 (a0_2 * a0_4)) + a0_3)) = t164 then (some 0) else (some 2))) = some r := by rw [if_neg (show ¬ (false = true) by decide)] at H; exact H
       clear H
       have H := H1
       clear H1
       replace H := Option.bind_eq_some_iff.mp H
       obtain ⟨t164, A270, H⟩ := H
       replace H : (if (wrap64 ((wrap64 (a0_2 * a0_4)) + a0_3)) = t164 then (some 0) else (some 2)) = some r := H
       have A27 := Aside0.mk A270
       clear A270
       by_cases c28 : (wrap64 ((wrap64 (a0_2 * a0_4)) + a0_3)) = t164
       ·rw [if_pos c28] at H
        have c28b0 : ((wrap64 ((wrap64 (a0_2 * a0_4)) + a0_3)) == t164) = true := beq_iff_eq.mpr c28
        have c28b1 : ((wrap64 ((wrap64 (a0_2 * a0_4)) + a0_3)) != t164) = false := bne_eq_false_iff_eq.mpr c28
        clear c28
        obtain rfl := Option.some.inj H
        have hcz29_0 : wc.cell? ⟨gb163, 0, none⟩ = some (.int .i64 a0_0) := (blk_cell BK163.out 0).trans rfl
        have hcz29_1 : wc.cell? ⟨gb163, 1, none⟩ = some (.int .i64 a0_1) := (blk_cell BK163.out 1).trans rfl
        have hcz29_2 : wc.cell? ⟨gb163, 2, none⟩ = some (.int .i64 a0_2) := (blk_cell BK163.out 2).trans rfl
        have hcz29_3 : wc.cell? ⟨gb163, 3, none⟩ = some (.int .i64 a0_3) := (blk_cell BK163.out 3).trans rfl
        have hcz29_4 : wc.cell? ⟨gb163, 4, none⟩ = some (.int .i64 a0_4) := (blk_cell BK163.out 4).trans rfl
        have hfz29_0 := blk_frozen BK163.out 0
        have hfz29_1 := blk_frozen BK163.out 1
        have hfz29_2 := blk_frozen BK163.out 2
        have hfz29_3 := blk_frozen BK163.out 3
        have hfz29_4 := blk_frozen BK163.out 4
        go_wp2_with (first | (go_at_call 24; (with_reducible refine (geyserref14_Symbols.calls a0_0 a0_1 t164 _ A27.out).mono ?_); rintro e w' ⟨rfl, ⟨nd, rfl⟩⟩; (try first | exact ⟨rfl, _, World.drewN_drewN _ _ _⟩ | exact ⟨rfl, _, Eq.trans (World.drewN_drewN _ _ _) (congrArg (World.drewN _) (Nat.add_assoc _ _ _))⟩)))
        repeat (go_quiet (first | (go_at_call 24; (with_reducible refine (geyserref14_Symbols.calls a0_0 a0_1 t164 _ A27.out).mono ?_); rintro e w' ⟨rfl, ⟨nd, rfl⟩⟩; (try first | exact ⟨rfl, _, World.drewN_drewN _ _ _⟩ | exact ⟨rfl, _, Eq.trans (World.drewN_drewN _ _ _) (congrArg (World.drewN _) (Nat.add_assoc _ _ _))⟩))); try go_wp2_with (first | (go_at_call 24; (with_reducible refine (geyserref14_Symbols.calls a0_0 a0_1 t164 _ A27.out).mono ?_); rintro e w' ⟨rfl, ⟨nd, rfl⟩⟩; (try first | exact ⟨rfl, _, World.drewN_drewN _ _ _⟩ | exact ⟨rfl, _, Eq.trans (World.drewN_drewN _ _ _) (congrArg (World.drewN _) (Nat.add_assoc _ _ _))⟩))))
        go_ret
        exact ⟨by first | rfl | (simp [errW_none, errW_some] <;> rfl) | (simp [*, errW_none, errW_some] <;> rfl), by repeat (first | (with_reducible first | exact HB.out | apply below_alloc | apply pw_below_drewN | apply below_drew1 | refine below_set ?_ GE163.out) | exact HB.out)⟩
       ·rw [if_neg c28] at H
        have c28b0 : ((wrap64 ((wrap64 (a0_2 * a0_4)) + a0_3)) == t164) = false := beq_eq_false_iff_ne.mpr c28
        have c28b1 : ((wrap64 ((wrap64 (a0_2 * a0_4)) + a0_3)) != t164) = true := bne_iff_ne.mpr c28
        obtain rfl := Option.some.inj H
        have hcz30_0 : wc.cell? ⟨gb163, 0, none⟩ = some (.int .i64 a0_0) := (blk_cell BK163.out 0).trans rfl
        have hcz30_1 : wc.cell? ⟨gb163, 1, none⟩ = some (.int .i64 a0_1) := (blk_cell BK163.out 1).trans rfl
        have hcz30_2 : wc.cell? ⟨gb163, 2, none⟩ = some (.int .i64 a0_2) := (blk_cell BK163.out 2).trans rfl
        have hcz30_3 : wc.cell? ⟨gb163, 3, none⟩ = some (.int .i64 a0_3) := (blk_cell BK163.out 3).trans rfl
        have hcz30_4 : wc.cell? ⟨gb163, 4, none⟩ = some (.int .i64 a0_4) := (blk_cell BK163.out 4).trans rfl
        have hfz30_0 := blk_frozen BK163.out 0
        have hfz30_1 := blk_frozen BK163.out 1
        have hfz30_2 := blk_frozen BK163.out 2
        have hfz30_3 := blk_frozen BK163.out 3
        have hfz30_4 := blk_frozen BK163.out 4
        go_wp2_with (first | (go_at_call 24; (with_reducible refine (geyserref14_Symbols.calls a0_0 a0_1 t164 _ A27.out).mono ?_); rintro e w' ⟨rfl, ⟨nd, rfl⟩⟩; (try first | exact ⟨rfl, _, World.drewN_drewN _ _ _⟩ | exact ⟨rfl, _, Eq.trans (World.drewN_drewN _ _ _) (congrArg (World.drewN _) (Nat.add_assoc _ _ _))⟩)))
        repeat (go_quiet (first | (go_at_call 24; (with_reducible refine (geyserref14_Symbols.calls a0_0 a0_1 t164 _ A27.out).mono ?_); rintro e w' ⟨rfl, ⟨nd, rfl⟩⟩; (try first | exact ⟨rfl, _, World.drewN_drewN _ _ _⟩ | exact ⟨rfl, _, Eq.trans (World.drewN_drewN _ _ _) (congrArg (World.drewN _) (Nat.add_assoc _ _ _))⟩))); try go_wp2_with (first | (go_at_call 24; (with_reducible refine (geyserref14_Symbols.calls a0_0 a0_1 t164 _ A27.out).mono ?_); rintro e w' ⟨rfl, ⟨nd, rfl⟩⟩; (try first | exact ⟨rfl, _, World.drewN_drewN _ _ _⟩ | exact ⟨rfl, _, Eq.trans (World.drewN_drewN _ _ _) (congrArg (World.drewN _) (Nat.add_assoc _ _ _))⟩))))
        go_ret
        exact ⟨by first | rfl | (simp [errW_none, errW_some] <;> rfl) | (simp [*, errW_none, errW_some] <;> rfl), by repeat (first | (with_reducible first | exact HB.out | apply below_alloc | apply pw_below_drewN | apply below_drew1 | refine below_set ?_ GE163.out) | exact HB.out)⟩


/-! ### geyserref14_Source: function 14 -/
def geyserref14_Source.f (a0_0 : Int) (a0_1 : Int) (a0_2 : Int) (a0_3 : Int) (a0_4 : Int) (a1 : Int) : Option (Int) := if a1 < a0_3 then (some (wrap64 (a0_4 + 1))) else (some a0_4)
set_option maxHeartbeats 8000000 in
set_option maxRecDepth 100000 in
theorem geyserref14_Source.calls (a0_0 : Int) (a0_1 : Int) (a0_2 : Int) (a0_3 : Int) (a0_4 : Int) (a1 : Int) (r : Int) (w : World) (h : geyserref14_Source.f a0_0 a0_1 a0_2 a0_3 a0_4 a1 = some r) :
  Calls Tryd.prog 14 #[.agg #[.int .i64 a0_0, .int .i64 a0_1, .int .i64 a0_2, .int .i64 a0_3, .int .i64 a0_4], .int .i64 a1] w fun e w' => e = .returned (.int .i64 r) ∧ Below w.heap.size w w' := by
 have hu23 := Tryd.underlying23
 have HB := Aside0.mk (Below.refl w.heap.size w)
 have H : (if a1 < a0_3 then (some (wrap64 (a0_4 + 1))) else (some a0_4)) = some r := h
 clear h
 by_cases c3 : a1 < a0_3
 ·rw [if_pos c3] at H
  have c3b0 : decide (a1 < a0_3) = true := decide_eq_true c3
  clear c3
  obtain rfl := Option.some.inj H
  go_enter Tryd.func14, Tryd.ntmps14
  go_wp2_with (first | ((with_reducible refine gate_dst (N := 2) rfl ?_); refine box_event ?hg (N := 2) ?hd (cs := #[.int .i64 a0_0, .int .i64 a0_1, .int .i64 a0_2, .int .i64 a0_3, .int .i64 a0_4]) (t := 23) ?hr ?_; (case hd => rfl); (case hg => rfl); (case hr => first | (go_simp; done) | (go_simp; rfl)); intro gb165 hg w4 hbox hb; have n0_ := Aside0.mk (below_step (by repeat (first | (with_reducible first | exact HB.out | apply below_alloc | apply pw_below_drewN | apply below_drew1) | exact HB.out)) hb); have n1_ := Aside0.mk (hbox); have n2_ := Aside0.mk ((by rw [hg]; exact (below_size (by repeat (first | (with_reducible first | exact HB.out | apply below_alloc | apply pw_below_drewN | apply below_drew1) | exact HB.out))) : w.heap.size ≤ gb165)); have n3_ := Aside0.mk ((by rw [hg]; exact (below_size (by repeat (first | (with_reducible first | exact HB.out | apply below_alloc | apply pw_below_drewN | apply below_drew1) | exact HB.out))) : w.heap.size ≤ gb165)); clear HB; have HB := n0_; have BK165 := n1_; have GW165 := n2_; have GE165 := n3_; clear n0_ n1_ n2_ n3_; clear hb hbox hg; have hcz5_0 : w4.cell? ⟨gb165, 0, none⟩ = some (.int .i64 a0_0) := (blk_cell BK165.out 0).trans rfl; have hcz5_1 : w4.cell? ⟨gb165, 1, none⟩ = some (.int .i64 a0_1) := (blk_cell BK165.out 1).trans rfl; have hcz5_2 : w4.cell? ⟨gb165, 2, none⟩ = some (.int .i64 a0_2) := (blk_cell BK165.out 2).trans rfl; have hcz5_3 : w4.cell? ⟨gb165, 3, none⟩ = some (.int .i64 a0_3) := (blk_cell BK165.out 3).trans rfl; have hcz5_4 : w4.cell? ⟨gb165, 4, none⟩ = some (.int .i64 a0_4) := (blk_cell BK165.out 4).trans rfl; have hfz5_0 := blk_frozen BK165.out 0; have hfz5_1 := blk_frozen BK165.out 1; have hfz5_2 := blk_frozen BK165.out 2; have hfz5_3 := blk_frozen BK165.out 3; have hfz5_4 := blk_frozen BK165.out 4))
  go_ret
  exact ⟨by first | rfl | (simp [errW_none, errW_some] <;> rfl) | (simp [*, errW_none, errW_some] <;> rfl), by repeat (first | (with_reducible first | exact HB.out | apply below_alloc | apply pw_below_drewN | apply below_drew1 | refine below_set ?_ GE165.out) | exact HB.out)⟩
 ·rw [if_neg c3] at H
  have c3b0 : decide (a1 < a0_3) = false := decide_eq_false c3
  clear c3
  obtain rfl := Option.some.inj H
  go_enter Tryd.func14, Tryd.ntmps14
  go_wp2_with (first | ((with_reducible refine gate_dst (N := 2) rfl ?_); refine box_event ?hg (N := 2) ?hd (cs := #[.int .i64 a0_0, .int .i64 a0_1, .int .i64 a0_2, .int .i64 a0_3, .int .i64 a0_4]) (t := 23) ?hr ?_; (case hd => rfl); (case hg => rfl); (case hr => first | (go_simp; done) | (go_simp; rfl)); intro gb165 hg w6 hbox hb; have n0_ := Aside0.mk (below_step (by repeat (first | (with_reducible first | exact HB.out | apply below_alloc | apply pw_below_drewN | apply below_drew1) | exact HB.out)) hb); have n1_ := Aside0.mk (hbox); have n2_ := Aside0.mk ((by rw [hg]; exact (below_size (by repeat (first | (with_reducible first | exact HB.out | apply below_alloc | apply pw_below_drewN | apply below_drew1) | exact HB.out))) : w.heap.size ≤ gb165)); have n3_ := Aside0.mk ((by rw [hg]; exact (below_size (by repeat (first | (with_reducible first | exact HB.out | apply below_alloc | apply pw_below_drewN | apply below_drew1) | exact HB.out))) : w.heap.size ≤ gb165)); clear HB; have HB := n0_; have BK165 := n1_; have GW165 := n2_; have GE165 := n3_; clear n0_ n1_ n2_ n3_; clear hb hbox hg; have hcz7_0 : w6.cell? ⟨gb165, 0, none⟩ = some (.int .i64 a0_0) := (blk_cell BK165.out 0).trans rfl; have hcz7_1 : w6.cell? ⟨gb165, 1, none⟩ = some (.int .i64 a0_1) := (blk_cell BK165.out 1).trans rfl; have hcz7_2 : w6.cell? ⟨gb165, 2, none⟩ = some (.int .i64 a0_2) := (blk_cell BK165.out 2).trans rfl; have hcz7_3 : w6.cell? ⟨gb165, 3, none⟩ = some (.int .i64 a0_3) := (blk_cell BK165.out 3).trans rfl; have hcz7_4 : w6.cell? ⟨gb165, 4, none⟩ = some (.int .i64 a0_4) := (blk_cell BK165.out 4).trans rfl; have hfz7_0 := blk_frozen BK165.out 0; have hfz7_1 := blk_frozen BK165.out 1; have hfz7_2 := blk_frozen BK165.out 2; have hfz7_3 := blk_frozen BK165.out 3; have hfz7_4 := blk_frozen BK165.out 4))
  go_ret
  exact ⟨by first | rfl | (simp [errW_none, errW_some] <;> rfl) | (simp [*, errW_none, errW_some] <;> rfl), by repeat (first | (with_reducible first | exact HB.out | apply below_alloc | apply pw_below_drewN | apply below_drew1 | refine below_set ?_ GE165.out) | exact HB.out)⟩


/-! ### geyserlaw14_tells: function 9 -/
theorem geyserlaw14_tells.bytes_beq (s c : ByteArray) : (s.toList == c.toList) = decide (s = c) := by
 rw [Bool.eq_iff_iff]
 simp only [beq_iff_eq, decide_eq_true_iff]
 rw [ByteArray.toList_eq, ByteArray.toList_eq]
 constructor
 ·intro h
  cases s
  cases c
  congr 1
  exact Array.toList_inj.1 h
 ·rintro rfl; rfl
set_option maxHeartbeats 8000000 in
set_option maxRecDepth 100000 in
theorem geyserlaw14_tells.flat (e : Addr) (n m : Int) (s call : ByteArray) (w : World) (hg : w.cell? ⟨0, 0, none⟩ = some (.iface 85 (.agg #[.pointer (some ⟨1, 25, none⟩)]))) (he0 : w.cell? e = some (.string s)) (he1 : w.cell? (e.add 1) = some (.iface 54 (.int .i64 m))) (hn : n ≠ 0) :
  Calls Tryd.prog 9 #[.iface 56 (.pointer (some e)), .int .i64 n, .string call] w fun ev w' => ev = .returned (.bool (decide (m = n) && decide (s = call))) ∧ Below w.heap.size w w' := by
 have hn1 : (n == 0) = false := by simpa using hn
 have hl1 : 0 < w.heap.size := cell_old hg
 have hl2 := cell_old he0
 have hl3 := cell_old he1
 obtain ⟨w1, hw1⟩ : ∃ w1, w1 = (w.alloc (.cells #[.int .i64 0] 54)).alloc (.cells #[.pointer none] 56) := ⟨_, rfl⟩
 have hk : ∀ a : Addr, a.block < w.heap.size → w1.cell? a = w.cell? a := by
  intro a h
  rw [hw1, World.cell?_alloc_lt _ _ a (by simp only [World.size_alloc]; omega), World.cell?_alloc_lt _ _ a h]
 have hs1 : w1.heap.size = w.heap.size + 1 + 1 := by rw [hw1, World.size_alloc, World.size_alloc]
 have hb1 : Below w.heap.size w w1 := by rw [hw1]; exact Below.alloc (Below.alloc (Below.refl _ _) (Nat.le_refl _) _) (by simp only [World.size_alloc]; omega) _
 have ht1 : w1.cell? ⟨w.heap.size, 0, none⟩ = some (.int .i64 0) := by rw [hw1, World.cell?_alloc_lt _ _ ⟨w.heap.size, 0, none⟩ (by simp only [World.size_alloc]; omega)]; simp
 have hf1 : w1.frozen? ⟨w.heap.size, 0, none⟩ = false := by rw [hw1, World.frozen?_alloc_old _ _ ⟨w.heap.size, 0, none⟩ (by simp only [World.size_alloc]; omega)]; simp
 have ht2 : w1.cell? ⟨w.heap.size + 1, 0, none⟩ = some (.pointer none) := by rw [hw1, World.cell?_alloc_at _ _ _ _ (by simp only [World.size_alloc])]; rfl
 have hf2 : w1.frozen? ⟨w.heap.size + 1, 0, none⟩ = false := by rw [hw1]; exact World.frozen?_alloc_at _ _ _ _ (by simp only [World.size_alloc])
 have c1 := as_num_k e ⟨w.heap.size, 0, none⟩ m (.int .i64 0) w1 ((hk _ hl1).trans hg) ((hk _ hl3).trans he1) ht1 hf1
 have c2 : ∀ w2, AsKept w1 w2 ⟨w.heap.size, 0, none⟩ (.int .i64 m) → Calls Tryd.prog 25 #[.iface 56 (.pointer (some e)), .iface 59 (.pointer (some ⟨w.heap.size + 1, 0, none⟩))] w2 fun ev w' => ev = .returned (.bool true) ∧ AsKept w2 w' ⟨w.heap.size + 1, 0, none⟩ (.pointer (some e)) := by
  intro w2 hA
  refine as_hit_k e ⟨w.heap.size + 1, 0, none⟩ (.pointer none) w2 ?_ ?_ ?_
  ·rw [hA.old _ (fun h_ => by injection h_; omega) (by show 0 < _; omega)]; exact (hk _ hl1).trans hg
  ·rw [hA.old _ (by simp) (by simp only []; omega)]; exact ht2
  ·rw [hA.froz _ (by simp only []; omega)]; exact hf2
 go_enter Tryd.func9, Tryd.ntmps9
 go_wp2_with (first | (go_at_call 25; (first | (rw [← hw1]; refine c1.mono ?_; rintro ev w2 ⟨rfl, hA⟩; have hc2 := c2 w2 hA; clear c1 c2) | (refine hc2.mono ?_; rintro ev w3 ⟨rfl, hA2⟩; have k1 : w3.cell? ⟨w.heap.size, 0, none⟩ = some (.int .i64 m) := (hA2.old _ (fun h_ => by injection h_; omega) (by have := hA.size; show w.heap.size < _; omega)).trans hA.got; have k2 := hA2.got; have k3 : w3.cell? e = some (.string s) := (hA2.old _ (fun h_ => by rw [h_] at hl2; exact absurd hl2 (by show ¬ w.heap.size + 1 < w.heap.size; omega)) (by have := hA.size; omega)).trans ((hA.old _ (fun h_ => by rw [h_] at hl2; exact absurd hl2 (by show ¬ w.heap.size < w.heap.size; omega)) (by omega)).trans ((hk _ hl2).trans he0))))))
 all_goals go_ret
 all_goals refine ⟨?_, hA2.below _ _ (by show w.heap.size ≤ w.heap.size + 1; omega) (hA.below _ _ (Nat.le_refl _) hb1)⟩
 all_goals simp_all [geyserlaw14_tells.bytes_beq]
set_option maxHeartbeats 8000000 in
set_option maxRecDepth 100000 in
theorem geyserlaw14_tells.deep (e d : Addr) (n m : Int) (s call : ByteArray) (w : World) (hg : w.cell? ⟨0, 0, none⟩ = some (.iface 85 (.agg #[.pointer (some ⟨1, 25, none⟩)]))) (he0 : w.cell? e = some (.string s)) (he1 : w.cell? (e.add 1) = some (.iface 56 (.pointer (some d)))) (hd1 : w.cell? (d.add 1) = some (.iface 54 (.int .i64 m))) (hn : n ≠ 0) :
  Calls Tryd.prog 9 #[.iface 56 (.pointer (some e)), .int .i64 n, .string call] w fun ev w' => ev = .returned (.bool (decide (m = n) && decide (s = call))) ∧ Below w.heap.size w w' := by
 have hn1 : (n == 0) = false := by simpa using hn
 have hl1 : 0 < w.heap.size := cell_old hg
 have hl2 := cell_old he0
 have hl3 := cell_old he1
 have hl4 := cell_old hd1
 obtain ⟨w1, hw1⟩ : ∃ w1, w1 = (w.alloc (.cells #[.int .i64 0] 54)).alloc (.cells #[.pointer none] 56) := ⟨_, rfl⟩
 have hk : ∀ a : Addr, a.block < w.heap.size → w1.cell? a = w.cell? a := by
  intro a h
  rw [hw1, World.cell?_alloc_lt _ _ a (by simp only [World.size_alloc]; omega), World.cell?_alloc_lt _ _ a h]
 have hs1 : w1.heap.size = w.heap.size + 1 + 1 := by rw [hw1, World.size_alloc, World.size_alloc]
 have hb1 : Below w.heap.size w w1 := by rw [hw1]; exact Below.alloc (Below.alloc (Below.refl _ _) (Nat.le_refl _) _) (by simp only [World.size_alloc]; omega) _
 have ht1 : w1.cell? ⟨w.heap.size, 0, none⟩ = some (.int .i64 0) := by rw [hw1, World.cell?_alloc_lt _ _ ⟨w.heap.size, 0, none⟩ (by simp only [World.size_alloc]; omega)]; simp
 have hf1 : w1.frozen? ⟨w.heap.size, 0, none⟩ = false := by rw [hw1, World.frozen?_alloc_old _ _ ⟨w.heap.size, 0, none⟩ (by simp only [World.size_alloc]; omega)]; simp
 have ht2 : w1.cell? ⟨w.heap.size + 1, 0, none⟩ = some (.pointer none) := by rw [hw1, World.cell?_alloc_at _ _ _ _ (by simp only [World.size_alloc])]; rfl
 have hf2 : w1.frozen? ⟨w.heap.size + 1, 0, none⟩ = false := by rw [hw1]; exact World.frozen?_alloc_at _ _ _ _ (by simp only [World.size_alloc])
 have c1 := as_num2_k e d ⟨w.heap.size, 0, none⟩ m (.int .i64 0) w1 ((hk _ hl1).trans hg) ((hk _ hl3).trans he1) ((hk _ hl4).trans hd1) ht1 hf1
 have c2 : ∀ w2, AsKept w1 w2 ⟨w.heap.size, 0, none⟩ (.int .i64 m) → Calls Tryd.prog 25 #[.iface 56 (.pointer (some e)), .iface 59 (.pointer (some ⟨w.heap.size + 1, 0, none⟩))] w2 fun ev w' => ev = .returned (.bool true) ∧ AsKept w2 w' ⟨w.heap.size + 1, 0, none⟩ (.pointer (some e)) := by
  intro w2 hA
  refine as_hit_k e ⟨w.heap.size + 1, 0, none⟩ (.pointer none) w2 ?_ ?_ ?_
  ·rw [hA.old _ (fun h_ => by injection h_; omega) (by show 0 < _; omega)]; exact (hk _ hl1).trans hg
  ·rw [hA.old _ (by simp) (by simp only []; omega)]; exact ht2
  ·rw [hA.froz _ (by simp only []; omega)]; exact hf2
 go_enter Tryd.func9, Tryd.ntmps9
 go_wp2_with (first | (go_at_call 25; (first | (rw [← hw1]; refine c1.mono ?_; rintro ev w2 ⟨rfl, hA⟩; have hc2 := c2 w2 hA; clear c1 c2) | (refine hc2.mono ?_; rintro ev w3 ⟨rfl, hA2⟩; have k1 : w3.cell? ⟨w.heap.size, 0, none⟩ = some (.int .i64 m) := (hA2.old _ (fun h_ => by injection h_; omega) (by have := hA.size; show w.heap.size < _; omega)).trans hA.got; have k2 := hA2.got; have k3 : w3.cell? e = some (.string s) := (hA2.old _ (fun h_ => by rw [h_] at hl2; exact absurd hl2 (by show ¬ w.heap.size + 1 < w.heap.size; omega)) (by have := hA.size; omega)).trans ((hA.old _ (fun h_ => by rw [h_] at hl2; exact absurd hl2 (by show ¬ w.heap.size < w.heap.size; omega)) (by omega)).trans ((hk _ hl2).trans he0))))))
 all_goals go_ret
 all_goals refine ⟨?_, hA2.below _ _ (by show w.heap.size ≤ w.heap.size + 1; omega) (hA.below _ _ (Nat.le_refl _) hb1)⟩
 all_goals simp_all [geyserlaw14_tells.bytes_beq]
def geyserlaw14_tells.f (l : List FE) (n : Int) (call : ByteArray) : Option Bool :=
 if n = 0 then some ((l.length : Int) == 0) else match l with
  | [] => some false
  | [x] => if x.flat = true ∨ x.num ≠ 0 then some (decide (x.num = n) && decide (x.call = call)) else none
  | _ :: _ :: _ => none
set_option maxHeartbeats 8000000 in
set_option maxRecDepth 100000 in
theorem geyserlaw14_tells.calls (A0 : Option Addr) (c0 : Nat) (l0 : List FE) (a1 : Int) (a2 : ByteArray) (r : Bool) (w : World) (he : ErrIn w) (hr0 : Kd.C kF w A0 l0.length l0) (hc0 : l0.length ≤ c0) (h : geyserlaw14_tells.f l0 a1 a2 = some r) :
  Calls Tryd.prog 9 #[errOf (.slice A0 l0.length c0), .int .i64 a1, .string a2] w fun e w' => e = .returned (.bool r) ∧ Below w.heap.size w w' := by
 unfold geyserlaw14_tells.f at h
 by_cases h0 : a1 = 0
 ·subst h0
  rw [if_pos rfl] at h
  obtain rfl := Option.some.inj h
  clear hr0 he
  go_enter Tryd.func9, Tryd.ntmps9
  go_wp2
  go_ret
  exact ⟨by first | rfl | simp, Below.refl _ _⟩
 ·rw [if_neg h0] at h
  have hn1 : (a1 == 0) = false := by simpa using h0
  match l0, hr0, hc0, h with
  | [], _, _, h =>
   obtain rfl := Option.some.inj h
   rw [show errOf (.slice A0 ([] : List FE).length c0) = .nilIface from rfl]
   go_enter Tryd.func9, Tryd.ntmps9
   go_wp2
   go_ret
   exact ⟨by first | rfl | simp, Below.refl _ _⟩
  | [x], hr0, _, h =>
   obtain ⟨ad, cs, e1, _, hK, hc⟩ := Kd.C_get hr0 zFE 0 (by omega) (by simp)
   obtain ⟨u, y, hcs, hu, hu2⟩ := hK
   have hx : ([x] : List FE).getD (0 : Int).toNat zFE = x := rfl
   rw [hx] at hcs hu hu2
   by_cases hf : x.flat = true
   ·simp only [if_pos (show x.flat = true ∨ x.num ≠ 0 from .inl hf)] at h
    obtain rfl := Option.some.inj h
    obtain ⟨rfl, rfl⟩ := hu hf
    subst hcs
    have k0 := hc 0 _ rfl
    have k1 := hc 1 _ rfl
    rw [e1]
    refine geyserlaw14_tells.flat ad a1 x.num x.call a2 w he ?_ ?_ h0
    ·exact k0
    ·exact k1
   ·by_cases hn : x.num ≠ 0
    ·simp only [if_pos (show x.flat = true ∨ x.num ≠ 0 from .inr hn)] at h
     obtain rfl := Option.some.inj h
     obtain ⟨g, _, rfl, rfl, c2, cells, hh, hct⟩ := hu2 (by simpa using hf) hn
     subst hcs
     have k0 := hc 0 _ rfl
     have k1 := hc 1 _ rfl
     rw [e1]
     have hc1 : cells[1]? = some (.iface 54 (.int .i64 x.num)) := by
      have h5 := congrArg (fun l : List Value => l[1]?) hct
      simpa using h5
     refine geyserlaw14_tells.deep ad ⟨g, 0, none⟩ a1 x.num x.call a2 w he ?_ ?_ ?_ h0
     ·exact k0
     ·exact k1
     ·have h7 := (blk_cell hh 1).trans hc1
      simpa [Addr.add] using h7
    ·simp [hf, hn] at h
  | _ :: _ :: _, _, _, h => simp at h

end Go.Proofs.YtomeefngdnmdaaaDoor.P

namespace Go.Proofs.YtomeefngdnmdaaaDoor.Pure
open Go.RowKit Go.Proofs.YtomeefngdnmdaaaDoor.P Go.Proofs.YtomeefngdnmdaaaDoorW.PrintWords Go.Proofs.YtomeefngdnmdaaaDoorW.PrintLast Go.Proofs.YtomeefngdnmdaaaDoorW.PrintErr Go.Proofs.YtomeefngdnmdaaaDoorW.PrintMore
set_option linter.unusedVariables false
set_option linter.unusedSimpArgs false
theorem ref14_symbols (s b : Int) (h0 : 0 ≤ s) (h1 : 1 ≤ b) (h2 : s ≤ 9223372036854775807) : geyserref14_Symbols.f s b = some (T s b) := by
  unfold geyserref14_Symbols.f
  have e1 : Int.tmod s b = s % b := Int.tmod_eq_emod_of_nonneg h0
  have e2 : Int.tdiv s b = s / b := Int.tdiv_eq_ediv_of_nonneg h0
  have e4 := Int.emod_nonneg s (show b ≠ 0 by omega)
  have e5 := Int.emod_lt_of_pos s (show 0 < b by omega)
  have e6 := Int.mul_ediv_add_emod s b
  have e3 : 0 ≤ s / b := Int.ediv_nonneg h0 (by omega)
  have e7 : s / b ≤ b * (s / b) := by
    have := Int.mul_le_mul_of_nonneg_right h1 e3
    omega
  rw [if_neg (by omega), e1, e2]
  unfold T U
  by_cases c : 0 < s % b
  · rw [if_pos c, if_pos c, w64 (x := s / b) (by omega) (by omega), w64 (by omega) (by omega)]
    unfold mx
    split
    · rfl
    · congr 1; omega
  · rw [if_neg (by omega), if_neg c]
    by_cases hs : s = 0
    · subst hs
      rw [if_pos rfl, Int.zero_ediv]
      simp [wrap64, mx]
    · have : 1 ≤ s / b := by
        rcases Int.lt_or_le 0 (s / b) with h | h
        · omega
        · have hz : s / b = 0 := by omega
          rw [hz] at e6
          simp at e6
          omega
      rw [if_neg hs, w64 (by omega) (by omega)]
      unfold mx
      split
      · congr 1; omega
      · congr 1; omega

theorem Ev.from_ {α : Type} {g : Nat → Option α} {r : α} (c : Nat) (h : ∀ k, g (k + c) = some r) : Ev g r := ⟨c, fun k hk => by
  obtain ⟨m, rfl⟩ : ∃ m, k = m + c := ⟨k - c, by omega⟩
  exact h m⟩
theorem awake14_ev : Ev (fun k => geyserlaw14_awake.f k) true := Ev.from_ 5 awake14_k
theorem of_ev (s b m : Int) (h2 : s ≤ 9223372036854775807) : Ev (fun k => blocking_Of.f k s b m) (OfR s b m) := Ev.from_ 1 fun k => of_eq k s b m h2
theorem check14_ev (s b n l q : Int) (h2 : s ≤ 9223372036854775807) (hq : q ≤ 9223372036854775807) (hq0 : -9223372036854775808 ≤ q) : Ev (fun k => blocking_Check.f k s b n l q) (checkR s b n l q) := Ev.from_ 4 fun k => check_eq k s b n l q h2 hq hq0
theorem source_ev (s b n l q i : Int) (h2 : s ≤ 9223372036854775807) (hq : q ≤ 9223372036854775807) (hq0 : -9223372036854775808 ≤ q) : Ev (fun k => blocking_Source.f k s b n l q i) (sourceR s b n l q i) := Ev.from_ 4 fun k => source_eq k s b n l q i h2 hq hq0
/-! ### the plan -/
def ofN (s b m : Int) : Int × Int × Int × Int × Int × Int :=
  if inRange s b m then
    (if U (T s b) m > 16 then (0, 0, 0, 0, 0, 3) else (s, b, U (T s b) m, T s b % U (T s b) m, T s b / U (T s b) m, 0))
  else (0, 0, 0, 0, 0, 1)
theorem rof_l0 (s b m t : Int) (ht : 1 ≤ t) (ht2 : t ≤ 9223372036854775807) (hm : 1 ≤ m) (hm2 : m ≤ 128) : ∀ (d : Nat) (i : Int), 1 ≤ i → i + d = 17 → i ≤ U t m →
    Ev (fun k => geyserref14_Of.l0 k s b m t i) (if U t m > 16 then (0, 0, 0, 0, 0, 3) else (s, b, U t m, t % U t m, t / U t m, 0)) := by
  obtain ⟨u1, u2, u3, u4⟩ := U_bounds t m (by omega) hm
  obtain ⟨u5, u6⟩ := u4 ht
  intro d
  induction d with
  | zero =>
    intro i h1 h2 h3
    rw [if_pos (by omega)]
    refine Ev.step (f := fun _ => some (0, 0, 0, 0, 0, 3)) (fun k => ?_) (Ev.now _)
    rw [geyserref14_Of.l0, if_neg (by omega)]
  | succ d ih =>
    intro i h1 h2 h3
    have hi2 : i * m ≤ 16 * 128 := Int.mul_le_mul (by omega) hm2 (by omega) (by omega)
    have hi0 : 0 ≤ i * m := Int.mul_nonneg (by omega) (by omega)
    have ew : wrap64 (i * m) = i * m := w64 (by omega) (by omega)
    by_cases c : i = U t m
    · have hle : t ≤ i * m := by rw [c]; exact u3
      rw [if_neg (by omega)]
      refine Ev.step (f := fun _ => some (s, b, U t m, t % U t m, t / U t m, 0)) (fun k => ?_) (Ev.now _)
      have hq : t / i ≤ t := by
        have h6 := Int.mul_ediv_add_emod t i
        have h7 := Int.emod_nonneg t (show i ≠ 0 by omega)
        have h8 : 0 ≤ t / i := Int.ediv_nonneg (by omega) (by omega)
        have h9 := Int.mul_le_mul_of_nonneg_right h1 h8
        omega
      have hq0 : 0 ≤ t / i := Int.ediv_nonneg (by omega) (by omega)
      rw [geyserref14_Of.l0, if_pos (by omega), ew, if_pos hle, if_neg (by omega), Int.tmod_eq_emod_of_nonneg (by omega), Int.tdiv_eq_ediv_of_nonneg (by omega), w64 (by omega) (by omega), c]
    · have hlt : i * m ≤ (U t m - 1) * m := Int.mul_le_mul_of_nonneg_right (by omega) (by omega)
      refine Ev.step (fun k => ?_) (ih (i + 1) (by omega) (by omega) (by omega))
      rw [geyserref14_Of.l0, if_pos (by omega), ew, if_neg (by omega), w64 (by omega) (by omega)]
theorem rof_ev (s b m : Int) (h2 : s ≤ 9223372036854775807) : Ev (fun k => geyserref14_Of.f k s b m) (ofN s b m) := by
  unfold geyserref14_Of.f ofN
  have bad : Ev (fun k => geyserref14_Of.j0 k s b m true) (0, 0, 0, 0, 0, 1) := by
    refine Ev.step (f := fun _ => some (0, 0, 0, 0, 0, 1)) (fun k => ?_) (Ev.now _)
    rw [geyserref14_Of.j0, if_pos rfl]
  by_cases c1 : s < 0
  · rw [if_neg (show ¬ inRange s b m by unfold inRange; omega)]; simp only [if_pos c1]; exact bad
  by_cases c2 : b < 1
  · rw [if_neg (show ¬ inRange s b m by unfold inRange; omega)]; simp only [if_neg c1, if_pos c2]; exact bad
  by_cases c3 : b > 64
  · rw [if_neg (show ¬ inRange s b m by unfold inRange; omega)]; simp only [if_neg c1, if_neg c2, if_pos c3]; exact bad
  by_cases c4 : m < 1
  · rw [if_neg (show ¬ inRange s b m by unfold inRange; omega)]; simp only [if_neg c1, if_neg c2, if_neg c3, if_pos c4]; exact bad
  simp only [if_neg c1, if_neg c2, if_neg c3, if_neg c4]
  by_cases c5 : m > 128
  · rw [if_neg (show ¬ inRange s b m by unfold inRange; omega), decide_eq_true c5]; exact bad
  rw [if_pos (show inRange s b m by unfold inRange; omega), decide_eq_false c5]
  have ht := T_bounds s b (by omega) (by omega) h2
  obtain ⟨u1, u2, u3, u4⟩ := U_bounds (T s b) m (by omega) (by omega)
  have h := rof_l0 s b m (T s b) ht.1 ht.2 (by omega) (by omega) 16 1 (by omega) (by omega) (u4 ht.1).2
  refine Ev.step (f := fun k => (geyserref14_Symbols.f s b).bind fun t112 => (geyserref14_Of.l0 k s b m t112 1)) (fun k => ?_) ?_
  · rw [geyserref14_Of.j0, if_neg (by decide)]
  · rw [ref14_symbols s b (by omega) (by omega) h2]
    exact h
/-! ### why a plan is not right -/
theorem rcheck14_ev (s b n l q : Int) (h2 : s ≤ 9223372036854775807) : Ev (fun k => geyserref14_Check.f k s b n l q) (whyR s b n l q) := by
  have bad : Ev (fun k => geyserref14_Check.j0 k true s b n l q) 1 := by
    refine Ev.step (f := fun _ => some 1) (fun k => ?_) (Ev.now _)
    rw [geyserref14_Check.j0, if_pos rfl]
  have form : Ev (fun k => geyserref14_Check.j1 k true s b n l q) 2 := by
    refine Ev.step (f := fun _ => some 2) (fun k => ?_) (Ev.now _)
    rw [geyserref14_Check.j1, if_pos rfl]
  unfold geyserref14_Check.f whyR
  by_cases c1 : s < 0
  · rw [if_pos (by omega)]; simp only [if_pos c1]; exact bad
  by_cases c2 : b < 1
  · rw [if_pos (by omega)]; simp only [if_neg c1, if_pos c2]; exact bad
  simp only [if_neg c1, if_neg c2]
  by_cases c3 : b > 64
  · rw [if_pos (by omega), decide_eq_true c3]; exact bad
  rw [if_neg (by omega), decide_eq_false c3]
  have j1 : ¬ (n < 1 ∨ n > 16 ∨ l < 0 ∨ l ≥ n ∨ q < 1 ∨ q > 128 ∨ (l > 0 ∧ q = 128)) → Ev (fun k => geyserref14_Check.j1 k false s b n l q) (if n * q + l = T s b then 0 else 2) := by
    intro hc
    have hp : n * q ≤ 16 * 128 := Int.mul_le_mul (by omega) (by omega) (by omega) (by omega)
    have hp0 : 0 ≤ n * q := Int.mul_nonneg (by omega) (by omega)
    refine Ev.step (f := fun _ => some (if n * q + l = T s b then 0 else 2)) (fun k => ?_) (Ev.now _)
    rw [geyserref14_Check.j1, if_neg (by decide), ref14_symbols s b (by omega) (by omega) h2]
    simp only [Option.bind_some]
    rw [w64 (x := n * q) (by omega) (by omega), w64 (by omega) (by omega)]
    split <;> rfl
  have step : ∀ {r : Int}, Ev (fun k => (if n < 1 then (geyserref14_Check.j1 k true s b n l q) else (if n > 16 then (geyserref14_Check.j1 k true s b n l q) else (if l < 0 then (geyserref14_Check.j1 k true s b n l q) else (if l ≥ n then (geyserref14_Check.j1 k true s b n l q) else (if q < 1 then (geyserref14_Check.j1 k true s b n l q) else (if q > 128 then (geyserref14_Check.j1 k true s b n l q) else (if l > 0 then (geyserref14_Check.j1 k (q == 128) s b n l q) else (geyserref14_Check.j1 k false s b n l q))))))))) r → Ev (fun k => geyserref14_Check.j0 k false s b n l q) r := by
    intro r h
    refine Ev.step (fun k => ?_) h
    rw [geyserref14_Check.j0, if_neg (by decide)]
  refine step ?_
  by_cases c4 : n < 1
  · rw [if_pos (by omega)]; simp only [if_pos c4]; exact form
  by_cases c5 : n > 16
  · rw [if_pos (by omega)]; simp only [if_neg c4, if_pos c5]; exact form
  by_cases c6 : l < 0
  · rw [if_pos (by omega)]; simp only [if_neg c4, if_neg c5, if_pos c6]; exact form
  by_cases c7 : l ≥ n
  · rw [if_pos (by omega)]; simp only [if_neg c4, if_neg c5, if_neg c6, if_pos c7]; exact form
  by_cases c8 : q < 1
  · rw [if_pos (by omega)]; simp only [if_neg c4, if_neg c5, if_neg c6, if_neg c7, if_pos c8]; exact form
  by_cases c9 : q > 128
  · rw [if_pos (by omega)]; simp only [if_neg c4, if_neg c5, if_neg c6, if_neg c7, if_neg c8, if_pos c9]; exact form
  simp only [if_neg c4, if_neg c5, if_neg c6, if_neg c7, if_neg c8, if_neg c9]
  by_cases c10 : l > 0
  · simp only [if_pos c10]
    by_cases c11 : q = 128
    · rw [if_pos (by omega)]
      have : (q == 128) = true := by simp [c11]
      rw [this]; exact form
    · rw [if_neg (by omega)]
      have : (q == 128) = false := by simp [c11]
      rw [this]; exact j1 (by omega)
  · simp only [if_neg c10]
    rw [if_neg (by omega)]; exact j1 (by omega)
theorem tells14_none (c : ByteArray) : geyserlaw14_tells.f [] 0 c = some true := rfl
theorem tells14_flat (c : ByteArray) (n : Int) (h : n ≠ 0) : geyserlaw14_tells.f [⟨c, true, n⟩] n c = some true := by
  unfold geyserlaw14_tells.f
  rw [if_neg h]
  simp
theorem tells14_deep (c : ByteArray) (n : Int) (h : n ≠ 0) : geyserlaw14_tells.f [⟨c, false, n⟩] n c = some true := by
  unfold geyserlaw14_tells.f
  rw [if_neg h]
  simp [h]
theorem whyR_cases (s b n l q : Int) : whyR s b n l q = 0 ∨ whyR s b n l q ≠ 0 := by omega
end Go.Proofs.YtomeefngdnmdaaaDoor.Pure

namespace Go.Proofs.YtomeefngdnmdaaaDoor.P
open Go.RowKit Go.Proofs.YtomeefngdnmdaaaDoorW.PrintWords Go.Proofs.YtomeefngdnmdaaaDoorW.PrintLast Go.Proofs.YtomeefngdnmdaaaDoorW.PrintErr Go.Proofs.YtomeefngdnmdaaaDoorW.PrintMore
attribute [local go_sem] max2_int min2_int max_two min_two max_three min_three max_four min_four run_eql_errOf run_neq_errOf eqGuard_errOf   -- for this text's walks alone
set_option linter.unusedVariables false
set_option linter.unusedSimpArgs false

/-! ### symbol_check: function 40 -/
mutual
def symbol_check.j0 : Nat → List (List Int) → Int → Bool → Option (Int)
 | 0, _, _, _ => none
 | k + 1, x0, x1, x12 => if x12 = true then (some 1) else (symbol_check.l0 k x1 x0 (x0.length : Int) 0)
def symbol_check.l0 : Nat → Int → List (List Int) → Int → Int → Option (Int)
 | 0, _, _, _, _ => none
 | k + 1, x1, x13, x14, x15 => if x15 < x14 then (if 0 ≤ x15 then (if x15 < (x13.length : Int) then (if ((rd_Lsu8 x13 x15).length : Int) = x1 then (symbol_check.l0 k x1 x13 x14 (wrap64 (x15 + 1))) else (some 2)) else (none)) else (none)) else (some 0)
end
def symbol_check.f (k : Nat) (l0 : List (List Int)) (a1 : Int) : Option (Int) := if a1 < 1 then (symbol_check.j0 k l0 a1 true) else (symbol_check.j0 k l0 a1 (decide (a1 > 64)))
theorem symbol_check.mono_l : ∀ k, (∀ y0 y1 y2, LeO (symbol_check.j0 k y0 y1 y2) (symbol_check.j0 (k + 1) y0 y1 y2)) ∧ (∀ y0 y1 y2 y3, LeO (symbol_check.l0 k y0 y1 y2 y3) (symbol_check.l0 (k + 1) y0 y1 y2 y3))
 | 0 => ⟨fun _ _ _ r h => by simp [symbol_check.j0] at h, fun _ _ _ _ r h => by simp [symbol_check.l0] at h⟩
 | k + 1 => by
  obtain ⟨ih0, ih1⟩ := symbol_check.mono_l k
  refine ⟨?_, ?_⟩
  ·intro y0 y1 y2
   unfold symbol_check.j0
   repeat' first
   | (with_reducible exact ih0 _ _ _)
   | (with_reducible exact ih1 _ _ _ _)
   | (with_reducible exact LeO.refl _)
   | (with_reducible exact LeO.none _)
   | (with_reducible refine LeO.ite ?_ ?_)
   | (with_reducible refine LeO.bind ?_ (fun _ => ?_))
   | exact ih0 _ _ _
   | exact ih1 _ _ _ _
   | exact LeO.none _
   | refine LeO.ite ?_ ?_
   | refine LeO.bind ?_ (fun _ => ?_)
  ·intro y0 y1 y2 y3
   unfold symbol_check.l0
   repeat' first
   | (with_reducible exact ih0 _ _ _)
   | (with_reducible exact ih1 _ _ _ _)
   | (with_reducible exact LeO.refl _)
   | (with_reducible exact LeO.none _)
   | (with_reducible refine LeO.ite ?_ ?_)
   | (with_reducible refine LeO.bind ?_ (fun _ => ?_))
   | exact ih0 _ _ _
   | exact ih1 _ _ _ _
   | exact LeO.none _
   | refine LeO.ite ?_ ?_
   | refine LeO.bind ?_ (fun _ => ?_)
theorem symbol_check.mono : ∀ a0 a1 k, LeO (symbol_check.f k a0 a1) (symbol_check.f (k + 1) a0 a1) := by
 intro a0 a1 k
 obtain ⟨ih0, ih1⟩ := symbol_check.mono_l k
 unfold symbol_check.f
 repeat' first
   | (with_reducible exact ih0 _ _ _)
   | (with_reducible exact ih1 _ _ _ _)
   | (with_reducible exact LeO.refl _)
   | (with_reducible exact LeO.none _)
   | (with_reducible refine LeO.ite ?_ ?_)
   | (with_reducible refine LeO.bind ?_ (fun _ => ?_))
   | exact ih0 _ _ _
   | exact ih1 _ _ _ _
   | exact LeO.none _
   | refine LeO.ite ?_ ?_
   | refine LeO.bind ?_ (fun _ => ?_)
set_option maxHeartbeats 8000000 in
set_option maxRecDepth 100000 in
theorem symbol_check.calls (k : Nat) (A0 : Option Addr) (c0 : Nat) (l0 : List (List Int)) (a1 : Int) (r : Int) (w : World) (hr0 : Kd.C (Kd.slice 5 (Kd.int .u8)) w A0 l0.length l0) (hc0 : l0.length ≤ c0) (h : symbol_check.f k l0 a1 = some r) :
  Calls Tryd.prog 40 #[.slice A0 l0.length c0, .int .i64 a1] w fun e w' => e = .returned (.int .i64 r) ∧ Drawn0 w w' := by
 have HR0 := Aside0.mk hr0
 have HC0 := Aside0.mk hc0
 clear hr0 hc0
 have H : (if a1 < 1 then (symbol_check.j0 k l0 a1 true) else (symbol_check.j0 k l0 a1 (decide (a1 > 64)))) = some r := h
 clear h
 have HC3 := Aside0.mk H
 clear H
 go_enter Tryd.func40, Tryd.ntmps40
 go_upto_region 1 with (fail)
 go_cut [12] (fun v12 wc => ∃ (kq : Nat) (x12_2 : Bool), v12 = .bool x12_2 ∧ Aside0 (symbol_check.j0 kq l0 a1 x12_2 = some r) ∧ Aside0 (kq ≤ k) ∧ Drawn0 w wc)
 case first =>
  have H := HC3.out
  clear HC3
  by_cases c4 : a1 < 1
  ·rw [if_pos c4] at H
   have c4b0 : decide (a1 < 1) = true := decide_eq_true c4
   clear c4
   (first | rw [c4b0] | rw [c4b1] | (simp only [i64_w, i32_w]; rw [c4b0]) | skip)
   have H' := Aside0.mk H
   clear H
   go_wp2
   go_meet
   case rel => exact ⟨_, (true), (by first | rfl | (simp; done) | (simp [*]; done)), H', ⟨by first | omega | exact Nat.le_refl _⟩, by repeat (first | exact Drawn0.refl _ | apply Drawn0.step)⟩
  ·rw [if_neg c4] at H
   have c4b0 : decide (a1 < 1) = false := decide_eq_false c4
   clear c4
   (first | rw [c4b0] | rw [c4b1] | (simp only [i64_w, i32_w]; rw [c4b0]) | skip)
   have H' := Aside0.mk H
   clear H
   go_wp2
   go_meet
   case rel => exact ⟨_, (decide (a1 > 64)), (by first | rfl | (simp; done) | (simp [*]; done)), H', ⟨by first | omega | exact Nat.le_refl _⟩, by repeat (first | exact Drawn0.refl _ | apply Drawn0.step)⟩
 case rest =>
  clear HC3
  try clear p2
  try clear c4
  try clear c4b0
  try clear c4b1
  obtain ⟨kq, x12_2, rfl, HA, HJ2, ⟨mc2, rfl⟩⟩ := hcut
  cases kq with
  | zero => exact absurd HA.out (by simp [symbol_check.j0])
  | succ kj2 =>
   have H := HA.out
   clear HA
   simp only [symbol_check.j0] at H
   by_cases c5 : x12_2 = true
   ·subst c5
    have H1 : (some 1) = some r := by rw [if_pos rfl] at H; exact H
    clear H
    have H := H1
    clear H1
    obtain rfl := Option.some.inj H
    go_wp2
    go_ret
    exact ⟨by first | rfl | (simp; done) | (simp [*]; done), by repeat (first | exact Drawn0.refl _ | apply Drawn0.step)⟩
   ·replace c5 := Bool.eq_false_iff.mpr c5
    subst c5
    have H1 : (symbol_check.l0 kj2 a1 l0 (l0.length : Int) 0) = some r := by rw [if_neg (show ¬ (false = true) by decide)] at H; exact H
    clear H
    have H := H1
    clear H1
    have H' := Aside0.mk H
    clear H
    go_wp2
    go_loopg [15] kj2 (fun kq v15 w' => ∃ (x15_2 : Int), v15 = .int .i64 x15_2 ∧ Aside0 (symbol_check.l0 kq a1 l0 (l0.length : Int) x15_2 = some r) ∧ Aside0 (kq ≤ kj2) ∧ Drawn0 w w')
    case atStart => exact ⟨(0), (by first | rfl | (simp; done) | (simp [*]; done)), H', ⟨Nat.le_refl _⟩, by repeat (first | exact Drawn0.refl _ | apply Drawn0.step)⟩
    case round =>
     clear H'
     try clear c2
     try clear p2
     try clear c4
     try clear c4b0
     try clear c4b1
     try clear c5
     try clear p2
     obtain ⟨x15_2, rfl, HA, HK2, ⟨m2, rfl⟩⟩ := hrel
     cases gk with
     | zero => exact absurd HA.out (by simp [symbol_check.l0])
     | succ k2 =>
      have H := HA.out
      clear HA
      simp only [symbol_check.l0] at H
      by_cases c6 : x15_2 < (l0.length : Int)
      ·rw [if_pos c6] at H
       have c6b0 : decide (x15_2 < (l0.length : Int)) = true := decide_eq_true c6
       clear c6
       by_cases c7 : 0 ≤ x15_2
       ·rw [if_pos c7] at H
        have c7b0 : decide (0 ≤ x15_2) = true := decide_eq_true c7
        clear c7
        by_cases c8 : x15_2 < (l0.length : Int)
        ·rw [if_pos c8] at H
         have c8b0 : decide (x15_2 < (l0.length : Int)) = true := decide_eq_true c8
         clear c8
         by_cases c9 : ((rd_Lsu8 l0 x15_2).length : Int) = a1
         ·rw [if_pos c9] at H
          have c9b0 : (((rd_Lsu8 l0 x15_2).length : Int) == a1) = true := beq_iff_eq.mpr c9
          have c9b1 : (((rd_Lsu8 l0 x15_2).length : Int) != a1) = false := bne_eq_false_iff_eq.mpr c9
          clear c9
          have H' := Aside0.mk H
          clear H
          have p279 : 0 ≤ (x15_2 : Int) := of_decide_eq_true (by first | (with_reducible assumption) | assumption)
          have q279 : x15_2 < (l0.length : Int) := of_decide_eq_true (by first | (with_reducible assumption) | assumption)
          obtain ⟨ad279, A279_0, c279_0, e279, hx279_0, hl279_0, hi279_0⟩ := at_Lsu8 HR0.out x15_2 p279 q279
          cases e279
          have HR279_0 := Aside0.mk hi279_0
          have HC279_0 := Aside0.mk hl279_0
          clear hi279_0 hl279_0
          replace p279 := eq_true p279
          replace q279 := eq_true q279
          go_wp2
          go_roundg k2
          case measure => have := HJ2.out; have := HK2.out; omega
          case rel => exact ⟨(wrap64 (x15_2 + 1)), (by first | rfl | (simp; done) | (simp [*]; done)), H', ⟨by have := HJ2.out; have := HK2.out; omega⟩, by repeat (first | exact Drawn0.refl _ | apply Drawn0.step)⟩
         ·rw [if_neg c9] at H
          have c9b0 : (((rd_Lsu8 l0 x15_2).length : Int) == a1) = false := beq_eq_false_iff_ne.mpr c9
          have c9b1 : (((rd_Lsu8 l0 x15_2).length : Int) != a1) = true := bne_iff_ne.mpr c9
          obtain rfl := Option.some.inj H
          have p279 : 0 ≤ (x15_2 : Int) := of_decide_eq_true (by first | (with_reducible assumption) | assumption)
          have q279 : x15_2 < (l0.length : Int) := of_decide_eq_true (by first | (with_reducible assumption) | assumption)
          obtain ⟨ad279, A279_0, c279_0, e279, hx279_0, hl279_0, hi279_0⟩ := at_Lsu8 HR0.out x15_2 p279 q279
          cases e279
          have HR279_0 := Aside0.mk hi279_0
          have HC279_0 := Aside0.mk hl279_0
          clear hi279_0 hl279_0
          replace p279 := eq_true p279
          replace q279 := eq_true q279
          go_wp2
          go_ret
          exact ⟨by first | rfl | (simp; done) | (simp [*]; done), by repeat (first | exact Drawn0.refl _ | apply Drawn0.step)⟩
        ·rw [if_neg c8] at H
         exact absurd H (by simp)
       ·rw [if_neg c7] at H
        exact absurd H (by simp)
      ·rw [if_neg c6] at H
       have c6b0 : decide (x15_2 < (l0.length : Int)) = false := decide_eq_false c6
       clear c6
       obtain rfl := Option.some.inj H
       go_wp2
       go_ret
       exact ⟨by first | rfl | (simp; done) | (simp [*]; done), by repeat (first | exact Drawn0.refl _ | apply Drawn0.step)⟩


/-! ### symbol_Zero: function 29 -/
def symbol_Zero.l0 : Nat → List Int → Int → Int → Option (Bool)
 | 0, _, _, _ => none
 | k + 1, x5, x6, x7 => if x7 < x6 then (if 0 ≤ x7 then (if x7 < (x5.length : Int) then (if (rd x5 x7) = 0 then (symbol_Zero.l0 k x5 x6 (wrap64 (x7 + 1))) else (some false)) else (none)) else (none)) else (some true)
def symbol_Zero.f (k : Nat) (l0 : List Int) : Option (Bool) := symbol_Zero.l0 k l0 (l0.length : Int) 0
theorem symbol_Zero.mono_l : ∀ k, (∀ y0 y1 y2, LeO (symbol_Zero.l0 k y0 y1 y2) (symbol_Zero.l0 (k + 1) y0 y1 y2))
 | 0 => fun _ _ _ r h => by simp [symbol_Zero.l0] at h
 | k + 1 => by
  have ih0 := symbol_Zero.mono_l k
  ·intro y0 y1 y2
   unfold symbol_Zero.l0
   repeat' first
   | (with_reducible exact ih0 _ _ _)
   | (with_reducible exact LeO.refl _)
   | (with_reducible exact LeO.none _)
   | (with_reducible refine LeO.ite ?_ ?_)
   | (with_reducible refine LeO.bind ?_ (fun _ => ?_))
   | exact ih0 _ _ _
   | exact LeO.none _
   | refine LeO.ite ?_ ?_
   | refine LeO.bind ?_ (fun _ => ?_)
theorem symbol_Zero.mono : ∀ a0 k, LeO (symbol_Zero.f k a0) (symbol_Zero.f (k + 1) a0) := by
 intro a0 k
 have ih0 := symbol_Zero.mono_l k
 unfold symbol_Zero.f
 repeat' first
   | (with_reducible exact ih0 _ _ _)
   | (with_reducible exact LeO.refl _)
   | (with_reducible exact LeO.none _)
   | (with_reducible refine LeO.ite ?_ ?_)
   | (with_reducible refine LeO.bind ?_ (fun _ => ?_))
   | exact ih0 _ _ _
   | exact LeO.none _
   | refine LeO.ite ?_ ?_
   | refine LeO.bind ?_ (fun _ => ?_)
set_option maxHeartbeats 8000000 in
set_option maxRecDepth 100000 in
theorem symbol_Zero.calls (k : Nat) (A0 : Option Addr) (c0 : Nat) (l0 : List Int) (r : Bool) (w : World) (hr0 : Kd.C (Kd.int .u8) w A0 l0.length l0) (hc0 : l0.length ≤ c0) (h : symbol_Zero.f k l0 = some r) :
  Calls Tryd.prog 29 #[.slice A0 l0.length c0] w fun e w' => e = .returned (.bool r) ∧ Drawn0 w w' := by
 have HR0 := Aside0.mk hr0
 have HC0 := Aside0.mk hc0
 clear hr0 hc0
 have H : (symbol_Zero.l0 k l0 (l0.length : Int) 0) = some r := h
 clear h
 have H' := Aside0.mk H
 clear H
 go_enter Tryd.func29, Tryd.ntmps29
 go_wp2
 go_loopg [7] k (fun kq v7 w' => ∃ (x7_1 : Int), v7 = .int .i64 x7_1 ∧ Aside0 (symbol_Zero.l0 kq l0 (l0.length : Int) x7_1 = some r) ∧ Aside0 (kq ≤ k) ∧ Drawn0 w w')
 case atStart => exact ⟨(0), (by first | rfl | (simp; done) | (simp [*]; done)), H', ⟨Nat.le_refl _⟩, by repeat (first | exact Drawn0.refl _ | apply Drawn0.step)⟩
 case round =>
  clear H'
  obtain ⟨x7_1, rfl, HA, HK1, ⟨m1, rfl⟩⟩ := hrel
  cases gk with
  | zero => exact absurd HA.out (by simp [symbol_Zero.l0])
  | succ k1 =>
   have H := HA.out
   clear HA
   simp only [symbol_Zero.l0] at H
   by_cases c2 : x7_1 < (l0.length : Int)
   ·rw [if_pos c2] at H
    have c2b0 : decide (x7_1 < (l0.length : Int)) = true := decide_eq_true c2
    clear c2
    by_cases c3 : 0 ≤ x7_1
    ·rw [if_pos c3] at H
     have c3b0 : decide (0 ≤ x7_1) = true := decide_eq_true c3
     clear c3
     by_cases c4 : x7_1 < (l0.length : Int)
     ·rw [if_pos c4] at H
      have c4b0 : decide (x7_1 < (l0.length : Int)) = true := decide_eq_true c4
      clear c4
      by_cases c5 : (rd l0 x7_1) = 0
      ·rw [if_pos c5] at H
       have c5b0 : ((rd l0 x7_1) == 0) = true := beq_iff_eq.mpr c5
       have c5b1 : ((rd l0 x7_1) != 0) = false := bne_eq_false_iff_eq.mpr c5
       clear c5
       have H' := Aside0.mk H
       clear H
       have p193 : 0 ≤ (x7_1 : Int) := of_decide_eq_true (by first | (with_reducible assumption) | assumption)
       have q193 : x7_1 < (l0.length : Int) := of_decide_eq_true (by first | (with_reducible assumption) | assumption)
       obtain ⟨ad193, e193, hx193_0⟩ := Kd.at_int HR0.out x7_1 p193 q193
       cases e193
       replace p193 := eq_true p193
       replace q193 := eq_true q193
       go_wp2
       go_roundg k1
       case measure => have := HK1.out; omega
       case rel => exact ⟨(wrap64 (x7_1 + 1)), (by first | rfl | (simp; done) | (simp [*]; done)), H', ⟨by have := HK1.out; omega⟩, by repeat (first | exact Drawn0.refl _ | apply Drawn0.step)⟩
      ·rw [if_neg c5] at H
       have c5b0 : ((rd l0 x7_1) == 0) = false := beq_eq_false_iff_ne.mpr c5
       have c5b1 : ((rd l0 x7_1) != 0) = true := bne_iff_ne.mpr c5
       obtain rfl := Option.some.inj H
       have p193 : 0 ≤ (x7_1 : Int) := of_decide_eq_true (by first | (with_reducible assumption) | assumption)
       have q193 : x7_1 < (l0.length : Int) := of_decide_eq_true (by first | (with_reducible assumption) | assumption)
       obtain ⟨ad193, e193, hx193_0⟩ := Kd.at_int HR0.out x7_1 p193 q193
       cases e193
       replace p193 := eq_true p193
       replace q193 := eq_true q193
       go_wp2
       go_ret
       exact ⟨by first | rfl | (simp; done) | (simp [*]; done), by repeat (first | exact Drawn0.refl _ | apply Drawn0.step)⟩
     ·rw [if_neg c4] at H
      exact absurd H (by simp)
    ·rw [if_neg c3] at H
     exact absurd H (by simp)
   ·rw [if_neg c2] at H
    have c2b0 : decide (x7_1 < (l0.length : Int)) = false := decide_eq_false c2
    clear c2
    obtain rfl := Option.some.inj H
    go_wp2
    go_ret
    exact ⟨by first | rfl | (simp; done) | (simp [*]; done), by repeat (first | exact Drawn0.refl _ | apply Drawn0.step)⟩

end Go.Proofs.YtomeefngdnmdaaaDoor.P

namespace Go.Proofs.YtomeefngdnmdaaaDoor.Pure
open Go.RowKit Go.Proofs.YtomeefngdnmdaaaDoor.P Go.Proofs.YtomeefngdnmdaaaDoorW.PrintWords Go.Proofs.YtomeefngdnmdaaaDoorW.PrintLast Go.Proofs.YtomeefngdnmdaaaDoorW.PrintErr Go.Proofs.YtomeefngdnmdaaaDoorW.PrintMore
set_option linter.unusedVariables false
set_option linter.unusedSimpArgs false

theorem w64s {x : Int} (h0 : -9223372036854775808 ≤ x) (h1 : x ≤ 9223372036854775807) : wrap64 x = x := by unfold wrap64; omega

/-! ### bytes -/
def bxor (a b : Int) : Int := Go.bits .xor .u8 a b
def bv (a : Int) : BitVec 8 := BitVec.ofInt 8 a
theorem bxor_bv (a b : Int) : bxor a b = ((bv a ^^^ bv b).toNat : Int) := by
  unfold bxor Go.bits bv
  show IntKind.u8.wrap _ = _
  rw [IntKind.wrap_u8]
  have := (BitVec.ofInt 8 a ^^^ BitVec.ofInt 8 b).isLt
  show (((BitVec.ofInt 8 a ^^^ BitVec.ofInt 8 b).toNat : Int)) % 256 = ((BitVec.ofInt 8 a ^^^ BitVec.ofInt 8 b).toNat : Int)
  omega
theorem bv_nat (x : BitVec 8) : bv ((x.toNat : Int)) = x := by
  unfold bv
  rw [BitVec.ofInt_natCast]
  simp
theorem bv_bxor (a b : Int) : bv (bxor a b) = bv a ^^^ bv b := by rw [bxor_bv, bv_nat]
theorem bxor_comm (a b : Int) : bxor a b = bxor b a := by rw [bxor_bv, bxor_bv, BitVec.xor_comm]
theorem bxor_assoc (a b c : Int) : bxor (bxor a b) c = bxor a (bxor b c) := by rw [bxor_bv (bxor a b) c, bxor_bv a (bxor b c), bv_bxor, bv_bxor, BitVec.xor_assoc]
theorem bxor_self (a : Int) : bxor a a = 0 := by rw [bxor_bv, BitVec.xor_self]; rfl
theorem bxor_zero {a : Int} (h0 : 0 ≤ a) (h1 : a ≤ 255) : bxor 0 a = a := by
  rw [bxor_bv]
  have e : bv 0 = 0#8 := rfl
  rw [e, BitVec.zero_xor]
  unfold bv
  obtain ⟨n, rfl⟩ := Int.eq_ofNat_of_zero_le h0
  rw [BitVec.ofInt_natCast, BitVec.toNat_ofNat]
  congr 1
  exact Nat.mod_eq_of_lt (by omega)
theorem bxor_range (a b : Int) : 0 ≤ bxor a b ∧ bxor a b ≤ 255 := by
  rw [bxor_bv]
  have := (bv a ^^^ bv b).isLt
  omega

/-! ### sums -/
def addB (a b : List Int) : List Int := List.zipWith bxor a b
def sumB (x : List Int) (l : List (List Int)) : List Int := l.foldl addB x
theorem addB_length (a b : List Int) (h : b.length = a.length) : (addB a b).length = a.length := by simp [addB, h]
theorem sumB_length (l : List (List Int)) : ∀ x : List Int, (∀ s ∈ l, s.length = x.length) → (sumB x l).length = x.length := by
  induction l with
  | nil => intro x _; rfl
  | cons s l ih =>
    intro x h
    have h1 := addB_length x s (h s (by simp))
    show (sumB (addB x s) l).length = _
    rw [ih _ (fun t ht => by rw [h1]; exact h t (by simp [ht])), h1]
theorem addB_swap (a b c : List Int) : addB (addB a b) c = addB (addB a c) b := by
  apply List.ext_getElem?
  intro i
  simp only [addB, List.getElem?_zipWith]
  cases a[i]? <;> cases b[i]? <;> cases c[i]? <;> simp
  rename_i x y z
  rw [bxor_assoc, bxor_comm y z, ← bxor_assoc]
theorem addB_assoc (a b c : List Int) : addB (addB a b) c = addB a (addB b c) := by
  apply List.ext_getElem?
  intro i
  simp only [addB, List.getElem?_zipWith]
  cases a[i]? <;> cases b[i]? <;> cases c[i]? <;> simp
  exact bxor_assoc ..
theorem addB_comm (a b : List Int) : addB a b = addB b a := by
  apply List.ext_getElem?
  intro i
  simp only [addB, List.getElem?_zipWith]
  cases a[i]? <;> cases b[i]? <;> simp
  exact bxor_comm ..

theorem getD_mid (A B : List Int) (b : Int) : rd (A ++ b :: B) (A.length : Int) = b := by
  unfold rd
  rw [Int.toNat_natCast, List.getD_eq_getElem?_getD, List.getElem?_append_right (Nat.le_refl _)]
  simp
theorem set_mid (A B : List Int) (b c : Int) : (A ++ b :: B).set A.length c = (A ++ [c]) ++ B := by
  rw [List.set_append_right _ _ (Nat.le_refl _)]
  simp

theorem rd_row (P : List (List Int)) (s : List Int) (S : List (List Int)) : rd_Lsu8 (P ++ s :: S) (P.length : Int) = s := by
  unfold rd_Lsu8
  rw [Int.toNat_natCast, List.getD_eq_getElem?_getD, List.getElem?_append_right (Nat.le_refl _)]
  simp
def sizeBad (l : List (List Int)) (n : Int) : Int := if n < 1 ∨ n > 64 then 1 else if ∀ s ∈ l, (s.length : Int) = n then 0 else 2
theorem check_l0 (n : Int) (S : List (List Int)) : ∀ P : List (List Int), (P ++ S).length < 9223372036854775807 →
    Ev (fun k => symbol_check.l0 k n (P ++ S) ((P ++ S).length : Int) (P.length : Int)) (if ∀ s ∈ S, (s.length : Int) = n then 0 else 2) := by
  induction S with
  | nil =>
    intro P hP
    refine Ev.step (f := fun _ => some 0) (fun k => ?_) (Ev.now _)
    rw [symbol_check.l0, if_neg (by simp)]
  | cons s S ih =>
    intro P hP
    have hl : (P ++ s :: S).length = P.length + (S.length + 1) := by simp
    by_cases hs : (s.length : Int) = n
    · have h' := ih (P ++ [s]) (by simpa using hP)
      have e1 : P ++ [s] ++ S = P ++ s :: S := by simp
      have e2 : ((P ++ [s]).length : Int) = wrap64 ((P.length : Int) + 1) := by rw [w64s (by omega) (by omega)]; simp
      have e3 : (if ∀ t ∈ s :: S, (t.length : Int) = n then (0 : Int) else 2) = (if ∀ t ∈ S, (t.length : Int) = n then 0 else 2) := by
        simp [hs]
      rw [e1, e2] at h'
      rw [e3]
      refine Ev.step (fun k => ?_) h'
      rw [symbol_check.l0, if_pos (by omega), if_pos (by omega), if_pos (by omega), rd_row, if_pos hs]
    · have e3 : (if ∀ t ∈ s :: S, (t.length : Int) = n then (0 : Int) else 2) = 2 := if_neg (fun h => hs (h s (by simp)))
      rw [e3]
      refine Ev.step (f := fun _ => some 2) (fun k => ?_) (Ev.now _)
      rw [symbol_check.l0, if_pos (by omega), if_pos (by omega), if_pos (by omega), rd_row, if_neg hs]
theorem check_ev (l : List (List Int)) (n : Int) (hl : l.length < 9223372036854775807) : Ev (fun k => symbol_check.f k l n) (sizeBad l n) := by
  unfold symbol_check.f sizeBad
  by_cases h1 : n < 1
  · rw [if_pos (.inl h1)]
    refine Ev.step (f := fun _ => some 1) (fun k => ?_) (Ev.now _)
    rw [if_pos h1, symbol_check.j0, if_pos rfl]
  · by_cases h2 : n > 64
    · rw [if_pos (.inr h2)]
      refine Ev.step (f := fun _ => some 1) (fun k => ?_) (Ev.now _)
      rw [if_neg h1, decide_eq_true h2, symbol_check.j0, if_pos rfl]
    · rw [if_neg (by omega)]
      have := check_l0 n l [] (by simpa using hl)
      refine Ev.step (fun k => ?_) this
      rw [if_neg h1, decide_eq_false h2, symbol_check.j0, if_neg (by simp)]
      rfl

/-! ### Sum -/
def zeros (n : Int) : List Int := List.replicate n.toNat 0
theorem new_eqS (c : ByteArray) (n : Int) (h : n ≠ 0) : fault_New.f c n = some [⟨c, true, n⟩] := by unfold fault_New.f; rw [if_neg h]
theorem sizeBad_zero {l : List (List Int)} {n : Int} (h : sizeBad l n = 0) : 1 ≤ n ∧ n ≤ 64 ∧ ∀ s ∈ l, (s.length : Int) = n := by
  unfold sizeBad at h
  split at h
  · cases h
  · split at h
    · exact ⟨by omega, by omega, ‹_›⟩
    · cases h
def allZero (l : List Int) : Bool := l.all (· == 0)
theorem rd_mid (A B : List Int) (b : Int) : rd (A ++ b :: B) (A.length : Int) = b := getD_mid A B b
theorem zero_l0 (S : List Int) : ∀ P : List Int, (P ++ S).length < 9223372036854775807 → Ev (fun k => symbol_Zero.l0 k (P ++ S) ((P ++ S).length : Int) (P.length : Int)) (allZero S) := by
  induction S with
  | nil =>
    intro P hP
    refine Ev.step (f := fun _ => some true) (fun k => ?_) (Ev.now _)
    rw [symbol_Zero.l0, if_neg (by simp)]
  | cons s S ih =>
    intro P hP
    have hl : (P ++ s :: S).length = P.length + (S.length + 1) := by simp
    by_cases hs : s = 0
    · have h' := ih (P ++ [s]) (by simpa using hP)
      have e1 : P ++ [s] ++ S = P ++ s :: S := by simp
      have e2 : ((P ++ [s]).length : Int) = wrap64 ((P.length : Int) + 1) := by rw [w64s (by omega) (by omega)]; simp
      have e3 : allZero (s :: S) = allZero S := by simp [allZero, hs]
      rw [e1, e2] at h'
      rw [e3]
      refine Ev.step (fun k => ?_) h'
      rw [symbol_Zero.l0, if_pos (by omega), if_pos (by omega), if_pos (by omega), rd_mid, if_pos hs]
    · have e3 : allZero (s :: S) = false := by simp [allZero, hs]
      rw [e3]
      refine Ev.step (f := fun _ => some false) (fun k => ?_) (Ev.now _)
      rw [symbol_Zero.l0, if_pos (by omega), if_pos (by omega), if_pos (by omega), rd_mid, if_neg hs]
theorem zero_ev (l : List Int) (hl : l.length < 9223372036854775807) : Ev (fun k => symbol_Zero.f k l) (allZero l) := by
  have := zero_l0 l [] (by simpa using hl)
  exact this
end Go.Proofs.YtomeefngdnmdaaaDoor.Pure

namespace Go.Proofs.YtomeefngdnmdaaaDoor.P
open Go.RowKit Go.Proofs.YtomeefngdnmdaaaDoorW.PrintWords Go.Proofs.YtomeefngdnmdaaaDoorW.PrintLast Go.Proofs.YtomeefngdnmdaaaDoorW.PrintErr Go.Proofs.YtomeefngdnmdaaaDoorW.PrintMore
attribute [local go_sem] max2_int min2_int max_two min_two max_three min_three max_four min_four run_eql_errOf run_neq_errOf eqGuard_errOf   -- for this text's walks alone
set_option linter.unusedVariables false
set_option linter.unusedSimpArgs false

/-! ### geyserref04_Split: function 34 -/
mutual
def geyserref04_Split.l0 : Nat → List Int → Int → List (List Int) → Int → Option ((List (List Int)))
 | 0, _, _, _, _ => none
 | k + 1, x0, x1, x5, x6 => if x6 < (x0.length : Int) then (if 0 ≤ x1 then (if (x1 : Int).toNat ≤ 281474976710656 then (geyserref04_Split.l1 k x0 x1 x5 x6 (List.replicate (x1 : Int).toNat 0) 0) else (none)) else (none)) else (some x5)
def geyserref04_Split.l1 : Nat → List Int → Int → List (List Int) → Int → List Int → Int → Option ((List (List Int)))
 | 0, _, _, _, _, _, _ => none
 | k + 1, x0, x1, x5, x6, x7, x8 => if x8 < x1 then (if (wrap64 (x6 + x8)) < (x0.length : Int) then (if 0 ≤ (wrap64 (x6 + x8)) then (if 0 ≤ x8 then (if x8 < (x7.length : Int) then (geyserref04_Split.l1 k x0 x1 x5 x6 (x7.set (x8 : Int).toNat (rd x0 (wrap64 (x6 + x8)))) (wrap64 (x8 + 1))) else (none)) else (none)) else (none)) else (if x5.length < 5864062014805 then (geyserref04_Split.l0 k x0 x1 (x5 ++ [x7]) (wrap64 (x6 + x1))) else (none))) else (if x5.length < 5864062014805 then (geyserref04_Split.l0 k x0 x1 (x5 ++ [x7]) (wrap64 (x6 + x1))) else (none))
end
def geyserref04_Split.f (k : Nat) (l0 : List Int) (a1 : Int) : Option ((List (List Int))) := geyserref04_Split.l0 k l0 a1 (([] : List (List Int))) 0
theorem geyserref04_Split.mono_l : ∀ k, (∀ y0 y1 y2 y3, LeO (geyserref04_Split.l0 k y0 y1 y2 y3) (geyserref04_Split.l0 (k + 1) y0 y1 y2 y3)) ∧ (∀ y0 y1 y2 y3 y4 y5, LeO (geyserref04_Split.l1 k y0 y1 y2 y3 y4 y5) (geyserref04_Split.l1 (k + 1) y0 y1 y2 y3 y4 y5))
 | 0 => ⟨fun _ _ _ _ r h => by simp [geyserref04_Split.l0] at h, fun _ _ _ _ _ _ r h => by simp [geyserref04_Split.l1] at h⟩
 | k + 1 => by
  obtain ⟨ih0, ih1⟩ := geyserref04_Split.mono_l k
  refine ⟨?_, ?_⟩
  ·intro y0 y1 y2 y3
   unfold geyserref04_Split.l0
   repeat' first
   | (with_reducible exact ih0 _ _ _ _)
   | (with_reducible exact ih1 _ _ _ _ _ _)
   | (with_reducible exact LeO.refl _)
   | (with_reducible exact LeO.none _)
   | (with_reducible refine LeO.ite ?_ ?_)
   | (with_reducible refine LeO.bind ?_ (fun _ => ?_))
   | exact ih0 _ _ _ _
   | exact ih1 _ _ _ _ _ _
   | exact LeO.none _
   | refine LeO.ite ?_ ?_
   | refine LeO.bind ?_ (fun _ => ?_)
  ·intro y0 y1 y2 y3 y4 y5
   unfold geyserref04_Split.l1
   repeat' first
   | (with_reducible exact ih0 _ _ _ _)
   | (with_reducible exact ih1 _ _ _ _ _ _)
   | (with_reducible exact LeO.refl _)
   | (with_reducible exact LeO.none _)
   | (with_reducible refine LeO.ite ?_ ?_)
   | (with_reducible refine LeO.bind ?_ (fun _ => ?_))
   | exact ih0 _ _ _ _
   | exact ih1 _ _ _ _ _ _
   | exact LeO.none _
   | refine LeO.ite ?_ ?_
   | refine LeO.bind ?_ (fun _ => ?_)
theorem geyserref04_Split.mono : ∀ a0 a1 k, LeO (geyserref04_Split.f k a0 a1) (geyserref04_Split.f (k + 1) a0 a1) := by
 intro a0 a1 k
 obtain ⟨ih0, ih1⟩ := geyserref04_Split.mono_l k
 unfold geyserref04_Split.f
 repeat' first
   | (with_reducible exact ih0 _ _ _ _)
   | (with_reducible exact ih1 _ _ _ _ _ _)
   | (with_reducible exact LeO.refl _)
   | (with_reducible exact LeO.none _)
   | (with_reducible refine LeO.ite ?_ ?_)
   | (with_reducible refine LeO.bind ?_ (fun _ => ?_))
   | exact ih0 _ _ _ _
   | exact ih1 _ _ _ _ _ _
   | exact LeO.none _
   | refine LeO.ite ?_ ?_
   | refine LeO.bind ?_ (fun _ => ?_)
set_option maxHeartbeats 8000000 in
set_option maxRecDepth 100000 in
theorem geyserref04_Split.calls (k : Nat) (A0 : Option Addr) (c0 : Nat) (l0 : List Int) (a1 : Int) (r : List (List Int)) (w : World) (hr0 : Kd.C (Kd.int .u8) w A0 l0.length l0) (hc0 : l0.length ≤ c0) (h : geyserref04_Split.f k l0 a1 = some r) :
  Calls Tryd.prog 34 #[.slice A0 l0.length c0, .int .i64 a1] w fun e w' => ∃ v0_ : Value, e = .returned (v0_) ∧ Kd.S (Kd.slice 5 (Kd.int .u8)) 42 w' w.heap.size (fun _ => True) v0_ r ∧ Below w.heap.size w w' := by
 have HR0 := Aside0.mk hr0
 have HC0 := Aside0.mk hc0
 clear hr0 hc0
 have HB := Aside0.mk (Below.refl w.heap.size w)
 have H : (geyserref04_Split.l0 k l0 a1 (([] : List (List Int))) 0) = some r := h
 clear h
 obtain ⟨y349, hy349⟩ : ∃ y_ : List (List Int), y_ = (([] : List (List Int))) := ⟨_, rfl⟩
 replace H : (geyserref04_Split.l0 k l0 a1 y349 0) = some r := by first | (rw [hy349]; with_reducible exact H) | (have H2_ := (Option.bind_some _ _).symm.trans H; rw [hy349]; with_reducible exact H2_) | (have H2_ := (Option.bind_some _ _).symm.trans H; with_reducible exact H2_) | with_reducible exact H | (rw [hy349]; exact H) | exact H
 have Ny349 := Aside0.mk hy349
 clear hy349
 have H' := Aside0.mk H
 clear H
 go_enter Tryd.func34, Tryd.ntmps34
 go_wp2_with (first | ((with_reducible refine gate_dst (N := 9) rfl ?_); (try (refine gate_guard (by rfl) ?_; dsimp only)); refine Kd.S_lit (Kd.slice 5 (Kd.int .u8)) _ 42 ?hg (N := 9) ?hd (xs := ([] : List (List Int))) (inner := []) (ok := fun _ => True) (okp := fun _ => True) ?hr ?hp (fun _ hk => hk) trivial (Below.refl _ _) (Nat.le_refl _) (by simp) ?_; (case hd => rfl); (case hg => rfl); (case hr => first | (go_simp; done) | (go_simp; rfl)); (case hp => exact (Reps.none _ _)); intro v350 w3 ho4 hb hg_ hnew_; clear hg_ hnew_; (first | rw [← Ny349.out] at ho4 | (simp only [Int.reduceToNat] at ho4; rw [← Ny349.out] at ho4)); have n0_ := Aside0.mk (Kd.S_lower ho4 (below_size (by repeat (first | (with_reducible first | exact HB.out | apply below_alloc | apply pw_below_drewN | apply below_drew1) | exact HB.out)))); have n1_ := Aside0.mk (below_step (by repeat (first | (with_reducible first | exact HB.out | apply below_alloc | apply pw_below_drewN | apply below_drew1) | exact HB.out)) hb); clear HB; have HO351 := n0_; have HB := n1_; clear n0_ n1_; clear hb ho4))
 go_loopg [5, 6] k (fun kq v5 v6 w' => ∃ (x5_1 : List (List Int)) (x6_1 : Int), v6 = .int .i64 x6_1 ∧ Aside0 (geyserref04_Split.l0 kq l0 a1 x5_1 x6_1 = some r) ∧ Aside0 (kq ≤ k) ∧ Aside0 (Kd.S (Kd.slice 5 (Kd.int .u8)) 42 w' w.heap.size (fun _ => True) v5 x5_1) ∧ Aside0 (Below w.heap.size w w'))
 case atStart => exact ⟨(y349), (0), (by first | rfl | (simp; done) | (simp [*]; done)), H', ⟨Nat.le_refl _⟩, ⟨by (with_reducible repeat (first | apply Kd.S_alloc | apply Kd.S_drewN | apply Kd.S_drew)); exact HO351.out⟩, ⟨by repeat (first | (with_reducible first | exact HB.out | apply below_alloc | apply pw_below_drewN | apply below_drew1) | exact HB.out)⟩⟩
 case round =>
  clear H'
  try clear p2
  try clear c3
  obtain ⟨x5_1, x6_1, rfl, HA, HK1, HO_5, HB⟩ := hrel
  cases gk with
  | zero => exact absurd HA.out (by simp [geyserref04_Split.l0])
  | succ k1 =>
   have H := HA.out
   clear HA
   simp only [geyserref04_Split.l0] at H
   by_cases c5 : x6_1 < (l0.length : Int)
   ·rw [if_pos c5] at H
    have c5b0 : decide (x6_1 < (l0.length : Int)) = true := decide_eq_true c5
    clear c5
    by_cases c6 : 0 ≤ a1
    ·rw [if_pos c6] at H
     have c6b0 := eq_true c6
     have c6b1 : decide (0 ≤ a1) = true := decide_eq_true c6
     clear c6
     by_cases c7 : (a1 : Int).toNat ≤ 281474976710656
     ·rw [if_pos c7] at H
      have c7b0 := eq_true c7
      have c7b1 : decide ((a1 : Int).toNat ≤ 281474976710656) = true := decide_eq_true c7
      clear c7
      obtain ⟨y352, hy352⟩ : ∃ y_ : List Int, y_ = (List.replicate (a1 : Int).toNat 0) := ⟨_, rfl⟩
      replace H : (geyserref04_Split.l1 k1 l0 a1 x5_1 x6_1 y352 0) = some r := by first | (rw [hy352]; with_reducible exact H) | (have H2_ := (Option.bind_some _ _).symm.trans H; rw [hy352]; with_reducible exact H2_) | (have H2_ := (Option.bind_some _ _).symm.trans H; with_reducible exact H2_) | with_reducible exact H | (rw [hy352]; exact H) | exact H
      have Ny352 := Aside0.mk hy352
      clear hy352
      have H' := Aside0.mk H
      clear H
      go_wp2_with (first | ((with_reducible refine gate_dst (N := 18) rfl ?_); (try (refine gate_guard (by rfl) ?_; dsimp only)); refine Kd.R_make (Kd.int .u8) _ 5 rfl (N := 18) rfl 42 _ _ rfl a1 rfl rfl Tryd.underlying42 (.int .u8 0) 1 info5 rfl (by decide) (by omega) 0 (ok := fun _ => True) (okp := fun _ => True) rfl (fun _ hk => hk) trivial (of_decide_eq_true (by first | (with_reducible assumption) | assumption)) (Nat.le_trans (Nat.mul_le_mul_right _ (of_decide_eq_true (by first | (with_reducible assumption) | assumption) : a1.toNat ≤ 281474976710656)) (by omega)) (Below.refl _ _) (Nat.le_refl _) ?_; intro v353 w8 ho9 hb hg_ hnew_; clear hg_ hnew_; (first | rw [← Ny352.out] at ho9 | (simp only [Int.reduceToNat] at ho9; rw [← Ny352.out] at ho9)); have n0_ := Aside0.mk (Kd.S_elder' (by (with_reducible repeat (first | apply Kd.S_alloc | apply Kd.S_drewN | apply Kd.S_drew)); exact HO_5.out) (Kd.R_base ho9) hb); have n1_ := Aside0.mk (Kd.R_lower ho9 (below_size (by repeat (first | (with_reducible first | exact HB.out | apply below_alloc | apply pw_below_drewN | apply below_drew1) | exact HB.out)))); have n2_ := Aside0.mk (below_step (by repeat (first | (with_reducible first | exact HB.out | apply below_alloc | apply pw_below_drewN | apply below_drew1) | exact HB.out)) hb); clear HO_5; clear HB; have HO_5 := n0_; have HO354 := n1_; have HB := n2_; clear n0_ n1_ n2_; clear hb ho9))
      go_loopg [8] k1 (fun kq v8 w' => ∃ (x7_2 : List Int) (x8_2 : Int), v8 = .int .i64 x8_2 ∧ Aside0 (geyserref04_Split.l1 kq l0 a1 x5_1 x6_1 x7_2 x8_2 = some r) ∧ Aside0 (kq ≤ k1) ∧ Aside0 (Kd.S (Kd.slice 5 (Kd.int .u8)) 42 w' w.heap.size (fun k_ => some k_ ≠ (v353 : Value).ownBlock) u5 x5_1) ∧ Aside0 (Kd.R (Kd.int .u8) 5 w' w.heap.size (fun _ => True) v353 x7_2) ∧ Aside0 (Below w.heap.size w w'))
      case atStart => exact ⟨(y352), (0), (by first | rfl | (simp; done) | (simp [*]; done)), H', ⟨Nat.le_refl _⟩, ⟨by (with_reducible repeat (first | apply Kd.S_alloc | apply Kd.S_drewN | apply Kd.S_drew)); exact Kd.S_mono HO_5.out (fun _ hk => hk.2)⟩, ⟨by (with_reducible repeat (first | apply Kd.R_alloc | apply Kd.R_drewN | apply Kd.R_drew)); exact HO354.out⟩, ⟨by repeat (first | (with_reducible first | exact HB.out | apply below_alloc | apply pw_below_drewN | apply below_drew1) | exact HB.out)⟩⟩
      case round =>
       clear H'
       try clear p2
       try clear c3
       try clear c5
       try clear c5b0
       try clear c6
       try clear c6b0
       try clear c6b1
       try clear c7
       try clear c7b0
       try clear c7b1
       try clear p2
       obtain ⟨x7_2, x8_2, rfl, HA, HK2, HO_5, HO_7, HB⟩ := hrel
       cases gk with
       | zero => exact absurd HA.out (by simp [geyserref04_Split.l1])
       | succ k2 =>
        have H := HA.out
        clear HA
        simp only [geyserref04_Split.l1] at H
        by_cases c10 : x8_2 < a1
        ·rw [if_pos c10] at H
         have c10b0 : decide (x8_2 < a1) = true := decide_eq_true c10
         clear c10
         by_cases c11 : (wrap64 (x6_1 + x8_2)) < (l0.length : Int)
         ·rw [if_pos c11] at H
          have c11b0 : decide ((wrap64 (x6_1 + x8_2)) < (l0.length : Int)) = true := decide_eq_true c11
          clear c11
          obtain ⟨ji12, hji12⟩ : ∃ j_ : Int, (wrap64 (x6_1 + x8_2)) = j_ := ⟨_, rfl⟩
          replace H : (if 0 ≤ (ji12) then (if 0 ≤ x8_2 then (if x8_2 < (x7_2.length : Int) then (geyserref04_Split.l1 k2 l0 a1 x5_1 x6_1 (x7_2.set (x8_2 : Int).toNat (rd l0 (ji12))) (wrap64 (x8_2 + 1))) else (none)) else (none)) else (none)) = some r := by first | (rw [hji12] at H; exact H) | (simp only [hji12] at H ⊢; exact H)
          (try rw [hji12] at c11b0)
          have hji12w : (IntKind.i64.wrap (x6_1 + x8_2)) = ji12 := (i64_w _).trans hji12
          by_cases c13 : 0 ≤ (ji12)
          ·rw [if_pos c13] at H
           have c13b0 : decide (0 ≤ (ji12)) = true := decide_eq_true c13
           clear c13
           by_cases c14 : 0 ≤ x8_2
           ·rw [if_pos c14] at H
            have c14b0 : decide (0 ≤ x8_2) = true := decide_eq_true c14
            clear c14
            by_cases c15 : x8_2 < (x7_2.length : Int)
            ·rw [if_pos c15] at H
             have c15b0 : decide (x8_2 < (x7_2.length : Int)) = true := decide_eq_true c15
             clear c15
             obtain ⟨y356, hy356⟩ : ∃ y_ : List Int, y_ = (x7_2.set (x8_2 : Int).toNat (rd l0 (ji12))) := ⟨_, rfl⟩
             replace H : (geyserref04_Split.l1 k2 l0 a1 x5_1 x6_1 y356 (wrap64 (x8_2 + 1))) = some r := by first | (rw [hy356]; with_reducible exact H) | (have H2_ := (Option.bind_some _ _).symm.trans H; rw [hy356]; with_reducible exact H2_) | (have H2_ := (Option.bind_some _ _).symm.trans H; with_reducible exact H2_) | with_reducible exact H | (rw [hy356]; exact H) | exact H
             have Ny356 := Aside0.mk hy356
             clear hy356
             have H' := Aside0.mk H
             clear H
             have p355 : 0 ≤ ((ji12) : Int) := of_decide_eq_true (by first | (with_reducible assumption) | assumption)
             have q355 : (ji12) < (l0.length : Int) := of_decide_eq_true (by first | (with_reducible assumption) | assumption)
             obtain ⟨ad355, e355, hx355_0⟩ := Kd.at_int HR0.out (ji12) p355 q355
             cases e355
             (first | replace hx355_0 := (HB.out.cell (World.block_lt_of_cell? w _ hx355_0)).trans hx355_0 | skip)
             replace p355 := eq_true p355
             replace q355 := eq_true q355
             have p16 : 0 ≤ (x8_2 : Int) := of_decide_eq_true (by first | (with_reducible assumption) | assumption)
             have q16 : (x8_2 : Int) < ((x7_2.length : Int) : Int) := of_decide_eq_true (by first | (with_reducible assumption) | assumption)
             obtain ⟨go16, co16, eo16, gb16, gl16, cl16, HG16⟩ := Kd.R_form HO_7.out (by omega)
             (first | cases eo16 | (injection eo16 with ea_ en_ ec_; (first | subst ea_ | (injection ea_ with ea_; subst ea_)); subst ec_; clear en_))
             have GB16 := Aside0.mk gb16
             have GG16 := Aside0.mk HG16
             clear gb16 gl16 HG16
             obtain ⟨hx16_0, hf16_0⟩ := Kd.R_celln 0 HO_7.out (x8_2 : Int) p16 q16
             replace p16 := eq_true p16
             replace q16 := eq_true q16
             have HP17 := Kd.R_putg HO_7.out (x8_2 : Int) (rd l0 (ji12))
             go_wp2_with (first | ((with_reducible refine gate_store (t := 5) (p := 40) rfl ?_); refine store_event (t := 5) (p := 40) (v := ?vo_w18) (w1 := (wr.setCell ⟨go16, (x8_2 : Int).toNat, none⟩ (.int .u8 (rd l0 (ji12))))) ?hg ?ho ?hn ?hr ?_; (case ho => rfl); (case hg => rfl); (case hn => rfl); (case hr => first | (go_simp; done) | (go_simp; rfl)); intro w18 hw; have hg : wr.grownBy w18 (some go16) := (by rw [hw]; exact HP17.2); have hp_ : Kd.R (Kd.int .u8) 5 w18 w.heap.size (fun _ => True) (.slice (some ⟨go16, 0, none⟩) x7_2.length co16) y356 := (by rw [hw, Ny356.out]; exact HP17.1); clear HP17; have n0_ := Aside0.mk (Kd.S_after (v := (.slice (some ⟨go16, 0, none⟩) x7_2.length co16)) (v1 := (.slice (some ⟨go16, 0, none⟩) x7_2.length co16)) (ok := (fun _ => True)) (by (with_reducible repeat (first | apply Kd.S_alloc | apply Kd.S_drewN | apply Kd.S_drew)); exact Kd.S_mono HO_5.out (fun _ hk => ⟨trivial, hk⟩)) hg (.inl rfl)); have n1_ := Aside0.mk (hp_); have n2_ := Aside0.mk ((by rw [hw]; exact below_set (HB.out) GB16.out : Below w.heap.size w w18)); clear HO_5; clear HO_7; clear HB; have HO_5 := n0_; have HO_7 := n1_; have HB := n2_; clear n0_ n1_ n2_; clear hg hw hp_))
             go_roundg k2
             case measure => have := HK1.out; have := HK2.out; omega
             case rel => exact ⟨(y356), (wrap64 (x8_2 + 1)), (by first | rfl | (simp; done) | (simp [*]; done)), H', ⟨by have := HK1.out; have := HK2.out; omega⟩, ⟨by (with_reducible repeat (first | apply Kd.S_alloc | apply Kd.S_drewN | apply Kd.S_drew)); exact Kd.S_mono HO_5.out (fun _ hk => hk.2)⟩, ⟨by (with_reducible repeat (first | apply Kd.R_alloc | apply Kd.R_drewN | apply Kd.R_drew)); exact HO_7.out⟩, ⟨by repeat (first | (with_reducible first | exact HB.out | apply below_alloc | apply pw_below_drewN | apply below_drew1) | exact HB.out)⟩⟩
            ·rw [if_neg c15] at H
             exact absurd H (by simp)
           ·rw [if_neg c14] at H
            exact absurd H (by simp)
          ·rw [if_neg c13] at H
           exact absurd H (by simp)
         ·rw [if_neg c11] at H
          have c11b0 : decide ((wrap64 (x6_1 + x8_2)) < (l0.length : Int)) = false := decide_eq_false c11
          clear c11
          by_cases c19 : x5_1.length < 5864062014805
          ·rw [if_pos c19] at H
           have LMc19 := Aside0.mk c19
           clear c19
           obtain ⟨y357, hy357⟩ : ∃ y_ : List (List Int), y_ = (x5_1 ++ [x7_2]) := ⟨_, rfl⟩
           replace H : (geyserref04_Split.l0 k2 l0 a1 y357 (wrap64 (x6_1 + a1))) = some r := by first | (rw [hy357]; with_reducible exact H) | (have H2_ := (Option.bind_some _ _).symm.trans H; rw [hy357]; with_reducible exact H2_) | (have H2_ := (Option.bind_some _ _).symm.trans H; with_reducible exact H2_) | with_reducible exact H | (rw [hy357]; exact H) | exact H
           have Ny357 := Aside0.mk hy357
           clear hy357
           have H' := Aside0.mk H
           clear H
           obtain ⟨Ao21, co21, eo21⟩ := Kd.R_slice HO_7.out
           subst eo21
           go_wp2_with (first | ((with_reducible refine gate_builtin (b := .append) (xs := #[.tmp 41, .tmp 43]) rfl ?_); (try (refine gate_guard (by rfl) ?_; dsimp only)); at_builtin; refine Kd.S_append (Kd.slice 5 (Kd.int .u8)) (w0 := w) w.heap.size rfl (.tmp 41) (.tmp 43) 40 42 (.slice none 0 0) 24 rfl Tryd.underlying40 info42 rfl (by decide) (by omega) u5 x5_1 x7_2 [.slice Ao21 x7_2.length co21] (fun _ => True) (fun k_ => some k_ = (.slice Ao21 x7_2.length co21 : Value).ownBlock) rfl rfl ?aP (fun k_ hk_ => ((Kd.R_mono (ok' := fun k_ => ((fun _ => True)) k_ ∧ some k_ ≠ (u5 : Value).ownBlock) (Kd.R_apart' (HO_7.out) (Kd.S_typed HO_5.out) (by decide)) (fun k_ hk => ⟨trivial, hk.2⟩))).1 k_ hk_.symm) ?aF ?aO ?aB ?aS ?aL ?_; (case aP => exact Kd.M_row (Kd.R_mono (Kd.R_tight rfl (Kd.R_mono (ok' := fun k_ => ((fun _ => True)) k_ ∧ some k_ ≠ (u5 : Value).ownBlock) (Kd.R_apart' (HO_7.out) (Kd.S_typed HO_5.out) (by decide)) (fun k_ hk => ⟨trivial, hk.2⟩))) (fun _ h_ => h_))); (case aB => exact (by repeat (first | (with_reducible first | exact HB.out | apply below_alloc | apply pw_below_drewN | apply below_drew1) | exact HB.out))); (case aF => exact (fun _ _ => trivial)); (case aO => exact (by (with_reducible repeat (first | apply Kd.S_alloc | apply Kd.S_drewN | apply Kd.S_drew)); exact Kd.S_mono HO_5.out (fun k_ hk => ⟨trivial, fun e_ => hk e_⟩))); (case aS => exact (below_size (by repeat (first | (with_reducible first | exact HB.out | apply below_alloc | apply pw_below_drewN | apply below_drew1) | exact HB.out)))); (case aL => have := LMc19.out; omega); intro v358 w20 ho hb hg hat; rw [← Ny357.out] at ho; have n0_ := Aside0.mk (hb); have n1_ := Aside0.mk (ho); clear HB; clear HO_5; clear HO_7; have HB := n0_; have HO359 := n1_; clear n0_ n1_; clear ho hb hg hat))
           go_roundg k2
           case measure => have := HK1.out; have := HK2.out; omega
           case rel => exact ⟨(y357), (wrap64 (x6_1 + a1)), (by first | rfl | (simp; done) | (simp [*]; done)), H', ⟨by have := HK1.out; have := HK2.out; omega⟩, ⟨by (with_reducible repeat (first | apply Kd.S_alloc | apply Kd.S_drewN | apply Kd.S_drew)); exact HO359.out⟩, ⟨by repeat (first | (with_reducible first | exact HB.out | apply below_alloc | apply pw_below_drewN | apply below_drew1) | exact HB.out)⟩⟩
          ·rw [if_neg c19] at H
           exact absurd H (by simp)
        ·rw [if_neg c10] at H
         have c10b0 : decide (x8_2 < a1) = false := decide_eq_false c10
         clear c10
         by_cases c22 : x5_1.length < 5864062014805
         ·rw [if_pos c22] at H
          have LMc22 := Aside0.mk c22
          clear c22
          obtain ⟨y360, hy360⟩ : ∃ y_ : List (List Int), y_ = (x5_1 ++ [x7_2]) := ⟨_, rfl⟩
          replace H : (geyserref04_Split.l0 k2 l0 a1 y360 (wrap64 (x6_1 + a1))) = some r := by first | (rw [hy360]; with_reducible exact H) | (have H2_ := (Option.bind_some _ _).symm.trans H; rw [hy360]; with_reducible exact H2_) | (have H2_ := (Option.bind_some _ _).symm.trans H; with_reducible exact H2_) | with_reducible exact H | (rw [hy360]; exact H) | exact H
          have Ny360 := Aside0.mk hy360
          clear hy360
          have H' := Aside0.mk H
          clear H
          obtain ⟨Ao24, co24, eo24⟩ := Kd.R_slice HO_7.out
          subst eo24
          go_wp2_with (first | ((with_reducible refine gate_builtin (b := .append) (xs := #[.tmp 41, .tmp 43]) rfl ?_); (try (refine gate_guard (by rfl) ?_; dsimp only)); at_builtin; refine Kd.S_append (Kd.slice 5 (Kd.int .u8)) (w0 := w) w.heap.size rfl (.tmp 41) (.tmp 43) 40 42 (.slice none 0 0) 24 rfl Tryd.underlying40 info42 rfl (by decide) (by omega) u5 x5_1 x7_2 [.slice Ao24 x7_2.length co24] (fun _ => True) (fun k_ => some k_ = (.slice Ao24 x7_2.length co24 : Value).ownBlock) rfl rfl ?aP (fun k_ hk_ => ((Kd.R_mono (ok' := fun k_ => ((fun _ => True)) k_ ∧ some k_ ≠ (u5 : Value).ownBlock) (Kd.R_apart' (HO_7.out) (Kd.S_typed HO_5.out) (by decide)) (fun k_ hk => ⟨trivial, hk.2⟩))).1 k_ hk_.symm) ?aF ?aO ?aB ?aS ?aL ?_; (case aP => exact Kd.M_row (Kd.R_mono (Kd.R_tight rfl (Kd.R_mono (ok' := fun k_ => ((fun _ => True)) k_ ∧ some k_ ≠ (u5 : Value).ownBlock) (Kd.R_apart' (HO_7.out) (Kd.S_typed HO_5.out) (by decide)) (fun k_ hk => ⟨trivial, hk.2⟩))) (fun _ h_ => h_))); (case aB => exact (by repeat (first | (with_reducible first | exact HB.out | apply below_alloc | apply pw_below_drewN | apply below_drew1) | exact HB.out))); (case aF => exact (fun _ _ => trivial)); (case aO => exact (by (with_reducible repeat (first | apply Kd.S_alloc | apply Kd.S_drewN | apply Kd.S_drew)); exact Kd.S_mono HO_5.out (fun k_ hk => ⟨trivial, fun e_ => hk e_⟩))); (case aS => exact (below_size (by repeat (first | (with_reducible first | exact HB.out | apply below_alloc | apply pw_below_drewN | apply below_drew1) | exact HB.out)))); (case aL => have := LMc22.out; omega); intro v361 w23 ho hb hg hat; rw [← Ny360.out] at ho; have n0_ := Aside0.mk (hb); have n1_ := Aside0.mk (ho); clear HB; clear HO_5; clear HO_7; have HB := n0_; have HO362 := n1_; clear n0_ n1_; clear ho hb hg hat))
          go_roundg k2
          case measure => have := HK1.out; have := HK2.out; omega
          case rel => exact ⟨(y360), (wrap64 (x6_1 + a1)), (by first | rfl | (simp; done) | (simp [*]; done)), H', ⟨by have := HK1.out; have := HK2.out; omega⟩, ⟨by (with_reducible repeat (first | apply Kd.S_alloc | apply Kd.S_drewN | apply Kd.S_drew)); exact HO362.out⟩, ⟨by repeat (first | (with_reducible first | exact HB.out | apply below_alloc | apply pw_below_drewN | apply below_drew1) | exact HB.out)⟩⟩
         ·rw [if_neg c22] at H
          exact absurd H (by simp)
     ·rw [if_neg c7] at H
      exact absurd H (by simp)
    ·rw [if_neg c6] at H
     exact absurd H (by simp)
   ·rw [if_neg c5] at H
    have c5b0 : decide (x6_1 < (l0.length : Int)) = false := decide_eq_false c5
    clear c5
    obtain rfl := Option.some.inj H
    go_wp2
    go_ret
    exact ⟨_, by first | rfl | (simp [errW_none, errW_some] <;> rfl) | (simp [*, errW_none, errW_some] <;> rfl), by (with_reducible repeat (first | apply Kd.S_alloc | apply Kd.S_drewN | apply Kd.S_drew)); exact HO_5.out, by repeat (first | (with_reducible first | exact HB.out | apply below_alloc | apply pw_below_drewN | apply below_drew1) | exact HB.out)⟩

end Go.Proofs.YtomeefngdnmdaaaDoor.P

namespace Go.Proofs.YtomeefngdnmdaaaDoor.Pure
open Go.RowKit Go.Proofs.YtomeefngdnmdaaaDoor.P Go.Proofs.YtomeefngdnmdaaaDoorW.PrintWords Go.Proofs.YtomeefngdnmdaaaDoorW.PrintLast Go.Proofs.YtomeefngdnmdaaaDoorW.PrintErr Go.Proofs.YtomeefngdnmdaaaDoorW.PrintMore
set_option linter.unusedVariables false
set_option linter.unusedSimpArgs false

/-- A symbol: the first bytes, filled up with bytes 0. -/
def padS (n : Nat) (u : List Int) : List Int := u.take n ++ List.replicate (n - u.length) 0
theorem padS_length (n : Nat) (u : List Int) : (padS n u).length = n := by simp [padS]; omega
def splitL : Nat → Nat → List Int → List (List Int)
  | 0, _, _ => []
  | f + 1, n, u => if u.length = 0 then [] else padS n u :: splitL f n (u.drop n)
theorem splitL_length (n : Nat) (hn : 1 ≤ n) : ∀ (f : Nat) (u : List Int), (splitL f n u).length ≤ u.length := by
  intro f
  induction f with
  | zero => intro u; simp [splitL]
  | succ f ih =>
    intro u
    unfold splitL
    split
    · simp
    · have := ih (u.drop n)
      simp only [List.length_cons, List.length_drop] at this ⊢
      omega
theorem splitL_mem (n : Nat) : ∀ (f : Nat) (u : List Int), ∀ s ∈ splitL f n u, s.length = n := by
  intro f
  induction f with
  | zero => intro u s hs; simp [splitL] at hs
  | succ f ih =>
    intro u s hs
    unfold splitL at hs
    split at hs
    · simp at hs
    · rcases List.mem_cons.1 hs with rfl | hs
      · exact padS_length n u
      · exact ih _ s hs
theorem rsp_inner (t : List Int) (n : Nat) (acc : List (List Int)) (pos : Nat) (r : List (List Int)) (hn : n ≤ 64) (hp : pos < t.length) (ht : t.length ≤ 5864062014804) (hacc : acc.length < 5864062014805)
    (h : Ev (fun k => geyserref04_Split.l0 k t (n : Int) (acc ++ [padS n (t.drop pos)]) (wrap64 ((pos : Int) + (n : Int)))) r) :
    ∀ (d i : Nat), i + d = n → pos + i ≤ t.length → Ev (fun k => geyserref04_Split.l1 k t (n : Int) acc (pos : Int) ((t.drop pos).take i ++ List.replicate d 0) (i : Int)) r := by
  intro d
  induction d with
  | zero =>
    intro i hi hb
    refine Ev.step (fun k => ?_) h
    rw [geyserref04_Split.l1, if_neg (by omega), if_pos hacc]
    have e : padS n (t.drop pos) = (t.drop pos).take i ++ List.replicate 0 0 := by
      unfold padS
      rw [show i = n by omega, show n - (t.drop pos).length = 0 by rw [List.length_drop]; omega]
    rw [e]
  | succ d ih =>
    intro i hi hb
    have hlen : ((t.drop pos).take i).length = i := by rw [List.length_take, List.length_drop]; omega
    have e1 : wrap64 ((pos : Int) + (i : Int)) = ((pos + i : Nat) : Int) := by rw [w64s (by omega) (by omega)]; rfl
    have e2 : wrap64 ((i : Int) + 1) = ((i + 1 : Nat) : Int) := by rw [w64s (by omega) (by omega)]; rfl
    by_cases hb2 : pos + i < t.length
    · have h' := ih (i + 1) (by omega) (by omega)
      refine Ev.step (fun k => ?_) h'
      rw [geyserref04_Split.l1, if_pos (by omega), e1, if_pos (by omega), if_pos (by omega), if_pos (by omega), if_pos (by rw [List.length_append, List.length_replicate, hlen]; omega), e2]
      have e3 : rd t ((pos + i : Nat) : Int) = t.getD (pos + i) 0 := by unfold rd; rw [Int.toNat_natCast]
      have e4 : (t.drop pos).take (i + 1) = (t.drop pos).take i ++ [t.getD (pos + i) 0] := by
        rw [List.take_succ_eq_append_getElem (by rw [List.length_drop]; omega), List.getElem_drop, List.getD_eq_getElem?_getD, List.getElem?_eq_getElem hb2]
        rfl
      have e5 : List.replicate (d + 1) (0 : Int) = 0 :: List.replicate d 0 := rfl
      have e6 := set_mid ((t.drop pos).take i) (List.replicate d 0) 0 (t.getD (pos + i) 0)
      rw [hlen] at e6
      rw [e3, Int.toNat_natCast, e5, e6, e4]
    · refine Ev.step (fun k => ?_) h
      rw [geyserref04_Split.l1, if_pos (by omega), e1, if_neg (by omega), if_pos hacc]
      have e : padS n (t.drop pos) = (t.drop pos).take i ++ List.replicate (d + 1) 0 := by
        unfold padS
        rw [List.length_drop, List.take_of_length_le (show (t.drop pos).length ≤ n by rw [List.length_drop]; omega), List.take_of_length_le (show (t.drop pos).length ≤ i by rw [List.length_drop]; omega), show n - (t.length - pos) = d + 1 by omega]
      rw [e]
theorem rsp_outer (t : List Int) (n : Nat) (hn0 : 1 ≤ n) (hn : n ≤ 64) (ht : t.length ≤ 5864062014804) : ∀ (f pos : Nat) (acc : List (List Int)), t.length ≤ pos + f → acc.length + (t.length - pos) ≤ 5864062014804 → pos ≤ t.length + 64 →
    Ev (fun k => geyserref04_Split.l0 k t (n : Int) acc (pos : Int)) (acc ++ splitL f n (t.drop pos)) := by
  intro f
  induction f with
  | zero =>
    intro pos acc hf hacc hpos
    have e : splitL 0 n (t.drop pos) = [] := rfl
    rw [e, List.append_nil]
    refine Ev.step (f := fun _ => some acc) (fun k => ?_) (Ev.now _)
    rw [geyserref04_Split.l0, if_neg (by omega)]
  | succ f ih =>
    intro pos acc hf hacc hpos
    by_cases hp : pos < t.length
    · have h' := ih (pos + n) (acc ++ [padS n (t.drop pos)]) (by omega) (by simp; omega) (by omega)
      have e1 : ((pos + n : Nat) : Int) = wrap64 ((pos : Int) + (n : Int)) := by rw [w64s (by omega) (by omega)]; rfl
      have e2 : acc ++ splitL (f + 1) n (t.drop pos) = acc ++ [padS n (t.drop pos)] ++ splitL f n (t.drop (pos + n)) := by
        have hl : ¬ (t.drop pos).length = 0 := by rw [List.length_drop]; omega
        rw [splitL, if_neg hl, List.drop_drop, List.append_assoc]
        rfl
      rw [e1] at h'
      rw [e2]
      have hi := rsp_inner t n acc pos _ hn hp ht (by omega) h' n 0 (by omega) (by omega)
      refine Ev.step (fun k => ?_) hi
      rw [geyserref04_Split.l0, if_pos (by omega), if_pos (by omega), if_pos (by omega), Int.toNat_natCast, List.take_zero, List.nil_append]
      rfl
    · have e : splitL (f + 1) n (t.drop pos) = [] := by
        rw [splitL, if_pos (by rw [List.length_drop]; omega)]
      rw [e, List.append_nil]
      refine Ev.step (f := fun _ => some acc) (fun k => ?_) (Ev.now _)
      rw [geyserref04_Split.l0, if_neg (by omega)]
theorem rsp_ev (t : List Int) (n : Nat) (hn0 : 1 ≤ n) (hn : n ≤ 64) (ht : t.length ≤ 5864062014804) : Ev (fun k => geyserref04_Split.f k t (n : Int)) (splitL t.length n t) := by
  have h := rsp_outer t n hn0 hn ht t.length 0 [] (by omega) (by simp; omega) (by omega)
  rw [List.nil_append, List.drop_zero] at h
  exact h
end Go.Proofs.YtomeefngdnmdaaaDoor.Pure

namespace Go.Proofs.YtomeefngdnmdaaaDoor.P
open Go.RowKit Go.Proofs.YtomeefngdnmdaaaDoorW.PrintWords Go.Proofs.YtomeefngdnmdaaaDoorW.PrintLast Go.Proofs.YtomeefngdnmdaaaDoorW.PrintErr Go.Proofs.YtomeefngdnmdaaaDoorW.PrintMore
attribute [local go_sem] max2_int min2_int max_two min_two max_three min_three max_four min_four run_eql_errOf run_neq_errOf eqGuard_errOf   -- for this text's walks alone
set_option linter.unusedVariables false
set_option linter.unusedSimpArgs false

/-! ### symbol_Split: function 32 -/
def symbol_Split.l0 : Nat → List Int → Int → List (List Int) → Option ((List (List Int)) × List FE)
 | 0, _, _, _ => none
 | k + 1, x0, x1, x7 => if (x0.length : Int) > 0 then (if 0 ≤ x1 then (if (x1 : Int).toNat ≤ 281474976710656 then ((some (List.replicate (x1 : Int).toNat 0 : List Int)).bind fun y284 => (if 0 ≤ (copyN y284 x0 : Int) then (if (copyN y284 x0 : Int) ≤ (x0.length : Int) then (if x7.length < 5864062014805 then (symbol_Split.l0 k (x0.drop ((copyN y284 x0 : Int) : Int).toNat) x1 (x7 ++ [(copyL y284 x0)])) else (none)) else (none)) else (none))) else (none)) else (none)) else (some (x7, ([] : List FE)))
def symbol_Split.f (k : Nat) (l0 : List Int) (a1 : Int) : Option ((List (List Int)) × List FE) := (symbol_check.f k ([] : List (List Int)) a1).bind fun t280 => (if t280 = 0 then (symbol_Split.l0 k l0 a1 ([] : List (List Int))) else ((fault_New.f (⟨#[115, 121, 109, 98, 111, 108, 46, 83, 112, 108, 105, 116]⟩ : ByteArray) t280).bind fun t281 => (some (([] : List (List Int)), t281))))
theorem symbol_Split.mono_l : ∀ k, (∀ y0 y1 y2, LeO (symbol_Split.l0 k y0 y1 y2) (symbol_Split.l0 (k + 1) y0 y1 y2))
 | 0 => fun _ _ _ r h => by simp [symbol_Split.l0] at h
 | k + 1 => by
  have ih0 := symbol_Split.mono_l k
  ·intro y0 y1 y2
   unfold symbol_Split.l0
   repeat' first
   | (with_reducible exact ih0 _ _ _)
   | (with_reducible exact symbol_check.mono _ _ _)
   | (with_reducible exact LeO.refl _)
   | (with_reducible exact LeO.none _)
   | (with_reducible refine LeO.ite ?_ ?_)
   | (with_reducible refine LeO.bind ?_ (fun _ => ?_))
   | exact ih0 _ _ _
   | exact symbol_check.mono _ _ _
   | exact LeO.none _
   | refine LeO.ite ?_ ?_
   | refine LeO.bind ?_ (fun _ => ?_)
theorem symbol_Split.mono : ∀ a0 a1 k, LeO (symbol_Split.f k a0 a1) (symbol_Split.f (k + 1) a0 a1) := by
 intro a0 a1 k
 have ih0 := symbol_Split.mono_l k
 unfold symbol_Split.f
 repeat' first
   | (with_reducible exact ih0 _ _ _)
   | (with_reducible exact symbol_check.mono _ _ _)
   | (with_reducible exact LeO.refl _)
   | (with_reducible exact LeO.none _)
   | (with_reducible refine LeO.ite ?_ ?_)
   | (with_reducible refine LeO.bind ?_ (fun _ => ?_))
   | exact ih0 _ _ _
   | exact symbol_check.mono _ _ _
   | exact LeO.none _
   | refine LeO.ite ?_ ?_
   | refine LeO.bind ?_ (fun _ => ?_)
set_option maxHeartbeats 8000000 in
set_option maxRecDepth 100000 in
theorem symbol_Split.calls (k : Nat) (P0_ : Nat → Prop) (A0 : Option Addr) (c0 : Nat) (l0 : List Int) (a1 : Int) (r1 : List (List Int)) (r2 : List FE) (w : World) (hs0 : Kd.V (Kd.int .u8) 5 w w.heap.size (fun k_ => P0_ k_) (.slice A0 l0.length c0) l0) (h : symbol_Split.f k l0 a1 = some (r1, r2)) :
  Calls Tryd.prog 32 #[.slice A0 l0.length c0, .int .i64 a1] w fun e w' => ∃ v0_ v1_ : Value, e = .returned (.tuple #[v0_, (errOf v1_)]) ∧ Kd.S (Kd.slice 5 (Kd.int .u8)) 42 w' w.heap.size (fun k_ => (w.heap.size ≤ k_)) v0_ r1 ∧ Kd.R kF 61 w' w.heap.size (fun k_ => (w.heap.size ≤ k_)) v1_ r2 ∧ Below w.heap.size w w' := by
 have HO0 := Aside0.mk (show Kd.V (Kd.int .u8) 5 w w.heap.size (fun k_ => (P0_ k_ ∨ w.heap.size ≤ k_)) (.slice A0 l0.length c0) l0 from Kd.V_mono hs0 (fun k_ hk => .inl hk))
 have HB := Aside0.mk (Below.refl w.heap.size w)
 have H : ((symbol_check.f k ([] : List (List Int)) a1).bind fun t280 => (if t280 = 0 then (symbol_Split.l0 k l0 a1 ([] : List (List Int))) else ((fault_New.f (⟨#[115, 121, 109, 98, 111, 108, 46, 83, 112, 108, 105, 116]⟩ : ByteArray) t280).bind fun t281 => (some (([] : List (List Int)), t281))))) = some (r1, r2) := h
 clear h
 replace H := Option.bind_eq_some_iff.mp H
 obtain ⟨t280, A30, H⟩ := H
 replace H : (if t280 = 0 then (symbol_Split.l0 k l0 a1 ([] : List (List Int))) else ((fault_New.f (⟨#[115, 121, 109, 98, 111, 108, 46, 83, 112, 108, 105, 116]⟩ : ByteArray) t280).bind fun t281 => (some (([] : List (List Int)), t281)))) = some (r1, r2) := H
 have A3 := Aside0.mk A30
 clear A30
 by_cases c4 : t280 = 0
 ·rw [if_pos c4] at H
  have c4b0 : (t280 == 0) = true := beq_iff_eq.mpr c4
  have c4b1 : (t280 != 0) = false := bne_eq_false_iff_eq.mpr c4
  clear c4
  have H' := Aside0.mk H
  clear H
  go_enter Tryd.func32, Tryd.ntmps32
  go_wp2_with (first | ((with_reducible refine gate_callee (f := 40) rfl ?_); refine goesL_ (some 11) rfl rfl Tryd.func40 (by kernel_rfl) rfl #[.slice none 0 0, .int .i64 a1] rfl (by (try simp only [List.map_toArray, List.map_cons, List.map_nil]); first | done | rfl | (simp only [List.length_drop, List.length_take]; rfl)) ?_; (refine (symbol_check.calls k _ _ ([] : List (List Int)) a1 t280 _ ?side1 ?side2 A3.out).mono ?_); (case side1 => exact Kd.C_nil _ _); (case side2 => exact Nat.le_refl _); rintro e w' ⟨rfl, ⟨nd, rfl⟩⟩; refine ⟨_, rfl, ?_⟩))
  go_loopg [0, 7] k (fun kq v0 v7 w' => ∃ (x0_1 : List Int) (x7_1 : List (List Int)), Aside0 (symbol_Split.l0 kq x0_1 a1 x7_1 = some (r1, r2)) ∧ Aside0 (kq ≤ k) ∧ Aside0 (Kd.V (Kd.int .u8) 5 w' w.heap.size (fun k_ => (P0_ k_ ∨ w.heap.size ≤ k_) ∧ some k_ ≠ (v7 : Value).ownBlock) v0 x0_1) ∧ Aside0 (Kd.S (Kd.slice 5 (Kd.int .u8)) 42 w' w.heap.size (fun k_ => (w.heap.size ≤ k_)) v7 x7_1) ∧ Aside0 (Below w.heap.size w w'))
  case atStart => exact ⟨(l0), (([] : List (List Int))), H', ⟨Nat.le_refl _⟩, ⟨by (with_reducible repeat (first | apply Kd.V_alloc | apply Kd.V_drewN | apply Kd.V_drew)); exact Kd.V_mono HO0.out (fun _ hk => ⟨hk, (by simp [Value.ownBlock])⟩)⟩, ⟨by first | exact Kd.S_nil _ _ _ _ _ | exact Kd.N_nil _ _ _ _ _ | exact Kd.V_nil _ _ _ _ _ | exact Kd.Q_nil _ _ _ _ _ | exact Kd.R_nil _ _ _ _ _⟩, ⟨by repeat (first | (with_reducible first | exact HB.out | apply below_alloc | apply pw_below_drewN | apply below_drew1) | exact HB.out)⟩⟩
  case round =>
   clear H'
   try clear p2
   try clear c3
   try clear c4
   try clear c4b0
   try clear c4b1
   obtain ⟨x0_1, x7_1, HA, HK1, HO_0, HO_7, HB⟩ := hrel
   cases gk with
   | zero => exact absurd HA.out (by simp [symbol_Split.l0])
   | succ k1 =>
    have H := HA.out
    clear HA
    simp only [symbol_Split.l0] at H
    by_cases c5 : (x0_1.length : Int) > 0
    ·rw [if_pos c5] at H
     have c5b0 : decide (0 < (x0_1.length : Int)) = true := decide_eq_true c5
     have c5b1 : decide (0 < x0_1.length) = true := decide_eq_true (by omega)
     clear c5
     by_cases c6 : 0 ≤ a1
     ·rw [if_pos c6] at H
      have c6b0 := eq_true c6
      have c6b1 : decide (0 ≤ a1) = true := decide_eq_true c6
      clear c6
      by_cases c7 : (a1 : Int).toNat ≤ 281474976710656
      ·rw [if_pos c7] at H
       have c7b0 := eq_true c7
       have c7b1 : decide ((a1 : Int).toNat ≤ 281474976710656) = true := decide_eq_true c7
       clear c7
       obtain ⟨y284, hy284⟩ : ∃ y_ : List Int, y_ = (List.replicate (a1 : Int).toNat 0) := ⟨_, rfl⟩
       replace H : (if 0 ≤ (copyN y284 x0_1 : Int) then (if (copyN y284 x0_1 : Int) ≤ (x0_1.length : Int) then (if x7_1.length < 5864062014805 then (symbol_Split.l0 k1 (x0_1.drop ((copyN y284 x0_1 : Int) : Int).toNat) a1 (x7_1 ++ [(copyL y284 x0_1)])) else (none)) else (none)) else (none)) = some (r1, r2) := by first | (rw [hy284]; with_reducible exact H) | (have H2_ := (Option.bind_some _ _).symm.trans H; rw [hy284]; with_reducible exact H2_) | (have H2_ := (Option.bind_some _ _).symm.trans H; with_reducible exact H2_) | with_reducible exact H | (rw [hy284]; exact H) | exact H
       have Ny284 := Aside0.mk hy284
       clear hy284
       obtain ⟨y287, hy287⟩ : ∃ y_ : List Int, y_ = (copyL y284 x0_1) := ⟨_, rfl⟩
       replace H : (if 0 ≤ (copyN y284 x0_1 : Int) then (if (copyN y284 x0_1 : Int) ≤ (x0_1.length : Int) then (if x7_1.length < 5864062014805 then (symbol_Split.l0 k1 (x0_1.drop ((copyN y284 x0_1 : Int) : Int).toNat) a1 (x7_1 ++ [y287])) else (none)) else (none)) else (none)) = some (r1, r2) := by first | (rw [hy287]; with_reducible exact H) | (have H2_ := (Option.bind_some _ _).symm.trans H; rw [hy287]; with_reducible exact H2_) | (have H2_ := (Option.bind_some _ _).symm.trans H; with_reducible exact H2_) | with_reducible exact H | (rw [hy287]; exact H) | exact H
       have Ny287 := Aside0.mk hy287
       clear hy287
       by_cases c8 : 0 ≤ (copyN y284 x0_1 : Int)
       ·rw [if_pos c8] at H
        have c8b0 := eq_true c8
        have c8b1 : decide (0 ≤ (copyN y284 x0_1 : Int)) = true := decide_eq_true c8
        clear c8
        by_cases c9 : (copyN y284 x0_1 : Int) ≤ (x0_1.length : Int)
        ·rw [if_pos c9] at H
         have c9b0 := eq_true c9
         have c9b1 : decide ((copyN y284 x0_1 : Int) ≤ (x0_1.length : Int)) = true := decide_eq_true c9
         clear c9
         obtain ⟨y288, hy288⟩ : ∃ y_ : List Int, y_ = (x0_1.drop ((copyN y284 x0_1 : Int) : Int).toNat) := ⟨_, rfl⟩
         replace H : (if x7_1.length < 5864062014805 then (symbol_Split.l0 k1 y288 a1 (x7_1 ++ [y287])) else (none)) = some (r1, r2) := by first | (rw [hy288]; with_reducible exact H) | (have H2_ := (Option.bind_some _ _).symm.trans H; rw [hy288]; with_reducible exact H2_) | (have H2_ := (Option.bind_some _ _).symm.trans H; with_reducible exact H2_) | with_reducible exact H | (rw [hy288]; exact H) | exact H
         have Ny288 := Aside0.mk hy288
         clear hy288
         by_cases c10 : x7_1.length < 5864062014805
         ·rw [if_pos c10] at H
          have LMc10 := Aside0.mk c10
          clear c10
          obtain ⟨y293, hy293⟩ : ∃ y_ : List (List Int), y_ = (x7_1 ++ [y287]) := ⟨_, rfl⟩
          replace H : (symbol_Split.l0 k1 y288 a1 y293) = some (r1, r2) := by first | (rw [hy293]; with_reducible exact H) | (have H2_ := (Option.bind_some _ _).symm.trans H; rw [hy293]; with_reducible exact H2_) | (have H2_ := (Option.bind_some _ _).symm.trans H; with_reducible exact H2_) | with_reducible exact H | (rw [hy293]; exact H) | exact H
          have Ny293 := Aside0.mk hy293
          clear hy293
          have H' := Aside0.mk H
          clear H
          obtain ⟨Ao11, co11, eo11⟩ := Kd.V_slice HO_0.out
          subst eo11
          go_wp2_with (first | ((with_reducible refine gate_dst (N := 20) rfl ?_); refine Kd.R_make (Kd.int .u8) _ 5 rfl (N := 20) rfl 42 _ _ rfl a1 rfl rfl Tryd.underlying42 (.int .u8 0) 1 info5 rfl (by decide) (by omega) 0 (ok := fun _ => True) (okp := fun _ => True) rfl (fun _ hk => hk) trivial (of_decide_eq_true (by first | (with_reducible assumption) | assumption)) (Nat.le_trans (Nat.mul_le_mul_right _ (of_decide_eq_true (by first | (with_reducible assumption) | assumption) : a1.toNat ≤ 281474976710656)) (by omega)) (Below.refl _ _) (Nat.le_refl _) ?_; intro v285 w12 ho13 hb hg_ hnew_; clear hg_ hnew_; (first | rw [← Ny284.out] at ho13 | (simp only [Int.reduceToNat] at ho13; rw [← Ny284.out] at ho13)); have n0_ := Aside0.mk (Kd.V_elder' (by (with_reducible repeat (first | apply Kd.V_alloc | apply Kd.V_drewN | apply Kd.V_drew)); exact HO_0.out) (Kd.R_base ho13) hb); have n1_ := Aside0.mk (Kd.S_elder' (by (with_reducible repeat (first | apply Kd.S_alloc | apply Kd.S_drewN | apply Kd.S_drew)); exact HO_7.out) (Kd.R_base ho13) hb); have n2_ := Aside0.mk (Kd.R_lower (Kd.R_newM (M := fun k_ => (w.heap.size ≤ k_)) ho13 (below_size (by repeat (first | (with_reducible first | exact HB.out | apply below_alloc | apply pw_below_drewN | apply below_drew1) | exact HB.out))) (fun k_ h_ => h_)) (below_size (by repeat (first | (with_reducible first | exact HB.out | apply below_alloc | apply pw_below_drewN | apply below_drew1) | exact HB.out)))); have n3_ := Aside0.mk (below_step (by repeat (first | (with_reducible first | exact HB.out | apply below_alloc | apply pw_below_drewN | apply below_drew1) | exact HB.out)) hb); clear HO_0; clear HO_7; clear HB; have HO_0 := n0_; have HO_7 := n1_; have HO286 := n2_; have HB := n3_; clear n0_ n1_ n2_ n3_; clear hb ho13; obtain ⟨Ao14, co14, eo14⟩ := Kd.R_slice HO286.out; subst eo14; have n_ := Aside0.mk (Kd.R_mono (ok' := (fun k_ => (w.heap.size ≤ k_))) HO286.out (fun k_ hk => hk.1)); clear HO286; have HO286 := n_; clear n_) | ((with_reducible refine gate_builtin (b := .copy) (xs := #[.tmp 21, .tmp 22]) rfl ?_); refine R_copy_event (w0 := w) w.heap.size rfl (.tmp 21) (.tmp 22) 42 42 rfl 5 Tryd.underlying42 (by kernel_rfl) (.slice Ao14 y284.length co14) y284 Ao11 _ co11 x0_1 (fun k_ => (w.heap.size ≤ k_)) rfl rfl (by (with_reducible repeat (first | apply Kd.R_alloc | apply Kd.R_drewN | apply Kd.R_drew)); exact HO286.out) ?cS (by repeat (first | (with_reducible first | exact HB.out | apply below_alloc | apply pw_below_drewN | apply below_drew1) | exact HB.out)) ?_; (case cS => repeat (first | exact (Kd.V_reads' HO_0.out).2.2 | (with_reducible refine Kd.C_alloc ?_ _) | (with_reducible refine Kd.C_drewN ?_ _) | (with_reducible refine Kd.C_drew ?_))); intro w16 hp_ hb_ hg; rw [← Ny287.out] at hp_; have hw := True.intro; have n0_ := Aside0.mk (Kd.V_afterv (v := (.slice Ao14 y284.length co14)) (v1 := (.slice Ao14 y284.length co14)) (ok := (fun k_ => (P0_ k_ ∨ w.heap.size ≤ k_) ∧ some k_ ≠ (u7 : Value).ownBlock)) (by (with_reducible repeat (first | apply Kd.V_alloc | apply Kd.V_drewN | apply Kd.V_drew)); exact HO_0.out) hg (.inl rfl)); have n1_ := Aside0.mk (Kd.S_after (v := (.slice Ao14 y284.length co14)) (v1 := (.slice Ao14 y284.length co14)) (ok := (fun k_ => (w.heap.size ≤ k_))) (by (with_reducible repeat (first | apply Kd.S_alloc | apply Kd.S_drewN | apply Kd.S_drew)); exact HO_7.out) hg (.inl rfl)); have n2_ := Aside0.mk (hp_); have n3_ := Aside0.mk (hb_); clear HO_0; clear HO_7; clear HO286; clear HB; have HO_0 := n0_; have HO_7 := n1_; have HO286 := n2_; have HB := n3_; clear n0_ n1_ n2_ n3_; clear hg hw hp_ hb_; have q17 : ((copyN y284 x0_1 : Int) : Int) ≤ ((x0_1.length : Int) : Int) := of_decide_eq_true (by first | (with_reducible assumption) | assumption); obtain ⟨i017, hi017, _, hsz17, _⟩ := info_parts info5; have hroom17 : x0_1.length ≤ co11 := (Kd.V_reads' HO_0.out).2.1; have hC17 : Kd.F (Kd.int .u8) _ _ Ao11 x0_1.length x0_1 := (Kd.V_at (base := w.heap.size) HO_0.out).2.2; have q017 : (0 : Int) ≤ ((copyN y284 x0_1 : Int) : Int) := of_decide_eq_true (by first | (with_reducible assumption) | assumption); have hcut17 := cut_from (P := Tryd.prog) 42 5 .i64 Tryd.underlying42 hi017 1 hsz17 Ao11 x0_1.length co11 (copyN y284 x0_1 : Int) q017 q17; have hr17 := Kd.F_cut (m := ((copyN y284 x0_1 : Int) : Int).toNat) (c := co11) hC17 (by omega) hroom17; obtain ⟨A17, hA17⟩ : ∃ A1, A1 = (if co11 = ((copyN y284 x0_1 : Int) : Int).toNat then Ao11 else (Ao11 : Option Addr).map (·.add (((copyN y284 x0_1 : Int) : Int).toNat * 1))) := ⟨_, rfl⟩; obtain ⟨c17, hc17⟩ : ∃ c1, c1 = co11 - ((copyN y284 x0_1 : Int) : Int).toNat := ⟨_, rfl⟩; have hy17 : y288.length = x0_1.length - ((copyN y284 x0_1 : Int) : Int).toNat := (by rw [Ny288.out, List.length_drop] <;> omega); rw [show (x0_1).drop ((copyN y284 x0_1 : Int) : Int).toNat = y288 from Ny288.out.symm] at hr17; replace hr17 : Kd.F (Kd.int .u8) _ _ A17 y288.length y288 := (by rw [hA17]; exact hr17); rw [← hy17, ← hA17, ← hc17] at hcut17; have HO292 := Aside0.mk (show Kd.V (Kd.int .u8) 5 _ w.heap.size _ (.slice A17 y288.length c17) y288 from Kd.V_mk (by rw [hy17, hc17]; exact Nat.sub_le_sub_right hroom17 _) hr17); have HC292 := Aside0.mk (show y288.length ≤ c17 from by rw [hy17, hc17]; exact Nat.sub_le_sub_right hroom17 _); clear hr17 hC17 hroom17 hi017 hsz17 hc17; have KY17 := Aside0.mk hy17; have KA17 := Aside0.mk hA17; clear hy17 hA17; replace q17 := eq_true q17) | ((with_reducible refine gate_builtin (b := .append) (xs := #[.tmp 27, .tmp 29]) rfl ?_); at_builtin; refine Kd.S_append (Kd.slice 5 (Kd.int .u8)) (w0 := w) w.heap.size rfl (.tmp 27) (.tmp 29) 40 42 (.slice none 0 0) 24 rfl Tryd.underlying40 info42 rfl (by decide) (by omega) u7 x7_1 y287 [.slice Ao14 y284.length co14] (fun k_ => (w.heap.size ≤ k_)) (fun k_ => some k_ = (.slice Ao14 y284.length co14 : Value).ownBlock) rfl rfl ?aP (fun k_ hk_ => ((Kd.R_mono (ok' := fun k_ => ((fun k_ => (w.heap.size ≤ k_))) k_ ∧ some k_ ≠ (u7 : Value).ownBlock) (Kd.R_apart' (HO286.out) (Kd.S_typed HO_7.out) (by decide)) (fun k_ hk => ⟨hk.1, hk.2⟩))).1 k_ hk_.symm) ?aF ?aO ?aB ?aS ?aL ?_; (case aP => exact Kd.M_row (Kd.R_mono (Kd.R_tight rfl (Kd.R_mono (ok' := fun k_ => ((fun k_ => (w.heap.size ≤ k_))) k_ ∧ some k_ ≠ (u7 : Value).ownBlock) (Kd.R_apart' (HO286.out) (Kd.S_typed HO_7.out) (by decide)) (fun k_ hk => ⟨hk.1, hk.2⟩))) (fun _ h_ => h_))); (case aB => exact (by repeat (first | (with_reducible first | exact HB.out | apply below_alloc | apply pw_below_drewN | apply below_drew1) | exact HB.out))); (case aF => exact (fun k_ hk => (Nat.le_trans (below_size (by repeat (first | (with_reducible first | exact HB.out | apply below_alloc | apply pw_below_drewN | apply below_drew1) | exact HB.out))) hk))); (case aO => exact (by (with_reducible repeat (first | apply Kd.S_alloc | apply Kd.S_drewN | apply Kd.S_drew)); exact Kd.S_mono HO_7.out (fun k_ hk => ⟨hk.1, fun e_ => hk.2 e_⟩))); (case aS => exact (below_size (by repeat (first | (with_reducible first | exact HB.out | apply below_alloc | apply pw_below_drewN | apply below_drew1) | exact HB.out)))); (case aL => have := LMc10.out; omega); intro v294 w18 ho hb hg hat; rw [← Ny293.out] at ho; have n0_ := Aside0.mk (Kd.V_afterv (ok := (fun k_ => (P0_ k_ ∨ w.heap.size ≤ k_) ∧ some k_ ≠ (.slice Ao14 y284.length co14 : Value).ownBlock)) (by (with_reducible repeat (first | apply Kd.V_alloc | apply Kd.V_drewN | apply Kd.V_drew)); exact Kd.V_mono HO_0.out (fun _ hk => ⟨⟨hk.1.1, hk.2⟩, hk.1.2⟩)) hg hat); have n1_ := Aside0.mk (Kd.V_afterv (ok := (fun k_ => (P0_ k_ ∨ w.heap.size ≤ k_) ∧ some k_ ≠ (.slice Ao14 y284.length co14 : Value).ownBlock)) (by (with_reducible repeat (first | apply Kd.V_alloc | apply Kd.V_drewN | apply Kd.V_drew)); exact Kd.V_mono HO292.out (fun _ hk => ⟨⟨hk.1.1, hk.2⟩, hk.1.2⟩)) hg hat); have n2_ := Aside0.mk (hb); have n3_ := Aside0.mk (ho); clear HO_0; clear HO292; clear HB; clear HO_7; clear HO286; have HO_0 := n0_; have HO292 := n1_; have HB := n2_; have HO295 := n3_; clear n0_ n1_ n2_ n3_; clear ho hb hg hat))
          go_roundg k1
          case measure => have := HK1.out; omega
          case rel => exact ⟨(y288), (y293), H', ⟨by have := HK1.out; omega⟩, ⟨by (with_reducible repeat (first | apply Kd.V_alloc | apply Kd.V_drewN | apply Kd.V_drew)); exact Kd.V_mono HO292.out (fun _ hk => ⟨hk.1.1, hk.2⟩)⟩, ⟨by (with_reducible repeat (first | apply Kd.S_alloc | apply Kd.S_drewN | apply Kd.S_drew)); exact HO295.out⟩, ⟨by repeat (first | (with_reducible first | exact HB.out | apply below_alloc | apply pw_below_drewN | apply below_drew1) | exact HB.out)⟩⟩
         ·rw [if_neg c10] at H
          exact absurd H (by simp)
        ·rw [if_neg c9] at H
         exact absurd H (by simp)
       ·rw [if_neg c8] at H
        exact absurd H (by simp)
      ·rw [if_neg c7] at H
       exact absurd H (by simp)
     ·rw [if_neg c6] at H
      exact absurd H (by simp)
    ·rw [if_neg c5] at H
     have c5b0 : decide (0 < (x0_1.length : Int)) = false := decide_eq_false c5
     have c5b1 : decide (0 < x0_1.length) = false := decide_eq_false (by omega)
     clear c5
     simp only [Option.some.injEq, Prod.mk.injEq] at H
     obtain ⟨rfl, rfl⟩ := H
     obtain ⟨Ao19, co19, eo19⟩ := Kd.V_slice HO_0.out
     subst eo19
     go_wp2
     go_ret2
     exact ⟨_, (.slice none 0 0), by first | rfl | (simp [errW_none, errW_some] <;> rfl) | (simp [*, errW_none, errW_some] <;> rfl), by (with_reducible repeat (first | apply Kd.S_alloc | apply Kd.S_drewN | apply Kd.S_drew)); exact HO_7.out, by first | exact Kd.R_nil _ _ _ _ _ | exact Kd.N_nil _ _ _ _ _ | exact Kd.V_nil _ _ _ _ _ | exact Kd.Q_nil _ _ _ _ _ | exact Kd.S_nil _ _ _ _ _, by repeat (first | (with_reducible first | exact HB.out | apply below_alloc | apply pw_below_drewN | apply below_drew1) | exact HB.out)⟩
 ·rw [if_neg c4] at H
  have c4b0 : (t280 == 0) = false := beq_eq_false_iff_ne.mpr c4
  have c4b1 : (t280 != 0) = true := bne_iff_ne.mpr c4
  replace H := Option.bind_eq_some_iff.mp H
  obtain ⟨t281, A200, H⟩ := H
  replace H : (some (([] : List (List Int)), t281)) = some (r1, r2) := H
  have A20 := Aside0.mk A200
  clear A200
  simp only [Option.some.injEq, Prod.mk.injEq] at H
  obtain ⟨rfl, rfl⟩ := H
  go_enter Tryd.func32, Tryd.ntmps32
  go_wp2_with (first | ((with_reducible refine gate_callee (f := 40) rfl ?_); refine goesL_ (some 11) rfl rfl Tryd.func40 (by kernel_rfl) rfl #[.slice none 0 0, .int .i64 a1] rfl (by (try simp only [List.map_toArray, List.map_cons, List.map_nil]); first | done | rfl | (simp only [List.length_drop, List.length_take]; rfl)) ?_; (refine (symbol_check.calls k _ _ ([] : List (List Int)) a1 t280 _ ?side1 ?side2 A3.out).mono ?_); (case side1 => exact Kd.C_nil _ _); (case side2 => exact Nat.le_refl _); rintro e w' ⟨rfl, ⟨nd, rfl⟩⟩; refine ⟨_, rfl, ?_⟩) | ((with_reducible refine gate_callee (f := 21) rfl ?_); refine goesL_ (some 15) rfl rfl Tryd.func21 (by kernel_rfl) rfl #[.string (⟨#[115, 121, 109, 98, 111, 108, 46, 83, 112, 108, 105, 116]⟩ : ByteArray), .int .i64 t280] rfl (by (try simp only [List.map_toArray, List.map_cons, List.map_nil]); first | done | rfl | (simp only [List.length_drop, List.length_take]; rfl)) ?_; (with_reducible refine (fault_New.calls (⟨#[115, 121, 109, 98, 111, 108, 46, 83, 112, 108, 105, 116]⟩ : ByteArray) t280 t281 _ A20.out).mono ?_); rintro e w21 ⟨v282, rfl, ho0, hb⟩; refine ⟨_, rfl, ?_⟩; have n0_ := Aside0.mk (Kd.V_below (by (with_reducible repeat (first | apply Kd.V_alloc | apply Kd.V_drewN | apply Kd.V_drew)); exact HO0.out) hb); have n1_ := Aside0.mk (Kd.R_lower (Kd.R_newM (M := fun k_ => (w.heap.size ≤ k_)) ho0 (below_size (by repeat (first | (with_reducible first | exact HB.out | apply below_alloc | apply pw_below_drewN | apply below_drew1) | exact HB.out))) (fun k_ h_ => h_)) (below_size (by repeat (first | (with_reducible first | exact HB.out | apply below_alloc | apply pw_below_drewN | apply below_drew1) | exact HB.out)))); have n2_ := Aside0.mk (below_step (by repeat (first | (with_reducible first | exact HB.out | apply below_alloc | apply pw_below_drewN | apply below_drew1) | exact HB.out)) hb); clear HO0; clear HB; have HO0 := n0_; have HO283 := n1_; have HB := n2_; clear n0_ n1_ n2_; (try clear hb); (try clear hb2); (try clear hk); (try clear hi); (try clear ho0)))
  go_ret2
  exact ⟨_, _, by first | rfl | (simp [errW_none, errW_some] <;> rfl) | (simp [*, errW_none, errW_some] <;> rfl), by first | exact Kd.S_nil _ _ _ _ _ | exact Kd.N_nil _ _ _ _ _ | exact Kd.V_nil _ _ _ _ _ | exact Kd.Q_nil _ _ _ _ _ | exact Kd.R_nil _ _ _ _ _, by (with_reducible repeat (first | apply Kd.R_alloc | apply Kd.R_drewN | apply Kd.R_drew)); exact Kd.R_mono HO283.out (fun _ hk => hk.1), by repeat (first | (with_reducible first | exact HB.out | apply below_alloc | apply pw_below_drewN | apply below_drew1) | exact HB.out)⟩

end Go.Proofs.YtomeefngdnmdaaaDoor.P

namespace Go.Proofs.YtomeefngdnmdaaaDoor.Pure
open Go.RowKit Go.Proofs.YtomeefngdnmdaaaDoor.P Go.Proofs.YtomeefngdnmdaaaDoorW.PrintWords Go.Proofs.YtomeefngdnmdaaaDoorW.PrintLast Go.Proofs.YtomeefngdnmdaaaDoorW.PrintErr Go.Proofs.YtomeefngdnmdaaaDoorW.PrintMore
set_option linter.unusedVariables false
set_option linter.unusedSimpArgs false
def splitName : ByteArray := ⟨#[115, 121, 109, 98, 111, 108, 46, 83, 112, 108, 105, 116]⟩
theorem copyN_zero (n : Nat) (u : List Int) : (copyN (List.replicate n (0 : Int)) u : Nat) = min u.length n := by
  show Nat.min u.length (List.replicate n (0 : Int)).length = min u.length n
  rw [List.length_replicate]
theorem copyL_pad (n : Nat) (u : List Int) : copyL (List.replicate n 0) u = padS n u := by
  unfold copyL padS
  rw [List.length_replicate, List.drop_replicate]
theorem drop_min_ (n : Nat) (u : List Int) : u.drop (min u.length n) = u.drop n := by
  by_cases h : n ≤ u.length
  · rw [Nat.min_eq_right h]
  · rw [Nat.min_eq_left (by omega), List.drop_eq_nil_of_le (Nat.le_refl _), List.drop_eq_nil_of_le (by omega)]
theorem split_l0 (n : Nat) (hn1 : 1 ≤ n) (hn : n ≤ 64) : ∀ (f : Nat) (u : List Int) (acc : List (List Int)), u.length ≤ f → acc.length + u.length ≤ 5864062014804 →
    Ev (fun k => symbol_Split.l0 k u (n : Int) acc) (acc ++ splitL f n u, []) := by
  intro f
  induction f with
  | zero =>
    intro u acc hu _
    have e : splitL 0 n u = [] := rfl
    rw [e, List.append_nil]
    refine Ev.step (f := fun _ => some (acc, [])) (fun k => ?_) (Ev.now _)
    rw [symbol_Split.l0, if_neg (by omega)]
  | succ f ih =>
    intro u acc hu hacc
    by_cases h : u.length = 0
    · have e : splitL (f + 1) n u = [] := by rw [splitL, if_pos h]
      rw [e, List.append_nil]
      refine Ev.step (f := fun _ => some (acc, [])) (fun k => ?_) (Ev.now _)
      rw [symbol_Split.l0, if_neg (by omega)]
    · have h' := ih (u.drop n) (acc ++ [padS n u]) (by rw [List.length_drop]; omega) (by simp; omega)
      have e : acc ++ splitL (f + 1) n u = acc ++ [padS n u] ++ splitL f n (u.drop n) := by rw [splitL, if_neg h]; simp
      rw [e]
      refine Ev.step (fun k => ?_) h'
      have c1 : (min u.length n : Nat) ≤ u.length := Nat.min_le_left _ _
      rw [symbol_Split.l0, if_pos (by omega), if_pos (by omega), if_pos (by omega)]
      simp only [Option.bind_some, Int.toNat_natCast, copyN_zero, copyL_pad]
      rw [if_pos (by omega), if_pos (by omega), if_pos (by omega), drop_min_]
def splitR (u : List Int) (n : Int) : List (List Int) × List FE := if sizeBad [] n = 0 then (splitL u.length n.toNat u, []) else ([], [⟨splitName, true, sizeBad [] n⟩])
theorem split_ev (u : List Int) (n : Int) (hu : u.length ≤ 5864062014804) : Ev (fun k => symbol_Split.f k u n) (splitR u n) := by
  unfold symbol_Split.f splitR
  refine Ev.bind (check_ev [] n (by simp)) ?_
  by_cases h : sizeBad [] n = 0
  · obtain ⟨h1, h2, _⟩ := sizeBad_zero h
    simp only [if_pos h]
    have := split_l0 n.toNat (by omega) (by omega) u.length u [] (Nat.le_refl _) (by simp; omega)
    rw [List.nil_append, Int.toNat_of_nonneg (by omega)] at this
    exact this
  · simp only [if_neg h]
    rw [new_eqS _ _ h]
    exact Ev.now _
end Go.Proofs.YtomeefngdnmdaaaDoor.Pure

namespace Go.Proofs.YtomeefngdnmdaaaDoor.P
open Go.RowKit Go.Proofs.YtomeefngdnmdaaaDoorW.PrintWords Go.Proofs.YtomeefngdnmdaaaDoorW.PrintLast Go.Proofs.YtomeefngdnmdaaaDoorW.PrintErr Go.Proofs.YtomeefngdnmdaaaDoorW.PrintMore
attribute [local go_sem] max2_int min2_int max_two min_two max_three min_three max_four min_four run_eql_errOf run_neq_errOf eqGuard_errOf   -- for this text's walks alone
set_option linter.unusedVariables false
set_option linter.unusedSimpArgs false

/-! ### blocking_Cut: function 18 -/
mutual
def blocking_Cut.j0 : Nat → List Int → Int → Int → Int → Int → Int → Option ((List (List (List Int))) × List FE)
 | 0, _, _, _, _, _, _ => none
 | k + 1, x0, x297000, x297001, x297002, x297003, x297004 => (symbol_Split.f k x0 x297001).bind fun bt312 => (if (bt312.2.length : Int) = 0 then (blocking_Cut.l0 k (bt312.1) ([] : List (List (List Int))) x297002 0 x297000 x297001 x297002 x297003 x297004) else ((fault_Wrap.f (⟨#[98, 108, 111, 99, 107, 105, 110, 103, 46, 67, 117, 116]⟩ : ByteArray) bt312.2).bind fun t321 => (some (([] : List (List (List Int))), t321))))
def blocking_Cut.l0 : Nat → List (List Int) → List (List (List Int)) → Int → Int → Int → Int → Int → Int → Int → Option ((List (List (List Int))) × List FE)
 | 0, _, _, _, _, _, _, _, _, _ => none
 | k + 1, x7, x9, x40, x41, x297000, x297001, x297002, x297003, x297004 => if x41 < x40 then ((blocking_source.f x297000 x297001 x297002 x297003 x297004 x41).bind fun t324 => ((some (([] : List (List Int)) : List (List Int))).bind fun y325 => (if 0 ≤ t324 then (if t324 ≤ (x7.length : Int) then ((some (x7.take (t324 : Int).toNat : List (List Int))).bind fun y328 => (if y325.length + y328.length < 5864062014805 then (if x9.length < 5864062014805 then (blocking_Cut.l0 k (x7.drop (t324 : Int).toNat) (x9 ++ [(y325 ++ y328)]) x40 (wrap64 (x41 + 1)) x297000 x297001 x297002 x297003 x297004) else (none)) else (none))) else (none)) else (none)))) else (some (x9, ([] : List FE)))
end
def blocking_Cut.f (k : Nat) (l0 : List Int) (a1_0 : Int) (a1_1 : Int) (a1_2 : Int) (a1_3 : Int) (a1_4 : Int) : Option ((List (List (List Int))) × List FE) := (blocking_Check.f k a1_0 a1_1 a1_2 a1_3 a1_4).bind fun t297 => (if (t297.length : Int) = 0 then (if (l0.length : Int) = a1_0 then (if (l0.length : Int) = 0 then (if 1 ≤ 281474976710656 then (blocking_Cut.j0 k ((List.replicate 1 0)) a1_0 a1_1 a1_2 a1_3 a1_4) else (none)) else (blocking_Cut.j0 k l0 a1_0 a1_1 a1_2 a1_3 a1_4)) else ((fault_New.f (⟨#[98, 108, 111, 99, 107, 105, 110, 103, 46, 67, 117, 116]⟩ : ByteArray) 2).bind fun t303 => (some (([] : List (List (List Int))), t303)))) else ((fault_Wrap.f (⟨#[98, 108, 111, 99, 107, 105, 110, 103, 46, 67, 117, 116]⟩ : ByteArray) t297).bind fun t300 => (some (([] : List (List (List Int))), t300))))
theorem blocking_Cut.mono_l : ∀ k, (∀ y0 y1 y2 y3 y4 y5, LeO (blocking_Cut.j0 k y0 y1 y2 y3 y4 y5) (blocking_Cut.j0 (k + 1) y0 y1 y2 y3 y4 y5)) ∧ (∀ y0 y1 y2 y3 y4 y5 y6 y7 y8, LeO (blocking_Cut.l0 k y0 y1 y2 y3 y4 y5 y6 y7 y8) (blocking_Cut.l0 (k + 1) y0 y1 y2 y3 y4 y5 y6 y7 y8))
 | 0 => ⟨fun _ _ _ _ _ _ r h => by simp [blocking_Cut.j0] at h, fun _ _ _ _ _ _ _ _ _ r h => by simp [blocking_Cut.l0] at h⟩
 | k + 1 => by
  obtain ⟨ih0, ih1⟩ := blocking_Cut.mono_l k
  refine ⟨?_, ?_⟩
  ·intro y0 y1 y2 y3 y4 y5
   unfold blocking_Cut.j0
   repeat' first
   | (with_reducible exact ih0 _ _ _ _ _ _)
   | (with_reducible exact ih1 _ _ _ _ _ _ _ _ _)
   | (with_reducible exact blocking_Check.mono _ _ _ _ _ _)
   | (with_reducible exact symbol_Split.mono _ _ _)
   | (with_reducible exact LeO.refl _)
   | (with_reducible exact LeO.none _)
   | (with_reducible refine LeO.ite ?_ ?_)
   | (with_reducible refine LeO.bind ?_ (fun _ => ?_))
   | exact ih0 _ _ _ _ _ _
   | exact ih1 _ _ _ _ _ _ _ _ _
   | exact blocking_Check.mono _ _ _ _ _ _
   | exact symbol_Split.mono _ _ _
   | exact LeO.none _
   | refine LeO.ite ?_ ?_
   | refine LeO.bind ?_ (fun _ => ?_)
  ·intro y0 y1 y2 y3 y4 y5 y6 y7 y8
   unfold blocking_Cut.l0
   repeat' first
   | (with_reducible exact ih0 _ _ _ _ _ _)
   | (with_reducible exact ih1 _ _ _ _ _ _ _ _ _)
   | (with_reducible exact blocking_Check.mono _ _ _ _ _ _)
   | (with_reducible exact symbol_Split.mono _ _ _)
   | (with_reducible exact LeO.refl _)
   | (with_reducible exact LeO.none _)
   | (with_reducible refine LeO.ite ?_ ?_)
   | (with_reducible refine LeO.bind ?_ (fun _ => ?_))
   | exact ih0 _ _ _ _ _ _
   | exact ih1 _ _ _ _ _ _ _ _ _
   | exact blocking_Check.mono _ _ _ _ _ _
   | exact symbol_Split.mono _ _ _
   | exact LeO.none _
   | refine LeO.ite ?_ ?_
   | refine LeO.bind ?_ (fun _ => ?_)
theorem blocking_Cut.mono : ∀ a0 a1 a2 a3 a4 a5 k, LeO (blocking_Cut.f k a0 a1 a2 a3 a4 a5) (blocking_Cut.f (k + 1) a0 a1 a2 a3 a4 a5) := by
 intro a0 a1 a2 a3 a4 a5 k
 obtain ⟨ih0, ih1⟩ := blocking_Cut.mono_l k
 unfold blocking_Cut.f
 repeat' first
   | (with_reducible exact ih0 _ _ _ _ _ _)
   | (with_reducible exact ih1 _ _ _ _ _ _ _ _ _)
   | (with_reducible exact blocking_Check.mono _ _ _ _ _ _)
   | (with_reducible exact symbol_Split.mono _ _ _)
   | (with_reducible exact LeO.refl _)
   | (with_reducible exact LeO.none _)
   | (with_reducible refine LeO.ite ?_ ?_)
   | (with_reducible refine LeO.bind ?_ (fun _ => ?_))
   | exact ih0 _ _ _ _ _ _
   | exact ih1 _ _ _ _ _ _ _ _ _
   | exact blocking_Check.mono _ _ _ _ _ _
   | exact symbol_Split.mono _ _ _
   | exact LeO.none _
   | refine LeO.ite ?_ ?_
   | refine LeO.bind ?_ (fun _ => ?_)
/-- No block. -/
def blocking_Cut.Z0 (_ : Nat) : Prop := False
set_option maxHeartbeats 8000000 in
set_option maxRecDepth 100000 in
theorem blocking_Cut.callsZ (k : Nat) (P0_ : Nat → Prop) (A0 : Option Addr) (c0 : Nat) (l0 : List Int) (a1_0 : Int) (a1_1 : Int) (a1_2 : Int) (a1_3 : Int) (a1_4 : Int) (r1 : List (List (List Int))) (r2 : List FE) (w : World) (hs0 : Kd.V (Kd.int .u8) 5 w w.heap.size (fun k_ => P0_ k_) (.slice A0 l0.length c0) l0) (h : blocking_Cut.f k l0 a1_0 a1_1 a1_2 a1_3 a1_4 = some (r1, r2)) :
  Calls Tryd.prog 18 #[.slice A0 l0.length c0, .agg #[.int .i64 a1_0, .int .i64 a1_1, .int .i64 a1_2, .int .i64 a1_3, .int .i64 a1_4]] w fun e w' => ∃ v0_ v1_ : Value, e = .returned (.tuple #[v0_, (errOf v1_)]) ∧ Kd.N (Kd.slice 42 (Kd.slice 5 (Kd.int .u8))) 40 w' w.heap.size (fun k_ => (blocking_Cut.Z0 k_ ∨ w.heap.size ≤ k_) ∧ some k_ ≠ (v1_ : Value).ownBlock) v0_ r1 ∧ Kd.R kF 61 w' w.heap.size (fun k_ => (w.heap.size ≤ k_)) v1_ r2 ∧ Below w.heap.size w w' := by
 have hu23 := Tryd.underlying23
 have HO0 := Aside0.mk (show Kd.V (Kd.int .u8) 5 w w.heap.size (fun k_ => (P0_ k_ ∨ w.heap.size ≤ k_)) (.slice A0 l0.length c0) l0 from Kd.V_mono hs0 (fun k_ hk => .inl hk))
 have HB := Aside0.mk (Below.refl w.heap.size w)
 have H : ((blocking_Check.f k a1_0 a1_1 a1_2 a1_3 a1_4).bind fun t297 => (if (t297.length : Int) = 0 then (if (l0.length : Int) = a1_0 then (if (l0.length : Int) = 0 then (if 1 ≤ 281474976710656 then (blocking_Cut.j0 k ((List.replicate 1 0)) a1_0 a1_1 a1_2 a1_3 a1_4) else (none)) else (blocking_Cut.j0 k l0 a1_0 a1_1 a1_2 a1_3 a1_4)) else ((fault_New.f (⟨#[98, 108, 111, 99, 107, 105, 110, 103, 46, 67, 117, 116]⟩ : ByteArray) 2).bind fun t303 => (some (([] : List (List (List Int))), t303)))) else ((fault_Wrap.f (⟨#[98, 108, 111, 99, 107, 105, 110, 103, 46, 67, 117, 116]⟩ : ByteArray) t297).bind fun t300 => (some (([] : List (List (List Int))), t300))))) = some (r1, r2) := h
 clear h
 replace H := Option.bind_eq_some_iff.mp H
 obtain ⟨t297, A30, H⟩ := H
 replace H : (if (t297.length : Int) = 0 then (if (l0.length : Int) = a1_0 then (if (l0.length : Int) = 0 then (if 1 ≤ 281474976710656 then (blocking_Cut.j0 k ((List.replicate 1 0)) a1_0 a1_1 a1_2 a1_3 a1_4) else (none)) else (blocking_Cut.j0 k l0 a1_0 a1_1 a1_2 a1_3 a1_4)) else ((fault_New.f (⟨#[98, 108, 111, 99, 107, 105, 110, 103, 46, 67, 117, 116]⟩ : ByteArray) 2).bind fun t303 => (some (([] : List (List (List Int))), t303)))) else ((fault_Wrap.f (⟨#[98, 108, 111, 99, 107, 105, 110, 103, 46, 67, 117, 116]⟩ : ByteArray) t297).bind fun t300 => (some (([] : List (List (List Int))), t300)))) = some (r1, r2) := H
 have A3 := Aside0.mk A30
 clear A30
 by_cases c4 : (t297.length : Int) = 0
 ·rw [if_pos c4] at H
  have c4b0 : ((t297.length : Int) == 0) = true := beq_iff_eq.mpr c4
  have c4b1 : ((t297.length : Int) != 0) = false := bne_eq_false_iff_eq.mpr c4
  clear c4
  by_cases c5 : (l0.length : Int) = a1_0
  ·rw [if_pos c5] at H
   have c5b0 : ((l0.length : Int) == a1_0) = true := beq_iff_eq.mpr c5
   have c5b1 : ((l0.length : Int) != a1_0) = false := bne_eq_false_iff_eq.mpr c5
   clear c5
   have HC6 := Aside0.mk H
   clear H
   go_enter Tryd.func18, Tryd.ntmps18
   go_upto_if 26 with (first | ((with_reducible refine gate_dst (N := 3) rfl ?_); refine box_event ?hg (N := 3) ?hd (cs := #[.int .i64 a1_0, .int .i64 a1_1, .int .i64 a1_2, .int .i64 a1_3, .int .i64 a1_4]) (t := 23) ?hr ?_; (case hd => rfl); (case hg => rfl); (case hr => first | (go_simp; done) | (go_simp; rfl)); intro gb296 hg w7 hbox hb; have n0_ := Aside0.mk (Kd.V_below (Kd.V_elderB (by (with_reducible repeat (first | apply Kd.V_alloc | apply Kd.V_drewN | apply Kd.V_drew)); exact HO0.out) gb296 (Nat.le_of_eq hg.symm)) hb); have n1_ := Aside0.mk (below_step (by repeat (first | (with_reducible first | exact HB.out | apply below_alloc | apply pw_below_drewN | apply below_drew1) | exact HB.out)) hb); have n2_ := Aside0.mk (hbox); have n3_ := Aside0.mk ((by rw [hg]; exact (below_size (by repeat (first | (with_reducible first | exact HB.out | apply below_alloc | apply pw_below_drewN | apply below_drew1) | exact HB.out))) : w.heap.size ≤ gb296)); have n4_ := Aside0.mk ((by rw [hg]; exact (below_size (by repeat (first | (with_reducible first | exact HB.out | apply below_alloc | apply pw_below_drewN | apply below_drew1) | exact HB.out))) : w.heap.size ≤ gb296)); clear HO0; clear HB; have HO0 := n0_; have HB := n1_; have BK296 := n2_; have GW296 := n3_; have GE296 := n4_; clear n0_ n1_ n2_ n3_ n4_; clear hb hbox hg; have hcz8_0 : w7.cell? ⟨gb296, 0, none⟩ = some (.int .i64 a1_0) := (blk_cell BK296.out 0).trans rfl; have hcz8_1 : w7.cell? ⟨gb296, 1, none⟩ = some (.int .i64 a1_1) := (blk_cell BK296.out 1).trans rfl; have hcz8_2 : w7.cell? ⟨gb296, 2, none⟩ = some (.int .i64 a1_2) := (blk_cell BK296.out 2).trans rfl; have hcz8_3 : w7.cell? ⟨gb296, 3, none⟩ = some (.int .i64 a1_3) := (blk_cell BK296.out 3).trans rfl; have hcz8_4 : w7.cell? ⟨gb296, 4, none⟩ = some (.int .i64 a1_4) := (blk_cell BK296.out 4).trans rfl; have hfz8_0 := blk_frozen BK296.out 0; have hfz8_1 := blk_frozen BK296.out 1; have hfz8_2 := blk_frozen BK296.out 2; have hfz8_3 := blk_frozen BK296.out 3; have hfz8_4 := blk_frozen BK296.out 4) | ((with_reducible refine gate_callee (f := 13) rfl ?_); refine goesL_ (some 13) rfl rfl Tryd.func13 (by kernel_rfl) rfl #[.agg #[.int .i64 a1_0, .int .i64 a1_1, .int .i64 a1_2, .int .i64 a1_3, .int .i64 a1_4]] rfl (by (try simp only [List.map_toArray, List.map_cons, List.map_nil]); first | done | rfl | (simp only [List.length_drop, List.length_take]; rfl)) ?_; (with_reducible refine (blocking_Check.calls k a1_0 a1_1 a1_2 a1_3 a1_4 t297 _ A3.out).mono ?_); rintro e w9 ⟨v298, rfl, ho0, hb⟩; refine ⟨_, rfl, ?_⟩; have n0_ := Aside0.mk (Kd.V_elder' (by (with_reducible repeat (first | apply Kd.V_alloc | apply Kd.V_drewN | apply Kd.V_drew)); exact HO0.out) (Kd.R_base ho0) hb); have n1_ := Aside0.mk (Kd.R_lower (Kd.R_newM (M := fun k_ => (w.heap.size ≤ k_)) ho0 (below_size (by repeat (first | (with_reducible first | exact HB.out | apply below_alloc | apply pw_below_drewN | apply below_drew1 | refine below_set ?_ GE296.out) | exact HB.out))) (fun k_ h_ => h_)) (below_size (by repeat (first | (with_reducible first | exact HB.out | apply below_alloc | apply pw_below_drewN | apply below_drew1 | refine below_set ?_ GE296.out) | exact HB.out)))); have n2_ := Aside0.mk (blk_below (g := gb296) (o := .cells #[.int .i64 a1_0, .int .i64 a1_1, .int .i64 a1_2, .int .i64 a1_3, .int .i64 a1_4] 23 (0, 0)) (by (with_reducible repeat (first | refine blk_drewN ?_ _ | refine blk_drew ?_ | refine blk_alloc ?_ _)); exact BK296.out) hb); have n3_ := Aside0.mk (below_step (by repeat (first | (with_reducible first | exact HB.out | apply below_alloc | apply pw_below_drewN | apply below_drew1 | refine below_set ?_ GE296.out) | exact HB.out)) hb); clear HO0; clear BK296; clear HB; have HO0 := n0_; have HO299 := n1_; have BK296 := n2_; have HB := n3_; clear n0_ n1_ n2_ n3_; (try clear hb); (try clear hb2); (try clear hk); (try clear hi); (try clear ho0); obtain ⟨Ao10, co10, eo10⟩ := Kd.R_slice HO299.out; subst eo10; have hcz11_0 : w9.cell? ⟨gb296, 0, none⟩ = some (.int .i64 a1_0) := (blk_cell BK296.out 0).trans rfl; have hcz11_1 : w9.cell? ⟨gb296, 1, none⟩ = some (.int .i64 a1_1) := (blk_cell BK296.out 1).trans rfl; have hcz11_2 : w9.cell? ⟨gb296, 2, none⟩ = some (.int .i64 a1_2) := (blk_cell BK296.out 2).trans rfl; have hcz11_3 : w9.cell? ⟨gb296, 3, none⟩ = some (.int .i64 a1_3) := (blk_cell BK296.out 3).trans rfl; have hcz11_4 : w9.cell? ⟨gb296, 4, none⟩ = some (.int .i64 a1_4) := (blk_cell BK296.out 4).trans rfl; have hfz11_0 := blk_frozen BK296.out 0; have hfz11_1 := blk_frozen BK296.out 1; have hfz11_2 := blk_frozen BK296.out 2; have hfz11_3 := blk_frozen BK296.out 3; have hfz11_4 := blk_frozen BK296.out 4))
   (try simp only [Act.put, List.setIfInBounds_toArray, List.set_cons_zero, List.set_cons_succ])
   go_cut [0] (fun v0 wc => ∃ (kq : Nat) (x0_5 : List Int), Aside0 (blocking_Cut.j0 kq x0_5 a1_0 a1_1 a1_2 a1_3 a1_4 = some (r1, r2)) ∧ Aside0 (kq ≤ k) ∧ Aside0 (Kd.V (Kd.int .u8) 5 wc w.heap.size (fun k_ => (P0_ k_ ∨ w.heap.size ≤ k_) ∧ k_ ≠ gb296) v0 x0_5) ∧ Aside0 (wc.heap[gb296]? = some (.cells #[.int .i64 a1_0, .int .i64 a1_1, .int .i64 a1_2, .int .i64 a1_3, .int .i64 a1_4] 23 (0, 0))) ∧ Aside0 (Below w.heap.size w wc))
   case first =>
    have H := HC6.out
    clear HC6
    by_cases c12 : (l0.length : Int) = 0
    ·rw [if_pos c12] at H
     have c12b0 : ((l0.length : Int) == 0) = true := beq_iff_eq.mpr c12
     have c12b1 : ((l0.length : Int) != 0) = false := bne_eq_false_iff_eq.mpr c12
     clear c12
     (first | rw [c12b0] | rw [c12b1] | (simp only [i64_w, i32_w]; rw [c12b0]) | skip)
     by_cases c13 : 1 ≤ 281474976710656
     ·rw [if_pos c13] at H
      have c13b0 := eq_true c13
      have c13b1 : decide (1 ≤ 281474976710656) = true := decide_eq_true c13
      clear c13
      obtain ⟨y306, hy306⟩ : ∃ y_ : List Int, y_ = (List.replicate 1 0) := ⟨_, rfl⟩
      replace H : (blocking_Cut.j0 k (y306) a1_0 a1_1 a1_2 a1_3 a1_4) = some (r1, r2) := by first | (rw [hy306]; with_reducible exact H) | (have H2_ := (Option.bind_some _ _).symm.trans H; rw [hy306]; with_reducible exact H2_) | (have H2_ := (Option.bind_some _ _).symm.trans H; with_reducible exact H2_) | with_reducible exact H | (rw [hy306]; exact H) | exact H
      have Ny306 := Aside0.mk hy306
      clear hy306
      obtain ⟨y309, hy309⟩ : ∃ y_ : List Int, y_ = (y306) := ⟨_, rfl⟩
      replace H : (blocking_Cut.j0 k y309 a1_0 a1_1 a1_2 a1_3 a1_4) = some (r1, r2) := by first | (rw [hy309]; with_reducible exact H) | (have H2_ := (Option.bind_some _ _).symm.trans H; rw [hy309]; with_reducible exact H2_) | (have H2_ := (Option.bind_some _ _).symm.trans H; with_reducible exact H2_) | with_reducible exact H | (rw [hy309]; exact H) | exact H
      have Ny309 := Aside0.mk hy309
      clear hy309
      have H' := Aside0.mk H
      clear H
      go_wp2_with (first | ((with_reducible refine gate_dst (N := 27) rfl ?_); refine Kd.R_make (Kd.int .u8) _ 5 rfl (N := 27) rfl 42 _ _ rfl 1 rfl rfl Tryd.underlying42 (.int .u8 0) 1 info5 rfl (by decide) (by omega) 0 (ok := fun _ => True) (okp := fun _ => True) rfl (fun _ hk => hk) trivial (by omega) (by omega) (Below.refl _ _) (Nat.le_refl _) ?_; intro v307 w14 ho15 hb hg_ hnew_; clear hg_ hnew_; (first | rw [← Ny306.out] at ho15 | (simp only [Int.reduceToNat] at ho15; rw [← Ny306.out] at ho15)); have n0_ := Aside0.mk (Kd.V_elder' (by (with_reducible repeat (first | apply Kd.V_alloc | apply Kd.V_drewN | apply Kd.V_drew)); exact HO0.out) (Kd.R_base ho15) hb); have n1_ := Aside0.mk (Kd.R_below (by (with_reducible repeat (first | apply Kd.R_alloc | apply Kd.R_drewN | apply Kd.R_drew)); exact HO299.out) hb); have n2_ := Aside0.mk (Kd.R_lower (Kd.R_newM (M := fun k_ => (w.heap.size ≤ k_)) ho15 (below_size (by repeat (first | (with_reducible first | exact HB.out | apply below_alloc | apply pw_below_drewN | apply below_drew1 | refine below_set ?_ GE296.out) | exact HB.out))) (fun k_ h_ => h_)) (below_size (by repeat (first | (with_reducible first | exact HB.out | apply below_alloc | apply pw_below_drewN | apply below_drew1 | refine below_set ?_ GE296.out) | exact HB.out)))); have n3_ := Aside0.mk (blk_below (g := gb296) (o := .cells #[.int .i64 a1_0, .int .i64 a1_1, .int .i64 a1_2, .int .i64 a1_3, .int .i64 a1_4] 23 (0, 0)) (by (with_reducible repeat (first | refine blk_drewN ?_ _ | refine blk_drew ?_ | refine blk_alloc ?_ _)); exact BK296.out) hb); have n4_ := Aside0.mk (below_step (by repeat (first | (with_reducible first | exact HB.out | apply below_alloc | apply pw_below_drewN | apply below_drew1 | refine below_set ?_ GE296.out) | exact HB.out)) hb); clear HO0; clear HO299; clear BK296; clear HB; have HO0 := n0_; have HO299 := n1_; have HO308 := n2_; have BK296 := n3_; have HB := n4_; clear n0_ n1_ n2_ n3_ n4_; clear hb ho15; obtain ⟨Ao17, co17, eo17⟩ := Kd.R_slice HO308.out; subst eo17; have hr16 := (show Kd.V (Kd.int .u8) 5 _ w.heap.size _ _ _ from Kd.V_mono (ok' := (fun k_ => ((((P0_ k_ ∨ w.heap.size ≤ k_) ∧ True) ∧ some k_ ≠ (.slice Ao10 t297.length co10 : Value).ownBlock) ∧ k_ ≠ gb296))) (Kd.R_V (Kd.R_types (Kd.R_apart' (HO308.out) (Kd.R_typed HO299.out) (by decide)) BK296.out (by decide))) (fun k_ hk => ⟨⟨⟨(.inr (hk.1.1.1)), trivial⟩, hk.1.2⟩, hk.2⟩)); rw [← Ny309.out] at hr16; have HO311 := Aside0.mk hr16; have HC311 := Aside0.mk (show y309.length ≤ co17 from by rw [Ny309.out]; exact (Kd.R_reads' HO308.out).2.1); clear hr16 HO308; rw [← Ny309.out]))
      go_meet
      case rel => exact ⟨_, (y309), H', ⟨by first | omega | exact Nat.le_refl _⟩, ⟨by (with_reducible repeat (first | apply Kd.V_alloc | apply Kd.V_drewN | apply Kd.V_drew)); exact Kd.V_mono HO311.out (fun _ hk => ⟨hk.1.1.1, hk.2⟩)⟩, ⟨by (with_reducible repeat (first | refine blk_drewN ?_ _ | refine blk_drew ?_ | refine blk_alloc ?_ _)); exact BK296.out⟩, ⟨by repeat (first | (with_reducible first | exact HB.out | apply below_alloc | apply pw_below_drewN | apply below_drew1 | refine below_set ?_ GE296.out) | exact HB.out)⟩⟩
     ·rw [if_neg c13] at H
      exact absurd H (by simp)
    ·rw [if_neg c12] at H
     have c12b0 : ((l0.length : Int) == 0) = false := beq_eq_false_iff_ne.mpr c12
     have c12b1 : ((l0.length : Int) != 0) = true := bne_iff_ne.mpr c12
     have c12b2 : ¬ (l0 = []) := fun h_ => c12 (by rw [h_]; rfl)
     (first | rw [c12b0] | rw [c12b1] | (simp only [i64_w, i32_w]; rw [c12b0]) | skip)
     have H' := Aside0.mk H
     clear H
     go_wp2
     go_meet
     case rel => exact ⟨_, (l0), H', ⟨by first | omega | exact Nat.le_refl _⟩, ⟨by (with_reducible repeat (first | apply Kd.V_alloc | apply Kd.V_drewN | apply Kd.V_drew)); exact Kd.V_mono HO0.out (fun _ hk => ⟨hk.1.1, hk.1.2⟩)⟩, ⟨by (with_reducible repeat (first | refine blk_drewN ?_ _ | refine blk_drew ?_ | refine blk_alloc ?_ _)); exact BK296.out⟩, ⟨by repeat (first | (with_reducible first | exact HB.out | apply below_alloc | apply pw_below_drewN | apply below_drew1 | refine below_set ?_ GE296.out) | exact HB.out)⟩⟩
   case rest =>
    clear HC6
    try clear c1
    try clear p2
    try clear c4
    try clear c4b0
    try clear c4b1
    try clear c5
    try clear c5b0
    try clear c5b1
    try clear c12
    try clear c12b0
    try clear c12b1
    try clear c12b2
    try clear c13
    try clear c13b0
    try clear c13b1
    try clear hcz11_0
    try clear hcz11_1
    try clear hcz11_2
    try clear hcz11_3
    try clear hcz11_4
    try clear hcz8_0
    try clear hcz8_1
    try clear hcz8_2
    try clear hcz8_3
    try clear hcz8_4
    try clear hfz11_0
    try clear hfz11_1
    try clear hfz11_2
    try clear hfz11_3
    try clear hfz11_4
    try clear hfz8_0
    try clear hfz8_1
    try clear hfz8_2
    try clear hfz8_3
    try clear hfz8_4
    obtain ⟨kq, x0_5, HA, HJ5, HO_0, BK296, HB⟩ := hcut
    cases kq with
    | zero => exact absurd HA.out (by simp [blocking_Cut.j0])
    | succ kj5 =>
     have H := HA.out
     clear HA
     simp only [blocking_Cut.j0] at H
     replace H := Option.bind_eq_some_iff.mp H
     obtain ⟨⟨t312, t315⟩, A180, H⟩ := H
     replace H : (if (t315.length : Int) = 0 then (blocking_Cut.l0 kj5 (t312) ([] : List (List (List Int))) a1_2 0 a1_0 a1_1 a1_2 a1_3 a1_4) else ((fault_Wrap.f (⟨#[98, 108, 111, 99, 107, 105, 110, 103, 46, 67, 117, 116]⟩ : ByteArray) t315).bind fun t321 => (some (([] : List (List (List Int))), t321)))) = some (r1, r2) := H
     have A18 := Aside0.mk A180
     clear A180
     obtain ⟨y318, hy318⟩ : ∃ y_ : List (List Int), y_ = (t312) := ⟨_, rfl⟩
     replace H : (if (t315.length : Int) = 0 then (blocking_Cut.l0 kj5 y318 ([] : List (List (List Int))) a1_2 0 a1_0 a1_1 a1_2 a1_3 a1_4) else ((fault_Wrap.f (⟨#[98, 108, 111, 99, 107, 105, 110, 103, 46, 67, 117, 116]⟩ : ByteArray) t315).bind fun t321 => (some (([] : List (List (List Int))), t321)))) = some (r1, r2) := by first | (rw [hy318]; with_reducible exact H) | (have H2_ := (Option.bind_some _ _).symm.trans H; rw [hy318]; with_reducible exact H2_) | (have H2_ := (Option.bind_some _ _).symm.trans H; with_reducible exact H2_) | with_reducible exact H | (rw [hy318]; exact H) | exact H
     have Ny318 := Aside0.mk hy318
     clear hy318
     by_cases c19 : (t315.length : Int) = 0
     ·rw [if_pos c19] at H
      have c19b0 : ((t315.length : Int) == 0) = true := beq_iff_eq.mpr c19
      have c19b1 : ((t315.length : Int) != 0) = false := bne_eq_false_iff_eq.mpr c19
      clear c19
      have H' := Aside0.mk H
      clear H
      have hcz20_0 : wc.cell? ⟨gb296, 0, none⟩ = some (.int .i64 a1_0) := (blk_cell BK296.out 0).trans rfl
      have hcz20_1 : wc.cell? ⟨gb296, 1, none⟩ = some (.int .i64 a1_1) := (blk_cell BK296.out 1).trans rfl
      have hcz20_2 : wc.cell? ⟨gb296, 2, none⟩ = some (.int .i64 a1_2) := (blk_cell BK296.out 2).trans rfl
      have hcz20_3 : wc.cell? ⟨gb296, 3, none⟩ = some (.int .i64 a1_3) := (blk_cell BK296.out 3).trans rfl
      have hcz20_4 : wc.cell? ⟨gb296, 4, none⟩ = some (.int .i64 a1_4) := (blk_cell BK296.out 4).trans rfl
      have hfz20_0 := blk_frozen BK296.out 0
      have hfz20_1 := blk_frozen BK296.out 1
      have hfz20_2 := blk_frozen BK296.out 2
      have hfz20_3 := blk_frozen BK296.out 3
      have hfz20_4 := blk_frozen BK296.out 4
      obtain ⟨Ao21, co21, eo21⟩ := Kd.V_slice HO_0.out
      subst eo21
      go_wp2_with (first | ((with_reducible refine gate_callee (f := 32) rfl ?_); refine goesL_ (some 32) rfl rfl Tryd.func32 (by kernel_rfl) rfl #[.slice Ao21 x0_5.length co21, .int .i64 a1_1] rfl (by (try simp only [List.map_toArray, List.map_cons, List.map_nil]); first | done | rfl | (simp only [List.length_drop, List.length_take]; rfl)) ?_; (with_reducible refine (symbol_Split.calls kj5 (fun k_ => ((P0_ k_ ∨ w.heap.size ≤ k_) ∧ k_ ≠ gb296)) _ _ x0_5 a1_1 t312 t315 _ ?side1 A18.out).mono ?_); (case side1 => exact HO_0.out); rintro e w22 ⟨v313, v316, rfl, ho0, ho1, hb⟩; refine ⟨_, rfl, ?_⟩; (try replace ho0 := Kd.N_mono (ok' := fun k_ => ((((blocking_Cut.Z0 k_ ∨ w.heap.size ≤ k_) ∧ k_ ≠ gb296)) ∨ _ ≤ k_) ∧ some k_ ≠ (v316 : Value).ownBlock) (Kd.S_N (Kd.S_apart' ho0 (Kd.R_typed ho1) (by decide))) (fun k_ hk => ⟨.inr hk.1, hk.2⟩)); have n0_ := Aside0.mk (Kd.V_mono (Kd.V_told (Kd.V_told (Kd.V_old (by (with_reducible repeat (first | apply Kd.V_alloc | apply Kd.V_drewN | apply Kd.V_drew)); exact HO_0.out) hb) (Kd.N_base ho0)) (Kd.R_base ho1)) (fun _ h_ => h_.1)); have n1_ := Aside0.mk (Kd.N_lower (Kd.N_mono (ok' := fun k_ => (blocking_Cut.Z0 k_ ∨ w.heap.size ≤ k_) ∧ some k_ ≠ (v316 : Value).ownBlock ∧ k_ ≠ gb296) ho0 (fun k_ hk_ => ⟨Or.elim hk_.1 (fun hs_ => hs_.1) (fun hn_ => (.inr (Nat.le_trans (below_size (by repeat (first | (with_reducible first | exact HB.out | apply below_alloc | apply pw_below_drewN | apply below_drew1 | refine below_set ?_ GE296.out) | exact HB.out))) hn_))), hk_.2, Or.elim hk_.1 (fun hs_ => hs_.2) (fun hn_ => (Kd.freshB (g := gb296) (o := .cells #[.int .i64 a1_0, .int .i64 a1_1, .int .i64 a1_2, .int .i64 a1_3, .int .i64 a1_4] 23 (0, 0)) (by (with_reducible repeat (first | refine blk_drewN ?_ _ | refine blk_drew ?_ | refine blk_alloc ?_ _)); exact BK296.out) k_ hn_))⟩)) (below_size (by repeat (first | (with_reducible first | exact HB.out | apply below_alloc | apply pw_below_drewN | apply below_drew1 | refine below_set ?_ GE296.out) | exact HB.out)))); have n2_ := Aside0.mk (Kd.R_lower (Kd.R_newM (M := fun k_ => (w.heap.size ≤ k_)) (Kd.R_mono (ok' := fun k_ => True) ho1 (fun _ hk_ => trivial)) (below_size (by repeat (first | (with_reducible first | exact HB.out | apply below_alloc | apply pw_below_drewN | apply below_drew1 | refine below_set ?_ GE296.out) | exact HB.out))) (fun k_ h_ => h_)) (below_size (by repeat (first | (with_reducible first | exact HB.out | apply below_alloc | apply pw_below_drewN | apply below_drew1 | refine below_set ?_ GE296.out) | exact HB.out)))); have n3_ := Aside0.mk (blk_below (g := gb296) (o := .cells #[.int .i64 a1_0, .int .i64 a1_1, .int .i64 a1_2, .int .i64 a1_3, .int .i64 a1_4] 23 (0, 0)) (by (with_reducible repeat (first | refine blk_drewN ?_ _ | refine blk_drew ?_ | refine blk_alloc ?_ _)); exact BK296.out) hb); have n4_ := Aside0.mk (below_step (by repeat (first | (with_reducible first | exact HB.out | apply below_alloc | apply pw_below_drewN | apply below_drew1 | refine below_set ?_ GE296.out) | exact HB.out)) hb); clear HO_0; clear BK296; clear HB; have HO_0 := n0_; have HO314 := n1_; have HO317 := n2_; have BK296 := n3_; have HB := n4_; clear n0_ n1_ n2_ n3_ n4_; (try clear hb); (try clear hb2); (try clear hk); (try clear hi); (try clear ho0); (try clear ho1); obtain ⟨Ao24, co24, eo24⟩ := Kd.N_slice HO314.out; subst eo24; have hr23 := (show Kd.V (Kd.slice 5 (Kd.int .u8)) 42 _ w.heap.size _ _ _ from Kd.N_V HO314.out); rw [← Ny318.out] at hr23; have HO320 := Aside0.mk hr23; have HC320 := Aside0.mk (show y318.length ≤ co24 from by rw [Ny318.out]; exact (Kd.N_reads' HO314.out).2.1); clear hr23 HO314; rw [← Ny318.out]; obtain ⟨Ao25, co25, eo25⟩ := Kd.R_slice HO317.out; subst eo25; have hcz26_0 : w22.cell? ⟨gb296, 0, none⟩ = some (.int .i64 a1_0) := (blk_cell BK296.out 0).trans rfl; have hcz26_1 : w22.cell? ⟨gb296, 1, none⟩ = some (.int .i64 a1_1) := (blk_cell BK296.out 1).trans rfl; have hcz26_2 : w22.cell? ⟨gb296, 2, none⟩ = some (.int .i64 a1_2) := (blk_cell BK296.out 2).trans rfl; have hcz26_3 : w22.cell? ⟨gb296, 3, none⟩ = some (.int .i64 a1_3) := (blk_cell BK296.out 3).trans rfl; have hcz26_4 : w22.cell? ⟨gb296, 4, none⟩ = some (.int .i64 a1_4) := (blk_cell BK296.out 4).trans rfl; have hfz26_0 := blk_frozen BK296.out 0; have hfz26_1 := blk_frozen BK296.out 1; have hfz26_2 := blk_frozen BK296.out 2; have hfz26_3 := blk_frozen BK296.out 3; have hfz26_4 := blk_frozen BK296.out 4))
      go_loopg [7, 9, 41] kj5 (fun kq v7 v9 v41 w' => ∃ (x7_2 : List (List Int)) (x9_2 : List (List (List Int))) (x41_2 : Int), v41 = .int .i64 x41_2 ∧ Aside0 (blocking_Cut.l0 kq x7_2 x9_2 a1_2 x41_2 a1_0 a1_1 a1_2 a1_3 a1_4 = some (r1, r2)) ∧ Aside0 (kq ≤ kj5) ∧ Aside0 (Kd.V (Kd.slice 5 (Kd.int .u8)) 42 w' w.heap.size (fun k_ => (blocking_Cut.Z0 k_ ∨ w.heap.size ≤ k_) ∧ some k_ ≠ (v9 : Value).ownBlock ∧ k_ ≠ gb296) v7 x7_2) ∧ Aside0 (Kd.N (Kd.slice 42 (Kd.slice 5 (Kd.int .u8))) 40 w' w.heap.size (fun k_ => (blocking_Cut.Z0 k_ ∨ w.heap.size ≤ k_) ∧ k_ ≠ gb296) v9 x9_2) ∧ Aside0 (w'.heap[gb296]? = some (.cells #[.int .i64 a1_0, .int .i64 a1_1, .int .i64 a1_2, .int .i64 a1_3, .int .i64 a1_4] 23 (0, 0))) ∧ Aside0 (Below w.heap.size w w'))
      case atStart => exact ⟨(y318), (([] : List (List (List Int)))), (0), (by first | rfl | (simp; done) | (simp [*]; done)), H', ⟨Nat.le_refl _⟩, ⟨by (with_reducible repeat (first | apply Kd.V_alloc | apply Kd.V_drewN | apply Kd.V_drew)); exact Kd.V_mono HO320.out (fun _ hk => ⟨hk.1, ⟨(by simp [Value.ownBlock]), hk.2.2⟩⟩)⟩, ⟨by first | exact Kd.R_nil _ _ _ _ _ | exact Kd.N_nil _ _ _ _ _ | exact Kd.V_nil _ _ _ _ _ | exact Kd.Q_nil _ _ _ _ _ | exact Kd.S_nil _ _ _ _ _⟩, ⟨by (with_reducible repeat (first | refine blk_drewN ?_ _ | refine blk_drew ?_ | refine blk_alloc ?_ _)); exact BK296.out⟩, ⟨by repeat (first | (with_reducible first | exact HB.out | apply below_alloc | apply pw_below_drewN | apply below_drew1 | refine below_set ?_ GE296.out) | exact HB.out)⟩⟩
      case round =>
       clear H'
       try clear c1
       try clear p2
       try clear c3
       try clear c4
       try clear c4b0
       try clear c4b1
       try clear c5
       try clear c5b0
       try clear c5b1
       try clear c12
       try clear c12b0
       try clear c12b1
       try clear c12b2
       try clear c13
       try clear c13b0
       try clear c13b1
       try clear c18
       try clear c19
       try clear c19b0
       try clear c19b1
       try clear hcz11_0
       try clear hcz11_1
       try clear hcz11_2
       try clear hcz11_3
       try clear hcz11_4
       try clear hcz20_0
       try clear hcz20_1
       try clear hcz20_2
       try clear hcz20_3
       try clear hcz20_4
       try clear hcz26_0
       try clear hcz26_1
       try clear hcz26_2
       try clear hcz26_3
       try clear hcz26_4
       try clear hcz8_0
       try clear hcz8_1
       try clear hcz8_2
       try clear hcz8_3
       try clear hcz8_4
       try clear hfz11_0
       try clear hfz11_1
       try clear hfz11_2
       try clear hfz11_3
       try clear hfz11_4
       try clear hfz20_0
       try clear hfz20_1
       try clear hfz20_2
       try clear hfz20_3
       try clear hfz20_4
       try clear hfz26_0
       try clear hfz26_1
       try clear hfz26_2
       try clear hfz26_3
       try clear hfz26_4
       try clear hfz8_0
       try clear hfz8_1
       try clear hfz8_2
       try clear hfz8_3
       try clear hfz8_4
       try clear p2
       obtain ⟨x7_2, x9_2, x41_2, rfl, HA, HK2, HO_7, HO_9, BK296, HB⟩ := hrel
       cases gk with
       | zero => exact absurd HA.out (by simp [blocking_Cut.l0])
       | succ k2 =>
        have H := HA.out
        clear HA
        simp only [blocking_Cut.l0] at H
        by_cases c27 : x41_2 < a1_2
        ·rw [if_pos c27] at H
         have c27b0 : decide (x41_2 < a1_2) = true := decide_eq_true c27
         clear c27
         replace H := Option.bind_eq_some_iff.mp H
         obtain ⟨t324, A280, H⟩ := H
         replace H : ((some (([] : List (List Int)) : List (List Int))).bind fun y325 => (if 0 ≤ t324 then (if t324 ≤ (x7_2.length : Int) then ((some (x7_2.take (t324 : Int).toNat : List (List Int))).bind fun y328 => (if y325.length + y328.length < 5864062014805 then (if x9_2.length < 5864062014805 then (blocking_Cut.l0 k2 (x7_2.drop (t324 : Int).toNat) (x9_2 ++ [(y325 ++ y328)]) a1_2 (wrap64 (x41_2 + 1)) a1_0 a1_1 a1_2 a1_3 a1_4) else (none)) else (none))) else (none)) else (none))) = some (r1, r2) := H
         have A28 := Aside0.mk A280
         clear A280
         obtain ⟨y325, hy325⟩ : ∃ y_ : List (List Int), y_ = (([] : List (List Int))) := ⟨_, rfl⟩
         replace H : (if 0 ≤ t324 then (if t324 ≤ (x7_2.length : Int) then ((some (x7_2.take (t324 : Int).toNat : List (List Int))).bind fun y328 => (if y325.length + y328.length < 5864062014805 then (if x9_2.length < 5864062014805 then (blocking_Cut.l0 k2 (x7_2.drop (t324 : Int).toNat) (x9_2 ++ [(y325 ++ y328)]) a1_2 (wrap64 (x41_2 + 1)) a1_0 a1_1 a1_2 a1_3 a1_4) else (none)) else (none))) else (none)) else (none)) = some (r1, r2) := by first | (rw [hy325]; with_reducible exact H) | (have H2_ := (Option.bind_some _ _).symm.trans H; rw [hy325]; with_reducible exact H2_) | (have H2_ := (Option.bind_some _ _).symm.trans H; with_reducible exact H2_) | with_reducible exact H | (rw [hy325]; exact H) | exact H
         have Ny325 := Aside0.mk hy325
         clear hy325
         by_cases c29 : 0 ≤ t324
         ·rw [if_pos c29] at H
          have c29b0 := eq_true c29
          have c29b1 : decide (0 ≤ t324) = true := decide_eq_true c29
          clear c29
          by_cases c30 : t324 ≤ (x7_2.length : Int)
          ·rw [if_pos c30] at H
           have c30b0 := eq_true c30
           have c30b1 : decide (t324 ≤ (x7_2.length : Int)) = true := decide_eq_true c30
           clear c30
           obtain ⟨y328, hy328⟩ : ∃ y_ : List (List Int), y_ = (x7_2.take (t324 : Int).toNat) := ⟨_, rfl⟩
           replace H : (if y325.length + y328.length < 5864062014805 then (if x9_2.length < 5864062014805 then (blocking_Cut.l0 k2 (x7_2.drop (t324 : Int).toNat) (x9_2 ++ [(y325 ++ y328)]) a1_2 (wrap64 (x41_2 + 1)) a1_0 a1_1 a1_2 a1_3 a1_4) else (none)) else (none)) = some (r1, r2) := by first | (rw [hy328]; with_reducible exact H) | (have H2_ := (Option.bind_some _ _).symm.trans H; rw [hy328]; with_reducible exact H2_) | (have H2_ := (Option.bind_some _ _).symm.trans H; with_reducible exact H2_) | with_reducible exact H | (rw [hy328]; exact H) | exact H
           have Ny328 := Aside0.mk hy328
           clear hy328
           by_cases c31 : y325.length + y328.length < 5864062014805
           ·rw [if_pos c31] at H
            have LMc31 := Aside0.mk c31
            clear c31
            obtain ⟨y333, hy333⟩ : ∃ y_ : List (List Int), y_ = (y325 ++ y328) := ⟨_, rfl⟩
            replace H : (if x9_2.length < 5864062014805 then (blocking_Cut.l0 k2 (x7_2.drop (t324 : Int).toNat) (x9_2 ++ [y333]) a1_2 (wrap64 (x41_2 + 1)) a1_0 a1_1 a1_2 a1_3 a1_4) else (none)) = some (r1, r2) := by first | (rw [hy333]; with_reducible exact H) | (have H2_ := (Option.bind_some _ _).symm.trans H; rw [hy333]; with_reducible exact H2_) | (have H2_ := (Option.bind_some _ _).symm.trans H; with_reducible exact H2_) | with_reducible exact H | (rw [hy333]; exact H) | exact H
            have Ny333 := Aside0.mk hy333
            clear hy333
            by_cases c32 : x9_2.length < 5864062014805
            ·rw [if_pos c32] at H
             have LMc32 := Aside0.mk c32
             clear c32
             obtain ⟨y336, hy336⟩ : ∃ y_ : List (List (List Int)), y_ = (x9_2 ++ [y333]) := ⟨_, rfl⟩
             replace H : (blocking_Cut.l0 k2 (x7_2.drop (t324 : Int).toNat) y336 a1_2 (wrap64 (x41_2 + 1)) a1_0 a1_1 a1_2 a1_3 a1_4) = some (r1, r2) := by first | (rw [hy336]; with_reducible exact H) | (have H2_ := (Option.bind_some _ _).symm.trans H; rw [hy336]; with_reducible exact H2_) | (have H2_ := (Option.bind_some _ _).symm.trans H; with_reducible exact H2_) | with_reducible exact H | (rw [hy336]; exact H) | exact H
             have Ny336 := Aside0.mk hy336
             clear hy336
             have c33b0 := eq_true (of_decide_eq_true (by first | (with_reducible assumption) | assumption) : 0 ≤ t324)
             have c34b0 := eq_true (of_decide_eq_true (by first | (with_reducible assumption) | assumption) : t324 ≤ (x7_2.length : Int))
             obtain ⟨y339, hy339⟩ : ∃ y_ : List (List Int), y_ = (x7_2.drop (t324 : Int).toNat) := ⟨_, rfl⟩
             replace H : (blocking_Cut.l0 k2 y339 y336 a1_2 (wrap64 (x41_2 + 1)) a1_0 a1_1 a1_2 a1_3 a1_4) = some (r1, r2) := by first | (rw [hy339]; with_reducible exact H) | (have H2_ := (Option.bind_some _ _).symm.trans H; rw [hy339]; with_reducible exact H2_) | (have H2_ := (Option.bind_some _ _).symm.trans H; with_reducible exact H2_) | with_reducible exact H | (rw [hy339]; exact H) | exact H
             have Ny339 := Aside0.mk hy339
             clear hy339
             have H' := Aside0.mk H
             clear H
             have hcz35_0 : wr.cell? ⟨gb296, 0, none⟩ = some (.int .i64 a1_0) := (blk_cell BK296.out 0).trans rfl
             have hcz35_1 : wr.cell? ⟨gb296, 1, none⟩ = some (.int .i64 a1_1) := (blk_cell BK296.out 1).trans rfl
             have hcz35_2 : wr.cell? ⟨gb296, 2, none⟩ = some (.int .i64 a1_2) := (blk_cell BK296.out 2).trans rfl
             have hcz35_3 : wr.cell? ⟨gb296, 3, none⟩ = some (.int .i64 a1_3) := (blk_cell BK296.out 3).trans rfl
             have hcz35_4 : wr.cell? ⟨gb296, 4, none⟩ = some (.int .i64 a1_4) := (blk_cell BK296.out 4).trans rfl
             have hfz35_0 := blk_frozen BK296.out 0
             have hfz35_1 := blk_frozen BK296.out 1
             have hfz35_2 := blk_frozen BK296.out 2
             have hfz35_3 := blk_frozen BK296.out 3
             have hfz35_4 := blk_frozen BK296.out 4
             go_wp2_with (first | ((with_reducible refine gate_callee (f := 27) rfl ?_); refine goesL_ (some 46) rfl rfl Tryd.func27 (by kernel_rfl) rfl #[.agg #[.int .i64 a1_0, .int .i64 a1_1, .int .i64 a1_2, .int .i64 a1_3, .int .i64 a1_4], .int .i64 x41_2] rfl (by (try simp only [List.map_toArray, List.map_cons, List.map_nil]); first | done | rfl | (simp only [List.length_drop, List.length_take]; rfl)) ?_; (with_reducible refine (blocking_source.calls a1_0 a1_1 a1_2 a1_3 a1_4 x41_2 t324 _ A28.out).mono ?_); rintro e w36 ⟨rfl, hb⟩; refine ⟨_, rfl, ?_⟩; have n0_ := Aside0.mk (Kd.V_below (by (with_reducible repeat (first | apply Kd.V_alloc | apply Kd.V_drewN | apply Kd.V_drew)); exact HO_7.out) hb); have n1_ := Aside0.mk (Kd.N_below (by (with_reducible repeat (first | apply Kd.N_alloc | apply Kd.N_drewN | apply Kd.N_drew)); exact HO_9.out) hb); have n2_ := Aside0.mk (blk_below (g := gb296) (o := .cells #[.int .i64 a1_0, .int .i64 a1_1, .int .i64 a1_2, .int .i64 a1_3, .int .i64 a1_4] 23 (0, 0)) (by (with_reducible repeat (first | refine blk_drewN ?_ _ | refine blk_drew ?_ | refine blk_alloc ?_ _)); exact BK296.out) hb); have n3_ := Aside0.mk (below_step (by repeat (first | (with_reducible first | exact HB.out | apply below_alloc | apply pw_below_drewN | apply below_drew1 | refine below_set ?_ GE296.out) | exact HB.out)) hb); clear HO_7; clear HO_9; clear BK296; clear HB; have HO_7 := n0_; have HO_9 := n1_; have BK296 := n2_; have HB := n3_; clear n0_ n1_ n2_ n3_; (try clear hb); (try clear hb2); (try clear hk); (try clear hi)) | ((with_reducible refine gate_dst (N := 48) rfl ?_); refine Kd.N_lit (Kd.slice 5 (Kd.int .u8)) _ 42 ?hg (N' := 48) ?hd (xs := ([] : List (List Int))) (inner := []) (ok := (fun k_ => (blocking_Cut.Z0 k_ ∨ w.heap.size ≤ k_) ∧ some k_ ≠ (u9 : Value).ownBlock ∧ k_ ≠ gb296)) (okp := (fun k_ => (blocking_Cut.Z0 k_ ∨ w.heap.size ≤ k_) ∧ some k_ ≠ (u9 : Value).ownBlock ∧ k_ ≠ gb296)) ?hr ?hp (fun _ hk => hk) ((show ∀ k_, w36.heap.size ≤ k_ → (fun k_ => (blocking_Cut.Z0 k_ ∨ w.heap.size ≤ k_) ∧ some k_ ≠ (u9 : Value).ownBlock ∧ k_ ≠ gb296) k_ from fun k_ hk => ⟨(.inr (Nat.le_trans (below_size (by repeat (first | (with_reducible first | exact HB.out | apply below_alloc | apply pw_below_drewN | apply below_drew1 | refine below_set ?_ GE296.out) | exact HB.out))) hk)), Kd.fresh' (Kd.N_lt (by (with_reducible repeat (first | apply Kd.N_alloc | apply Kd.N_drewN | apply Kd.N_drew)); exact HO_9.out)) k_ hk, Kd.freshB (g := gb296) (o := .cells #[.int .i64 a1_0, .int .i64 a1_1, .int .i64 a1_2, .int .i64 a1_3, .int .i64 a1_4] 23 (0, 0)) (by (with_reducible repeat (first | refine blk_drewN ?_ _ | refine blk_drew ?_ | refine blk_alloc ?_ _)); exact BK296.out) k_ hk⟩) _ (Nat.le_refl _)) (Below.refl _ _) (Nat.le_refl _) (by simp) ?_; (case hd => rfl); (case hg => rfl); (case hr => first | (go_simp; done) | (go_simp; rfl)); (case hp => exact (Reps.none _ _)); intro v326 w37 ho38 hb hg_ hnew_; clear hg_ hnew_; (first | rw [← Ny325.out] at ho38 | (simp only [Int.reduceToNat] at ho38; rw [← Ny325.out] at ho38)); have n0_ := Aside0.mk (Kd.V_elder' (by (with_reducible repeat (first | apply Kd.V_alloc | apply Kd.V_drewN | apply Kd.V_drew)); exact HO_7.out) (Kd.N_base ho38) hb); have n1_ := Aside0.mk (Kd.N_elder' (by (with_reducible repeat (first | apply Kd.N_alloc | apply Kd.N_drewN | apply Kd.N_drew)); exact HO_9.out) (Kd.N_base ho38) hb); have n2_ := Aside0.mk (Kd.N_lower ho38 (below_size (by repeat (first | (with_reducible first | exact HB.out | apply below_alloc | apply pw_below_drewN | apply below_drew1 | refine below_set ?_ GE296.out) | exact HB.out)))); have n3_ := Aside0.mk (blk_below (g := gb296) (o := .cells #[.int .i64 a1_0, .int .i64 a1_1, .int .i64 a1_2, .int .i64 a1_3, .int .i64 a1_4] 23 (0, 0)) (by (with_reducible repeat (first | refine blk_drewN ?_ _ | refine blk_drew ?_ | refine blk_alloc ?_ _)); exact BK296.out) hb); have n4_ := Aside0.mk (below_step (by repeat (first | (with_reducible first | exact HB.out | apply below_alloc | apply pw_below_drewN | apply below_drew1 | refine below_set ?_ GE296.out) | exact HB.out)) hb); clear HO_7; clear HO_9; clear BK296; clear HB; have HO_7 := n0_; have HO_9 := n1_; have HO327 := n2_; have BK296 := n3_; have HB := n4_; clear n0_ n1_ n2_ n3_ n4_; clear hb ho38; obtain ⟨Ao40, co40, eo40⟩ := Kd.V_slice HO_7.out; subst eo40; have q39 : (t324 : Int) ≤ ((x7_2.length : Int) : Int) := of_decide_eq_true (by first | (with_reducible assumption) | assumption); obtain ⟨i039, hi039, _, hsz39, _⟩ := info_parts info42; have hroom39 : x7_2.length ≤ co40 := (Kd.V_reads' HO_7.out).2.1; have hC39 : Kd.F (Kd.slice 5 (Kd.int .u8)) _ _ Ao40 x7_2.length x7_2 := (Kd.V_at (base := w.heap.size) HO_7.out).2.2; have hcut39 := cut_to (P := Tryd.prog) 40 42 .i64 Tryd.underlying40 hi039 Ao40 x7_2.length co40 t324 (of_decide_eq_true (by first | (with_reducible assumption) | assumption)) q39 hroom39; have hr39 := Kd.F_take (m := (t324 : Int).toNat) hC39 (by omega); have hy39 : y328.length = (t324 : Int).toNat := (by rw [Ny328.out, List.length_take]; omega); rw [← Ny328.out] at hr39; rw [← hy39] at hcut39; have HO332 := Aside0.mk (show Kd.V (Kd.slice 5 (Kd.int .u8)) 42 _ w.heap.size _ (.slice Ao40 y328.length co40) y328 from Kd.V_mk (by omega) hr39); have HC332 := Aside0.mk (show y328.length ≤ co40 from by omega); clear hr39 hC39 hroom39 hi039 hsz39; have KY39 := Aside0.mk hy39; clear hy39; replace q39 := eq_true q39) | ((with_reducible refine gate_builtin (b := .append) (xs := #[.tmp 48, .tmp 51]) rfl ?_); at_builtin; refine Kd.N_append_rows (Kd.slice 5 (Kd.int .u8)) (w0 := w) w.heap.size rfl (.tmp 48) (.tmp 51) 40 42 (.slice none 0 0) 24 rfl Tryd.underlying40 info42 rfl (by decide) (by omega) v326 y325 y328 _ _ _ (fun k_ => (blocking_Cut.Z0 k_ ∨ w.heap.size ≤ k_) ∧ some k_ ≠ (u9 : Value).ownBlock ∧ k_ ≠ gb296) (fun k_ => ((fun k_ => (blocking_Cut.Z0 k_ ∨ w.heap.size ≤ k_) ∧ some k_ ≠ (u9 : Value).ownBlock ∧ k_ ≠ gb296)) k_ ∧ some k_ ≠ (v326 : Value).ownBlock) rfl rfl ?aO ?aR (fun _ hk => hk) ?aF ?aB ?aS ?aL ?_; (case aR => exact (by skip; exact Kd.V_F (Kd.V_mono (ok' := (fun k_ => ((fun k_ => (blocking_Cut.Z0 k_ ∨ w.heap.size ≤ k_) ∧ some k_ ≠ (u9 : Value).ownBlock ∧ k_ ≠ gb296)) k_ ∧ some k_ ≠ (v326 : Value).ownBlock)) (HO332.out) (fun k_ hk => ⟨⟨hk.1.1, ⟨hk.1.2.1, hk.1.2.2⟩⟩, hk.2⟩)))); (case aB => exact (by repeat (first | (with_reducible first | exact HB.out | apply below_alloc | apply pw_below_drewN | apply below_drew1 | refine below_set ?_ GE296.out) | exact HB.out))); (case aF => exact (fun k_ hk => ⟨(.inr (Nat.le_trans (below_size (by repeat (first | (with_reducible first | exact HB.out | apply below_alloc | apply pw_below_drewN | apply below_drew1 | refine below_set ?_ GE296.out) | exact HB.out))) hk)), Kd.fresh' (Kd.N_lt (by (with_reducible repeat (first | apply Kd.N_alloc | apply Kd.N_drewN | apply Kd.N_drew)); exact HO_9.out)) k_ hk, Kd.freshB (g := gb296) (o := .cells #[.int .i64 a1_0, .int .i64 a1_1, .int .i64 a1_2, .int .i64 a1_3, .int .i64 a1_4] 23 (0, 0)) (by (with_reducible repeat (first | refine blk_drewN ?_ _ | refine blk_drew ?_ | refine blk_alloc ?_ _)); exact BK296.out) k_ hk⟩)); (case aO => exact (by (with_reducible repeat (first | apply Kd.N_alloc | apply Kd.N_drewN | apply Kd.N_drew)); exact HO327.out)); (case aS => exact (below_size (by repeat (first | (with_reducible first | exact HB.out | apply below_alloc | apply pw_below_drewN | apply below_drew1 | refine below_set ?_ GE296.out) | exact HB.out)))); (case aL => have := LMc31.out; omega); intro v334 w41 ho hb hg hat; rw [← Ny333.out] at ho; have n0_ := Aside0.mk (Kd.V_afterv (ok := (fun k_ => (blocking_Cut.Z0 k_ ∨ w.heap.size ≤ k_) ∧ some k_ ≠ (u9 : Value).ownBlock ∧ k_ ≠ gb296)) (by (with_reducible repeat (first | apply Kd.V_alloc | apply Kd.V_drewN | apply Kd.V_drew)); exact HO_7.out) hg hat); have n1_ := Aside0.mk (Kd.N_afterv (ok := (fun k_ => (blocking_Cut.Z0 k_ ∨ w.heap.size ≤ k_) ∧ k_ ≠ gb296)) (by (with_reducible repeat (first | apply Kd.N_alloc | apply Kd.N_drewN | apply Kd.N_drew)); exact HO_9.out) hg hat); have n2_ := Aside0.mk (blk_grown (g := gb296) (o := .cells #[.int .i64 a1_0, .int .i64 a1_1, .int .i64 a1_2, .int .i64 a1_3, .int .i64 a1_4] 23 (0, 0)) (by (with_reducible repeat (first | refine blk_drewN ?_ _ | refine blk_drew ?_ | refine blk_alloc ?_ _)); exact BK296.out) hg (Kd.N_ne HO327.out BK296.out (by decide))); have n3_ := Aside0.mk (Kd.V_afterv (ok := (fun k_ => (blocking_Cut.Z0 k_ ∨ w.heap.size ≤ k_) ∧ some k_ ≠ (u9 : Value).ownBlock ∧ k_ ≠ gb296)) (by (with_reducible repeat (first | apply Kd.V_alloc | apply Kd.V_drewN | apply Kd.V_drew)); exact HO332.out) hg hat); have n4_ := Aside0.mk (hb); have n5_ := Aside0.mk (ho); clear HO_7; clear HO_9; clear BK296; clear HO332; clear HB; clear HO327; have HO_7 := n0_; have HO_9 := n1_; have BK296 := n2_; have HO332 := n3_; have HB := n4_; have HO335 := n5_; clear n0_ n1_ n2_ n3_ n4_ n5_; clear ho hb hg hat; obtain ⟨Ao43, co43, eo43⟩ := Kd.N_slice HO335.out; subst eo43) | ((with_reducible refine gate_builtin (b := .append) (xs := #[.tmp 47, .tmp 53]) rfl ?_); at_builtin; refine Kd.N_append (Kd.slice 42 (Kd.slice 5 (Kd.int .u8))) (w0 := w) w.heap.size rfl (.tmp 47) (.tmp 53) 39 40 (.slice none 0 0) 24 rfl Tryd.underlying39 info40 rfl (by decide) (by omega) u9 x9_2 y333 [.slice Ao43 y333.length co43] (fun k_ => (blocking_Cut.Z0 k_ ∨ w.heap.size ≤ k_) ∧ k_ ≠ gb296) (fun k_ => ((fun k_ => (blocking_Cut.Z0 k_ ∨ w.heap.size ≤ k_) ∧ k_ ≠ gb296)) k_ ∧ some k_ ≠ (u9 : Value).ownBlock) rfl rfl ?aP (fun _ hk => hk) ?aF ?aO ?aB ?aS ?aL ?_; (case aP => exact (Kd.FK_slice_mk (Kd.N_reads' (Kd.N_mono (ok' := (fun k_ => ((fun k_ => (blocking_Cut.Z0 k_ ∨ w.heap.size ≤ k_) ∧ k_ ≠ gb296)) k_ ∧ some k_ ≠ (u9 : Value).ownBlock)) (HO335.out) (fun k_ hk => ⟨⟨hk.1, hk.2.2⟩, hk.2.1⟩))).2.1 (Kd.N_F (Kd.N_mono (ok' := (fun k_ => ((fun k_ => (blocking_Cut.Z0 k_ ∨ w.heap.size ≤ k_) ∧ k_ ≠ gb296)) k_ ∧ some k_ ≠ (u9 : Value).ownBlock)) (HO335.out) (fun k_ hk => ⟨⟨hk.1, hk.2.2⟩, hk.2.1⟩))))); (case aB => exact (by repeat (first | (with_reducible first | exact HB.out | apply below_alloc | apply pw_below_drewN | apply below_drew1 | refine below_set ?_ GE296.out) | exact HB.out))); (case aF => exact (fun k_ hk => ⟨(.inr (Nat.le_trans (below_size (by repeat (first | (with_reducible first | exact HB.out | apply below_alloc | apply pw_below_drewN | apply below_drew1 | refine below_set ?_ GE296.out) | exact HB.out))) hk)), Kd.freshB (g := gb296) (o := .cells #[.int .i64 a1_0, .int .i64 a1_1, .int .i64 a1_2, .int .i64 a1_3, .int .i64 a1_4] 23 (0, 0)) (by (with_reducible repeat (first | refine blk_drewN ?_ _ | refine blk_drew ?_ | refine blk_alloc ?_ _)); exact BK296.out) k_ hk⟩)); (case aO => exact (by (with_reducible repeat (first | apply Kd.N_alloc | apply Kd.N_drewN | apply Kd.N_drew)); exact Kd.N_mono HO_9.out (fun _ hk => ⟨hk.1.1, hk.1.2⟩))); (case aS => exact (below_size (by repeat (first | (with_reducible first | exact HB.out | apply below_alloc | apply pw_below_drewN | apply below_drew1 | refine below_set ?_ GE296.out) | exact HB.out)))); (case aL => have := LMc32.out; omega); intro v337 w42 ho hb hg hat; rw [← Ny336.out] at ho; have n0_ := Aside0.mk (Kd.V_afterv (ok := (fun k_ => (blocking_Cut.Z0 k_ ∨ w.heap.size ≤ k_) ∧ some k_ ≠ (.slice Ao43 y333.length co43 : Value).ownBlock ∧ k_ ≠ gb296)) (by (with_reducible repeat (first | apply Kd.V_alloc | apply Kd.V_drewN | apply Kd.V_drew)); exact Kd.V_mono HO_7.out (fun _ hk => ⟨⟨hk.1.1, ⟨hk.2, hk.1.2.2⟩⟩, hk.1.2.1⟩)) hg hat); have n1_ := Aside0.mk (blk_grown (g := gb296) (o := .cells #[.int .i64 a1_0, .int .i64 a1_1, .int .i64 a1_2, .int .i64 a1_3, .int .i64 a1_4] 23 (0, 0)) (by (with_reducible repeat (first | refine blk_drewN ?_ _ | refine blk_drew ?_ | refine blk_alloc ?_ _)); exact BK296.out) hg (Kd.N_ne HO_9.out BK296.out (by decide))); have n2_ := Aside0.mk (Kd.V_afterv (ok := (fun k_ => (blocking_Cut.Z0 k_ ∨ w.heap.size ≤ k_) ∧ some k_ ≠ (.slice Ao43 y333.length co43 : Value).ownBlock ∧ k_ ≠ gb296)) (by (with_reducible repeat (first | apply Kd.V_alloc | apply Kd.V_drewN | apply Kd.V_drew)); exact Kd.V_mono HO332.out (fun _ hk => ⟨⟨hk.1.1, ⟨hk.2, hk.1.2.2⟩⟩, hk.1.2.1⟩)) hg hat); have n3_ := Aside0.mk (hb); have n4_ := Aside0.mk (ho); clear HO_7; clear BK296; clear HO332; clear HB; clear HO_9; clear HO335; have HO_7 := n0_; have BK296 := n1_; have HO332 := n2_; have HB := n3_; have HO338 := n4_; clear n0_ n1_ n2_ n3_ n4_; clear ho hb hg hat; have q44 : (t324 : Int) ≤ ((x7_2.length : Int) : Int) := of_decide_eq_true (by first | (with_reducible assumption) | assumption); obtain ⟨i044, hi044, _, hsz44, _⟩ := info_parts info42; have hroom44 : x7_2.length ≤ co40 := (Kd.V_reads' HO_7.out).2.1; have hC44 : Kd.F (Kd.slice 5 (Kd.int .u8)) _ _ Ao40 x7_2.length x7_2 := (Kd.V_at (base := w.heap.size) HO_7.out).2.2; have q044 : (0 : Int) ≤ (t324 : Int) := of_decide_eq_true (by first | (with_reducible assumption) | assumption); have hcut44 := cut_from (P := Tryd.prog) 40 42 .i64 Tryd.underlying40 hi044 1 hsz44 Ao40 x7_2.length co40 t324 q044 q44; have hr44 := Kd.F_cut (m := (t324 : Int).toNat) (c := co40) hC44 (by omega) hroom44; obtain ⟨A44, hA44⟩ : ∃ A1, A1 = (if co40 = (t324 : Int).toNat then Ao40 else (Ao40 : Option Addr).map (·.add ((t324 : Int).toNat * 1))) := ⟨_, rfl⟩; obtain ⟨c44, hc44⟩ : ∃ c1, c1 = co40 - (t324 : Int).toNat := ⟨_, rfl⟩; have hy44 : y339.length = x7_2.length - (t324 : Int).toNat := (by rw [Ny339.out, List.length_drop] <;> omega); rw [show (x7_2).drop (t324 : Int).toNat = y339 from Ny339.out.symm] at hr44; replace hr44 : Kd.F (Kd.slice 5 (Kd.int .u8)) _ _ A44 y339.length y339 := (by rw [hA44]; exact hr44); rw [← hy44, ← hA44, ← hc44] at hcut44; have HO343 := Aside0.mk (show Kd.V (Kd.slice 5 (Kd.int .u8)) 42 _ w.heap.size _ (.slice A44 y339.length c44) y339 from Kd.V_mk (by rw [hy44, hc44]; exact Nat.sub_le_sub_right hroom44 _) hr44); have HC343 := Aside0.mk (show y339.length ≤ c44 from by rw [hy44, hc44]; exact Nat.sub_le_sub_right hroom44 _); clear hr44 hC44 hroom44 hi044 hsz44 hc44; have KY44 := Aside0.mk hy44; have KA44 := Aside0.mk hA44; clear hy44 hA44; replace q44 := eq_true q44))
             go_roundg k2
             case measure => have := HJ5.out; have := HK2.out; omega
             case rel => exact ⟨(y339), (y336), (wrap64 (x41_2 + 1)), (by first | rfl | (simp; done) | (simp [*]; done)), H', ⟨by have := HJ5.out; have := HK2.out; omega⟩, ⟨by (with_reducible repeat (first | apply Kd.V_alloc | apply Kd.V_drewN | apply Kd.V_drew)); exact Kd.V_mono HO343.out (fun _ hk => ⟨hk.1.1, ⟨hk.2, hk.1.2.2⟩⟩)⟩, ⟨by (with_reducible repeat (first | apply Kd.N_alloc | apply Kd.N_drewN | apply Kd.N_drew)); exact HO338.out⟩, ⟨by (with_reducible repeat (first | refine blk_drewN ?_ _ | refine blk_drew ?_ | refine blk_alloc ?_ _)); exact BK296.out⟩, ⟨by repeat (first | (with_reducible first | exact HB.out | apply below_alloc | apply pw_below_drewN | apply below_drew1 | refine below_set ?_ GE296.out) | exact HB.out)⟩⟩
            ·rw [if_neg c32] at H
             exact absurd H (by simp)
           ·rw [if_neg c31] at H
            exact absurd H (by simp)
          ·rw [if_neg c30] at H
           exact absurd H (by simp)
         ·rw [if_neg c29] at H
          exact absurd H (by simp)
        ·rw [if_neg c27] at H
         have c27b0 : decide (x41_2 < a1_2) = false := decide_eq_false c27
         clear c27
         simp only [Option.some.injEq, Prod.mk.injEq] at H
         obtain ⟨rfl, rfl⟩ := H
         go_wp2
         go_ret2
         exact ⟨_, (.slice none 0 0), by first | rfl | (simp [errW_none, errW_some] <;> rfl) | (simp [*, errW_none, errW_some] <;> rfl), by (with_reducible repeat (first | apply Kd.N_alloc | apply Kd.N_drewN | apply Kd.N_drew)); exact Kd.N_mono HO_9.out (fun _ hk => ⟨hk.1, (by simp [Value.ownBlock])⟩), by first | exact Kd.R_nil _ _ _ _ _ | exact Kd.N_nil _ _ _ _ _ | exact Kd.V_nil _ _ _ _ _ | exact Kd.Q_nil _ _ _ _ _ | exact Kd.S_nil _ _ _ _ _, by repeat (first | (with_reducible first | exact HB.out | apply below_alloc | apply pw_below_drewN | apply below_drew1 | refine below_set ?_ GE296.out) | exact HB.out)⟩
     ·rw [if_neg c19] at H
      have c19b0 : ((t315.length : Int) == 0) = false := beq_eq_false_iff_ne.mpr c19
      have c19b1 : ((t315.length : Int) != 0) = true := bne_iff_ne.mpr c19
      have c19b2 : ¬ (t315 = []) := fun h_ => c19 (by rw [h_]; rfl)
      replace H := Option.bind_eq_some_iff.mp H
      obtain ⟨t321, A450, H⟩ := H
      replace H : (some (([] : List (List (List Int))), t321)) = some (r1, r2) := H
      have A45 := Aside0.mk A450
      clear A450
      simp only [Option.some.injEq, Prod.mk.injEq] at H
      obtain ⟨rfl, rfl⟩ := H
      have hcz46_0 : wc.cell? ⟨gb296, 0, none⟩ = some (.int .i64 a1_0) := (blk_cell BK296.out 0).trans rfl
      have hcz46_1 : wc.cell? ⟨gb296, 1, none⟩ = some (.int .i64 a1_1) := (blk_cell BK296.out 1).trans rfl
      have hcz46_2 : wc.cell? ⟨gb296, 2, none⟩ = some (.int .i64 a1_2) := (blk_cell BK296.out 2).trans rfl
      have hcz46_3 : wc.cell? ⟨gb296, 3, none⟩ = some (.int .i64 a1_3) := (blk_cell BK296.out 3).trans rfl
      have hcz46_4 : wc.cell? ⟨gb296, 4, none⟩ = some (.int .i64 a1_4) := (blk_cell BK296.out 4).trans rfl
      have hfz46_0 := blk_frozen BK296.out 0
      have hfz46_1 := blk_frozen BK296.out 1
      have hfz46_2 := blk_frozen BK296.out 2
      have hfz46_3 := blk_frozen BK296.out 3
      have hfz46_4 := blk_frozen BK296.out 4
      obtain ⟨Ao47, co47, eo47⟩ := Kd.V_slice HO_0.out
      subst eo47
      go_wp2_with (first | ((with_reducible refine gate_callee (f := 32) rfl ?_); refine goesL_ (some 32) rfl rfl Tryd.func32 (by kernel_rfl) rfl #[.slice Ao47 x0_5.length co47, .int .i64 a1_1] rfl (by (try simp only [List.map_toArray, List.map_cons, List.map_nil]); first | done | rfl | (simp only [List.length_drop, List.length_take]; rfl)) ?_; (with_reducible refine (symbol_Split.calls kj5 (fun k_ => ((P0_ k_ ∨ w.heap.size ≤ k_) ∧ k_ ≠ gb296)) _ _ x0_5 a1_1 t312 t315 _ ?side1 A18.out).mono ?_); (case side1 => exact HO_0.out); rintro e w48 ⟨v313, v316, rfl, ho0, ho1, hb⟩; refine ⟨_, rfl, ?_⟩; (try replace ho0 := Kd.N_mono (ok' := fun k_ => ((((blocking_Cut.Z0 k_ ∨ w.heap.size ≤ k_) ∧ k_ ≠ gb296)) ∨ _ ≤ k_) ∧ some k_ ≠ (v316 : Value).ownBlock) (Kd.S_N (Kd.S_apart' ho0 (Kd.R_typed ho1) (by decide))) (fun k_ hk => ⟨.inr hk.1, hk.2⟩)); have n0_ := Aside0.mk (Kd.V_mono (Kd.V_told (Kd.V_told (Kd.V_old (by (with_reducible repeat (first | apply Kd.V_alloc | apply Kd.V_drewN | apply Kd.V_drew)); exact HO_0.out) hb) (Kd.N_base ho0)) (Kd.R_base ho1)) (fun _ h_ => h_.1)); have n1_ := Aside0.mk (Kd.N_lower (Kd.N_mono (ok' := fun k_ => (blocking_Cut.Z0 k_ ∨ w.heap.size ≤ k_) ∧ some k_ ≠ (v316 : Value).ownBlock ∧ k_ ≠ gb296) ho0 (fun k_ hk_ => ⟨Or.elim hk_.1 (fun hs_ => hs_.1) (fun hn_ => (.inr (Nat.le_trans (below_size (by repeat (first | (with_reducible first | exact HB.out | apply below_alloc | apply pw_below_drewN | apply below_drew1 | refine below_set ?_ GE296.out) | exact HB.out))) hn_))), hk_.2, Or.elim hk_.1 (fun hs_ => hs_.2) (fun hn_ => (Kd.freshB (g := gb296) (o := .cells #[.int .i64 a1_0, .int .i64 a1_1, .int .i64 a1_2, .int .i64 a1_3, .int .i64 a1_4] 23 (0, 0)) (by (with_reducible repeat (first | refine blk_drewN ?_ _ | refine blk_drew ?_ | refine blk_alloc ?_ _)); exact BK296.out) k_ hn_))⟩)) (below_size (by repeat (first | (with_reducible first | exact HB.out | apply below_alloc | apply pw_below_drewN | apply below_drew1 | refine below_set ?_ GE296.out) | exact HB.out)))); have n2_ := Aside0.mk (Kd.R_lower (Kd.R_newM (M := fun k_ => (w.heap.size ≤ k_)) (Kd.R_mono (ok' := fun k_ => True) ho1 (fun _ hk_ => trivial)) (below_size (by repeat (first | (with_reducible first | exact HB.out | apply below_alloc | apply pw_below_drewN | apply below_drew1 | refine below_set ?_ GE296.out) | exact HB.out))) (fun k_ h_ => h_)) (below_size (by repeat (first | (with_reducible first | exact HB.out | apply below_alloc | apply pw_below_drewN | apply below_drew1 | refine below_set ?_ GE296.out) | exact HB.out)))); have n3_ := Aside0.mk (blk_below (g := gb296) (o := .cells #[.int .i64 a1_0, .int .i64 a1_1, .int .i64 a1_2, .int .i64 a1_3, .int .i64 a1_4] 23 (0, 0)) (by (with_reducible repeat (first | refine blk_drewN ?_ _ | refine blk_drew ?_ | refine blk_alloc ?_ _)); exact BK296.out) hb); have n4_ := Aside0.mk (below_step (by repeat (first | (with_reducible first | exact HB.out | apply below_alloc | apply pw_below_drewN | apply below_drew1 | refine below_set ?_ GE296.out) | exact HB.out)) hb); clear HO_0; clear BK296; clear HB; have HO_0 := n0_; have HO314 := n1_; have HO317 := n2_; have BK296 := n3_; have HB := n4_; clear n0_ n1_ n2_ n3_ n4_; (try clear hb); (try clear hb2); (try clear hk); (try clear hi); (try clear ho0); (try clear ho1); obtain ⟨Ao50, co50, eo50⟩ := Kd.N_slice HO314.out; subst eo50; have hr49 := (show Kd.V (Kd.slice 5 (Kd.int .u8)) 42 _ w.heap.size _ _ _ from Kd.N_V HO314.out); rw [← Ny318.out] at hr49; have HO320 := Aside0.mk hr49; have HC320 := Aside0.mk (show y318.length ≤ co50 from by rw [Ny318.out]; exact (Kd.N_reads' HO314.out).2.1); clear hr49 HO314; rw [← Ny318.out]; obtain ⟨Ao51, co51, eo51⟩ := Kd.R_slice HO317.out; subst eo51) | ((with_reducible refine gate_callee (f := 26) rfl ?_); refine goesL_ (some 38) rfl rfl Tryd.func26 (by kernel_rfl) rfl #[.string (⟨#[98, 108, 111, 99, 107, 105, 110, 103, 46, 67, 117, 116]⟩ : ByteArray), errOf (.slice Ao51 t315.length co51)] rfl (by (try simp only [List.map_toArray, List.map_cons, List.map_nil]); first | done | rfl | (simp only [List.length_drop, List.length_take]; rfl)) ?_; (with_reducible refine (fault_Wrap.calls (⟨#[98, 108, 111, 99, 107, 105, 110, 103, 46, 67, 117, 116]⟩ : ByteArray) (fun k_ => some k_ = (.slice Ao51 t315.length co51 : Value).ownBlock) (.slice Ao51 t315.length co51) t315 t321 w _ ?side1 ?side2 A45.out).mono ?_); (case side1 => repeat (first | (with_reducible first | exact HB.out | apply below_alloc | apply pw_below_drewN | apply below_drew1 | refine below_set ?_ GE296.out) | exact HB.out)); (case side2 => exact Kd.R_tight rfl (kF0_of HO317.out)); rintro e w52 ⟨v322, rfl, ho0, hb, hkp⟩; refine ⟨_, rfl, ?_⟩; have n0_ := Aside0.mk (Kd.V_mono (ok' := fun k_ => (P0_ k_ ∨ w.heap.size ≤ k_) ∧ k_ ≠ gb296 ∧ some k_ ≠ (v322 : Value).ownBlock) (Kd.V_keptB (HO_0.out) hkp (fun k_ hk_ hs_ => (hk_.2) hs_)) (fun k_ hk_ => ⟨hk_.1.1.1.1, hk_.1.1.1.2, fun e_ => Or.elim (ho0.1 k_ e_.symm) (fun hs_ => hk_.2.1 hs_) (fun hn_ => Nat.not_le.2 hk_.2.2 hn_)⟩)); have n1_ := Aside0.mk (blk_kept (by (with_reducible repeat (first | refine blk_drewN ?_ _ | refine blk_drew ?_ | refine blk_alloc ?_ _)); exact BK296.out) hkp (fun hs_ => (fun e_ => (Kd.R_ne HO317.out BK296.out (by decide)) e_) hs_)); have n2_ := Aside0.mk (Kd.V_mono (ok' := fun k_ => (blocking_Cut.Z0 k_ ∨ w.heap.size ≤ k_) ∧ k_ ≠ gb296 ∧ some k_ ≠ (v322 : Value).ownBlock) (Kd.V_keptB (HO320.out) hkp (fun k_ hk_ hs_ => (hk_.2.1) hs_)) (fun k_ hk_ => ⟨hk_.1.1, hk_.1.2.2, fun e_ => Or.elim (ho0.1 k_ e_.symm) (fun hs_ => hk_.2.1 hs_) (fun hn_ => Nat.not_le.2 hk_.2.2 hn_)⟩)); have n3_ := Aside0.mk (Kd.R_mono (ok' := fun k_ => (w.heap.size ≤ k_)) ho0 (fun k_ hk_ => Or.elim hk_ (fun hs_ => (HO317.out.1 k_ (hs_).symm).1) (fun hn_ => (Nat.le_trans (below_size (by repeat (first | (with_reducible first | exact HB.out | apply below_alloc | apply pw_below_drewN | apply below_drew1 | refine below_set ?_ GE296.out) | exact HB.out))) hn_)))); have n4_ := Aside0.mk (hb); clear HO_0; clear BK296; clear HO320; clear HB; clear HO317; have HO_0 := n0_; have BK296 := n1_; have HO320 := n2_; have HO323 := n3_; have HB := n4_; clear n0_ n1_ n2_ n3_ n4_; (try clear hb); (try clear hkp); (try clear ho0)))
      go_ret2
      exact ⟨_, _, by first | rfl | (simp [errW_none, errW_some] <;> rfl) | (simp [*, errW_none, errW_some] <;> rfl), by first | exact Kd.R_nil _ _ _ _ _ | exact Kd.N_nil _ _ _ _ _ | exact Kd.V_nil _ _ _ _ _ | exact Kd.Q_nil _ _ _ _ _ | exact Kd.S_nil _ _ _ _ _, by (with_reducible repeat (first | apply Kd.R_alloc | apply Kd.R_drewN | apply Kd.R_drew)); exact HO323.out, by repeat (first | (with_reducible first | exact HB.out | apply below_alloc | apply pw_below_drewN | apply below_drew1 | refine below_set ?_ GE296.out) | exact HB.out)⟩
  ·rw [if_neg c5] at H
   have c5b0 : ((l0.length : Int) == a1_0) = false := beq_eq_false_iff_ne.mpr c5
   have c5b1 : ((l0.length : Int) != a1_0) = true := bne_iff_ne.mpr c5
   replace H := Option.bind_eq_some_iff.mp H
   obtain ⟨t303, A530, H⟩ := H
   replace H : (some (([] : List (List (List Int))), t303)) = some (r1, r2) := H
   have A53 := Aside0.mk A530
   clear A530
   simp only [Option.some.injEq, Prod.mk.injEq] at H
   obtain ⟨rfl, rfl⟩ := H
   go_enter Tryd.func18, Tryd.ntmps18
   go_wp2_with (first | ((with_reducible refine gate_dst (N := 3) rfl ?_); refine box_event ?hg (N := 3) ?hd (cs := #[.int .i64 a1_0, .int .i64 a1_1, .int .i64 a1_2, .int .i64 a1_3, .int .i64 a1_4]) (t := 23) ?hr ?_; (case hd => rfl); (case hg => rfl); (case hr => first | (go_simp; done) | (go_simp; rfl)); intro gb296 hg w54 hbox hb; have n0_ := Aside0.mk (Kd.V_below (Kd.V_elderB (by (with_reducible repeat (first | apply Kd.V_alloc | apply Kd.V_drewN | apply Kd.V_drew)); exact HO0.out) gb296 (Nat.le_of_eq hg.symm)) hb); have n1_ := Aside0.mk (below_step (by repeat (first | (with_reducible first | exact HB.out | apply below_alloc | apply pw_below_drewN | apply below_drew1) | exact HB.out)) hb); have n2_ := Aside0.mk (hbox); have n3_ := Aside0.mk ((by rw [hg]; exact (below_size (by repeat (first | (with_reducible first | exact HB.out | apply below_alloc | apply pw_below_drewN | apply below_drew1) | exact HB.out))) : w.heap.size ≤ gb296)); have n4_ := Aside0.mk ((by rw [hg]; exact (below_size (by repeat (first | (with_reducible first | exact HB.out | apply below_alloc | apply pw_below_drewN | apply below_drew1) | exact HB.out))) : w.heap.size ≤ gb296)); clear HO0; clear HB; have HO0 := n0_; have HB := n1_; have BK296 := n2_; have GW296 := n3_; have GE296 := n4_; clear n0_ n1_ n2_ n3_ n4_; clear hb hbox hg; have hcz55_0 : w54.cell? ⟨gb296, 0, none⟩ = some (.int .i64 a1_0) := (blk_cell BK296.out 0).trans rfl; have hcz55_1 : w54.cell? ⟨gb296, 1, none⟩ = some (.int .i64 a1_1) := (blk_cell BK296.out 1).trans rfl; have hcz55_2 : w54.cell? ⟨gb296, 2, none⟩ = some (.int .i64 a1_2) := (blk_cell BK296.out 2).trans rfl; have hcz55_3 : w54.cell? ⟨gb296, 3, none⟩ = some (.int .i64 a1_3) := (blk_cell BK296.out 3).trans rfl; have hcz55_4 : w54.cell? ⟨gb296, 4, none⟩ = some (.int .i64 a1_4) := (blk_cell BK296.out 4).trans rfl; have hfz55_0 := blk_frozen BK296.out 0; have hfz55_1 := blk_frozen BK296.out 1; have hfz55_2 := blk_frozen BK296.out 2; have hfz55_3 := blk_frozen BK296.out 3; have hfz55_4 := blk_frozen BK296.out 4) | ((with_reducible refine gate_callee (f := 13) rfl ?_); refine goesL_ (some 13) rfl rfl Tryd.func13 (by kernel_rfl) rfl #[.agg #[.int .i64 a1_0, .int .i64 a1_1, .int .i64 a1_2, .int .i64 a1_3, .int .i64 a1_4]] rfl (by (try simp only [List.map_toArray, List.map_cons, List.map_nil]); first | done | rfl | (simp only [List.length_drop, List.length_take]; rfl)) ?_; (with_reducible refine (blocking_Check.calls k a1_0 a1_1 a1_2 a1_3 a1_4 t297 _ A3.out).mono ?_); rintro e w56 ⟨v298, rfl, ho0, hb⟩; refine ⟨_, rfl, ?_⟩; have n0_ := Aside0.mk (Kd.V_elder' (by (with_reducible repeat (first | apply Kd.V_alloc | apply Kd.V_drewN | apply Kd.V_drew)); exact HO0.out) (Kd.R_base ho0) hb); have n1_ := Aside0.mk (Kd.R_lower (Kd.R_newM (M := fun k_ => (w.heap.size ≤ k_)) ho0 (below_size (by repeat (first | (with_reducible first | exact HB.out | apply below_alloc | apply pw_below_drewN | apply below_drew1 | refine below_set ?_ GE296.out) | exact HB.out))) (fun k_ h_ => h_)) (below_size (by repeat (first | (with_reducible first | exact HB.out | apply below_alloc | apply pw_below_drewN | apply below_drew1 | refine below_set ?_ GE296.out) | exact HB.out)))); have n2_ := Aside0.mk (blk_below (g := gb296) (o := .cells #[.int .i64 a1_0, .int .i64 a1_1, .int .i64 a1_2, .int .i64 a1_3, .int .i64 a1_4] 23 (0, 0)) (by (with_reducible repeat (first | refine blk_drewN ?_ _ | refine blk_drew ?_ | refine blk_alloc ?_ _)); exact BK296.out) hb); have n3_ := Aside0.mk (below_step (by repeat (first | (with_reducible first | exact HB.out | apply below_alloc | apply pw_below_drewN | apply below_drew1 | refine below_set ?_ GE296.out) | exact HB.out)) hb); clear HO0; clear BK296; clear HB; have HO0 := n0_; have HO299 := n1_; have BK296 := n2_; have HB := n3_; clear n0_ n1_ n2_ n3_; (try clear hb); (try clear hb2); (try clear hk); (try clear hi); (try clear ho0); obtain ⟨Ao57, co57, eo57⟩ := Kd.R_slice HO299.out; subst eo57; have hcz58_0 : w56.cell? ⟨gb296, 0, none⟩ = some (.int .i64 a1_0) := (blk_cell BK296.out 0).trans rfl; have hcz58_1 : w56.cell? ⟨gb296, 1, none⟩ = some (.int .i64 a1_1) := (blk_cell BK296.out 1).trans rfl; have hcz58_2 : w56.cell? ⟨gb296, 2, none⟩ = some (.int .i64 a1_2) := (blk_cell BK296.out 2).trans rfl; have hcz58_3 : w56.cell? ⟨gb296, 3, none⟩ = some (.int .i64 a1_3) := (blk_cell BK296.out 3).trans rfl; have hcz58_4 : w56.cell? ⟨gb296, 4, none⟩ = some (.int .i64 a1_4) := (blk_cell BK296.out 4).trans rfl; have hfz58_0 := blk_frozen BK296.out 0; have hfz58_1 := blk_frozen BK296.out 1; have hfz58_2 := blk_frozen BK296.out 2; have hfz58_3 := blk_frozen BK296.out 3; have hfz58_4 := blk_frozen BK296.out 4) | ((with_reducible refine gate_callee (f := 21) rfl ?_); refine goesL_ (some 23) rfl rfl Tryd.func21 (by kernel_rfl) rfl #[.string (⟨#[98, 108, 111, 99, 107, 105, 110, 103, 46, 67, 117, 116]⟩ : ByteArray), .int .i64 2] rfl (by (try simp only [List.map_toArray, List.map_cons, List.map_nil]); first | done | rfl | (simp only [List.length_drop, List.length_take]; rfl)) ?_; (with_reducible refine (fault_New.calls (⟨#[98, 108, 111, 99, 107, 105, 110, 103, 46, 67, 117, 116]⟩ : ByteArray) 2 t303 _ A53.out).mono ?_); rintro e w59 ⟨v304, rfl, ho0, hb⟩; refine ⟨_, rfl, ?_⟩; have n0_ := Aside0.mk (Kd.V_elder' (by (with_reducible repeat (first | apply Kd.V_alloc | apply Kd.V_drewN | apply Kd.V_drew)); exact HO0.out) (Kd.R_base ho0) hb); have n1_ := Aside0.mk (Kd.R_below (by (with_reducible repeat (first | apply Kd.R_alloc | apply Kd.R_drewN | apply Kd.R_drew)); exact HO299.out) hb); have n2_ := Aside0.mk (Kd.R_lower (Kd.R_newM (M := fun k_ => (w.heap.size ≤ k_)) ho0 (below_size (by repeat (first | (with_reducible first | exact HB.out | apply below_alloc | apply pw_below_drewN | apply below_drew1 | refine below_set ?_ GE296.out) | exact HB.out))) (fun k_ h_ => h_)) (below_size (by repeat (first | (with_reducible first | exact HB.out | apply below_alloc | apply pw_below_drewN | apply below_drew1 | refine below_set ?_ GE296.out) | exact HB.out)))); have n3_ := Aside0.mk (blk_below (g := gb296) (o := .cells #[.int .i64 a1_0, .int .i64 a1_1, .int .i64 a1_2, .int .i64 a1_3, .int .i64 a1_4] 23 (0, 0)) (by (with_reducible repeat (first | refine blk_drewN ?_ _ | refine blk_drew ?_ | refine blk_alloc ?_ _)); exact BK296.out) hb); have n4_ := Aside0.mk (below_step (by repeat (first | (with_reducible first | exact HB.out | apply below_alloc | apply pw_below_drewN | apply below_drew1 | refine below_set ?_ GE296.out) | exact HB.out)) hb); clear HO0; clear HO299; clear BK296; clear HB; have HO0 := n0_; have HO299 := n1_; have HO305 := n2_; have BK296 := n3_; have HB := n4_; clear n0_ n1_ n2_ n3_ n4_; (try clear hb); (try clear hb2); (try clear hk); (try clear hi); (try clear ho0)))
   go_ret2
   exact ⟨_, _, by first | rfl | (simp [errW_none, errW_some] <;> rfl) | (simp [*, errW_none, errW_some] <;> rfl), by first | exact Kd.R_nil _ _ _ _ _ | exact Kd.N_nil _ _ _ _ _ | exact Kd.V_nil _ _ _ _ _ | exact Kd.Q_nil _ _ _ _ _ | exact Kd.S_nil _ _ _ _ _, by (with_reducible repeat (first | apply Kd.R_alloc | apply Kd.R_drewN | apply Kd.R_drew)); exact Kd.R_mono HO305.out (fun _ hk => hk.1), by repeat (first | (with_reducible first | exact HB.out | apply below_alloc | apply pw_below_drewN | apply below_drew1 | refine below_set ?_ GE296.out) | exact HB.out)⟩
 ·rw [if_neg c4] at H
  have c4b0 : ((t297.length : Int) == 0) = false := beq_eq_false_iff_ne.mpr c4
  have c4b1 : ((t297.length : Int) != 0) = true := bne_iff_ne.mpr c4
  have c4b2 : ¬ (t297 = []) := fun h_ => c4 (by rw [h_]; rfl)
  replace H := Option.bind_eq_some_iff.mp H
  obtain ⟨t300, A600, H⟩ := H
  replace H : (some (([] : List (List (List Int))), t300)) = some (r1, r2) := H
  have A60 := Aside0.mk A600
  clear A600
  simp only [Option.some.injEq, Prod.mk.injEq] at H
  obtain ⟨rfl, rfl⟩ := H
  go_enter Tryd.func18, Tryd.ntmps18
  go_wp2_with (first | ((with_reducible refine gate_dst (N := 3) rfl ?_); refine box_event ?hg (N := 3) ?hd (cs := #[.int .i64 a1_0, .int .i64 a1_1, .int .i64 a1_2, .int .i64 a1_3, .int .i64 a1_4]) (t := 23) ?hr ?_; (case hd => rfl); (case hg => rfl); (case hr => first | (go_simp; done) | (go_simp; rfl)); intro gb296 hg w61 hbox hb; have n0_ := Aside0.mk (Kd.V_below (Kd.V_elderB (by (with_reducible repeat (first | apply Kd.V_alloc | apply Kd.V_drewN | apply Kd.V_drew)); exact HO0.out) gb296 (Nat.le_of_eq hg.symm)) hb); have n1_ := Aside0.mk (below_step (by repeat (first | (with_reducible first | exact HB.out | apply below_alloc | apply pw_below_drewN | apply below_drew1) | exact HB.out)) hb); have n2_ := Aside0.mk (hbox); have n3_ := Aside0.mk ((by rw [hg]; exact (below_size (by repeat (first | (with_reducible first | exact HB.out | apply below_alloc | apply pw_below_drewN | apply below_drew1) | exact HB.out))) : w.heap.size ≤ gb296)); have n4_ := Aside0.mk ((by rw [hg]; exact (below_size (by repeat (first | (with_reducible first | exact HB.out | apply below_alloc | apply pw_below_drewN | apply below_drew1) | exact HB.out))) : w.heap.size ≤ gb296)); clear HO0; clear HB; have HO0 := n0_; have HB := n1_; have BK296 := n2_; have GW296 := n3_; have GE296 := n4_; clear n0_ n1_ n2_ n3_ n4_; clear hb hbox hg; have hcz62_0 : w61.cell? ⟨gb296, 0, none⟩ = some (.int .i64 a1_0) := (blk_cell BK296.out 0).trans rfl; have hcz62_1 : w61.cell? ⟨gb296, 1, none⟩ = some (.int .i64 a1_1) := (blk_cell BK296.out 1).trans rfl; have hcz62_2 : w61.cell? ⟨gb296, 2, none⟩ = some (.int .i64 a1_2) := (blk_cell BK296.out 2).trans rfl; have hcz62_3 : w61.cell? ⟨gb296, 3, none⟩ = some (.int .i64 a1_3) := (blk_cell BK296.out 3).trans rfl; have hcz62_4 : w61.cell? ⟨gb296, 4, none⟩ = some (.int .i64 a1_4) := (blk_cell BK296.out 4).trans rfl; have hfz62_0 := blk_frozen BK296.out 0; have hfz62_1 := blk_frozen BK296.out 1; have hfz62_2 := blk_frozen BK296.out 2; have hfz62_3 := blk_frozen BK296.out 3; have hfz62_4 := blk_frozen BK296.out 4) | ((with_reducible refine gate_callee (f := 13) rfl ?_); refine goesL_ (some 13) rfl rfl Tryd.func13 (by kernel_rfl) rfl #[.agg #[.int .i64 a1_0, .int .i64 a1_1, .int .i64 a1_2, .int .i64 a1_3, .int .i64 a1_4]] rfl (by (try simp only [List.map_toArray, List.map_cons, List.map_nil]); first | done | rfl | (simp only [List.length_drop, List.length_take]; rfl)) ?_; (with_reducible refine (blocking_Check.calls k a1_0 a1_1 a1_2 a1_3 a1_4 t297 _ A3.out).mono ?_); rintro e w63 ⟨v298, rfl, ho0, hb⟩; refine ⟨_, rfl, ?_⟩; have n0_ := Aside0.mk (Kd.V_elder' (by (with_reducible repeat (first | apply Kd.V_alloc | apply Kd.V_drewN | apply Kd.V_drew)); exact HO0.out) (Kd.R_base ho0) hb); have n1_ := Aside0.mk (Kd.R_lower (Kd.R_newM (M := fun k_ => (w.heap.size ≤ k_)) ho0 (below_size (by repeat (first | (with_reducible first | exact HB.out | apply below_alloc | apply pw_below_drewN | apply below_drew1 | refine below_set ?_ GE296.out) | exact HB.out))) (fun k_ h_ => h_)) (below_size (by repeat (first | (with_reducible first | exact HB.out | apply below_alloc | apply pw_below_drewN | apply below_drew1 | refine below_set ?_ GE296.out) | exact HB.out)))); have n2_ := Aside0.mk (blk_below (g := gb296) (o := .cells #[.int .i64 a1_0, .int .i64 a1_1, .int .i64 a1_2, .int .i64 a1_3, .int .i64 a1_4] 23 (0, 0)) (by (with_reducible repeat (first | refine blk_drewN ?_ _ | refine blk_drew ?_ | refine blk_alloc ?_ _)); exact BK296.out) hb); have n3_ := Aside0.mk (below_step (by repeat (first | (with_reducible first | exact HB.out | apply below_alloc | apply pw_below_drewN | apply below_drew1 | refine below_set ?_ GE296.out) | exact HB.out)) hb); clear HO0; clear BK296; clear HB; have HO0 := n0_; have HO299 := n1_; have BK296 := n2_; have HB := n3_; clear n0_ n1_ n2_ n3_; (try clear hb); (try clear hb2); (try clear hk); (try clear hi); (try clear ho0); obtain ⟨Ao64, co64, eo64⟩ := Kd.R_slice HO299.out; subst eo64) | ((with_reducible refine gate_callee (f := 26) rfl ?_); refine goesL_ (some 17) rfl rfl Tryd.func26 (by kernel_rfl) rfl #[.string (⟨#[98, 108, 111, 99, 107, 105, 110, 103, 46, 67, 117, 116]⟩ : ByteArray), errOf (.slice Ao64 t297.length co64)] rfl (by (try simp only [List.map_toArray, List.map_cons, List.map_nil]); first | done | rfl | (simp only [List.length_drop, List.length_take]; rfl)) ?_; (with_reducible refine (fault_Wrap.calls (⟨#[98, 108, 111, 99, 107, 105, 110, 103, 46, 67, 117, 116]⟩ : ByteArray) (fun k_ => some k_ = (.slice Ao64 t297.length co64 : Value).ownBlock) (.slice Ao64 t297.length co64) t297 t300 w _ ?side1 ?side2 A60.out).mono ?_); (case side1 => repeat (first | (with_reducible first | exact HB.out | apply below_alloc | apply pw_below_drewN | apply below_drew1 | refine below_set ?_ GE296.out) | exact HB.out)); (case side2 => exact Kd.R_tight rfl (kF0_of HO299.out)); rintro e w65 ⟨v301, rfl, ho0, hb, hkp⟩; refine ⟨_, rfl, ?_⟩; have n0_ := Aside0.mk (Kd.V_mono (ok' := fun k_ => (P0_ k_ ∨ w.heap.size ≤ k_) ∧ k_ ≠ gb296 ∧ some k_ ≠ (v301 : Value).ownBlock) (Kd.V_keptB (HO0.out) hkp (fun k_ hk_ hs_ => (hk_.2) hs_)) (fun k_ hk_ => ⟨hk_.1.1.1, hk_.1.1.2, fun e_ => Or.elim (ho0.1 k_ e_.symm) (fun hs_ => hk_.2.1 hs_) (fun hn_ => Nat.not_le.2 hk_.2.2 hn_)⟩)); have n1_ := Aside0.mk (blk_kept (by (with_reducible repeat (first | refine blk_drewN ?_ _ | refine blk_drew ?_ | refine blk_alloc ?_ _)); exact BK296.out) hkp (fun hs_ => (fun e_ => (Kd.R_ne HO299.out BK296.out (by decide)) e_) hs_)); have n2_ := Aside0.mk (Kd.R_mono (ok' := fun k_ => (w.heap.size ≤ k_)) ho0 (fun k_ hk_ => Or.elim hk_ (fun hs_ => (HO299.out.1 k_ (hs_).symm).1) (fun hn_ => (Nat.le_trans (below_size (by repeat (first | (with_reducible first | exact HB.out | apply below_alloc | apply pw_below_drewN | apply below_drew1 | refine below_set ?_ GE296.out) | exact HB.out))) hn_)))); have n3_ := Aside0.mk (hb); clear HO0; clear BK296; clear HB; clear HO299; have HO0 := n0_; have BK296 := n1_; have HO302 := n2_; have HB := n3_; clear n0_ n1_ n2_ n3_; (try clear hb); (try clear hkp); (try clear ho0)))
  go_ret2
  exact ⟨_, _, by first | rfl | (simp [errW_none, errW_some] <;> rfl) | (simp [*, errW_none, errW_some] <;> rfl), by first | exact Kd.R_nil _ _ _ _ _ | exact Kd.N_nil _ _ _ _ _ | exact Kd.V_nil _ _ _ _ _ | exact Kd.Q_nil _ _ _ _ _ | exact Kd.S_nil _ _ _ _ _, by (with_reducible repeat (first | apply Kd.R_alloc | apply Kd.R_drewN | apply Kd.R_drew)); exact HO302.out, by repeat (first | (with_reducible first | exact HB.out | apply below_alloc | apply pw_below_drewN | apply below_drew1 | refine below_set ?_ GE296.out) | exact HB.out)⟩

theorem blocking_Cut.calls (k : Nat) (P0_ : Nat → Prop) (A0 : Option Addr) (c0 : Nat) (l0 : List Int) (a1_0 : Int) (a1_1 : Int) (a1_2 : Int) (a1_3 : Int) (a1_4 : Int) (r1 : List (List (List Int))) (r2 : List FE) (w : World) (hs0 : Kd.V (Kd.int .u8) 5 w w.heap.size (fun k_ => P0_ k_) (.slice A0 l0.length c0) l0) (h : blocking_Cut.f k l0 a1_0 a1_1 a1_2 a1_3 a1_4 = some (r1, r2)) :
  Calls Tryd.prog 18 #[.slice A0 l0.length c0, .agg #[.int .i64 a1_0, .int .i64 a1_1, .int .i64 a1_2, .int .i64 a1_3, .int .i64 a1_4]] w fun e w' => ∃ v0_ v1_ : Value, e = .returned (.tuple #[v0_, (errOf v1_)]) ∧ Kd.N (Kd.slice 42 (Kd.slice 5 (Kd.int .u8))) 40 w' w.heap.size (fun k_ => (P0_ k_ ∨ w.heap.size ≤ k_)) v0_ r1 ∧ Kd.R kF 61 w' w.heap.size (fun k_ => (w.heap.size ≤ k_)) v1_ r2 ∧ Below w.heap.size w w' :=
 (blocking_Cut.callsZ k P0_ A0 c0 l0 a1_0 a1_1 a1_2 a1_3 a1_4 r1 r2 w hs0 h).mono fun _ _ ⟨v0, v1, he, h0, h1, hb⟩ => ⟨v0, v1, he, Kd.N_mono h0 (fun _ hk => hk.1.elim (fun z => z.elim) .inr), h1, hb⟩

end Go.Proofs.YtomeefngdnmdaaaDoor.P

namespace Go.Proofs.YtomeefngdnmdaaaDoor.Pure
open Go.RowKit Go.Proofs.YtomeefngdnmdaaaDoor.P Go.Proofs.YtomeefngdnmdaaaDoorW.PrintWords Go.Proofs.YtomeefngdnmdaaaDoorW.PrintLast Go.Proofs.YtomeefngdnmdaaaDoorW.PrintErr Go.Proofs.YtomeefngdnmdaaaDoorW.PrintMore
set_option linter.unusedVariables false
set_option linter.unusedSimpArgs false
/-- How many symbols block i has. -/
def src (r q i : Int) : Int := if i < r then q + 1 else q
theorem src_eq (s b n r q i : Int) (h0 : 0 ≤ q) (h1 : q ≤ 128) : blocking_source.f s b n r q i = some (src r q i) := by
  unfold blocking_source.f src
  by_cases h : i < r
  · rw [if_pos h, if_pos h, w64s (by omega) (by omega)]
  · rw [if_neg h, if_neg h]
theorem src_pos (r q i : Int) (h0 : 0 ≤ q) : 0 ≤ src r q i := by unfold src; split <;> omega
/-- How many symbols d blocks from block i on have. -/
def tot (r q : Int) : Nat → Int → Nat
  | 0, _ => 0
  | d + 1, i => (src r q i).toNat + tot r q d (i + 1)
theorem tot_eq (r q B : Int) (hr : r ≤ B) (hq : 0 ≤ q) : ∀ (d : Nat) (i : Int), i + d = B → tot r q d i = d * q.toNat + (r - i).toNat
  | 0, i, h => by
    have : (r - i).toNat = 0 := by omega
    simp [tot, this]
  | d + 1, i, h => by
    rw [tot, tot_eq r q B hr hq d (i + 1) (by omega), Nat.succ_mul]
    unfold src
    split <;> omega
def cutL (r q : Int) : Nat → Int → List (List Int) → List (List (List Int))
  | 0, _, _ => []
  | d + 1, i, L => L.take (src r q i).toNat :: cutL r q d (i + 1) (L.drop (src r q i).toNat)
theorem cutL_len (r q : Int) : ∀ (d : Nat) (i : Int) (L : List (List Int)), (cutL r q d i L).length = d
  | 0, _, _ => rfl
  | d + 1, i, L => by rw [cutL, List.length_cons, cutL_len r q d]
theorem cut_l0 (s b B r q : Int) (hq0 : 0 ≤ q) (hq : q ≤ 128) (hB : B ≤ 16) : ∀ (d : Nat) (i : Int) (L : List (List Int)) (acc : List (List (List Int))), 0 ≤ i → i + d = B → L.length = tot r q d i → L.length < 5864062014805 → acc.length ≤ i →
    Ev (fun k => blocking_Cut.l0 k L acc B i s b B r q) (acc ++ cutL r q d i L, [])
  | 0, i, L, acc, h0, hd, hL, hLb, ha => by
    refine Ev.step (f := fun _ => some (acc ++ cutL r q 0 i L, [])) (fun k => ?_) (Ev.now _)
    rw [blocking_Cut.l0, if_neg (by omega)]
    simp [cutL]
  | d + 1, i, L, acc, h0, hd, hL, hLb, ha => by
    have hp := src_pos r q i hq0
    rw [tot] at hL
    have hn : (src r q i).toNat ≤ L.length := by omega
    have h' := cut_l0 s b B r q hq0 hq hB d (i + 1) (L.drop (src r q i).toNat) (acc ++ [L.take (src r q i).toNat]) (by omega) (by omega) (by rw [List.length_drop]; omega) (by rw [List.length_drop]; omega) (by simp; omega)
    rw [List.append_assoc] at h'
    refine Ev.step (fun k => ?_) h'
    have e2 : wrap64 (i + 1) = i + 1 := w64s (by omega) (by omega)
    have ht : (L.take (src r q i).toNat).length < 5864062014805 := by rw [List.length_take]; omega
    rw [blocking_Cut.l0, if_pos (by omega), src_eq s b B r q i hq0 hq]
    simp only [Option.bind_some, List.nil_append, List.length_nil, Nat.zero_add]
    rw [if_pos hp, if_pos (by omega), if_pos ht, if_pos (by omega), e2]
theorem rd_row3 (P : List (List (List Int))) (s : List (List Int)) (S : List (List (List Int))) : rd_Lssu8 (P ++ s :: S) (P.length : Int) = s := by
  unfold rd_Lssu8
  rw [Int.toNat_natCast, List.getD_eq_getElem?_getD, List.getElem?_append_right (Nat.le_refl _)]
  simp
/-- How many symbols so many bytes are cut into. -/
theorem splitL_count (n : Nat) (hn : 1 ≤ n) : ∀ (f : Nat) (u : List Int), u.length ≤ f → ((splitL f n u).length : Int) = U (u.length : Int) (n : Int) := by
  intro f
  induction f with
  | zero =>
    intro u hu
    obtain rfl : u = [] := List.eq_nil_of_length_eq_zero (by omega)
    simp [splitL, U]
  | succ f ih =>
    intro u hu
    rw [splitL]
    by_cases h : u.length = 0
    · obtain rfl : u = [] := List.eq_nil_of_length_eq_zero h
      simp [U]
    · rw [if_neg h, List.length_cons]
      have h' := ih (u.drop n) (by rw [List.length_drop]; omega)
      rw [List.length_drop] at h'
      have h'' : (((splitL f n (u.drop n)).length + 1 : Nat) : Int) = U ((u.length - n : Nat) : Int) (n : Int) + 1 := by rw [← h']; simp
      rw [h'']
      obtain ⟨a, ea⟩ : ∃ a, a = u.length := ⟨_, rfl⟩
      rw [← ea] at h ⊢
      obtain ⟨_, _, u3, u4⟩ := U_bounds (a : Int) (n : Int) (by omega) (by omega)
      obtain ⟨u5, u6⟩ := u4 (by omega)
      by_cases hb : n ≤ a
      · have e : ((a - n : Nat) : Int) = (a : Int) - n := by omega
        unfold U
        rw [e, Int.sub_ediv_of_dvd _ (Int.dvd_refl _), Int.ediv_self (by omega), Int.sub_emod_right]
        omega
      · have e : a - n = 0 := by omega
        have e0 : U ((0 : Nat) : Int) (n : Int) = 0 := by simp [U]
        rw [e, e0]
        unfold U
        rw [Int.ediv_eq_zero_of_lt (by omega) (by omega), Int.emod_eq_of_lt (by omega) (by omega), if_pos (by omega)]
/-- What Cut cuts of an object. -/
def one0 (u : List Int) : List Int := if u.length = 0 then [0] else u
theorem sizeBad_nil (b : Int) (h1 : 1 ≤ b) (h2 : b ≤ 64) : sizeBad [] b = 0 := by unfold sizeBad; rw [if_neg (by omega), if_pos (by simp)]
theorem one0_len (u : List Int) : (one0 u).length = max 1 u.length := by 
  unfold one0
  by_cases h : u.length = 0
  · rw [if_pos h, h]; rfl
  · rw [if_neg h]; omega
theorem back_count (u : List Int) (b : Int) (h1 : 1 ≤ b) : ((splitL (one0 u).length b.toNat (one0 u)).length : Int) = T (u.length : Int) b := by
  rw [splitL_count b.toNat (by omega) _ _ (Nat.le_refl _), one0_len, Int.toNat_of_nonneg (by omega)]
  unfold T mx
  by_cases h : u.length = 0
  · rw [h]
    have e1 : U ((max 1 0 : Nat) : Int) b = 1 := by
      unfold U
      by_cases hb : b = 1
      · subst hb; rfl
      · rw [show ((max 1 0 : Nat) : Int) = 1 from rfl, Int.ediv_eq_zero_of_lt (by omega) (by omega), Int.emod_eq_of_lt (by omega) (by omega)]; rfl
    have e2 : U ((0 : Nat) : Int) b = 0 := by simp [U]
    rw [e1, e2]; rfl
  · rw [show max 1 u.length = u.length by omega]
    obtain ⟨_, _, _, u4⟩ := U_bounds (u.length : Int) b (by omega) h1
    have := (u4 (by omega)).2
    split <;> omega
theorem cut_j0 (s b B r q : Int) (hq0 : 0 ≤ q) (hq : q ≤ 128) (hB0 : 0 ≤ B) (hB : B ≤ 16) (hb1 : 1 ≤ b) (hb2 : b ≤ 64) (t : List Int) (ht : t.length ≤ 5864062014804) (hc : (splitL t.length b.toNat t).length = tot r q B.toNat 0) :
    Ev (fun k => blocking_Cut.j0 k t s b B r q) (cutL r q B.toNat 0 (splitL t.length b.toNat t), []) := by
  have hsp := split_ev t b ht
  have e : splitR t b = (splitL t.length b.toNat t, []) := if_pos (sizeBad_nil b hb1 hb2)
  rw [e] at hsp
  have hl := splitL_length b.toNat (by omega) t.length t
  have hc0 := cut_l0 s b B r q hq0 hq hB B.toNat 0 (splitL t.length b.toNat t) [] (by omega) (by omega) hc (by omega) (by simp)
  rw [List.nil_append] at hc0
  refine Ev.step (f := fun k => (symbol_Split.f k t b).bind fun bt408 => (if (bt408.2.length : Int) = 0 then (blocking_Cut.l0 k (bt408.1) ([] : List (List (List Int))) B 0 s b B r q) else ((fault_Wrap.f (⟨#[98, 108, 111, 99, 107, 105, 110, 103, 46, 67, 117, 116]⟩ : ByteArray) bt408.2).bind fun t417 => (some (([] : List (List (List Int))), t417))))) (fun k => by rw [blocking_Cut.j0]) ?_
  refine Ev.bind hsp ?_
  simp only [List.length_nil, Int.natCast_zero, if_true]
  exact hc0
theorem cut_ev (u : List Int) (b B r q : Int) (hq0 : 0 ≤ q) (hq : q ≤ 128) (hB0 : 0 ≤ B) (hB : B ≤ 16) (hb1 : 1 ≤ b) (hb2 : b ≤ 64) (hw : whyR (u.length : Int) b B r q = 0) (hu : u.length ≤ 5864062014804) (hc : (splitL (one0 u).length b.toNat (one0 u)).length = tot r q B.toNat 0) :
    Ev (fun k => blocking_Cut.f k u (u.length : Int) b B r q) (cutL r q B.toNat 0 (splitL (one0 u).length b.toNat (one0 u)), []) := by
  have hck := check14_ev (u.length : Int) b B r q (by omega) (by omega) (by omega)
  have e : checkR (u.length : Int) b B r q = [] := if_pos hw
  rw [e] at hck
  have hj := cut_j0 (u.length : Int) b B r q hq0 hq hB0 hB hb1 hb2 (one0 u) (by rw [one0_len]; omega) hc
  unfold blocking_Cut.f
  refine Ev.bind hck ?_
  simp only [List.length_nil, Int.natCast_zero, if_true]
  unfold one0 at hj ⊢
  by_cases h : u.length = 0
  · refine Ev.congr (fun k => ?_) hj
    rw [if_pos (by omega), if_pos (by omega), if_pos h]; rfl
  · refine Ev.congr (fun k => ?_) hj
    rw [if_neg (by omega), if_neg h]
end Go.Proofs.YtomeefngdnmdaaaDoor.Pure
