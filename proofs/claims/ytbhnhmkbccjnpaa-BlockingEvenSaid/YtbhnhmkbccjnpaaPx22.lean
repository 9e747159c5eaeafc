-- own print
import Derived.Test.YtbhnhmkbccjnpaaPx0
import Derived.Test.YtbhnhmkbccjnpaaPx1
import Derived.Test.YtbhnhmkbccjnpaaPx14
import Derived.Test.YtbhnhmkbccjnpaaPx16
import Derived.Test.YtbhnhmkbccjnpaaPx19
import Derived.Test.YtbhnhmkbccjnpaaPx20
import Derived.Test.YtbhnhmkbccjnpaaPx21
namespace Go.Proofs.Ytbhnhmkbccjnpaa.P
open Go.RowKit Go.Proofs.YtbhnhmkbccjnpaaW.PrintWords Go.Proofs.YtbhnhmkbccjnpaaW.PrintLast Go.Proofs.YtbhnhmkbccjnpaaW.PrintErr Go.Proofs.YtbhnhmkbccjnpaaW.PrintMore
attribute [local go_sem] max2_int min2_int max_two min_two max_three min_three max_four min_four run_eql_errOf run_neq_errOf eqGuard_errOf   -- for this text's walks alone
set_option linter.unusedVariables false
set_option linter.unusedSimpArgs false

attribute [local go_sem high] eqA36
/-! ### geyserlaw14_BlockingEven: function 5 -/
def geyserlaw14_BlockingEven.l0 : Nat → Int → Int → Int → Int → Int → Int → Int → Int → Int → Int → Option (Bool)
  | 0, _, _, _, _, _, _, _, _, _, _ => none
  | k + 1, x0, x1, x2, x9, x10, x278000, x278001, x278002, x278003, x278004 => if x10 < x278002 then ((blocking_Source.f k x278000 x278001 x278002 x278003 x278004 x10).bind fun bt282 => (if (bt282.2.length : Int) = 0 then (if bt282.1 < 1 then (some false) else (if bt282.1 > x2 then (some false) else (if bt282.1 = x278004 then (geyserlaw14_BlockingEven.l0 k x0 x1 x2 (wrap64 (x9 + bt282.1)) (wrap64 (x10 + 1)) x278000 x278001 x278002 x278003 x278004) else (if bt282.1 = (wrap64 (x278004 + 1)) then (geyserlaw14_BlockingEven.l0 k x0 x1 x2 (wrap64 (x9 + bt282.1)) (wrap64 (x10 + 1)) x278000 x278001 x278002 x278003 x278004) else (some false))))) else (some false))) else ((geyserref14_Symbols.f x0 x1).bind fun t286 => (if x9 = t286 then (if (wrap64 ((wrap64 (x278002 - 1)) * x2)) < x9 then ((geyserlaw14_awake.f k).bind fun t287 => (some t287)) else (some false)) else (some false)))
def geyserlaw14_BlockingEven.f (k : Nat) (a0 : Int) (a1 : Int) (a2 : Int) : Option (Bool) := (blocking_Of.f k a0 a1 a2).bind fun bt269 => (if (bt269.2.2.2.2.2.length : Int) = 0 then ((blocking_Check.f k bt269.1 bt269.2.1 bt269.2.2.1 bt269.2.2.2.1 bt269.2.2.2.2.1).bind fun t279 => (if (t279.length : Int) = 0 then (geyserlaw14_BlockingEven.l0 k a0 a1 a2 0 0 bt269.1 bt269.2.1 bt269.2.2.1 bt269.2.2.2.1 bt269.2.2.2.2.1) else (some false))) else (if (bt269.1 == 0 && (bt269.2.1 == 0 && (bt269.2.2.1 == 0 && (bt269.2.2.2.1 == 0 && (bt269.2.2.2.2.1 == 0))))) = true then ((geyserlaw14_awake.f k).bind fun t278 => (some t278)) else (some false)))
theorem geyserlaw14_BlockingEven.mono_l : ∀ k, (∀ y0 y1 y2 y3 y4 y5 y6 y7 y8 y9, LeO (geyserlaw14_BlockingEven.l0 k y0 y1 y2 y3 y4 y5 y6 y7 y8 y9) (geyserlaw14_BlockingEven.l0 (k + 1) y0 y1 y2 y3 y4 y5 y6 y7 y8 y9))
  | 0 => fun _ _ _ _ _ _ _ _ _ _ r h => by simp [geyserlaw14_BlockingEven.l0] at h
  | k + 1 => by
    have ih0 := geyserlaw14_BlockingEven.mono_l k
    · intro y0 y1 y2 y3 y4 y5 y6 y7 y8 y9
      unfold geyserlaw14_BlockingEven.l0
      repeat' first
      | (with_reducible exact ih0 _ _ _ _ _ _ _ _ _ _)
      | (with_reducible exact blocking_Check.mono _ _ _ _ _ _)
      | (with_reducible exact blocking_Of.mono _ _ _ _)
      | (with_reducible exact blocking_Source.mono _ _ _ _ _ _ _)
      | (with_reducible exact geyserlaw14_awake.mono _)
      | (with_reducible exact LeO.refl _)
      | (with_reducible exact LeO.none _)
      | (with_reducible refine LeO.ite ?_ ?_)
      | (with_reducible refine LeO.bind ?_ (fun _ => ?_))
      | exact ih0 _ _ _ _ _ _ _ _ _ _
      | exact blocking_Check.mono _ _ _ _ _ _
      | exact blocking_Of.mono _ _ _ _
      | exact blocking_Source.mono _ _ _ _ _ _ _
      | exact geyserlaw14_awake.mono _
      | exact LeO.none _
      | refine LeO.ite ?_ ?_
      | refine LeO.bind ?_ (fun _ => ?_)
theorem geyserlaw14_BlockingEven.mono : ∀ a0 a1 a2 k, LeO (geyserlaw14_BlockingEven.f k a0 a1 a2) (geyserlaw14_BlockingEven.f (k + 1) a0 a1 a2) := by
  intro a0 a1 a2 k
  have ih0 := geyserlaw14_BlockingEven.mono_l k
  unfold geyserlaw14_BlockingEven.f
  repeat' first
      | (with_reducible exact ih0 _ _ _ _ _ _ _ _ _ _)
      | (with_reducible exact blocking_Check.mono _ _ _ _ _ _)
      | (with_reducible exact blocking_Of.mono _ _ _ _)
      | (with_reducible exact blocking_Source.mono _ _ _ _ _ _ _)
      | (with_reducible exact geyserlaw14_awake.mono _)
      | (with_reducible exact LeO.refl _)
      | (with_reducible exact LeO.none _)
      | (with_reducible refine LeO.ite ?_ ?_)
      | (with_reducible refine LeO.bind ?_ (fun _ => ?_))
      | exact ih0 _ _ _ _ _ _ _ _ _ _
      | exact blocking_Check.mono _ _ _ _ _ _
      | exact blocking_Of.mono _ _ _ _
      | exact blocking_Source.mono _ _ _ _ _ _ _
      | exact geyserlaw14_awake.mono _
      | exact LeO.none _
      | refine LeO.ite ?_ ?_
      | refine LeO.bind ?_ (fun _ => ?_)
set_option maxHeartbeats 8000000 in
set_option maxRecDepth 100000 in
theorem geyserlaw14_BlockingEven.calls (k : Nat) (a0 : Int) (a1 : Int) (a2 : Int) (r : Bool) (w : World) (h : geyserlaw14_BlockingEven.f k a0 a1 a2 = some r) :
    Calls Try.prog 5 #[.int .i64 a0, .int .i64 a1, .int .i64 a2] w fun e w' => e = .returned (.bool r) ∧ Below w.heap.size w w' := by
  have hu36 := Try.underlying36
  have HB := Aside0.mk (Below.refl w.heap.size w)
  have H : ((blocking_Of.f k a0 a1 a2).bind fun bt269 => (if (bt269.2.2.2.2.2.length : Int) = 0 then ((blocking_Check.f k bt269.1 bt269.2.1 bt269.2.2.1 bt269.2.2.2.1 bt269.2.2.2.2.1).bind fun t279 => (if (t279.length : Int) = 0 then (geyserlaw14_BlockingEven.l0 k a0 a1 a2 0 0 bt269.1 bt269.2.1 bt269.2.2.1 bt269.2.2.2.1 bt269.2.2.2.2.1) else (some false))) else (if (bt269.1 == 0 && (bt269.2.1 == 0 && (bt269.2.2.1 == 0 && (bt269.2.2.2.1 == 0 && (bt269.2.2.2.2.1 == 0))))) = true then ((geyserlaw14_awake.f k).bind fun t278 => (some t278)) else (some false)))) = some r := h
  clear h
  replace H := Option.bind_eq_some_iff.mp H
  obtain ⟨⟨t269, t270, t271, t272, t273, t274⟩, A40, H⟩ := H
  replace H : (if (t274.length : Int) = 0 then ((blocking_Check.f k t269 t270 t271 t272 t273).bind fun t279 => (if (t279.length : Int) = 0 then (geyserlaw14_BlockingEven.l0 k a0 a1 a2 0 0 t269 t270 t271 t272 t273) else (some false))) else (if (t269 == 0 && (t270 == 0 && (t271 == 0 && (t272 == 0 && (t273 == 0))))) = true then ((geyserlaw14_awake.f k).bind fun t278 => (some t278)) else (some false))) = some r := H
  have A4 := Aside0.mk A40
  clear A40
  by_cases c5 : (t274.length : Int) = 0
  · rw [if_pos c5] at H
    have c5b0 : ((t274.length : Int) == 0) = true := beq_iff_eq.mpr c5
    have c5b1 : ((t274.length : Int) != 0) = false := bne_eq_false_iff_eq.mpr c5
    clear c5
    replace H := Option.bind_eq_some_iff.mp H
    obtain ⟨t279, A60, H⟩ := H
    replace H : (if (t279.length : Int) = 0 then (geyserlaw14_BlockingEven.l0 k a0 a1 a2 0 0 t269 t270 t271 t272 t273) else (some false)) = some r := H
    have A6 := Aside0.mk A60
    clear A60
    by_cases c7 : (t279.length : Int) = 0
    · rw [if_pos c7] at H
      have c7b0 : ((t279.length : Int) == 0) = true := beq_iff_eq.mpr c7
      have c7b1 : ((t279.length : Int) != 0) = false := bne_eq_false_iff_eq.mpr c7
      clear c7
      have H' := Aside0.mk H
      clear H
      go_enter Try.func5, Try.ntmps5
      go_wp2_with (first | ((with_reducible refine gate_callee (f := 13) rfl ?_); refine goesL_ (some 17) rfl rfl Try.func13 (by kernel_rfl) rfl #[.int .i64 a0, .int .i64 a1, .int .i64 a2] rfl (by (try simp only [List.map_toArray, List.map_cons, List.map_nil]); first | done | rfl | (simp only [List.length_drop, List.length_take]; rfl)) ?_; (with_reducible refine (blocking_Of.calls k a0 a1 a2 t269 t270 t271 t272 t273 t274 _ A4.out).mono ?_); rintro e w8 ⟨v275, rfl, ho0, hb⟩; refine ⟨_, rfl, ?_⟩; have n0_ := Aside0.mk (Kd.R_lower ho0 (below_size (by repeat (first | (with_reducible first | exact HB.out | apply below_alloc | apply pw_below_drewN | apply below_drew1) | exact HB.out)))); have n1_ := Aside0.mk (below_step (by repeat (first | (with_reducible first | exact HB.out | apply below_alloc | apply pw_below_drewN | apply below_drew1) | exact HB.out)) hb); clear HB; have HO276 := n0_; have HB := n1_; clear n0_ n1_; (try clear hb); (try clear hb2); (try clear hk); (try clear hi); (try clear ho0)) | ((with_reducible refine gate_dst (N := 7) rfl ?_); refine box_event ?hg (N := 7) ?hd (cs := #[.int .i64 0, .int .i64 0, .int .i64 0, .int .i64 0, .int .i64 0]) (t := 36) ?hr ?_; (case hd => rfl); (case hg => rfl); (case hr => first | (go_simp; done) | (go_simp; rfl)); intro gb277 hg w9 hbox hb; have n0_ := Aside0.mk (Kd.R_below (by (with_reducible repeat (first | apply Kd.R_alloc | apply Kd.R_drewN | apply Kd.R_drew)); exact HO276.out) hb); have n1_ := Aside0.mk (below_step (by repeat (first | (with_reducible first | exact HB.out | apply below_alloc | apply pw_below_drewN | apply below_drew1) | exact HB.out)) hb); have n2_ := Aside0.mk (hbox); have n3_ := Aside0.mk ((by rw [hg]; exact (below_size (by repeat (first | (with_reducible first | exact HB.out | apply below_alloc | apply pw_below_drewN | apply below_drew1) | exact HB.out))) : w.heap.size ≤ gb277)); have n4_ := Aside0.mk ((by rw [hg]; exact (below_size (by repeat (first | (with_reducible first | exact HB.out | apply below_alloc | apply pw_below_drewN | apply below_drew1) | exact HB.out))) : w.heap.size ≤ gb277)); clear HO276; clear HB; have HO276 := n0_; have HB := n1_; have BK277 := n2_; have GW277 := n3_; have GE277 := n4_; clear n0_ n1_ n2_ n3_ n4_; clear hb hbox hg; have hcz10_0 : w9.cell? ⟨gb277, 0, none⟩ = some (.int .i64 0) := (blk_cell BK277.out 0).trans rfl; have hcz10_1 : w9.cell? ⟨gb277, 1, none⟩ = some (.int .i64 0) := (blk_cell BK277.out 1).trans rfl; have hcz10_2 : w9.cell? ⟨gb277, 2, none⟩ = some (.int .i64 0) := (blk_cell BK277.out 2).trans rfl; have hcz10_3 : w9.cell? ⟨gb277, 3, none⟩ = some (.int .i64 0) := (blk_cell BK277.out 3).trans rfl; have hcz10_4 : w9.cell? ⟨gb277, 4, none⟩ = some (.int .i64 0) := (blk_cell BK277.out 4).trans rfl; have hfz10_0 := blk_frozen BK277.out 0; have hfz10_1 := blk_frozen BK277.out 1; have hfz10_2 := blk_frozen BK277.out 2; have hfz10_3 := blk_frozen BK277.out 3; have hfz10_4 := blk_frozen BK277.out 4; obtain ⟨Ao11, co11, eo11⟩ := Kd.R_slice HO276.out; subst eo11) | ((with_reducible refine gate_callee (f := 15) rfl ?_); refine goesL_ (some 29) rfl rfl Try.func15 (by kernel_rfl) rfl #[.agg #[.int .i64 t269, .int .i64 t270, .int .i64 t271, .int .i64 t272, .int .i64 t273]] rfl (by (try simp only [List.map_toArray, List.map_cons, List.map_nil]); first | done | rfl | (simp only [List.length_drop, List.length_take]; rfl)) ?_; (with_reducible refine (blocking_Check.calls k t269 t270 t271 t272 t273 t279 _ A6.out).mono ?_); rintro e w12 ⟨v280, rfl, ho0, hb⟩; refine ⟨_, rfl, ?_⟩; have n0_ := Aside0.mk (Kd.R_below (by (with_reducible repeat (first | apply Kd.R_alloc | apply Kd.R_drewN | apply Kd.R_drew)); exact (Kd.R_mono (Kd.R_far (p := ⟨gb277, 4, none⟩) (Kd.R_far (p := ⟨gb277, 3, none⟩) (Kd.R_far (p := ⟨gb277, 2, none⟩) (Kd.R_far (p := ⟨gb277, 1, none⟩) (Kd.R_far (p := ⟨gb277, 0, none⟩) (Kd.R_types HO276.out BK277.out (by decide)) (fun _ hk => hk.2) (.int .i64 t269)) (fun _ hk => hk.2) (.int .i64 t270)) (fun _ hk => hk.2) (.int .i64 t271)) (fun _ hk => hk.2) (.int .i64 t272)) (fun _ hk => hk.2) (.int .i64 t273)) (fun _ h_ => h_.1))) hb); have n1_ := Aside0.mk (Kd.R_lower ho0 (below_size (by repeat (first | (with_reducible first | exact HB.out | apply below_alloc | apply pw_below_drewN | apply below_drew1 | refine below_set ?_ GE277.out) | exact HB.out)))); have n2_ := Aside0.mk (blk_below (g := gb277) (o := .cells #[.int .i64 t269, .int .i64 t270, .int .i64 t271, .int .i64 t272, .int .i64 t273] 36 (0, 0)) (by (with_reducible repeat (first | refine blk_drewN ?_ _ | refine blk_drew ?_ | refine blk_alloc ?_ _)); refine blk_put (cs := #[.int .i64 t269, .int .i64 t270, .int .i64 t271, .int .i64 t272, .int .i64 0]) ?_ 4 _ rfl; (with_reducible repeat (first | refine blk_drewN ?_ _ | refine blk_drew ?_ | refine blk_alloc ?_ _)); refine blk_put (cs := #[.int .i64 t269, .int .i64 t270, .int .i64 t271, .int .i64 0, .int .i64 0]) ?_ 3 _ rfl; (with_reducible repeat (first | refine blk_drewN ?_ _ | refine blk_drew ?_ | refine blk_alloc ?_ _)); refine blk_put (cs := #[.int .i64 t269, .int .i64 t270, .int .i64 0, .int .i64 0, .int .i64 0]) ?_ 2 _ rfl; (with_reducible repeat (first | refine blk_drewN ?_ _ | refine blk_drew ?_ | refine blk_alloc ?_ _)); refine blk_put (cs := #[.int .i64 t269, .int .i64 0, .int .i64 0, .int .i64 0, .int .i64 0]) ?_ 1 _ rfl; (with_reducible repeat (first | refine blk_drewN ?_ _ | refine blk_drew ?_ | refine blk_alloc ?_ _)); refine blk_put (cs := #[.int .i64 0, .int .i64 0, .int .i64 0, .int .i64 0, .int .i64 0]) ?_ 0 _ rfl; (with_reducible repeat (first | refine blk_drewN ?_ _ | refine blk_drew ?_ | refine blk_alloc ?_ _)); exact BK277.out) hb); have n3_ := Aside0.mk (below_step (by repeat (first | (with_reducible first | exact HB.out | apply below_alloc | apply pw_below_drewN | apply below_drew1 | refine below_set ?_ GE277.out) | exact HB.out)) hb); clear HO276; clear BK277; clear HB; have HO276 := n0_; have HO281 := n1_; have BK277 := n2_; have HB := n3_; clear n0_ n1_ n2_ n3_; (try clear hb); (try clear hb2); (try clear hk); (try clear hi); (try clear ho0); obtain ⟨Ao13, co13, eo13⟩ := Kd.R_slice HO281.out; subst eo13))
      go_loopg [9, 10] k (fun kq v9 v10 w' => ∃ (x9_1 : Int) (x10_1 : Int), v9 = .int .i64 x9_1 ∧ v10 = .int .i64 x10_1 ∧ Aside0 (geyserlaw14_BlockingEven.l0 kq a0 a1 a2 x9_1 x10_1 t269 t270 t271 t272 t273 = some r) ∧ Aside0 (kq ≤ k) ∧ Aside0 (w'.heap[gb277]? = some (.cells #[.int .i64 t269, .int .i64 t270, .int .i64 t271, .int .i64 t272, .int .i64 t273] 36 (0, 0))) ∧ Aside0 (Below w.heap.size w w'))
      case atStart => exact ⟨(0), (0), (by first | rfl | (simp; done) | (simp [*]; done)), (by first | rfl | (simp; done) | (simp [*]; done)), H', ⟨Nat.le_refl _⟩, ⟨by (with_reducible repeat (first | refine blk_drewN ?_ _ | refine blk_drew ?_ | refine blk_alloc ?_ _)); exact BK277.out⟩, ⟨by repeat (first | (with_reducible first | exact HB.out | apply below_alloc | apply pw_below_drewN | apply below_drew1 | refine below_set ?_ GE277.out) | exact HB.out)⟩⟩
      case round =>
        clear H'
        try clear c1
        try clear p2
        try clear c5
        try clear c5b0
        try clear c5b1
        try clear c7
        try clear c7b0
        try clear c7b1
        try clear c13
        try clear hcz10_0
        try clear hcz10_1
        try clear hcz10_2
        try clear hcz10_3
        try clear hcz10_4
        try clear hfz10_0
        try clear hfz10_1
        try clear hfz10_2
        try clear hfz10_3
        try clear hfz10_4
        obtain ⟨x9_1, x10_1, rfl, rfl, HA, HK1, BK277, HB⟩ := hrel
        cases gk with
        | zero => exact absurd HA.out (by simp [geyserlaw14_BlockingEven.l0])
        | succ k1 =>
          have H := HA.out
          clear HA
          simp only [geyserlaw14_BlockingEven.l0] at H
          by_cases c14 : x10_1 < t271
          · rw [if_pos c14] at H
            have c14b0 : decide (x10_1 < t271) = true := decide_eq_true c14
            clear c14
            replace H := Option.bind_eq_some_iff.mp H
            obtain ⟨⟨t282, t283⟩, A150, H⟩ := H
            replace H : (if (t283.length : Int) = 0 then (if t282 < 1 then (some false) else (if t282 > a2 then (some false) else (if t282 = t273 then (geyserlaw14_BlockingEven.l0 k1 a0 a1 a2 (wrap64 (x9_1 + t282)) (wrap64 (x10_1 + 1)) t269 t270 t271 t272 t273) else (if t282 = (wrap64 (t273 + 1)) then (geyserlaw14_BlockingEven.l0 k1 a0 a1 a2 (wrap64 (x9_1 + t282)) (wrap64 (x10_1 + 1)) t269 t270 t271 t272 t273) else (some false))))) else (some false)) = some r := H
            have A15 := Aside0.mk A150
            clear A150
            by_cases c16 : (t283.length : Int) = 0
            · rw [if_pos c16] at H
              have c16b0 : ((t283.length : Int) == 0) = true := beq_iff_eq.mpr c16
              have c16b1 : ((t283.length : Int) != 0) = false := bne_eq_false_iff_eq.mpr c16
              clear c16
              by_cases c17 : t282 < 1
              · rw [if_pos c17] at H
                have c17b0 : decide (t282 < 1) = true := decide_eq_true c17
                clear c17
                obtain rfl := Option.some.inj H
                have hcz18_0 : wr.cell? ⟨gb277, 0, none⟩ = some (.int .i64 t269) := (blk_cell BK277.out 0).trans rfl
                have hcz18_1 : wr.cell? ⟨gb277, 1, none⟩ = some (.int .i64 t270) := (blk_cell BK277.out 1).trans rfl
                have hcz18_2 : wr.cell? ⟨gb277, 2, none⟩ = some (.int .i64 t271) := (blk_cell BK277.out 2).trans rfl
                have hcz18_3 : wr.cell? ⟨gb277, 3, none⟩ = some (.int .i64 t272) := (blk_cell BK277.out 3).trans rfl
                have hcz18_4 : wr.cell? ⟨gb277, 4, none⟩ = some (.int .i64 t273) := (blk_cell BK277.out 4).trans rfl
                have hfz18_0 := blk_frozen BK277.out 0
                have hfz18_1 := blk_frozen BK277.out 1
                have hfz18_2 := blk_frozen BK277.out 2
                have hfz18_3 := blk_frozen BK277.out 3
                have hfz18_4 := blk_frozen BK277.out 4
                go_wp2_with (first | ((with_reducible refine gate_callee (f := 16) rfl ?_); refine goesL_ (some 40) rfl rfl Try.func16 (by kernel_rfl) rfl #[.agg #[.int .i64 t269, .int .i64 t270, .int .i64 t271, .int .i64 t272, .int .i64 t273], .int .i64 x10_1] rfl (by (try simp only [List.map_toArray, List.map_cons, List.map_nil]); first | done | rfl | (simp only [List.length_drop, List.length_take]; rfl)) ?_; (with_reducible refine (blocking_Source.calls k1 t269 t270 t271 t272 t273 x10_1 t282 t283 _ A15.out).mono ?_); rintro e w19 ⟨v284, rfl, ho0, hb⟩; refine ⟨_, rfl, ?_⟩; have n0_ := Aside0.mk (Kd.R_lower ho0 (below_size (by repeat (first | (with_reducible first | exact HB.out | apply below_alloc | apply pw_below_drewN | apply below_drew1 | refine below_set ?_ GE277.out) | exact HB.out)))); have n1_ := Aside0.mk (blk_below (g := gb277) (o := .cells #[.int .i64 t269, .int .i64 t270, .int .i64 t271, .int .i64 t272, .int .i64 t273] 36 (0, 0)) (by (with_reducible repeat (first | refine blk_drewN ?_ _ | refine blk_drew ?_ | refine blk_alloc ?_ _)); exact BK277.out) hb); have n2_ := Aside0.mk (below_step (by repeat (first | (with_reducible first | exact HB.out | apply below_alloc | apply pw_below_drewN | apply below_drew1 | refine below_set ?_ GE277.out) | exact HB.out)) hb); clear BK277; clear HB; have HO285 := n0_; have BK277 := n1_; have HB := n2_; clear n0_ n1_ n2_; (try clear hb); (try clear hb2); (try clear hk); (try clear hi); (try clear ho0); obtain ⟨Ao20, co20, eo20⟩ := Kd.R_slice HO285.out; subst eo20))
                go_ret
                exact ⟨by first | rfl | (simp [errW_none, errW_some] <;> rfl) | (simp [*, errW_none, errW_some] <;> rfl), by repeat (first | (with_reducible first | exact HB.out | apply below_alloc | apply pw_below_drewN | apply below_drew1 | refine below_set ?_ GE277.out) | exact HB.out)⟩
              · rw [if_neg c17] at H
                have c17b0 : decide (t282 < 1) = false := decide_eq_false c17
                clear c17
                by_cases c21 : t282 > a2
                · rw [if_pos c21] at H
                  have c21b0 : decide (a2 < t282) = true := decide_eq_true c21
                  clear c21
                  obtain rfl := Option.some.inj H
                  have hcz22_0 : wr.cell? ⟨gb277, 0, none⟩ = some (.int .i64 t269) := (blk_cell BK277.out 0).trans rfl
                  have hcz22_1 : wr.cell? ⟨gb277, 1, none⟩ = some (.int .i64 t270) := (blk_cell BK277.out 1).trans rfl
                  have hcz22_2 : wr.cell? ⟨gb277, 2, none⟩ = some (.int .i64 t271) := (blk_cell BK277.out 2).trans rfl
                  have hcz22_3 : wr.cell? ⟨gb277, 3, none⟩ = some (.int .i64 t272) := (blk_cell BK277.out 3).trans rfl
                  have hcz22_4 : wr.cell? ⟨gb277, 4, none⟩ = some (.int .i64 t273) := (blk_cell BK277.out 4).trans rfl
                  have hfz22_0 := blk_frozen BK277.out 0
                  have hfz22_1 := blk_frozen BK277.out 1
                  have hfz22_2 := blk_frozen BK277.out 2
                  have hfz22_3 := blk_frozen BK277.out 3
                  have hfz22_4 := blk_frozen BK277.out 4
                  go_wp2_with (first | ((with_reducible refine gate_callee (f := 16) rfl ?_); refine goesL_ (some 40) rfl rfl Try.func16 (by kernel_rfl) rfl #[.agg #[.int .i64 t269, .int .i64 t270, .int .i64 t271, .int .i64 t272, .int .i64 t273], .int .i64 x10_1] rfl (by (try simp only [List.map_toArray, List.map_cons, List.map_nil]); first | done | rfl | (simp only [List.length_drop, List.length_take]; rfl)) ?_; (with_reducible refine (blocking_Source.calls k1 t269 t270 t271 t272 t273 x10_1 t282 t283 _ A15.out).mono ?_); rintro e w23 ⟨v284, rfl, ho0, hb⟩; refine ⟨_, rfl, ?_⟩; have n0_ := Aside0.mk (Kd.R_lower ho0 (below_size (by repeat (first | (with_reducible first | exact HB.out | apply below_alloc | apply pw_below_drewN | apply below_drew1 | refine below_set ?_ GE277.out) | exact HB.out)))); have n1_ := Aside0.mk (blk_below (g := gb277) (o := .cells #[.int .i64 t269, .int .i64 t270, .int .i64 t271, .int .i64 t272, .int .i64 t273] 36 (0, 0)) (by (with_reducible repeat (first | refine blk_drewN ?_ _ | refine blk_drew ?_ | refine blk_alloc ?_ _)); exact BK277.out) hb); have n2_ := Aside0.mk (below_step (by repeat (first | (with_reducible first | exact HB.out | apply below_alloc | apply pw_below_drewN | apply below_drew1 | refine below_set ?_ GE277.out) | exact HB.out)) hb); clear BK277; clear HB; have HO285 := n0_; have BK277 := n1_; have HB := n2_; clear n0_ n1_ n2_; (try clear hb); (try clear hb2); (try clear hk); (try clear hi); (try clear ho0); obtain ⟨Ao24, co24, eo24⟩ := Kd.R_slice HO285.out; subst eo24))
                  go_ret
                  exact ⟨by first | rfl | (simp [errW_none, errW_some] <;> rfl) | (simp [*, errW_none, errW_some] <;> rfl), by repeat (first | (with_reducible first | exact HB.out | apply below_alloc | apply pw_below_drewN | apply below_drew1 | refine below_set ?_ GE277.out) | exact HB.out)⟩
                · rw [if_neg c21] at H
                  have c21b0 : decide (a2 < t282) = false := decide_eq_false c21
                  clear c21
                  by_cases c25 : t282 = t273
                  · rw [if_pos c25] at H
                    have c25b0 : (t282 == t273) = true := beq_iff_eq.mpr c25
                    have c25b1 : (t282 != t273) = false := bne_eq_false_iff_eq.mpr c25
                    clear c25
                    have H' := Aside0.mk H
                    clear H
                    have hcz26_0 : wr.cell? ⟨gb277, 0, none⟩ = some (.int .i64 t269) := (blk_cell BK277.out 0).trans rfl
                    have hcz26_1 : wr.cell? ⟨gb277, 1, none⟩ = some (.int .i64 t270) := (blk_cell BK277.out 1).trans rfl
                    have hcz26_2 : wr.cell? ⟨gb277, 2, none⟩ = some (.int .i64 t271) := (blk_cell BK277.out 2).trans rfl
                    have hcz26_3 : wr.cell? ⟨gb277, 3, none⟩ = some (.int .i64 t272) := (blk_cell BK277.out 3).trans rfl
                    have hcz26_4 : wr.cell? ⟨gb277, 4, none⟩ = some (.int .i64 t273) := (blk_cell BK277.out 4).trans rfl
                    have hfz26_0 := blk_frozen BK277.out 0
                    have hfz26_1 := blk_frozen BK277.out 1
                    have hfz26_2 := blk_frozen BK277.out 2
                    have hfz26_3 := blk_frozen BK277.out 3
                    have hfz26_4 := blk_frozen BK277.out 4
                    go_wp2_with (first | ((with_reducible refine gate_callee (f := 16) rfl ?_); refine goesL_ (some 40) rfl rfl Try.func16 (by kernel_rfl) rfl #[.agg #[.int .i64 t269, .int .i64 t270, .int .i64 t271, .int .i64 t272, .int .i64 t273], .int .i64 x10_1] rfl (by (try simp only [List.map_toArray, List.map_cons, List.map_nil]); first | done | rfl | (simp only [List.length_drop, List.length_take]; rfl)) ?_; (with_reducible refine (blocking_Source.calls k1 t269 t270 t271 t272 t273 x10_1 t282 t283 _ A15.out).mono ?_); rintro e w27 ⟨v284, rfl, ho0, hb⟩; refine ⟨_, rfl, ?_⟩; have n0_ := Aside0.mk (Kd.R_lower ho0 (below_size (by repeat (first | (with_reducible first | exact HB.out | apply below_alloc | apply pw_below_drewN | apply below_drew1 | refine below_set ?_ GE277.out) | exact HB.out)))); have n1_ := Aside0.mk (blk_below (g := gb277) (o := .cells #[.int .i64 t269, .int .i64 t270, .int .i64 t271, .int .i64 t272, .int .i64 t273] 36 (0, 0)) (by (with_reducible repeat (first | refine blk_drewN ?_ _ | refine blk_drew ?_ | refine blk_alloc ?_ _)); exact BK277.out) hb); have n2_ := Aside0.mk (below_step (by repeat (first | (with_reducible first | exact HB.out | apply below_alloc | apply pw_below_drewN | apply below_drew1 | refine below_set ?_ GE277.out) | exact HB.out)) hb); clear BK277; clear HB; have HO285 := n0_; have BK277 := n1_; have HB := n2_; clear n0_ n1_ n2_; (try clear hb); (try clear hb2); (try clear hk); (try clear hi); (try clear ho0); obtain ⟨Ao28, co28, eo28⟩ := Kd.R_slice HO285.out; subst eo28; have hcz29_0 : w27.cell? ⟨gb277, 0, none⟩ = some (.int .i64 t269) := (blk_cell BK277.out 0).trans rfl; have hcz29_1 : w27.cell? ⟨gb277, 1, none⟩ = some (.int .i64 t270) := (blk_cell BK277.out 1).trans rfl; have hcz29_2 : w27.cell? ⟨gb277, 2, none⟩ = some (.int .i64 t271) := (blk_cell BK277.out 2).trans rfl; have hcz29_3 : w27.cell? ⟨gb277, 3, none⟩ = some (.int .i64 t272) := (blk_cell BK277.out 3).trans rfl; have hcz29_4 : w27.cell? ⟨gb277, 4, none⟩ = some (.int .i64 t273) := (blk_cell BK277.out 4).trans rfl; have hfz29_0 := blk_frozen BK277.out 0; have hfz29_1 := blk_frozen BK277.out 1; have hfz29_2 := blk_frozen BK277.out 2; have hfz29_3 := blk_frozen BK277.out 3; have hfz29_4 := blk_frozen BK277.out 4))
                    go_roundg k1
                    case measure => have := HK1.out; omega
                    case rel => exact ⟨(wrap64 (x9_1 + t282)), (wrap64 (x10_1 + 1)), (by first | rfl | (simp; done) | (simp [*]; done)), (by first | rfl | (simp; done) | (simp [*]; done)), H', ⟨by have := HK1.out; omega⟩, ⟨by (with_reducible repeat (first | refine blk_drewN ?_ _ | refine blk_drew ?_ | refine blk_alloc ?_ _)); exact BK277.out⟩, ⟨by repeat (first | (with_reducible first | exact HB.out | apply below_alloc | apply pw_below_drewN | apply below_drew1 | refine below_set ?_ GE277.out) | exact HB.out)⟩⟩
                  · rw [if_neg c25] at H
                    have c25b0 : (t282 == t273) = false := beq_eq_false_iff_ne.mpr c25
                    have c25b1 : (t282 != t273) = true := bne_iff_ne.mpr c25
                    by_cases c30 : t282 = (wrap64 (t273 + 1))
                    · rw [if_pos c30] at H
                      have c30b0 : (t282 == (wrap64 (t273 + 1))) = true := beq_iff_eq.mpr c30
                      have c30b1 : (t282 != (wrap64 (t273 + 1))) = false := bne_eq_false_iff_eq.mpr c30
                      clear c30
                      have H' := Aside0.mk H
                      clear H
                      have hcz31_0 : wr.cell? ⟨gb277, 0, none⟩ = some (.int .i64 t269) := (blk_cell BK277.out 0).trans rfl
                      have hcz31_1 : wr.cell? ⟨gb277, 1, none⟩ = some (.int .i64 t270) := (blk_cell BK277.out 1).trans rfl
                      have hcz31_2 : wr.cell? ⟨gb277, 2, none⟩ = some (.int .i64 t271) := (blk_cell BK277.out 2).trans rfl
                      have hcz31_3 : wr.cell? ⟨gb277, 3, none⟩ = some (.int .i64 t272) := (blk_cell BK277.out 3).trans rfl
                      have hcz31_4 : wr.cell? ⟨gb277, 4, none⟩ = some (.int .i64 t273) := (blk_cell BK277.out 4).trans rfl
                      have hfz31_0 := blk_frozen BK277.out 0
                      have hfz31_1 := blk_frozen BK277.out 1
                      have hfz31_2 := blk_frozen BK277.out 2
                      have hfz31_3 := blk_frozen BK277.out 3
                      have hfz31_4 := blk_frozen BK277.out 4
                      go_wp2_with (first | ((with_reducible refine gate_callee (f := 16) rfl ?_); refine goesL_ (some 40) rfl rfl Try.func16 (by kernel_rfl) rfl #[.agg #[.int .i64 t269, .int .i64 t270, .int .i64 t271, .int .i64 t272, .int .i64 t273], .int .i64 x10_1] rfl (by (try simp only [List.map_toArray, List.map_cons, List.map_nil]); first | done | rfl | (simp only [List.length_drop, List.length_take]; rfl)) ?_; (with_reducible refine (blocking_Source.calls k1 t269 t270 t271 t272 t273 x10_1 t282 t283 _ A15.out).mono ?_); rintro e w32 ⟨v284, rfl, ho0, hb⟩; refine ⟨_, rfl, ?_⟩; have n0_ := Aside0.mk (Kd.R_lower ho0 (below_size (by repeat (first | (with_reducible first | exact HB.out | apply below_alloc | apply pw_below_drewN | apply below_drew1 | refine below_set ?_ GE277.out) | exact HB.out)))); have n1_ := Aside0.mk (blk_below (g := gb277) (o := .cells #[.int .i64 t269, .int .i64 t270, .int .i64 t271, .int .i64 t272, .int .i64 t273] 36 (0, 0)) (by (with_reducible repeat (first | refine blk_drewN ?_ _ | refine blk_drew ?_ | refine blk_alloc ?_ _)); exact BK277.out) hb); have n2_ := Aside0.mk (below_step (by repeat (first | (with_reducible first | exact HB.out | apply below_alloc | apply pw_below_drewN | apply below_drew1 | refine below_set ?_ GE277.out) | exact HB.out)) hb); clear BK277; clear HB; have HO285 := n0_; have BK277 := n1_; have HB := n2_; clear n0_ n1_ n2_; (try clear hb); (try clear hb2); (try clear hk); (try clear hi); (try clear ho0); obtain ⟨Ao33, co33, eo33⟩ := Kd.R_slice HO285.out; subst eo33; have hcz34_0 : w32.cell? ⟨gb277, 0, none⟩ = some (.int .i64 t269) := (blk_cell BK277.out 0).trans rfl; have hcz34_1 : w32.cell? ⟨gb277, 1, none⟩ = some (.int .i64 t270) := (blk_cell BK277.out 1).trans rfl; have hcz34_2 : w32.cell? ⟨gb277, 2, none⟩ = some (.int .i64 t271) := (blk_cell BK277.out 2).trans rfl; have hcz34_3 : w32.cell? ⟨gb277, 3, none⟩ = some (.int .i64 t272) := (blk_cell BK277.out 3).trans rfl; have hcz34_4 : w32.cell? ⟨gb277, 4, none⟩ = some (.int .i64 t273) := (blk_cell BK277.out 4).trans rfl; have hfz34_0 := blk_frozen BK277.out 0; have hfz34_1 := blk_frozen BK277.out 1; have hfz34_2 := blk_frozen BK277.out 2; have hfz34_3 := blk_frozen BK277.out 3; have hfz34_4 := blk_frozen BK277.out 4))
                      go_roundg k1
                      case measure => have := HK1.out; omega
                      case rel => exact ⟨(wrap64 (x9_1 + t282)), (wrap64 (x10_1 + 1)), (by first | rfl | (simp; done) | (simp [*]; done)), (by first | rfl | (simp; done) | (simp [*]; done)), H', ⟨by have := HK1.out; omega⟩, ⟨by (with_reducible repeat (first | refine blk_drewN ?_ _ | refine blk_drew ?_ | refine blk_alloc ?_ _)); exact BK277.out⟩, ⟨by repeat (first | (with_reducible first | exact HB.out | apply below_alloc | apply pw_below_drewN | apply below_drew1 | refine below_set ?_ GE277.out) | exact HB.out)⟩⟩
                    · rw [if_neg c30] at H
                      have c30b0 : (t282 == (wrap64 (t273 + 1))) = false := beq_eq_false_iff_ne.mpr c30
                      have c30b1 : (t282 != (wrap64 (t273 + 1))) = true := bne_iff_ne.mpr c30
                      obtain rfl := Option.some.inj H
                      have hcz35_0 : wr.cell? ⟨gb277, 0, none⟩ = some (.int .i64 t269) := (blk_cell BK277.out 0).trans rfl
                      have hcz35_1 : wr.cell? ⟨gb277, 1, none⟩ = some (.int .i64 t270) := (blk_cell BK277.out 1).trans rfl
                      have hcz35_2 : wr.cell? ⟨gb277, 2, none⟩ = some (.int .i64 t271) := (blk_cell BK277.out 2).trans rfl
                      have hcz35_3 : wr.cell? ⟨gb277, 3, none⟩ = some (.int .i64 t272) := (blk_cell BK277.out 3).trans rfl
                      have hcz35_4 : wr.cell? ⟨gb277, 4, none⟩ = some (.int .i64 t273) := (blk_cell BK277.out 4).trans rfl
                      have hfz35_0 := blk_frozen BK277.out 0
                      have hfz35_1 := blk_frozen BK277.out 1
                      have hfz35_2 := blk_frozen BK277.out 2
                      have hfz35_3 := blk_frozen BK277.out 3
                      have hfz35_4 := blk_frozen BK277.out 4
                      go_wp2_with (first | ((with_reducible refine gate_callee (f := 16) rfl ?_); refine goesL_ (some 40) rfl rfl Try.func16 (by kernel_rfl) rfl #[.agg #[.int .i64 t269, .int .i64 t270, .int .i64 t271, .int .i64 t272, .int .i64 t273], .int .i64 x10_1] rfl (by (try simp only [List.map_toArray, List.map_cons, List.map_nil]); first | done | rfl | (simp only [List.length_drop, List.length_take]; rfl)) ?_; (with_reducible refine (blocking_Source.calls k1 t269 t270 t271 t272 t273 x10_1 t282 t283 _ A15.out).mono ?_); rintro e w36 ⟨v284, rfl, ho0, hb⟩; refine ⟨_, rfl, ?_⟩; have n0_ := Aside0.mk (Kd.R_lower ho0 (below_size (by repeat (first | (with_reducible first | exact HB.out | apply below_alloc | apply pw_below_drewN | apply below_drew1 | refine below_set ?_ GE277.out) | exact HB.out)))); have n1_ := Aside0.mk (blk_below (g := gb277) (o := .cells #[.int .i64 t269, .int .i64 t270, .int .i64 t271, .int .i64 t272, .int .i64 t273] 36 (0, 0)) (by (with_reducible repeat (first | refine blk_drewN ?_ _ | refine blk_drew ?_ | refine blk_alloc ?_ _)); exact BK277.out) hb); have n2_ := Aside0.mk (below_step (by repeat (first | (with_reducible first | exact HB.out | apply below_alloc | apply pw_below_drewN | apply below_drew1 | refine below_set ?_ GE277.out) | exact HB.out)) hb); clear BK277; clear HB; have HO285 := n0_; have BK277 := n1_; have HB := n2_; clear n0_ n1_ n2_; (try clear hb); (try clear hb2); (try clear hk); (try clear hi); (try clear ho0); obtain ⟨Ao37, co37, eo37⟩ := Kd.R_slice HO285.out; subst eo37; have hcz38_0 : w36.cell? ⟨gb277, 0, none⟩ = some (.int .i64 t269) := (blk_cell BK277.out 0).trans rfl; have hcz38_1 : w36.cell? ⟨gb277, 1, none⟩ = some (.int .i64 t270) := (blk_cell BK277.out 1).trans rfl; have hcz38_2 : w36.cell? ⟨gb277, 2, none⟩ = some (.int .i64 t271) := (blk_cell BK277.out 2).trans rfl; have hcz38_3 : w36.cell? ⟨gb277, 3, none⟩ = some (.int .i64 t272) := (blk_cell BK277.out 3).trans rfl; have hcz38_4 : w36.cell? ⟨gb277, 4, none⟩ = some (.int .i64 t273) := (blk_cell BK277.out 4).trans rfl; have hfz38_0 := blk_frozen BK277.out 0; have hfz38_1 := blk_frozen BK277.out 1; have hfz38_2 := blk_frozen BK277.out 2; have hfz38_3 := blk_frozen BK277.out 3; have hfz38_4 := blk_frozen BK277.out 4))
                      go_ret
                      exact ⟨by first | rfl | (simp [errW_none, errW_some] <;> rfl) | (simp [*, errW_none, errW_some] <;> rfl), by repeat (first | (with_reducible first | exact HB.out | apply below_alloc | apply pw_below_drewN | apply below_drew1 | refine below_set ?_ GE277.out) | exact HB.out)⟩
            · rw [if_neg c16] at H
              have c16b0 : ((t283.length : Int) == 0) = false := beq_eq_false_iff_ne.mpr c16
              have c16b1 : ((t283.length : Int) != 0) = true := bne_iff_ne.mpr c16
              have c16b2 : ¬ (t283 = []) := fun h_ => c16 (by rw [h_]; rfl)
              obtain rfl := Option.some.inj H
              have hcz39_0 : wr.cell? ⟨gb277, 0, none⟩ = some (.int .i64 t269) := (blk_cell BK277.out 0).trans rfl
              have hcz39_1 : wr.cell? ⟨gb277, 1, none⟩ = some (.int .i64 t270) := (blk_cell BK277.out 1).trans rfl
              have hcz39_2 : wr.cell? ⟨gb277, 2, none⟩ = some (.int .i64 t271) := (blk_cell BK277.out 2).trans rfl
              have hcz39_3 : wr.cell? ⟨gb277, 3, none⟩ = some (.int .i64 t272) := (blk_cell BK277.out 3).trans rfl
              have hcz39_4 : wr.cell? ⟨gb277, 4, none⟩ = some (.int .i64 t273) := (blk_cell BK277.out 4).trans rfl
              have hfz39_0 := blk_frozen BK277.out 0
              have hfz39_1 := blk_frozen BK277.out 1
              have hfz39_2 := blk_frozen BK277.out 2
              have hfz39_3 := blk_frozen BK277.out 3
              have hfz39_4 := blk_frozen BK277.out 4
              go_wp2_with (first | ((with_reducible refine gate_callee (f := 16) rfl ?_); refine goesL_ (some 40) rfl rfl Try.func16 (by kernel_rfl) rfl #[.agg #[.int .i64 t269, .int .i64 t270, .int .i64 t271, .int .i64 t272, .int .i64 t273], .int .i64 x10_1] rfl (by (try simp only [List.map_toArray, List.map_cons, List.map_nil]); first | done | rfl | (simp only [List.length_drop, List.length_take]; rfl)) ?_; (with_reducible refine (blocking_Source.calls k1 t269 t270 t271 t272 t273 x10_1 t282 t283 _ A15.out).mono ?_); rintro e w40 ⟨v284, rfl, ho0, hb⟩; refine ⟨_, rfl, ?_⟩; have n0_ := Aside0.mk (Kd.R_lower ho0 (below_size (by repeat (first | (with_reducible first | exact HB.out | apply below_alloc | apply pw_below_drewN | apply below_drew1 | refine below_set ?_ GE277.out) | exact HB.out)))); have n1_ := Aside0.mk (blk_below (g := gb277) (o := .cells #[.int .i64 t269, .int .i64 t270, .int .i64 t271, .int .i64 t272, .int .i64 t273] 36 (0, 0)) (by (with_reducible repeat (first | refine blk_drewN ?_ _ | refine blk_drew ?_ | refine blk_alloc ?_ _)); exact BK277.out) hb); have n2_ := Aside0.mk (below_step (by repeat (first | (with_reducible first | exact HB.out | apply below_alloc | apply pw_below_drewN | apply below_drew1 | refine below_set ?_ GE277.out) | exact HB.out)) hb); clear BK277; clear HB; have HO285 := n0_; have BK277 := n1_; have HB := n2_; clear n0_ n1_ n2_; (try clear hb); (try clear hb2); (try clear hk); (try clear hi); (try clear ho0); obtain ⟨Ao41, co41, eo41⟩ := Kd.R_slice HO285.out; subst eo41))
              go_ret
              exact ⟨by first | rfl | (simp [errW_none, errW_some] <;> rfl) | (simp [*, errW_none, errW_some] <;> rfl), by repeat (first | (with_reducible first | exact HB.out | apply below_alloc | apply pw_below_drewN | apply below_drew1 | refine below_set ?_ GE277.out) | exact HB.out)⟩
          · rw [if_neg c14] at H
            have c14b0 : decide (x10_1 < t271) = false := decide_eq_false c14
            clear c14
            replace H := Option.bind_eq_some_iff.mp H
            obtain ⟨t286, A420, H⟩ := H
            replace H : (if x9_1 = t286 then (if (wrap64 ((wrap64 (t271 - 1)) * a2)) < x9_1 then ((geyserlaw14_awake.f k1).bind fun t287 => (some t287)) else (some false)) else (some false)) = some r := H
            have A42 := Aside0.mk A420
            clear A420
            by_cases c43 : x9_1 = t286
            · rw [if_pos c43] at H
              have c43b0 : (x9_1 == t286) = true := beq_iff_eq.mpr c43
              have c43b1 : (x9_1 != t286) = false := bne_eq_false_iff_eq.mpr c43
              clear c43
              by_cases c44 : (wrap64 ((wrap64 (t271 - 1)) * a2)) < x9_1
              · rw [if_pos c44] at H
                have c44b0 : decide ((wrap64 ((wrap64 (t271 - 1)) * a2)) < x9_1) = true := decide_eq_true c44
                clear c44
                replace H := Option.bind_eq_some_iff.mp H
                obtain ⟨t287, A450, H⟩ := H
                replace H : (some t287) = some r := H
                have A45 := Aside0.mk A450
                clear A450
                obtain rfl := Option.some.inj H
                have hcz46_0 : wr.cell? ⟨gb277, 0, none⟩ = some (.int .i64 t269) := (blk_cell BK277.out 0).trans rfl
                have hcz46_1 : wr.cell? ⟨gb277, 1, none⟩ = some (.int .i64 t270) := (blk_cell BK277.out 1).trans rfl
                have hcz46_2 : wr.cell? ⟨gb277, 2, none⟩ = some (.int .i64 t271) := (blk_cell BK277.out 2).trans rfl
                have hcz46_3 : wr.cell? ⟨gb277, 3, none⟩ = some (.int .i64 t272) := (blk_cell BK277.out 3).trans rfl
                have hcz46_4 : wr.cell? ⟨gb277, 4, none⟩ = some (.int .i64 t273) := (blk_cell BK277.out 4).trans rfl
                have hfz46_0 := blk_frozen BK277.out 0
                have hfz46_1 := blk_frozen BK277.out 1
                have hfz46_2 := blk_frozen BK277.out 2
                have hfz46_3 := blk_frozen BK277.out 3
                have hfz46_4 := blk_frozen BK277.out 4
                go_wp2_with (first | ((with_reducible refine gate_callee (f := 17) rfl ?_); refine goesL_ (some 73) rfl rfl Try.func17 (by kernel_rfl) rfl #[.int .i64 a0, .int .i64 a1] rfl (by (try simp only [List.map_toArray, List.map_cons, List.map_nil]); first | done | rfl | (simp only [List.length_drop, List.length_take]; rfl)) ?_; (with_reducible refine (geyserref14_Symbols.calls a0 a1 t286 _ A42.out).mono ?_); rintro e w' ⟨rfl, ⟨nd, rfl⟩⟩; refine ⟨_, rfl, ?_⟩) | (go_at_call 14; (with_reducible refine (geyserlaw14_awake.calls k1  t287 _ A45.out).mono ?_); rintro e w47 ⟨rfl, hb⟩; have n0_ := Aside0.mk (blk_below (g := gb277) (o := .cells #[.int .i64 t269, .int .i64 t270, .int .i64 t271, .int .i64 t272, .int .i64 t273] 36 (0, 0)) (by (with_reducible repeat (first | refine blk_drewN ?_ _ | refine blk_drew ?_ | refine blk_alloc ?_ _)); exact BK277.out) hb); have n1_ := Aside0.mk (below_step (by repeat (first | (with_reducible first | exact HB.out | apply below_alloc | apply pw_below_drewN | apply below_drew1 | refine below_set ?_ GE277.out) | exact HB.out)) hb); clear BK277; clear HB; have BK277 := n0_; have HB := n1_; clear n0_ n1_; (try clear hb); (try clear hb2); (try clear hk); (try clear hi)))
                go_ret
                exact ⟨by first | rfl | (simp [errW_none, errW_some] <;> rfl) | (simp [*, errW_none, errW_some] <;> rfl), by repeat (first | (with_reducible first | exact HB.out | apply below_alloc | apply pw_below_drewN | apply below_drew1 | refine below_set ?_ GE277.out) | exact HB.out)⟩
              · rw [if_neg c44] at H
                have c44b0 : decide ((wrap64 ((wrap64 (t271 - 1)) * a2)) < x9_1) = false := decide_eq_false c44
                clear c44
                obtain rfl := Option.some.inj H
                have hcz48_0 : wr.cell? ⟨gb277, 0, none⟩ = some (.int .i64 t269) := (blk_cell BK277.out 0).trans rfl
                have hcz48_1 : wr.cell? ⟨gb277, 1, none⟩ = some (.int .i64 t270) := (blk_cell BK277.out 1).trans rfl
                have hcz48_2 : wr.cell? ⟨gb277, 2, none⟩ = some (.int .i64 t271) := (blk_cell BK277.out 2).trans rfl
                have hcz48_3 : wr.cell? ⟨gb277, 3, none⟩ = some (.int .i64 t272) := (blk_cell BK277.out 3).trans rfl
                have hcz48_4 : wr.cell? ⟨gb277, 4, none⟩ = some (.int .i64 t273) := (blk_cell BK277.out 4).trans rfl
                have hfz48_0 := blk_frozen BK277.out 0
                have hfz48_1 := blk_frozen BK277.out 1
                have hfz48_2 := blk_frozen BK277.out 2
                have hfz48_3 := blk_frozen BK277.out 3
                have hfz48_4 := blk_frozen BK277.out 4
                go_wp2_with (first | ((with_reducible refine gate_callee (f := 17) rfl ?_); refine goesL_ (some 73) rfl rfl Try.func17 (by kernel_rfl) rfl #[.int .i64 a0, .int .i64 a1] rfl (by (try simp only [List.map_toArray, List.map_cons, List.map_nil]); first | done | rfl | (simp only [List.length_drop, List.length_take]; rfl)) ?_; (with_reducible refine (geyserref14_Symbols.calls a0 a1 t286 _ A42.out).mono ?_); rintro e w' ⟨rfl, ⟨nd, rfl⟩⟩; refine ⟨_, rfl, ?_⟩))
                go_ret
                exact ⟨by first | rfl | (simp [errW_none, errW_some] <;> rfl) | (simp [*, errW_none, errW_some] <;> rfl), by repeat (first | (with_reducible first | exact HB.out | apply below_alloc | apply pw_below_drewN | apply below_drew1 | refine below_set ?_ GE277.out) | exact HB.out)⟩
            · rw [if_neg c43] at H
              have c43b0 : (x9_1 == t286) = false := beq_eq_false_iff_ne.mpr c43
              have c43b1 : (x9_1 != t286) = true := bne_iff_ne.mpr c43
              obtain rfl := Option.some.inj H
              have hcz49_0 : wr.cell? ⟨gb277, 0, none⟩ = some (.int .i64 t269) := (blk_cell BK277.out 0).trans rfl
              have hcz49_1 : wr.cell? ⟨gb277, 1, none⟩ = some (.int .i64 t270) := (blk_cell BK277.out 1).trans rfl
              have hcz49_2 : wr.cell? ⟨gb277, 2, none⟩ = some (.int .i64 t271) := (blk_cell BK277.out 2).trans rfl
              have hcz49_3 : wr.cell? ⟨gb277, 3, none⟩ = some (.int .i64 t272) := (blk_cell BK277.out 3).trans rfl
              have hcz49_4 : wr.cell? ⟨gb277, 4, none⟩ = some (.int .i64 t273) := (blk_cell BK277.out 4).trans rfl
              have hfz49_0 := blk_frozen BK277.out 0
              have hfz49_1 := blk_frozen BK277.out 1
              have hfz49_2 := blk_frozen BK277.out 2
              have hfz49_3 := blk_frozen BK277.out 3
              have hfz49_4 := blk_frozen BK277.out 4
              go_wp2_with (first | ((with_reducible refine gate_callee (f := 17) rfl ?_); refine goesL_ (some 73) rfl rfl Try.func17 (by kernel_rfl) rfl #[.int .i64 a0, .int .i64 a1] rfl (by (try simp only [List.map_toArray, List.map_cons, List.map_nil]); first | done | rfl | (simp only [List.length_drop, List.length_take]; rfl)) ?_; (with_reducible refine (geyserref14_Symbols.calls a0 a1 t286 _ A42.out).mono ?_); rintro e w' ⟨rfl, ⟨nd, rfl⟩⟩; refine ⟨_, rfl, ?_⟩))
              go_ret
              exact ⟨by first | rfl | (simp [errW_none, errW_some] <;> rfl) | (simp [*, errW_none, errW_some] <;> rfl), by repeat (first | (with_reducible first | exact HB.out | apply below_alloc | apply pw_below_drewN | apply below_drew1 | refine below_set ?_ GE277.out) | exact HB.out)⟩
    · rw [if_neg c7] at H
      have c7b0 : ((t279.length : Int) == 0) = false := beq_eq_false_iff_ne.mpr c7
      have c7b1 : ((t279.length : Int) != 0) = true := bne_iff_ne.mpr c7
      have c7b2 : ¬ (t279 = []) := fun h_ => c7 (by rw [h_]; rfl)
      obtain rfl := Option.some.inj H
      go_enter Try.func5, Try.ntmps5
      go_wp2_with (first | ((with_reducible refine gate_callee (f := 13) rfl ?_); refine goesL_ (some 17) rfl rfl Try.func13 (by kernel_rfl) rfl #[.int .i64 a0, .int .i64 a1, .int .i64 a2] rfl (by (try simp only [List.map_toArray, List.map_cons, List.map_nil]); first | done | rfl | (simp only [List.length_drop, List.length_take]; rfl)) ?_; (with_reducible refine (blocking_Of.calls k a0 a1 a2 t269 t270 t271 t272 t273 t274 _ A4.out).mono ?_); rintro e w50 ⟨v275, rfl, ho0, hb⟩; refine ⟨_, rfl, ?_⟩; have n0_ := Aside0.mk (Kd.R_lower ho0 (below_size (by repeat (first | (with_reducible first | exact HB.out | apply below_alloc | apply pw_below_drewN | apply below_drew1) | exact HB.out)))); have n1_ := Aside0.mk (below_step (by repeat (first | (with_reducible first | exact HB.out | apply below_alloc | apply pw_below_drewN | apply below_drew1) | exact HB.out)) hb); clear HB; have HO276 := n0_; have HB := n1_; clear n0_ n1_; (try clear hb); (try clear hb2); (try clear hk); (try clear hi); (try clear ho0)) | ((with_reducible refine gate_dst (N := 7) rfl ?_); refine box_event ?hg (N := 7) ?hd (cs := #[.int .i64 0, .int .i64 0, .int .i64 0, .int .i64 0, .int .i64 0]) (t := 36) ?hr ?_; (case hd => rfl); (case hg => rfl); (case hr => first | (go_simp; done) | (go_simp; rfl)); intro gb277 hg w51 hbox hb; have n0_ := Aside0.mk (Kd.R_below (by (with_reducible repeat (first | apply Kd.R_alloc | apply Kd.R_drewN | apply Kd.R_drew)); exact HO276.out) hb); have n1_ := Aside0.mk (below_step (by repeat (first | (with_reducible first | exact HB.out | apply below_alloc | apply pw_below_drewN | apply below_drew1) | exact HB.out)) hb); have n2_ := Aside0.mk (hbox); have n3_ := Aside0.mk ((by rw [hg]; exact (below_size (by repeat (first | (with_reducible first | exact HB.out | apply below_alloc | apply pw_below_drewN | apply below_drew1) | exact HB.out))) : w.heap.size ≤ gb277)); have n4_ := Aside0.mk ((by rw [hg]; exact (below_size (by repeat (first | (with_reducible first | exact HB.out | apply below_alloc | apply pw_below_drewN | apply below_drew1) | exact HB.out))) : w.heap.size ≤ gb277)); clear HO276; clear HB; have HO276 := n0_; have HB := n1_; have BK277 := n2_; have GW277 := n3_; have GE277 := n4_; clear n0_ n1_ n2_ n3_ n4_; clear hb hbox hg; have hcz52_0 : w51.cell? ⟨gb277, 0, none⟩ = some (.int .i64 0) := (blk_cell BK277.out 0).trans rfl; have hcz52_1 : w51.cell? ⟨gb277, 1, none⟩ = some (.int .i64 0) := (blk_cell BK277.out 1).trans rfl; have hcz52_2 : w51.cell? ⟨gb277, 2, none⟩ = some (.int .i64 0) := (blk_cell BK277.out 2).trans rfl; have hcz52_3 : w51.cell? ⟨gb277, 3, none⟩ = some (.int .i64 0) := (blk_cell BK277.out 3).trans rfl; have hcz52_4 : w51.cell? ⟨gb277, 4, none⟩ = some (.int .i64 0) := (blk_cell BK277.out 4).trans rfl; have hfz52_0 := blk_frozen BK277.out 0; have hfz52_1 := blk_frozen BK277.out 1; have hfz52_2 := blk_frozen BK277.out 2; have hfz52_3 := blk_frozen BK277.out 3; have hfz52_4 := blk_frozen BK277.out 4; obtain ⟨Ao53, co53, eo53⟩ := Kd.R_slice HO276.out; subst eo53) | ((with_reducible refine gate_callee (f := 15) rfl ?_); refine goesL_ (some 29) rfl rfl Try.func15 (by kernel_rfl) rfl #[.agg #[.int .i64 t269, .int .i64 t270, .int .i64 t271, .int .i64 t272, .int .i64 t273]] rfl (by (try simp only [List.map_toArray, List.map_cons, List.map_nil]); first | done | rfl | (simp only [List.length_drop, List.length_take]; rfl)) ?_; (with_reducible refine (blocking_Check.calls k t269 t270 t271 t272 t273 t279 _ A6.out).mono ?_); rintro e w54 ⟨v280, rfl, ho0, hb⟩; refine ⟨_, rfl, ?_⟩; have n0_ := Aside0.mk (Kd.R_below (by (with_reducible repeat (first | apply Kd.R_alloc | apply Kd.R_drewN | apply Kd.R_drew)); exact (Kd.R_mono (Kd.R_far (p := ⟨gb277, 4, none⟩) (Kd.R_far (p := ⟨gb277, 3, none⟩) (Kd.R_far (p := ⟨gb277, 2, none⟩) (Kd.R_far (p := ⟨gb277, 1, none⟩) (Kd.R_far (p := ⟨gb277, 0, none⟩) (Kd.R_types HO276.out BK277.out (by decide)) (fun _ hk => hk.2) (.int .i64 t269)) (fun _ hk => hk.2) (.int .i64 t270)) (fun _ hk => hk.2) (.int .i64 t271)) (fun _ hk => hk.2) (.int .i64 t272)) (fun _ hk => hk.2) (.int .i64 t273)) (fun _ h_ => h_.1))) hb); have n1_ := Aside0.mk (Kd.R_lower ho0 (below_size (by repeat (first | (with_reducible first | exact HB.out | apply below_alloc | apply pw_below_drewN | apply below_drew1 | refine below_set ?_ GE277.out) | exact HB.out)))); have n2_ := Aside0.mk (blk_below (g := gb277) (o := .cells #[.int .i64 t269, .int .i64 t270, .int .i64 t271, .int .i64 t272, .int .i64 t273] 36 (0, 0)) (by (with_reducible repeat (first | refine blk_drewN ?_ _ | refine blk_drew ?_ | refine blk_alloc ?_ _)); refine blk_put (cs := #[.int .i64 t269, .int .i64 t270, .int .i64 t271, .int .i64 t272, .int .i64 0]) ?_ 4 _ rfl; (with_reducible repeat (first | refine blk_drewN ?_ _ | refine blk_drew ?_ | refine blk_alloc ?_ _)); refine blk_put (cs := #[.int .i64 t269, .int .i64 t270, .int .i64 t271, .int .i64 0, .int .i64 0]) ?_ 3 _ rfl; (with_reducible repeat (first | refine blk_drewN ?_ _ | refine blk_drew ?_ | refine blk_alloc ?_ _)); refine blk_put (cs := #[.int .i64 t269, .int .i64 t270, .int .i64 0, .int .i64 0, .int .i64 0]) ?_ 2 _ rfl; (with_reducible repeat (first | refine blk_drewN ?_ _ | refine blk_drew ?_ | refine blk_alloc ?_ _)); refine blk_put (cs := #[.int .i64 t269, .int .i64 0, .int .i64 0, .int .i64 0, .int .i64 0]) ?_ 1 _ rfl; (with_reducible repeat (first | refine blk_drewN ?_ _ | refine blk_drew ?_ | refine blk_alloc ?_ _)); refine blk_put (cs := #[.int .i64 0, .int .i64 0, .int .i64 0, .int .i64 0, .int .i64 0]) ?_ 0 _ rfl; (with_reducible repeat (first | refine blk_drewN ?_ _ | refine blk_drew ?_ | refine blk_alloc ?_ _)); exact BK277.out) hb); have n3_ := Aside0.mk (below_step (by repeat (first | (with_reducible first | exact HB.out | apply below_alloc | apply pw_below_drewN | apply below_drew1 | refine below_set ?_ GE277.out) | exact HB.out)) hb); clear HO276; clear BK277; clear HB; have HO276 := n0_; have HO281 := n1_; have BK277 := n2_; have HB := n3_; clear n0_ n1_ n2_ n3_; (try clear hb); (try clear hb2); (try clear hk); (try clear hi); (try clear ho0); obtain ⟨Ao55, co55, eo55⟩ := Kd.R_slice HO281.out; subst eo55))
      go_ret
      exact ⟨by first | rfl | (simp [errW_none, errW_some] <;> rfl) | (simp [*, errW_none, errW_some] <;> rfl), by repeat (first | (with_reducible first | exact HB.out | apply below_alloc | apply pw_below_drewN | apply below_drew1 | refine below_set ?_ GE277.out) | exact HB.out)⟩
  · rw [if_neg c5] at H
    have c5b0 : ((t274.length : Int) == 0) = false := beq_eq_false_iff_ne.mpr c5
    have c5b1 : ((t274.length : Int) != 0) = true := bne_iff_ne.mpr c5
    have c5b2 : ¬ (t274 = []) := fun h_ => c5 (by rw [h_]; rfl)
    by_cases c56 : (t269 == 0 && (t270 == 0 && (t271 == 0 && (t272 == 0 && (t273 == 0))))) = true
    · rw [if_pos c56] at H
      have c56b0 : (t269 == 0 && (t270 == 0 && (t271 == 0 && (t272 == 0 && (t273 == 0))))) = true := c56
      (try (have c56b1 : decide (t269 = 0 && (t270 == 0 && (t271 == 0 && (t272 == 0 && (t273 == 0))))) = true := by simpa using c56))
      (try (have c56b2 : (t269 == 0 && (t270 == 0 && (t271 == 0 && (t272 == 0 && (t273 == 0))))) = true := by simpa using c56))
      clear c56
      replace H := Option.bind_eq_some_iff.mp H
      obtain ⟨t278, A570, H⟩ := H
      replace H : (some t278) = some r := H
      have A57 := Aside0.mk A570
      clear A570
      obtain rfl := Option.some.inj H
      go_enter Try.func5, Try.ntmps5
      go_wp2_with (first | ((with_reducible refine gate_callee (f := 13) rfl ?_); refine goesL_ (some 17) rfl rfl Try.func13 (by kernel_rfl) rfl #[.int .i64 a0, .int .i64 a1, .int .i64 a2] rfl (by (try simp only [List.map_toArray, List.map_cons, List.map_nil]); first | done | rfl | (simp only [List.length_drop, List.length_take]; rfl)) ?_; (with_reducible refine (blocking_Of.calls k a0 a1 a2 t269 t270 t271 t272 t273 t274 _ A4.out).mono ?_); rintro e w58 ⟨v275, rfl, ho0, hb⟩; refine ⟨_, rfl, ?_⟩; have n0_ := Aside0.mk (Kd.R_lower ho0 (below_size (by repeat (first | (with_reducible first | exact HB.out | apply below_alloc | apply pw_below_drewN | apply below_drew1) | exact HB.out)))); have n1_ := Aside0.mk (below_step (by repeat (first | (with_reducible first | exact HB.out | apply below_alloc | apply pw_below_drewN | apply below_drew1) | exact HB.out)) hb); clear HB; have HO276 := n0_; have HB := n1_; clear n0_ n1_; (try clear hb); (try clear hb2); (try clear hk); (try clear hi); (try clear ho0)) | ((with_reducible refine gate_dst (N := 7) rfl ?_); refine box_event ?hg (N := 7) ?hd (cs := #[.int .i64 0, .int .i64 0, .int .i64 0, .int .i64 0, .int .i64 0]) (t := 36) ?hr ?_; (case hd => rfl); (case hg => rfl); (case hr => first | (go_simp; done) | (go_simp; rfl)); intro gb277 hg w59 hbox hb; have n0_ := Aside0.mk (Kd.R_below (by (with_reducible repeat (first | apply Kd.R_alloc | apply Kd.R_drewN | apply Kd.R_drew)); exact HO276.out) hb); have n1_ := Aside0.mk (below_step (by repeat (first | (with_reducible first | exact HB.out | apply below_alloc | apply pw_below_drewN | apply below_drew1) | exact HB.out)) hb); have n2_ := Aside0.mk (hbox); have n3_ := Aside0.mk ((by rw [hg]; exact (below_size (by repeat (first | (with_reducible first | exact HB.out | apply below_alloc | apply pw_below_drewN | apply below_drew1) | exact HB.out))) : w.heap.size ≤ gb277)); have n4_ := Aside0.mk ((by rw [hg]; exact (below_size (by repeat (first | (with_reducible first | exact HB.out | apply below_alloc | apply pw_below_drewN | apply below_drew1) | exact HB.out))) : w.heap.size ≤ gb277)); clear HO276; clear HB; have HO276 := n0_; have HB := n1_; have BK277 := n2_; have GW277 := n3_; have GE277 := n4_; clear n0_ n1_ n2_ n3_ n4_; clear hb hbox hg; have hcz60_0 : w59.cell? ⟨gb277, 0, none⟩ = some (.int .i64 0) := (blk_cell BK277.out 0).trans rfl; have hcz60_1 : w59.cell? ⟨gb277, 1, none⟩ = some (.int .i64 0) := (blk_cell BK277.out 1).trans rfl; have hcz60_2 : w59.cell? ⟨gb277, 2, none⟩ = some (.int .i64 0) := (blk_cell BK277.out 2).trans rfl; have hcz60_3 : w59.cell? ⟨gb277, 3, none⟩ = some (.int .i64 0) := (blk_cell BK277.out 3).trans rfl; have hcz60_4 : w59.cell? ⟨gb277, 4, none⟩ = some (.int .i64 0) := (blk_cell BK277.out 4).trans rfl; have hfz60_0 := blk_frozen BK277.out 0; have hfz60_1 := blk_frozen BK277.out 1; have hfz60_2 := blk_frozen BK277.out 2; have hfz60_3 := blk_frozen BK277.out 3; have hfz60_4 := blk_frozen BK277.out 4; obtain ⟨Ao61, co61, eo61⟩ := Kd.R_slice HO276.out; subst eo61) | (go_at_call 14; (with_reducible refine (geyserlaw14_awake.calls k  t278 _ A57.out).mono ?_); rintro e w62 ⟨rfl, hb⟩; have n0_ := Aside0.mk (Kd.R_below (by (with_reducible repeat (first | apply Kd.R_alloc | apply Kd.R_drewN | apply Kd.R_drew)); exact (Kd.R_mono (Kd.R_far (p := ⟨gb277, 4, none⟩) (Kd.R_far (p := ⟨gb277, 3, none⟩) (Kd.R_far (p := ⟨gb277, 2, none⟩) (Kd.R_far (p := ⟨gb277, 1, none⟩) (Kd.R_far (p := ⟨gb277, 0, none⟩) (Kd.R_types HO276.out BK277.out (by decide)) (fun _ hk => hk.2) (.int .i64 t269)) (fun _ hk => hk.2) (.int .i64 t270)) (fun _ hk => hk.2) (.int .i64 t271)) (fun _ hk => hk.2) (.int .i64 t272)) (fun _ hk => hk.2) (.int .i64 t273)) (fun _ h_ => h_.1))) hb); have n1_ := Aside0.mk (blk_below (g := gb277) (o := .cells #[.int .i64 t269, .int .i64 t270, .int .i64 t271, .int .i64 t272, .int .i64 t273] 36 (0, 0)) (by (with_reducible repeat (first | refine blk_drewN ?_ _ | refine blk_drew ?_ | refine blk_alloc ?_ _)); refine blk_put (cs := #[.int .i64 t269, .int .i64 t270, .int .i64 t271, .int .i64 t272, .int .i64 0]) ?_ 4 _ rfl; (with_reducible repeat (first | refine blk_drewN ?_ _ | refine blk_drew ?_ | refine blk_alloc ?_ _)); refine blk_put (cs := #[.int .i64 t269, .int .i64 t270, .int .i64 t271, .int .i64 0, .int .i64 0]) ?_ 3 _ rfl; (with_reducible repeat (first | refine blk_drewN ?_ _ | refine blk_drew ?_ | refine blk_alloc ?_ _)); refine blk_put (cs := #[.int .i64 t269, .int .i64 t270, .int .i64 0, .int .i64 0, .int .i64 0]) ?_ 2 _ rfl; (with_reducible repeat (first | refine blk_drewN ?_ _ | refine blk_drew ?_ | refine blk_alloc ?_ _)); refine blk_put (cs := #[.int .i64 t269, .int .i64 0, .int .i64 0, .int .i64 0, .int .i64 0]) ?_ 1 _ rfl; (with_reducible repeat (first | refine blk_drewN ?_ _ | refine blk_drew ?_ | refine blk_alloc ?_ _)); refine blk_put (cs := #[.int .i64 0, .int .i64 0, .int .i64 0, .int .i64 0, .int .i64 0]) ?_ 0 _ rfl; (with_reducible repeat (first | refine blk_drewN ?_ _ | refine blk_drew ?_ | refine blk_alloc ?_ _)); exact BK277.out) hb); have n2_ := Aside0.mk (below_step (by repeat (first | (with_reducible first | exact HB.out | apply below_alloc | apply pw_below_drewN | apply below_drew1 | refine below_set ?_ GE277.out) | exact HB.out)) hb); clear HO276; clear BK277; clear HB; have HO276 := n0_; have BK277 := n1_; have HB := n2_; clear n0_ n1_ n2_; (try clear hb); (try clear hb2); (try clear hk); (try clear hi)))
      go_ret
      exact ⟨by first | rfl | (simp [errW_none, errW_some] <;> rfl) | (simp [*, errW_none, errW_some] <;> rfl), by repeat (first | (with_reducible first | exact HB.out | apply below_alloc | apply pw_below_drewN | apply below_drew1 | refine below_set ?_ GE277.out) | exact HB.out)⟩
    · rw [if_neg c56] at H
      have c56b0 : (t269 == 0 && (t270 == 0 && (t271 == 0 && (t272 == 0 && (t273 == 0))))) = false := by simpa using c56
      (try (have c56b1 : decide (t269 = 0 && (t270 == 0 && (t271 == 0 && (t272 == 0 && (t273 == 0))))) = false := by simpa using c56))
      (try (have c56b2 : (t269 == 0 && (t270 == 0 && (t271 == 0 && (t272 == 0 && (t273 == 0))))) = false := by simpa using c56))
      (try (have c56b3 : ¬ (t269 = 0 && (t270 == 0 && (t271 == 0 && (t272 == 0 && (t273 == 0))))) := by simpa using c56))
      clear c56
      obtain rfl := Option.some.inj H
      go_enter Try.func5, Try.ntmps5
      go_wp2_with (first | ((with_reducible refine gate_callee (f := 13) rfl ?_); refine goesL_ (some 17) rfl rfl Try.func13 (by kernel_rfl) rfl #[.int .i64 a0, .int .i64 a1, .int .i64 a2] rfl (by (try simp only [List.map_toArray, List.map_cons, List.map_nil]); first | done | rfl | (simp only [List.length_drop, List.length_take]; rfl)) ?_; (with_reducible refine (blocking_Of.calls k a0 a1 a2 t269 t270 t271 t272 t273 t274 _ A4.out).mono ?_); rintro e w63 ⟨v275, rfl, ho0, hb⟩; refine ⟨_, rfl, ?_⟩; have n0_ := Aside0.mk (Kd.R_lower ho0 (below_size (by repeat (first | (with_reducible first | exact HB.out | apply below_alloc | apply pw_below_drewN | apply below_drew1) | exact HB.out)))); have n1_ := Aside0.mk (below_step (by repeat (first | (with_reducible first | exact HB.out | apply below_alloc | apply pw_below_drewN | apply below_drew1) | exact HB.out)) hb); clear HB; have HO276 := n0_; have HB := n1_; clear n0_ n1_; (try clear hb); (try clear hb2); (try clear hk); (try clear hi); (try clear ho0)) | ((with_reducible refine gate_dst (N := 7) rfl ?_); refine box_event ?hg (N := 7) ?hd (cs := #[.int .i64 0, .int .i64 0, .int .i64 0, .int .i64 0, .int .i64 0]) (t := 36) ?hr ?_; (case hd => rfl); (case hg => rfl); (case hr => first | (go_simp; done) | (go_simp; rfl)); intro gb277 hg w64 hbox hb; have n0_ := Aside0.mk (Kd.R_below (by (with_reducible repeat (first | apply Kd.R_alloc | apply Kd.R_drewN | apply Kd.R_drew)); exact HO276.out) hb); have n1_ := Aside0.mk (below_step (by repeat (first | (with_reducible first | exact HB.out | apply below_alloc | apply pw_below_drewN | apply below_drew1) | exact HB.out)) hb); have n2_ := Aside0.mk (hbox); have n3_ := Aside0.mk ((by rw [hg]; exact (below_size (by repeat (first | (with_reducible first | exact HB.out | apply below_alloc | apply pw_below_drewN | apply below_drew1) | exact HB.out))) : w.heap.size ≤ gb277)); have n4_ := Aside0.mk ((by rw [hg]; exact (below_size (by repeat (first | (with_reducible first | exact HB.out | apply below_alloc | apply pw_below_drewN | apply below_drew1) | exact HB.out))) : w.heap.size ≤ gb277)); clear HO276; clear HB; have HO276 := n0_; have HB := n1_; have BK277 := n2_; have GW277 := n3_; have GE277 := n4_; clear n0_ n1_ n2_ n3_ n4_; clear hb hbox hg; have hcz65_0 : w64.cell? ⟨gb277, 0, none⟩ = some (.int .i64 0) := (blk_cell BK277.out 0).trans rfl; have hcz65_1 : w64.cell? ⟨gb277, 1, none⟩ = some (.int .i64 0) := (blk_cell BK277.out 1).trans rfl; have hcz65_2 : w64.cell? ⟨gb277, 2, none⟩ = some (.int .i64 0) := (blk_cell BK277.out 2).trans rfl; have hcz65_3 : w64.cell? ⟨gb277, 3, none⟩ = some (.int .i64 0) := (blk_cell BK277.out 3).trans rfl; have hcz65_4 : w64.cell? ⟨gb277, 4, none⟩ = some (.int .i64 0) := (blk_cell BK277.out 4).trans rfl; have hfz65_0 := blk_frozen BK277.out 0; have hfz65_1 := blk_frozen BK277.out 1; have hfz65_2 := blk_frozen BK277.out 2; have hfz65_3 := blk_frozen BK277.out 3; have hfz65_4 := blk_frozen BK277.out 4; obtain ⟨Ao66, co66, eo66⟩ := Kd.R_slice HO276.out; subst eo66))
      go_ret
      exact ⟨by first | rfl | (simp [errW_none, errW_some] <;> rfl) | (simp [*, errW_none, errW_some] <;> rfl), by repeat (first | (with_reducible first | exact HB.out | apply below_alloc | apply pw_below_drewN | apply below_drew1 | refine below_set ?_ GE277.out) | exact HB.out)⟩

end Go.Proofs.Ytbhnhmkbccjnpaa.P
