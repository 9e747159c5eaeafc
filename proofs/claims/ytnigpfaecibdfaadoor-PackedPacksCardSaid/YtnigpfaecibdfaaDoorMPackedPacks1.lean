-- joined by merge.py: Px57 Px55 Px58 PurePackedPacks
import Derived.Test.YtnigpfaecibdfaaDoorMPackedPacks0
namespace Go.Proofs.YtnigpfaecibdfaaDoor.P
open Go.RowKit Go.Proofs.YtnigpfaecibdfaaDoorW.PrintWords Go.Proofs.YtnigpfaecibdfaaDoorW.PrintLast Go.Proofs.YtnigpfaecibdfaaDoorW.PrintErr Go.Proofs.YtnigpfaecibdfaaDoorW.PrintMore
attribute [local go_sem] max2_int min2_int max_two min_two max_three min_three max_four min_four run_eql_errOf run_neq_errOf eqGuard_errOf   -- for this text's walks alone
set_option linter.unusedVariables false
set_option linter.unusedSimpArgs false

/-! ### geyserref02_Pack: function 46 -/
mutual
def geyserref02_Pack.l0 : Nat → List Int → Int → List Int → Int → Option (List Int)
  | 0, _, _, _, _ => none
  | k + 1, x0, x1, x5, x6 => (geyserref02_Size.f k x1).bind fun t498 => (if x6 < t498 then (geyserref02_Pack.l1 k x0 x1 x5 x6 0 63) else (some x5))
def geyserref02_Pack.l1 : Nat → List Int → Int → List Int → Int → Int → Int → Option (List Int)
  | 0, _, _, _, _, _, _ => none
  | k + 1, x0, x1, x5, x6, x7, x8 => if x8 ≥ 0 then ((geyserref02_In.f k x0 (wrap64 ((wrap64 (64 * x6)) + x8))).bind fun t499 => (if t499 = true then (geyserref02_Pack.l1 k x0 x1 x5 x6 (IntKind.u64.wrap ((IntKind.u64.wrap (2 * x7)) + 1)) (wrap64 (x8 - 1))) else (geyserref02_Pack.l1 k x0 x1 x5 x6 (IntKind.u64.wrap (2 * x7)) (wrap64 (x8 - 1))))) else (if x5.length < 17592186044416 then (geyserref02_Pack.l0 k x0 x1 (x5 ++ [x7]) (wrap64 (x6 + 1))) else (none))
end
def geyserref02_Pack.f (k : Nat) (l0 : List Int) (a1 : Int) : Option (List Int) := geyserref02_Pack.l0 k l0 a1 (([] : List Int)) 0
theorem geyserref02_Pack.mono_l : ∀ k, (∀ y0 y1 y2 y3, LeO (geyserref02_Pack.l0 k y0 y1 y2 y3) (geyserref02_Pack.l0 (k + 1) y0 y1 y2 y3)) ∧ (∀ y0 y1 y2 y3 y4 y5, LeO (geyserref02_Pack.l1 k y0 y1 y2 y3 y4 y5) (geyserref02_Pack.l1 (k + 1) y0 y1 y2 y3 y4 y5))
  | 0 => ⟨fun _ _ _ _ r h => by simp [geyserref02_Pack.l0] at h, fun _ _ _ _ _ _ r h => by simp [geyserref02_Pack.l1] at h⟩
  | k + 1 => by
    obtain ⟨ih0, ih1⟩ := geyserref02_Pack.mono_l k
    refine ⟨?_, ?_⟩
    · intro y0 y1 y2 y3
      unfold geyserref02_Pack.l0
      repeat' first
      | (with_reducible exact ih0 _ _ _ _)
      | (with_reducible exact ih1 _ _ _ _ _ _)
      | (with_reducible exact geyserref02_In.mono _ _ _)
      | (with_reducible exact geyserref02_Size.mono _ _)
      | (with_reducible exact LeO.refl _)
      | (with_reducible exact LeO.none _)
      | (with_reducible refine LeO.ite ?_ ?_)
      | (with_reducible refine LeO.bind ?_ (fun _ => ?_))
      | exact ih0 _ _ _ _
      | exact ih1 _ _ _ _ _ _
      | exact geyserref02_In.mono _ _ _
      | exact geyserref02_Size.mono _ _
      | exact LeO.none _
      | refine LeO.ite ?_ ?_
      | refine LeO.bind ?_ (fun _ => ?_)
    · intro y0 y1 y2 y3 y4 y5
      unfold geyserref02_Pack.l1
      repeat' first
      | (with_reducible exact ih0 _ _ _ _)
      | (with_reducible exact ih1 _ _ _ _ _ _)
      | (with_reducible exact geyserref02_In.mono _ _ _)
      | (with_reducible exact geyserref02_Size.mono _ _)
      | (with_reducible exact LeO.refl _)
      | (with_reducible exact LeO.none _)
      | (with_reducible refine LeO.ite ?_ ?_)
      | (with_reducible refine LeO.bind ?_ (fun _ => ?_))
      | exact ih0 _ _ _ _
      | exact ih1 _ _ _ _ _ _
      | exact geyserref02_In.mono _ _ _
      | exact geyserref02_Size.mono _ _
      | exact LeO.none _
      | refine LeO.ite ?_ ?_
      | refine LeO.bind ?_ (fun _ => ?_)
theorem geyserref02_Pack.mono : ∀ a0 a1 k, LeO (geyserref02_Pack.f k a0 a1) (geyserref02_Pack.f (k + 1) a0 a1) := by
  intro a0 a1 k
  obtain ⟨ih0, ih1⟩ := geyserref02_Pack.mono_l k
  unfold geyserref02_Pack.f
  repeat' first
      | (with_reducible exact ih0 _ _ _ _)
      | (with_reducible exact ih1 _ _ _ _ _ _)
      | (with_reducible exact geyserref02_In.mono _ _ _)
      | (with_reducible exact geyserref02_Size.mono _ _)
      | (with_reducible exact LeO.refl _)
      | (with_reducible exact LeO.none _)
      | (with_reducible refine LeO.ite ?_ ?_)
      | (with_reducible refine LeO.bind ?_ (fun _ => ?_))
      | exact ih0 _ _ _ _
      | exact ih1 _ _ _ _ _ _
      | exact geyserref02_In.mono _ _ _
      | exact geyserref02_Size.mono _ _
      | exact LeO.none _
      | refine LeO.ite ?_ ?_
      | refine LeO.bind ?_ (fun _ => ?_)
set_option maxHeartbeats 8000000 in
set_option maxRecDepth 100000 in
theorem geyserref02_Pack.calls (k : Nat) (A0 : Option Addr) (c0 : Nat) (l0 : List Int) (a1 : Int) (r : List Int) (w : World) (hr0 : Kd.C (Kd.int .i64) w A0 l0.length l0) (hc0 : l0.length ≤ c0) (h : geyserref02_Pack.f k l0 a1 = some r) :
    Calls Tryd.prog 46 #[.slice A0 l0.length c0, .int .i64 a1] w fun e w' => ∃ v0_ : Value, e = .returned (v0_) ∧ Kd.R (Kd.int .u64) 64 w' w.heap.size (fun _ => True) v0_ r ∧ Below w.heap.size w w' := by
  have HR0 := Aside0.mk hr0
  have HC0 := Aside0.mk hc0
  clear hr0 hc0
  have HB := Aside0.mk (Below.refl w.heap.size w)
  have H : (geyserref02_Pack.l0 k l0 a1 (([] : List Int)) 0) = some r := h
  clear h
  obtain ⟨y495, hy495⟩ : ∃ y_ : List Int, y_ = (([] : List Int)) := ⟨_, rfl⟩
  replace H : (geyserref02_Pack.l0 k l0 a1 y495 0) = some r := by first | (rw [hy495]; with_reducible exact H) | (have H2_ := (Option.bind_some _ _).symm.trans H; rw [hy495]; with_reducible exact H2_) | (have H2_ := (Option.bind_some _ _).symm.trans H; with_reducible exact H2_) | with_reducible exact H | (rw [hy495]; exact H) | exact H
  have Ny495 := Aside0.mk hy495
  clear hy495
  have H' := Aside0.mk H
  clear H
  go_enter Tryd.func46, Tryd.ntmps46
  go_wp2_with (first | ((with_reducible refine gate_dst (N := 9) rfl ?_); refine Kd.R_lit (Kd.int .u64) _ 64 ?hg (N := 9) ?hd (xs := ([] : List Int)) (inner := []) (ok := fun _ => True) (okp := fun _ => True) ?hr ?hp (fun _ hk => hk) trivial (Below.refl _ _) (Nat.le_refl _) (by simp) ?_; (case hd => rfl); (case hg => rfl); (case hr => first | (go_simp; done) | (go_simp; rfl)); (case hp => exact (Reps.none _ _)); intro v496 w3 ho4 hb hg_ hnew_; clear hg_ hnew_; (first | rw [← Ny495.out] at ho4 | (simp only [Int.reduceToNat] at ho4; rw [← Ny495.out] at ho4)); have n0_ := Aside0.mk (Kd.R_lower ho4 (below_size (by repeat (first | (with_reducible first | exact HB.out | apply below_alloc | apply pw_below_drewN | apply below_drew1) | exact HB.out)))); have n1_ := Aside0.mk (below_step (by repeat (first | (with_reducible first | exact HB.out | apply below_alloc | apply pw_below_drewN | apply below_drew1) | exact HB.out)) hb); clear HB; have HO497 := n0_; have HB := n1_; clear n0_ n1_; clear hb ho4))
  go_loopg [5, 6] k (fun kq v5 v6 w' => ∃ (x5_1 : List Int) (x6_1 : Int), v6 = .int .i64 x6_1 ∧ Aside0 (geyserref02_Pack.l0 kq l0 a1 x5_1 x6_1 = some r) ∧ Aside0 (kq ≤ k) ∧ Aside0 (Kd.R (Kd.int .u64) 64 w' w.heap.size (fun _ => True) v5 x5_1) ∧ Aside0 (Below w.heap.size w w'))
  case atStart => exact ⟨(y495), (0), (by first | rfl | (simp; done) | (simp [*]; done)), H', ⟨Nat.le_refl _⟩, ⟨by (with_reducible repeat (first | apply Kd.R_alloc | apply Kd.R_drewN | apply Kd.R_drew)); exact HO497.out⟩, ⟨by repeat (first | (with_reducible first | exact HB.out | apply below_alloc | apply pw_below_drewN | apply below_drew1) | exact HB.out)⟩⟩
  case round =>
    clear H'
    try clear p2
    try clear c4
    obtain ⟨x5_1, x6_1, rfl, HA, HK1, HO_5, HB⟩ := hrel
    cases gk with
    | zero => exact absurd HA.out (by simp [geyserref02_Pack.l0])
    | succ k1 =>
      have H := HA.out
      clear HA
      simp only [geyserref02_Pack.l0] at H
      replace H := Option.bind_eq_some_iff.mp H
      obtain ⟨t498, A50, H⟩ := H
      replace H : (if x6_1 < t498 then (geyserref02_Pack.l1 k1 l0 a1 x5_1 x6_1 0 63) else (some x5_1)) = some r := H
      have A5 := Aside0.mk A50
      clear A50
      by_cases c6 : x6_1 < t498
      · rw [if_pos c6] at H
        have c6b0 : decide (x6_1 < t498) = true := decide_eq_true c6
        clear c6
        have H' := Aside0.mk H
        clear H
        go_wp2_with (first | ((with_reducible refine gate_callee (f := 45) rfl ?_); refine goesL_ (some 12) rfl rfl Tryd.func45 (by kernel_rfl) rfl #[.int .i64 a1] rfl (by (try simp only [List.map_toArray, List.map_cons, List.map_nil]); first | done | rfl | (simp only [List.length_drop, List.length_take]; rfl)) ?_; (with_reducible refine (geyserref02_Size.calls k1 a1 t498 _ A5.out).mono ?_); rintro e w' ⟨rfl, ⟨nd, rfl⟩⟩; refine ⟨_, rfl, ?_⟩))
        go_loopg [7, 8] k1 (fun kq v7 v8 w' => ∃ (x7_2 : Int) (x8_2 : Int), v7 = .int .u64 x7_2 ∧ v8 = .int .i64 x8_2 ∧ Aside0 (geyserref02_Pack.l1 kq l0 a1 x5_1 x6_1 x7_2 x8_2 = some r) ∧ Aside0 (kq ≤ k1) ∧ Aside0 (Kd.R (Kd.int .u64) 64 w' w.heap.size (fun _ => True) u5 x5_1) ∧ Aside0 (Below w.heap.size w w'))
        case atStart => exact ⟨(0), (63), (by first | rfl | (simp; done) | (simp [*]; done)), (by first | rfl | (simp; done) | (simp [*]; done)), H', ⟨Nat.le_refl _⟩, ⟨by (with_reducible repeat (first | apply Kd.R_alloc | apply Kd.R_drewN | apply Kd.R_drew)); exact HO_5.out⟩, ⟨by repeat (first | (with_reducible first | exact HB.out | apply below_alloc | apply pw_below_drewN | apply below_drew1) | exact HB.out)⟩⟩
        case round =>
          clear H'
          try clear p2
          try clear c4
          try clear c6
          try clear c6b0
          try clear p2
          obtain ⟨x7_2, x8_2, rfl, rfl, HA, HK2, HO_5, HB⟩ := hrel
          cases gk with
          | zero => exact absurd HA.out (by simp [geyserref02_Pack.l1])
          | succ k2 =>
            have H := HA.out
            clear HA
            simp only [geyserref02_Pack.l1] at H
            by_cases c7 : x8_2 ≥ 0
            · rw [if_pos c7] at H
              have c7b0 : decide (0 ≤ x8_2) = true := decide_eq_true c7
              clear c7
              replace H := Option.bind_eq_some_iff.mp H
              obtain ⟨t499, A80, H⟩ := H
              replace H : (if t499 = true then (geyserref02_Pack.l1 k2 l0 a1 x5_1 x6_1 (IntKind.u64.wrap ((IntKind.u64.wrap (2 * x7_2)) + 1)) (wrap64 (x8_2 - 1))) else (geyserref02_Pack.l1 k2 l0 a1 x5_1 x6_1 (IntKind.u64.wrap (2 * x7_2)) (wrap64 (x8_2 - 1)))) = some r := H
              have A8 := Aside0.mk A80
              clear A80
              by_cases c9 : t499 = true
              · subst c9
                have H1 : (geyserref02_Pack.l1 k2 l0 a1 x5_1 x6_1 (IntKind.u64.wrap ((IntKind.u64.wrap (2 * x7_2)) + 1)) (wrap64 (x8_2 - 1))) = some r := by rw [if_pos rfl] at H; exact H
                clear H
                have H := H1
                clear H1
                have H' := Aside0.mk H
                clear H
                go_wp2_with (first | ((with_reducible refine gate_callee (f := 23) rfl ?_); refine goesL_ (some 27) rfl rfl Tryd.func23 (by kernel_rfl) rfl #[.slice A0 l0.length c0, .int .i64 (wrap64 ((wrap64 (64 * x6_1)) + x8_2))] rfl (by (try simp only [List.map_toArray, List.map_cons, List.map_nil]); first | done | rfl | (simp only [List.length_drop, List.length_take]; rfl)) ?_; (with_reducible refine (geyserref02_In.calls k2 _ _ l0 (wrap64 ((wrap64 (64 * x6_1)) + x8_2)) true _ ?side1 ?side2 A8.out).mono ?_); (case side1 => repeat (first | exact (Kd.C_below HR0.out HB.out) | (with_reducible refine Kd.C_alloc ?_ _) | (with_reducible refine Kd.C_drewN ?_ _) | (with_reducible refine Kd.C_drew ?_))); (case side2 => exact HC0.out); rintro e w' ⟨rfl, ⟨nd, rfl⟩⟩; refine ⟨_, rfl, ?_⟩))
                go_roundg k2
                case measure => have := HK1.out; have := HK2.out; omega
                case rel => exact ⟨(IntKind.u64.wrap ((IntKind.u64.wrap (2 * x7_2)) + 1)), (wrap64 (x8_2 - 1)), (by first | rfl | (simp; done) | (simp [*]; done)), (by first | rfl | (simp; done) | (simp [*]; done)), H', ⟨by have := HK1.out; have := HK2.out; omega⟩, ⟨by (with_reducible repeat (first | apply Kd.R_alloc | apply Kd.R_drewN | apply Kd.R_drew)); exact HO_5.out⟩, ⟨by repeat (first | (with_reducible first | exact HB.out | apply below_alloc | apply pw_below_drewN | apply below_drew1) | exact HB.out)⟩⟩
              · replace c9 := Bool.eq_false_iff.mpr c9
                subst c9
                have H1 : (geyserref02_Pack.l1 k2 l0 a1 x5_1 x6_1 (IntKind.u64.wrap (2 * x7_2)) (wrap64 (x8_2 - 1))) = some r := by rw [if_neg (show ¬ (false = true) by decide)] at H; exact H
                clear H
                have H := H1
                clear H1
                have H' := Aside0.mk H
                clear H
                go_wp2_with (first | ((with_reducible refine gate_callee (f := 23) rfl ?_); refine goesL_ (some 27) rfl rfl Tryd.func23 (by kernel_rfl) rfl #[.slice A0 l0.length c0, .int .i64 (wrap64 ((wrap64 (64 * x6_1)) + x8_2))] rfl (by (try simp only [List.map_toArray, List.map_cons, List.map_nil]); first | done | rfl | (simp only [List.length_drop, List.length_take]; rfl)) ?_; (with_reducible refine (geyserref02_In.calls k2 _ _ l0 (wrap64 ((wrap64 (64 * x6_1)) + x8_2)) false _ ?side1 ?side2 A8.out).mono ?_); (case side1 => repeat (first | exact (Kd.C_below HR0.out HB.out) | (with_reducible refine Kd.C_alloc ?_ _) | (with_reducible refine Kd.C_drewN ?_ _) | (with_reducible refine Kd.C_drew ?_))); (case side2 => exact HC0.out); rintro e w' ⟨rfl, ⟨nd, rfl⟩⟩; refine ⟨_, rfl, ?_⟩))
                go_roundg k2
                case measure => have := HK1.out; have := HK2.out; omega
                case rel => exact ⟨(IntKind.u64.wrap (2 * x7_2)), (wrap64 (x8_2 - 1)), (by first | rfl | (simp; done) | (simp [*]; done)), (by first | rfl | (simp; done) | (simp [*]; done)), H', ⟨by have := HK1.out; have := HK2.out; omega⟩, ⟨by (with_reducible repeat (first | apply Kd.R_alloc | apply Kd.R_drewN | apply Kd.R_drew)); exact HO_5.out⟩, ⟨by repeat (first | (with_reducible first | exact HB.out | apply below_alloc | apply pw_below_drewN | apply below_drew1) | exact HB.out)⟩⟩
            · rw [if_neg c7] at H
              have c7b0 : decide (0 ≤ x8_2) = false := decide_eq_false c7
              clear c7
              by_cases c10 : x5_1.length < 17592186044416
              · rw [if_pos c10] at H
                have LMc10 := Aside0.mk c10
                clear c10
                obtain ⟨y500, hy500⟩ : ∃ y_ : List Int, y_ = (x5_1 ++ [x7_2]) := ⟨_, rfl⟩
                replace H : (geyserref02_Pack.l0 k2 l0 a1 y500 (wrap64 (x6_1 + 1))) = some r := by first | (rw [hy500]; with_reducible exact H) | (have H2_ := (Option.bind_some _ _).symm.trans H; rw [hy500]; with_reducible exact H2_) | (have H2_ := (Option.bind_some _ _).symm.trans H; with_reducible exact H2_) | with_reducible exact H | (rw [hy500]; exact H) | exact H
                have Ny500 := Aside0.mk hy500
                clear hy500
                have H' := Aside0.mk H
                clear H
                go_wp2_with (first | ((with_reducible refine gate_builtin (b := .append) (xs := #[.tmp 30, .tmp 32]) rfl ?_); at_builtin; refine Kd.R_append (Kd.int .u64) (w0 := w) w.heap.size rfl (.tmp 30) (.tmp 32) 22 64 (.int .u64 0) 8 rfl Tryd.underlying22 info64 rfl (by decide) (by omega) u5 x5_1 x7_2 [.int .u64 x7_2] (fun _ => True) (fun _ => False) rfl rfl ?aP (fun _ hk => hk.elim) ?aF ?aO ?aB ?aS ?aL ?_; (case aP => exact rfl); (case aB => exact (by repeat (first | (with_reducible first | exact HB.out | apply below_alloc | apply pw_below_drewN | apply below_drew1) | exact HB.out))); (case aF => exact (fun _ _ => trivial)); (case aO => exact (by (with_reducible repeat (first | apply Kd.R_alloc | apply Kd.R_drewN | apply Kd.R_drew)); exact HO_5.out)); (case aS => exact (below_size (by repeat (first | (with_reducible first | exact HB.out | apply below_alloc | apply pw_below_drewN | apply below_drew1) | exact HB.out)))); (case aL => have := LMc10.out; omega); intro v501 w11 ho hb hg hat; rw [← Ny500.out] at ho; have n0_ := Aside0.mk (hb); have n1_ := Aside0.mk (ho); clear HB; clear HO_5; have HB := n0_; have HO502 := n1_; clear n0_ n1_; clear ho hb hg hat))
                go_roundg k2
                case measure => have := HK1.out; have := HK2.out; omega
                case rel => exact ⟨(y500), (wrap64 (x6_1 + 1)), (by first | rfl | (simp; done) | (simp [*]; done)), H', ⟨by have := HK1.out; have := HK2.out; omega⟩, ⟨by (with_reducible repeat (first | apply Kd.R_alloc | apply Kd.R_drewN | apply Kd.R_drew)); exact HO502.out⟩, ⟨by repeat (first | (with_reducible first | exact HB.out | apply below_alloc | apply pw_below_drewN | apply below_drew1) | exact HB.out)⟩⟩
              · rw [if_neg c10] at H
                exact absurd H (by simp)
      · rw [if_neg c6] at H
        have c6b0 : decide (x6_1 < t498) = false := decide_eq_false c6
        clear c6
        obtain rfl := Option.some.inj H
        go_wp2_with (first | ((with_reducible refine gate_callee (f := 45) rfl ?_); refine goesL_ (some 12) rfl rfl Tryd.func45 (by kernel_rfl) rfl #[.int .i64 a1] rfl (by (try simp only [List.map_toArray, List.map_cons, List.map_nil]); first | done | rfl | (simp only [List.length_drop, List.length_take]; rfl)) ?_; (with_reducible refine (geyserref02_Size.calls k1 a1 t498 _ A5.out).mono ?_); rintro e w' ⟨rfl, ⟨nd, rfl⟩⟩; refine ⟨_, rfl, ?_⟩))
        go_ret
        exact ⟨_, by first | rfl | (simp [errW_none, errW_some] <;> rfl) | (simp [*, errW_none, errW_some] <;> rfl), by (with_reducible repeat (first | apply Kd.R_alloc | apply Kd.R_drewN | apply Kd.R_drew)); exact HO_5.out, by repeat (first | (with_reducible first | exact HB.out | apply below_alloc | apply pw_below_drewN | apply below_drew1) | exact HB.out)⟩

end Go.Proofs.YtnigpfaecibdfaaDoor.P

namespace Go.Proofs.YtnigpfaecibdfaaDoor.P
open Go.RowKit Go.Proofs.YtnigpfaecibdfaaDoorW.PrintWords Go.Proofs.YtnigpfaecibdfaaDoorW.PrintLast Go.Proofs.YtnigpfaecibdfaaDoorW.PrintErr Go.Proofs.YtnigpfaecibdfaaDoorW.PrintMore
attribute [local go_sem] max2_int min2_int max_two min_two max_three min_three max_four min_four run_eql_errOf run_neq_errOf eqGuard_errOf   -- for this text's walks alone
set_option linter.unusedVariables false
set_option linter.unusedSimpArgs false

/-! ### geyserlaw02_tells: function 43 -/
theorem geyserlaw02_tells.bytes_beq (s c : ByteArray) : (s.toList == c.toList) = decide (s = c) := by
  rw [Bool.eq_iff_iff]
  simp only [beq_iff_eq, decide_eq_true_iff]
  rw [ByteArray.toList_eq, ByteArray.toList_eq]
  constructor
  · intro h
    cases s
    cases c
    congr 1
    exact Array.toList_inj.1 h
  · rintro rfl; rfl
set_option maxHeartbeats 8000000 in
set_option maxRecDepth 100000 in
theorem geyserlaw02_tells.flat (e : Addr) (n m : Int) (s call : ByteArray) (w : World) (hg : w.cell? ⟨1, 0, none⟩ = some (.iface 95 (.agg #[.pointer (some ⟨2, 31, none⟩)]))) (he0 : w.cell? e = some (.string s)) (he1 : w.cell? (e.add 1) = some (.iface 69 (.int .i64 m))) (hn : n ≠ 0) :
    Calls Tryd.prog 43 #[.iface 74 (.pointer (some e)), .int .i64 n, .string call] w fun ev w' => ev = .returned (.bool (decide (m = n) && decide (s = call))) ∧ Below w.heap.size w w' := by
  have hn1 : (n == 0) = false := by simpa using hn
  have hl1 : 1 < w.heap.size := cell_old hg
  have hl2 := cell_old he0
  have hl3 := cell_old he1
  obtain ⟨w1, hw1⟩ : ∃ w1, w1 = (w.alloc (.cells #[.int .i64 0] 69)).alloc (.cells #[.pointer none] 74) := ⟨_, rfl⟩
  have hk : ∀ a : Addr, a.block < w.heap.size → w1.cell? a = w.cell? a := by
    intro a h
    rw [hw1, World.cell?_alloc_lt _ _ a (by simp only [World.size_alloc]; omega), World.cell?_alloc_lt _ _ a h]
  have hs1 : w1.heap.size = w.heap.size + 1 + 1 := by rw [hw1, World.size_alloc, World.size_alloc]
  have hb1 : Below w.heap.size w w1 := by rw [hw1]; exact Below.alloc (Below.alloc (Below.refl _ _) (Nat.le_refl _) _) (by simp only [World.size_alloc]; omega) _
  have ht1 : w1.cell? ⟨w.heap.size, 0, none⟩ = some (.int .i64 0) := by rw [hw1, World.cell?_alloc_lt _ _ ⟨w.heap.size, 0, none⟩ (by simp only [World.size_alloc]; omega)]; simp
  have hf1 : w1.frozen? ⟨w.heap.size, 0, none⟩ = false := by rw [hw1, World.frozen?_alloc_old _ _ ⟨w.heap.size, 0, none⟩ (by simp only [World.size_alloc]; omega)]; simp
  have ht2 : w1.cell? ⟨w.heap.size + 1, 0, none⟩ = some (.pointer none) := by rw [hw1, World.cell?_alloc_at _ _ _ _ (by simp only [World.size_alloc])]; rfl
  have hf2 : w1.frozen? ⟨w.heap.size + 1, 0, none⟩ = false := by rw [hw1]; exact World.frozen?_alloc_at _ _ _ _ (by simp only [World.size_alloc])
  have c1 := as_num_k e ⟨w.heap.size, 0, none⟩ m (.int .i64 0) w1 ((hk _ hl1).trans hg) ((hk _ hl3).trans he1) ht1 hf1
  have c2 : ∀ w2, AsKept w1 w2 ⟨w.heap.size, 0, none⟩ (.int .i64 m) → Calls Tryd.prog 56 #[.iface 74 (.pointer (some e)), .iface 77 (.pointer (some ⟨w.heap.size + 1, 0, none⟩))] w2 fun ev w' => ev = .returned (.bool true) ∧ AsKept w2 w' ⟨w.heap.size + 1, 0, none⟩ (.pointer (some e)) := by
    intro w2 hA
    refine as_hit_k e ⟨w.heap.size + 1, 0, none⟩ (.pointer none) w2 ?_ ?_ ?_
    · rw [hA.old _ (fun h_ => by injection h_; omega) (by show 1 < _; omega)]; exact (hk _ hl1).trans hg
    · rw [hA.old _ (by simp) (by simp only []; omega)]; exact ht2
    · rw [hA.froz _ (by simp only []; omega)]; exact hf2
  go_enter Tryd.func43, Tryd.ntmps43
  go_wp2_with (first | (go_at_call 56; (first | (rw [← hw1]; refine c1.mono ?_; rintro ev w2 ⟨rfl, hA⟩; have hc2 := c2 w2 hA; clear c1 c2) | (refine hc2.mono ?_; rintro ev w3 ⟨rfl, hA2⟩; have k1 : w3.cell? ⟨w.heap.size, 0, none⟩ = some (.int .i64 m) := (hA2.old _ (fun h_ => by injection h_; omega) (by have := hA.size; show w.heap.size < _; omega)).trans hA.got; have k2 := hA2.got; have k3 : w3.cell? e = some (.string s) := (hA2.old _ (fun h_ => by rw [h_] at hl2; exact absurd hl2 (by show ¬ w.heap.size + 1 < w.heap.size; omega)) (by have := hA.size; omega)).trans ((hA.old _ (fun h_ => by rw [h_] at hl2; exact absurd hl2 (by show ¬ w.heap.size < w.heap.size; omega)) (by omega)).trans ((hk _ hl2).trans he0))))))
  all_goals go_ret
  all_goals refine ⟨?_, hA2.below _ _ (by show w.heap.size ≤ w.heap.size + 1; omega) (hA.below _ _ (Nat.le_refl _) hb1)⟩
  all_goals simp_all [geyserlaw02_tells.bytes_beq]
def geyserlaw02_tells.f (l : List FE) (n : Int) (call : ByteArray) : Option Bool :=
  if n = 0 then some ((l.length : Int) == 0) else match l with
    | [] => some false
    | [x] => if x.flat = true then some (decide (x.num = n) && decide (x.call = call)) else none
    | _ :: _ :: _ => none
set_option maxHeartbeats 8000000 in
set_option maxRecDepth 100000 in
theorem geyserlaw02_tells.calls (A0 : Option Addr) (c0 : Nat) (l0 : List FE) (a1 : Int) (a2 : ByteArray) (r : Bool) (w : World) (he : ErrIn w) (hr0 : Kd.C kF w A0 l0.length l0) (hc0 : l0.length ≤ c0) (h : geyserlaw02_tells.f l0 a1 a2 = some r) :
    Calls Tryd.prog 43 #[errOf (.slice A0 l0.length c0), .int .i64 a1, .string a2] w fun e w' => e = .returned (.bool r) ∧ Below w.heap.size w w' := by
  unfold geyserlaw02_tells.f at h
  by_cases h0 : a1 = 0
  · subst h0
    rw [if_pos rfl] at h
    obtain rfl := Option.some.inj h
    clear hr0 he
    go_enter Tryd.func43, Tryd.ntmps43
    go_wp2
    go_ret
    exact ⟨by first | rfl | simp, Below.refl _ _⟩
  · rw [if_neg h0] at h
    have hn1 : (a1 == 0) = false := by simpa using h0
    match l0, hr0, hc0, h with
    | [], _, _, h =>
      obtain rfl := Option.some.inj h
      rw [show errOf (.slice A0 ([] : List FE).length c0) = .nilIface from rfl]
      go_enter Tryd.func43, Tryd.ntmps43
      go_wp2
      go_ret
      exact ⟨by first | rfl | simp, Below.refl _ _⟩
    | [x], hr0, _, h =>
      by_cases hf : x.flat = true
      · simp only [if_pos hf] at h
        obtain rfl := Option.some.inj h
        obtain ⟨ad, cs, e1, _, hK, hc⟩ := Kd.C_get hr0 zFE 0 (by omega) (by simp)
        obtain ⟨u, y, hcs, hu⟩ := hK
        have hx : ([x] : List FE).getD (0 : Int).toNat zFE = x := rfl
        rw [hx] at hcs hu
        obtain ⟨rfl, rfl⟩ := hu hf
        subst hcs
        have k0 := hc 0 _ rfl
        have k1 := hc 1 _ rfl
        rw [e1]
        refine geyserlaw02_tells.flat ad a1 x.num x.call a2 w he ?_ ?_ h0
        · exact k0
        · exact k1
      · simp [hf] at h
    | _ :: _ :: _, _, _, h => simp at h

end Go.Proofs.YtnigpfaecibdfaaDoor.P

namespace Go.Proofs.YtnigpfaecibdfaaDoor.P
open Go.RowKit Go.Proofs.YtnigpfaecibdfaaDoorW.PrintWords Go.Proofs.YtnigpfaecibdfaaDoorW.PrintLast Go.Proofs.YtnigpfaecibdfaaDoorW.PrintErr Go.Proofs.YtnigpfaecibdfaaDoorW.PrintMore
attribute [local go_sem] max2_int min2_int max_two min_two max_three min_three max_four min_four run_eql_errOf run_neq_errOf eqGuard_errOf   -- for this text's walks alone
set_option linter.unusedVariables false
set_option linter.unusedSimpArgs false

/-! ### geyserlaw02_PackedPacks: function 11 -/
def geyserlaw02_PackedPacks.j0 : Nat → List Int → Int → List Int → Int → Bool → Option (Bool)
  | 0, _, _, _, _, _ => none
  | k + 1, x0, x1, x6, x8, x41 => if x41 = true then (some false) else (if x8 = 0 then ((geyserref02_Pack.f k x0 x1).bind fun t521 => ((geyserref02_SameWords.f k x6 t521).bind fun t524 => (if t524 = true then ((geyserlaw02_awake.f k).bind fun t525 => (some t525)) else (some false)))) else (if (x6.length : Int) = 0 then ((geyserlaw02_awake.f k).bind fun t526 => (some t526)) else (some false)))
def geyserlaw02_PackedPacks.f (k : Nat) (l0 : List Int) (a1 : Int) : Option (Bool) := if (l0.length : Int) > 300 then ((geyserlaw02_awake.f k).bind fun t503 => (some t503)) else ((some (([] : List Int) : List Int)).bind fun y504 => (if y504.length + l0.length < 17592186044416 then ((some (y504 ++ l0 : List Int)).bind fun y507 => ((packed_Pack.f k y507 a1).bind fun bt510 => ((geyserref02_Check.f k l0 a1).bind fun t516 => ((geyserlaw02_tells.f bt510.2 t516 (⟨#[112, 97, 99, 107, 101, 100, 46, 80, 97, 99, 107]⟩ : ByteArray)).bind fun t517 => (if t517 = true then ((geyserref02_Same.f k y507 l0).bind fun t518 => (if t518 = true then ((packed_Size.f a1).bind fun t519 => ((geyserref02_Size.f k a1).bind fun t520 => (geyserlaw02_PackedPacks.j0 k l0 a1 bt510.1 t516 (t519 != t520)))) else (geyserlaw02_PackedPacks.j0 k l0 a1 bt510.1 t516 true))) else (geyserlaw02_PackedPacks.j0 k l0 a1 bt510.1 t516 true)))))) else (none)))
theorem geyserlaw02_PackedPacks.mono_l : ∀ k, (∀ y0 y1 y2 y3 y4, LeO (geyserlaw02_PackedPacks.j0 k y0 y1 y2 y3 y4) (geyserlaw02_PackedPacks.j0 (k + 1) y0 y1 y2 y3 y4))
  | 0 => fun _ _ _ _ _ r h => by simp [geyserlaw02_PackedPacks.j0] at h
  | k + 1 => by
    have ih0 := geyserlaw02_PackedPacks.mono_l k
    · intro y0 y1 y2 y3 y4
      unfold geyserlaw02_PackedPacks.j0
      repeat' first
      | (with_reducible exact ih0 _ _ _ _ _)
      | (with_reducible exact geyserlaw02_awake.mono _)
      | (with_reducible exact geyserref02_Check.mono _ _ _)
      | (with_reducible exact geyserref02_Pack.mono _ _ _)
      | (with_reducible exact geyserref02_Same.mono _ _ _)
      | (with_reducible exact geyserref02_SameWords.mono _ _ _)
      | (with_reducible exact geyserref02_Size.mono _ _)
      | (with_reducible exact packed_Pack.mono _ _ _)
      | (with_reducible exact LeO.refl _)
      | (with_reducible exact LeO.none _)
      | (with_reducible refine LeO.ite ?_ ?_)
      | (with_reducible refine LeO.bind ?_ (fun _ => ?_))
      | exact ih0 _ _ _ _ _
      | exact geyserlaw02_awake.mono _
      | exact geyserref02_Check.mono _ _ _
      | exact geyserref02_Pack.mono _ _ _
      | exact geyserref02_Same.mono _ _ _
      | exact geyserref02_SameWords.mono _ _ _
      | exact geyserref02_Size.mono _ _
      | exact packed_Pack.mono _ _ _
      | exact LeO.none _
      | refine LeO.ite ?_ ?_
      | refine LeO.bind ?_ (fun _ => ?_)
theorem geyserlaw02_PackedPacks.mono : ∀ a0 a1 k, LeO (geyserlaw02_PackedPacks.f k a0 a1) (geyserlaw02_PackedPacks.f (k + 1) a0 a1) := by
  intro a0 a1 k
  have ih0 := geyserlaw02_PackedPacks.mono_l k
  unfold geyserlaw02_PackedPacks.f
  repeat' first
      | (with_reducible exact ih0 _ _ _ _ _)
      | (with_reducible exact geyserlaw02_awake.mono _)
      | (with_reducible exact geyserref02_Check.mono _ _ _)
      | (with_reducible exact geyserref02_Pack.mono _ _ _)
      | (with_reducible exact geyserref02_Same.mono _ _ _)
      | (with_reducible exact geyserref02_SameWords.mono _ _ _)
      | (with_reducible exact geyserref02_Size.mono _ _)
      | (with_reducible exact packed_Pack.mono _ _ _)
      | (with_reducible exact LeO.refl _)
      | (with_reducible exact LeO.none _)
      | (with_reducible refine LeO.ite ?_ ?_)
      | (with_reducible refine LeO.bind ?_ (fun _ => ?_))
      | exact ih0 _ _ _ _ _
      | exact geyserlaw02_awake.mono _
      | exact geyserref02_Check.mono _ _ _
      | exact geyserref02_Pack.mono _ _ _
      | exact geyserref02_Same.mono _ _ _
      | exact geyserref02_SameWords.mono _ _ _
      | exact geyserref02_Size.mono _ _
      | exact packed_Pack.mono _ _ _
      | exact LeO.none _
      | refine LeO.ite ?_ ?_
      | refine LeO.bind ?_ (fun _ => ?_)
set_option maxHeartbeats 8000000 in
set_option maxRecDepth 100000 in
theorem geyserlaw02_PackedPacks.calls (k : Nat) (A0 : Option Addr) (c0 : Nat) (l0 : List Int) (a1 : Int) (r : Bool) (w : World) (ht : TabIn w) (he : ErrIn w) (hr0 : Kd.C (Kd.int .i64) w A0 l0.length l0) (hc0 : l0.length ≤ c0) (h : geyserlaw02_PackedPacks.f k l0 a1 = some r) :
    Calls Tryd.prog 11 #[.slice A0 l0.length c0, .int .i64 a1] w fun e w' => e = .returned (.bool r) ∧ Below w.heap.size w w' := by
  have HR0 := Aside0.mk hr0
  have HC0 := Aside0.mk hc0
  clear hr0 hc0
  have HB := Aside0.mk (Below.refl w.heap.size w)
  have HT := Aside0.mk ht
  clear ht
  have HEI := Aside0.mk he
  clear he
  have H : (if (l0.length : Int) > 300 then ((geyserlaw02_awake.f k).bind fun t503 => (some t503)) else ((some (([] : List Int) : List Int)).bind fun y504 => (if y504.length + l0.length < 17592186044416 then ((some (y504 ++ l0 : List Int)).bind fun y507 => ((packed_Pack.f k y507 a1).bind fun bt510 => ((geyserref02_Check.f k l0 a1).bind fun t516 => ((geyserlaw02_tells.f bt510.2 t516 (⟨#[112, 97, 99, 107, 101, 100, 46, 80, 97, 99, 107]⟩ : ByteArray)).bind fun t517 => (if t517 = true then ((geyserref02_Same.f k y507 l0).bind fun t518 => (if t518 = true then ((packed_Size.f a1).bind fun t519 => ((geyserref02_Size.f k a1).bind fun t520 => (geyserlaw02_PackedPacks.j0 k l0 a1 bt510.1 t516 (t519 != t520)))) else (geyserlaw02_PackedPacks.j0 k l0 a1 bt510.1 t516 true))) else (geyserlaw02_PackedPacks.j0 k l0 a1 bt510.1 t516 true)))))) else (none)))) = some r := h
  clear h
  by_cases c3 : (l0.length : Int) > 300
  · rw [if_pos c3] at H
    have c3b0 : decide (300 < (l0.length : Int)) = true := decide_eq_true c3
    have c3b1 : decide (300 < l0.length) = true := decide_eq_true (by omega)
    clear c3
    replace H := Option.bind_eq_some_iff.mp H
    obtain ⟨t503, A40, H⟩ := H
    replace H : (some t503) = some r := H
    have A4 := Aside0.mk A40
    clear A40
    obtain rfl := Option.some.inj H
    go_enter Tryd.func11, Tryd.ntmps11
    go_wp2_with (first | ((with_reducible refine gate_callee (f := 21) rfl ?_); refine goesL_ (some 12) rfl rfl Tryd.func21 (by kernel_rfl) rfl #[] rfl (by (try simp only [List.map_toArray, List.map_cons, List.map_nil]); first | done | rfl | (simp only [List.length_drop, List.length_take]; rfl)) ?_; (with_reducible refine (geyserlaw02_awake.calls k  t503 _ ?side1 A4.out).mono ?_); (case side1 => first | exact HT.out | exact TabIn.below HT.out (by repeat (first | (with_reducible first | exact HB.out | apply below_alloc | apply pw_below_drewN | apply below_drew1) | exact HB.out)) | (repeat (first | apply TabIn.drewN | apply TabIn.drew | exact HT.out))); rintro e w5 ⟨rfl, hb⟩; refine ⟨_, rfl, ?_⟩; have n0_ := Aside0.mk (below_step (by repeat (first | (with_reducible first | exact HB.out | apply below_alloc | apply pw_below_drewN | apply below_drew1) | exact HB.out)) hb); clear HB; have HB := n0_; clear n0_; (try clear hb); (try clear hb2); (try clear hk); (try clear hi)))
    go_ret
    exact ⟨by first | rfl | (simp [errW_none, errW_some] <;> rfl) | (simp [*, errW_none, errW_some] <;> rfl), by repeat (first | (with_reducible first | exact HB.out | apply below_alloc | apply pw_below_drewN | apply below_drew1) | exact HB.out)⟩
  · rw [if_neg c3] at H
    have c3b0 : decide (300 < (l0.length : Int)) = false := decide_eq_false c3
    have c3b1 : decide (300 < l0.length) = false := decide_eq_false (by omega)
    clear c3
    obtain ⟨y504, hy504⟩ : ∃ y_ : List Int, y_ = (([] : List Int)) := ⟨_, rfl⟩
    replace H : (if y504.length + l0.length < 17592186044416 then ((some (y504 ++ l0 : List Int)).bind fun y507 => ((packed_Pack.f k y507 a1).bind fun bt510 => ((geyserref02_Check.f k l0 a1).bind fun t516 => ((geyserlaw02_tells.f bt510.2 t516 (⟨#[112, 97, 99, 107, 101, 100, 46, 80, 97, 99, 107]⟩ : ByteArray)).bind fun t517 => (if t517 = true then ((geyserref02_Same.f k y507 l0).bind fun t518 => (if t518 = true then ((packed_Size.f a1).bind fun t519 => ((geyserref02_Size.f k a1).bind fun t520 => (geyserlaw02_PackedPacks.j0 k l0 a1 bt510.1 t516 (t519 != t520)))) else (geyserlaw02_PackedPacks.j0 k l0 a1 bt510.1 t516 true))) else (geyserlaw02_PackedPacks.j0 k l0 a1 bt510.1 t516 true)))))) else (none)) = some r := by first | (rw [hy504]; with_reducible exact H) | (have H2_ := (Option.bind_some _ _).symm.trans H; rw [hy504]; with_reducible exact H2_) | (have H2_ := (Option.bind_some _ _).symm.trans H; with_reducible exact H2_) | with_reducible exact H | (rw [hy504]; exact H) | exact H
    have Ny504 := Aside0.mk hy504
    clear hy504
    by_cases c6 : y504.length + l0.length < 17592186044416
    · rw [if_pos c6] at H
      have LMc6 := Aside0.mk c6
      clear c6
      obtain ⟨y507, hy507⟩ : ∃ y_ : List Int, y_ = (y504 ++ l0) := ⟨_, rfl⟩
      replace H : ((packed_Pack.f k y507 a1).bind fun bt510 => ((geyserref02_Check.f k l0 a1).bind fun t516 => ((geyserlaw02_tells.f bt510.2 t516 (⟨#[112, 97, 99, 107, 101, 100, 46, 80, 97, 99, 107]⟩ : ByteArray)).bind fun t517 => (if t517 = true then ((geyserref02_Same.f k y507 l0).bind fun t518 => (if t518 = true then ((packed_Size.f a1).bind fun t519 => ((geyserref02_Size.f k a1).bind fun t520 => (geyserlaw02_PackedPacks.j0 k l0 a1 bt510.1 t516 (t519 != t520)))) else (geyserlaw02_PackedPacks.j0 k l0 a1 bt510.1 t516 true))) else (geyserlaw02_PackedPacks.j0 k l0 a1 bt510.1 t516 true))))) = some r := by first | (rw [hy507]; with_reducible exact H) | (have H2_ := (Option.bind_some _ _).symm.trans H; rw [hy507]; with_reducible exact H2_) | (have H2_ := (Option.bind_some _ _).symm.trans H; with_reducible exact H2_) | with_reducible exact H | (rw [hy507]; exact H) | exact H
      have Ny507 := Aside0.mk hy507
      clear hy507
      replace H := Option.bind_eq_some_iff.mp H
      obtain ⟨⟨t510, t511⟩, A70, H⟩ := H
      replace H : ((geyserref02_Check.f k l0 a1).bind fun t516 => ((geyserlaw02_tells.f t511 t516 (⟨#[112, 97, 99, 107, 101, 100, 46, 80, 97, 99, 107]⟩ : ByteArray)).bind fun t517 => (if t517 = true then ((geyserref02_Same.f k y507 l0).bind fun t518 => (if t518 = true then ((packed_Size.f a1).bind fun t519 => ((geyserref02_Size.f k a1).bind fun t520 => (geyserlaw02_PackedPacks.j0 k l0 a1 t510 t516 (t519 != t520)))) else (geyserlaw02_PackedPacks.j0 k l0 a1 t510 t516 true))) else (geyserlaw02_PackedPacks.j0 k l0 a1 t510 t516 true)))) = some r := H
      have A7 := Aside0.mk A70
      clear A70
      replace H := Option.bind_eq_some_iff.mp H
      obtain ⟨t516, A80, H⟩ := H
      replace H : ((geyserlaw02_tells.f t511 t516 (⟨#[112, 97, 99, 107, 101, 100, 46, 80, 97, 99, 107]⟩ : ByteArray)).bind fun t517 => (if t517 = true then ((geyserref02_Same.f k y507 l0).bind fun t518 => (if t518 = true then ((packed_Size.f a1).bind fun t519 => ((geyserref02_Size.f k a1).bind fun t520 => (geyserlaw02_PackedPacks.j0 k l0 a1 t510 t516 (t519 != t520)))) else (geyserlaw02_PackedPacks.j0 k l0 a1 t510 t516 true))) else (geyserlaw02_PackedPacks.j0 k l0 a1 t510 t516 true))) = some r := H
      have A8 := Aside0.mk A80
      clear A80
      have HC9 := Aside0.mk H
      clear H
      go_enter Tryd.func11, Tryd.ntmps11
      go_upto_region 6 with (first | ((with_reducible refine gate_dst (N := 13) rfl ?_); refine Kd.R_lit (Kd.int .i64) _ 3 ?hg (N := 13) ?hd (xs := ([] : List Int)) (inner := []) (ok := fun _ => True) (okp := fun _ => True) ?hr ?hp (fun _ hk => hk) trivial (Below.refl _ _) (Nat.le_refl _) (by simp) ?_; (case hd => rfl); (case hg => rfl); (case hr => first | (go_simp; done) | (go_simp; rfl)); (case hp => exact (Reps.none _ _)); intro v505 w10 ho11 hb hg_ hnew_; clear hg_ hnew_; (first | rw [← Ny504.out] at ho11 | (simp only [Int.reduceToNat] at ho11; rw [← Ny504.out] at ho11)); have n0_ := Aside0.mk (Kd.R_lower ho11 (below_size (by repeat (first | (with_reducible first | exact HB.out | apply below_alloc | apply pw_below_drewN | apply below_drew1) | exact HB.out)))); have n1_ := Aside0.mk (below_step (by repeat (first | (with_reducible first | exact HB.out | apply below_alloc | apply pw_below_drewN | apply below_drew1) | exact HB.out)) hb); clear HB; have HO506 := n0_; have HB := n1_; clear n0_ n1_; clear hb ho11) | ((with_reducible refine gate_builtin (b := .append) (xs := #[.tmp 13, .tmp 14]) rfl ?_); at_builtin; refine Kd.R_append_rows (Kd.int .i64) (w0 := w) w.heap.size rfl (.tmp 13) (.tmp 14) 24 3 (.int .i64 0) 8 rfl Tryd.underlying24 info3 rfl (by decide) (by omega) v505 y504 l0 _ _ _ (fun _ => True) (fun _ => False) rfl rfl ?aO ?aR (fun _ _ h => h) (fun _ h => h.elim) ?aF ?aB ?aS ?aL ?_; (case aR => repeat (first | exact (Kd.C_below HR0.out HB.out) | (with_reducible refine Kd.C_alloc ?_ _) | (with_reducible refine Kd.C_drewN ?_ _) | (with_reducible refine Kd.C_drew ?_))); (case aB => exact (by repeat (first | (with_reducible first | exact HB.out | apply below_alloc | apply pw_below_drewN | apply below_drew1) | exact HB.out))); (case aF => exact (fun _ _ => trivial)); (case aO => exact (by (with_reducible repeat (first | apply Kd.R_alloc | apply Kd.R_drewN | apply Kd.R_drew)); exact HO506.out)); (case aS => exact (below_size (by repeat (first | (with_reducible first | exact HB.out | apply below_alloc | apply pw_below_drewN | apply below_drew1) | exact HB.out)))); (case aL => have := LMc6.out; omega); intro v508 w12 ho hb hg hat; rw [← Ny507.out] at ho; have n0_ := Aside0.mk (hb); have n1_ := Aside0.mk (ho); clear HB; clear HO506; have HB := n0_; have HO509 := n1_; clear n0_ n1_; clear ho hb hg hat; obtain ⟨Ao13, co13, eo13⟩ := Kd.R_slice HO509.out; subst eo13) | ((with_reducible refine gate_callee (f := 22) rfl ?_); refine goesL_ (some 19) rfl rfl Tryd.func22 (by kernel_rfl) rfl #[.slice Ao13 y507.length co13, .int .i64 a1] rfl (by (try simp only [List.map_toArray, List.map_cons, List.map_nil]); first | done | rfl | (simp only [List.length_drop, List.length_take]; rfl)) ?_; (with_reducible refine (packed_Pack.calls k _ _ y507 a1 t510 t511 _ ?side1 ?side2 A7.out).mono ?_); (case side1 => repeat (first | exact (Kd.R_reads' HO509.out).2.2 | (with_reducible refine Kd.C_alloc ?_ _) | (with_reducible refine Kd.C_drewN ?_ _) | (with_reducible refine Kd.C_drew ?_))); (case side2 => exact (Kd.R_reads' HO509.out).2.1); rintro e w14 ⟨v512, v514, rfl, ho0, ho1, hb⟩; refine ⟨_, rfl, ?_⟩; have n0_ := Aside0.mk (Kd.R_below (by (with_reducible repeat (first | apply Kd.R_alloc | apply Kd.R_drewN | apply Kd.R_drew)); exact HO509.out) hb); have n1_ := Aside0.mk (Kd.R_lower ho0 (below_size (by repeat (first | (with_reducible first | exact HB.out | apply below_alloc | apply pw_below_drewN | apply below_drew1) | exact HB.out)))); have n2_ := Aside0.mk (Kd.R_lower ho1 (below_size (by repeat (first | (with_reducible first | exact HB.out | apply below_alloc | apply pw_below_drewN | apply below_drew1) | exact HB.out)))); have n3_ := Aside0.mk (below_step (by repeat (first | (with_reducible first | exact HB.out | apply below_alloc | apply pw_below_drewN | apply below_drew1) | exact HB.out)) hb); clear HO509; clear HB; have HO509 := n0_; have HO513 := n1_; have HO515 := n2_; have HB := n3_; clear n0_ n1_ n2_ n3_; (try clear hb); (try clear hb2); (try clear hk); (try clear hi); (try clear ho0); (try clear ho1)) | ((with_reducible refine gate_callee (f := 42) rfl ?_); refine goesL_ (some 24) rfl rfl Tryd.func42 (by kernel_rfl) rfl #[.slice A0 l0.length c0, .int .i64 a1] rfl (by (try simp only [List.map_toArray, List.map_cons, List.map_nil]); first | done | rfl | (simp only [List.length_drop, List.length_take]; rfl)) ?_; (with_reducible refine (geyserref02_Check.calls k _ _ l0 a1 t516 _ ?side1 ?side2 A8.out).mono ?_); (case side1 => repeat (first | exact (Kd.C_below HR0.out HB.out) | (with_reducible refine Kd.C_alloc ?_ _) | (with_reducible refine Kd.C_drewN ?_ _) | (with_reducible refine Kd.C_drew ?_))); (case side2 => exact HC0.out); rintro e w' ⟨rfl, ⟨nd, rfl⟩⟩; refine ⟨_, rfl, ?_⟩))
      (try simp only [Act.put, List.setIfInBounds_toArray, List.set_cons_zero, List.set_cons_succ])
      go_cut [41] (fun v41 wc => ∃ (kq : Nat) (x41_8 : Bool), v41 = .bool x41_8 ∧ Aside0 (geyserlaw02_PackedPacks.j0 kq l0 a1 t510 t516 x41_8 = some r) ∧ Aside0 (kq ≤ k) ∧ Aside0 (Kd.R (Kd.int .u64) 64 wc w.heap.size (fun _ => True) v512 t510) ∧ Aside0 (Below w.heap.size w wc))
      case first =>
        have H := HC9.out
        clear HC9
        replace H := Option.bind_eq_some_iff.mp H
        obtain ⟨t517, A150, H⟩ := H
        replace H : (if t517 = true then ((geyserref02_Same.f k y507 l0).bind fun t518 => (if t518 = true then ((packed_Size.f a1).bind fun t519 => ((geyserref02_Size.f k a1).bind fun t520 => (geyserlaw02_PackedPacks.j0 k l0 a1 t510 t516 (t519 != t520)))) else (geyserlaw02_PackedPacks.j0 k l0 a1 t510 t516 true))) else (geyserlaw02_PackedPacks.j0 k l0 a1 t510 t516 true)) = some r := H
        have A15 := Aside0.mk A150
        clear A150
        by_cases c16 : t517 = true
        · subst c16
          have H1 : ((geyserref02_Same.f k y507 l0).bind fun t518 => (if t518 = true then ((packed_Size.f a1).bind fun t519 => ((geyserref02_Size.f k a1).bind fun t520 => (geyserlaw02_PackedPacks.j0 k l0 a1 t510 t516 (t519 != t520)))) else (geyserlaw02_PackedPacks.j0 k l0 a1 t510 t516 true))) = some r := by rw [if_pos rfl] at H; exact H
          clear H
          have H := H1
          clear H1
          replace H := Option.bind_eq_some_iff.mp H
          obtain ⟨t518, A170, H⟩ := H
          replace H : (if t518 = true then ((packed_Size.f a1).bind fun t519 => ((geyserref02_Size.f k a1).bind fun t520 => (geyserlaw02_PackedPacks.j0 k l0 a1 t510 t516 (t519 != t520)))) else (geyserlaw02_PackedPacks.j0 k l0 a1 t510 t516 true)) = some r := H
          have A17 := Aside0.mk A170
          clear A170
          by_cases c18 : t518 = true
          · subst c18
            have H1 : ((packed_Size.f a1).bind fun t519 => ((geyserref02_Size.f k a1).bind fun t520 => (geyserlaw02_PackedPacks.j0 k l0 a1 t510 t516 (t519 != t520)))) = some r := by rw [if_pos rfl] at H; exact H
            clear H
            have H := H1
            clear H1
            replace H := Option.bind_eq_some_iff.mp H
            obtain ⟨t519, A190, H⟩ := H
            replace H : ((geyserref02_Size.f k a1).bind fun t520 => (geyserlaw02_PackedPacks.j0 k l0 a1 t510 t516 (t519 != t520))) = some r := H
            have A19 := Aside0.mk A190
            clear A190
            replace H := Option.bind_eq_some_iff.mp H
            obtain ⟨t520, A200, H⟩ := H
            replace H : (geyserlaw02_PackedPacks.j0 k l0 a1 t510 t516 (t519 != t520)) = some r := H
            have A20 := Aside0.mk A200
            clear A200
            have H' := Aside0.mk H
            clear H
            obtain ⟨Ao21, co21, eo21⟩ := Kd.R_slice HO515.out
            subst eo21
            go_wp2_with (first | ((with_reducible refine gate_callee (f := 43) rfl ?_); refine goesL_ (some 27) rfl rfl Tryd.func43 (by kernel_rfl) rfl #[errOf (.slice Ao21 t511.length co21), .int .i64 t516, .string (⟨#[112, 97, 99, 107, 101, 100, 46, 80, 97, 99, 107]⟩ : ByteArray)] rfl (by (try simp only [List.map_toArray, List.map_cons, List.map_nil]); first | done | rfl | (simp only [List.length_drop, List.length_take]; rfl)) ?_; (with_reducible refine (geyserlaw02_tells.calls _ _ t511 t516 (⟨#[112, 97, 99, 107, 101, 100, 46, 80, 97, 99, 107]⟩ : ByteArray) true _ ?side1 ?side2 ?side3 A15.out).mono ?_); (case side1 => first | exact HEI.out | exact ErrIn.below HEI.out (by repeat (first | (with_reducible first | exact HB.out | apply below_alloc | apply pw_below_drewN | apply below_drew1) | exact HB.out)) | (repeat (first | apply ErrIn.drewN | apply ErrIn.drew | exact HEI.out))); (case side2 => repeat (first | exact (Kd.R_reads' HO515.out).2.2 | (with_reducible refine Kd.C_alloc ?_ _) | (with_reducible refine Kd.C_drewN ?_ _) | (with_reducible refine Kd.C_drew ?_))); (case side3 => exact (Kd.R_reads' HO515.out).2.1); rintro e w22 ⟨rfl, hb⟩; refine ⟨_, rfl, ?_⟩; have n0_ := Aside0.mk (Kd.R_below (by (with_reducible repeat (first | apply Kd.R_alloc | apply Kd.R_drewN | apply Kd.R_drew)); exact HO509.out) hb); have n1_ := Aside0.mk (Kd.R_below (by (with_reducible repeat (first | apply Kd.R_alloc | apply Kd.R_drewN | apply Kd.R_drew)); exact HO513.out) hb); have n2_ := Aside0.mk (Kd.R_below (by (with_reducible repeat (first | apply Kd.R_alloc | apply Kd.R_drewN | apply Kd.R_drew)); exact HO515.out) hb); have n3_ := Aside0.mk (below_step (by repeat (first | (with_reducible first | exact HB.out | apply below_alloc | apply pw_below_drewN | apply below_drew1) | exact HB.out)) hb); clear HO509; clear HO513; clear HO515; clear HB; have HO509 := n0_; have HO513 := n1_; have HO515 := n2_; have HB := n3_; clear n0_ n1_ n2_ n3_; (try clear hb); (try clear hb2); (try clear hk); (try clear hi)) | (go_at_call 15; (with_reducible refine (geyserref02_Same.calls k _ _ y507 _ _ l0 true _ ?side1 ?side2 ?side3 ?side4 A17.out).mono ?_); (case side1 => repeat (first | exact (Kd.R_reads' HO509.out).2.2 | (with_reducible refine Kd.C_alloc ?_ _) | (with_reducible refine Kd.C_drewN ?_ _) | (with_reducible refine Kd.C_drew ?_))); (case side2 => exact (Kd.R_reads' HO509.out).2.1); (case side3 => repeat (first | exact (Kd.C_below HR0.out HB.out) | (with_reducible refine Kd.C_alloc ?_ _) | (with_reducible refine Kd.C_drewN ?_ _) | (with_reducible refine Kd.C_drew ?_))); (case side4 => exact HC0.out); rintro e w' ⟨rfl, ⟨nd, rfl⟩⟩) | (go_at_call 44; (with_reducible refine (packed_Size.calls a1 t519 _ A19.out).mono ?_); rintro e w' ⟨rfl, ⟨nd, rfl⟩⟩) | (go_at_call 45; (with_reducible refine (geyserref02_Size.calls k a1 t520 _ A20.out).mono ?_); rintro e w' ⟨rfl, ⟨nd, rfl⟩⟩))
            go_meet
            case rel => exact ⟨_, ((t519 != t520)), (by first | rfl | (simp; done) | (simp [*]; done)), H', ⟨by first | omega | exact Nat.le_refl _⟩, ⟨by (with_reducible repeat (first | apply Kd.R_alloc | apply Kd.R_drewN | apply Kd.R_drew)); exact HO513.out⟩, ⟨by repeat (first | (with_reducible first | exact HB.out | apply below_alloc | apply pw_below_drewN | apply below_drew1) | exact HB.out)⟩⟩
          · replace c18 := Bool.eq_false_iff.mpr c18
            subst c18
            have H1 : (geyserlaw02_PackedPacks.j0 k l0 a1 t510 t516 true) = some r := by rw [if_neg (show ¬ (false = true) by decide)] at H; exact H
            clear H
            have H := H1
            clear H1
            have H' := Aside0.mk H
            clear H
            obtain ⟨Ao23, co23, eo23⟩ := Kd.R_slice HO515.out
            subst eo23
            go_wp2_with (first | ((with_reducible refine gate_callee (f := 43) rfl ?_); refine goesL_ (some 27) rfl rfl Tryd.func43 (by kernel_rfl) rfl #[errOf (.slice Ao23 t511.length co23), .int .i64 t516, .string (⟨#[112, 97, 99, 107, 101, 100, 46, 80, 97, 99, 107]⟩ : ByteArray)] rfl (by (try simp only [List.map_toArray, List.map_cons, List.map_nil]); first | done | rfl | (simp only [List.length_drop, List.length_take]; rfl)) ?_; (with_reducible refine (geyserlaw02_tells.calls _ _ t511 t516 (⟨#[112, 97, 99, 107, 101, 100, 46, 80, 97, 99, 107]⟩ : ByteArray) true _ ?side1 ?side2 ?side3 A15.out).mono ?_); (case side1 => first | exact HEI.out | exact ErrIn.below HEI.out (by repeat (first | (with_reducible first | exact HB.out | apply below_alloc | apply pw_below_drewN | apply below_drew1) | exact HB.out)) | (repeat (first | apply ErrIn.drewN | apply ErrIn.drew | exact HEI.out))); (case side2 => repeat (first | exact (Kd.R_reads' HO515.out).2.2 | (with_reducible refine Kd.C_alloc ?_ _) | (with_reducible refine Kd.C_drewN ?_ _) | (with_reducible refine Kd.C_drew ?_))); (case side3 => exact (Kd.R_reads' HO515.out).2.1); rintro e w24 ⟨rfl, hb⟩; refine ⟨_, rfl, ?_⟩; have n0_ := Aside0.mk (Kd.R_below (by (with_reducible repeat (first | apply Kd.R_alloc | apply Kd.R_drewN | apply Kd.R_drew)); exact HO509.out) hb); have n1_ := Aside0.mk (Kd.R_below (by (with_reducible repeat (first | apply Kd.R_alloc | apply Kd.R_drewN | apply Kd.R_drew)); exact HO513.out) hb); have n2_ := Aside0.mk (Kd.R_below (by (with_reducible repeat (first | apply Kd.R_alloc | apply Kd.R_drewN | apply Kd.R_drew)); exact HO515.out) hb); have n3_ := Aside0.mk (below_step (by repeat (first | (with_reducible first | exact HB.out | apply below_alloc | apply pw_below_drewN | apply below_drew1) | exact HB.out)) hb); clear HO509; clear HO513; clear HO515; clear HB; have HO509 := n0_; have HO513 := n1_; have HO515 := n2_; have HB := n3_; clear n0_ n1_ n2_ n3_; (try clear hb); (try clear hb2); (try clear hk); (try clear hi)) | (go_at_call 15; (with_reducible refine (geyserref02_Same.calls k _ _ y507 _ _ l0 false _ ?side1 ?side2 ?side3 ?side4 A17.out).mono ?_); (case side1 => repeat (first | exact (Kd.R_reads' HO509.out).2.2 | (with_reducible refine Kd.C_alloc ?_ _) | (with_reducible refine Kd.C_drewN ?_ _) | (with_reducible refine Kd.C_drew ?_))); (case side2 => exact (Kd.R_reads' HO509.out).2.1); (case side3 => repeat (first | exact (Kd.C_below HR0.out HB.out) | (with_reducible refine Kd.C_alloc ?_ _) | (with_reducible refine Kd.C_drewN ?_ _) | (with_reducible refine Kd.C_drew ?_))); (case side4 => exact HC0.out); rintro e w' ⟨rfl, ⟨nd, rfl⟩⟩))
            go_meet
            case rel => exact ⟨_, (true), (by first | rfl | (simp; done) | (simp [*]; done)), H', ⟨by first | omega | exact Nat.le_refl _⟩, ⟨by (with_reducible repeat (first | apply Kd.R_alloc | apply Kd.R_drewN | apply Kd.R_drew)); exact HO513.out⟩, ⟨by repeat (first | (with_reducible first | exact HB.out | apply below_alloc | apply pw_below_drewN | apply below_drew1) | exact HB.out)⟩⟩
        · replace c16 := Bool.eq_false_iff.mpr c16
          subst c16
          have H1 : (geyserlaw02_PackedPacks.j0 k l0 a1 t510 t516 true) = some r := by rw [if_neg (show ¬ (false = true) by decide)] at H; exact H
          clear H
          have H := H1
          clear H1
          have H' := Aside0.mk H
          clear H
          obtain ⟨Ao25, co25, eo25⟩ := Kd.R_slice HO515.out
          subst eo25
          go_wp2_with (first | ((with_reducible refine gate_callee (f := 43) rfl ?_); refine goesL_ (some 27) rfl rfl Tryd.func43 (by kernel_rfl) rfl #[errOf (.slice Ao25 t511.length co25), .int .i64 t516, .string (⟨#[112, 97, 99, 107, 101, 100, 46, 80, 97, 99, 107]⟩ : ByteArray)] rfl (by (try simp only [List.map_toArray, List.map_cons, List.map_nil]); first | done | rfl | (simp only [List.length_drop, List.length_take]; rfl)) ?_; (with_reducible refine (geyserlaw02_tells.calls _ _ t511 t516 (⟨#[112, 97, 99, 107, 101, 100, 46, 80, 97, 99, 107]⟩ : ByteArray) false _ ?side1 ?side2 ?side3 A15.out).mono ?_); (case side1 => first | exact HEI.out | exact ErrIn.below HEI.out (by repeat (first | (with_reducible first | exact HB.out | apply below_alloc | apply pw_below_drewN | apply below_drew1) | exact HB.out)) | (repeat (first | apply ErrIn.drewN | apply ErrIn.drew | exact HEI.out))); (case side2 => repeat (first | exact (Kd.R_reads' HO515.out).2.2 | (with_reducible refine Kd.C_alloc ?_ _) | (with_reducible refine Kd.C_drewN ?_ _) | (with_reducible refine Kd.C_drew ?_))); (case side3 => exact (Kd.R_reads' HO515.out).2.1); rintro e w26 ⟨rfl, hb⟩; refine ⟨_, rfl, ?_⟩; have n0_ := Aside0.mk (Kd.R_below (by (with_reducible repeat (first | apply Kd.R_alloc | apply Kd.R_drewN | apply Kd.R_drew)); exact HO509.out) hb); have n1_ := Aside0.mk (Kd.R_below (by (with_reducible repeat (first | apply Kd.R_alloc | apply Kd.R_drewN | apply Kd.R_drew)); exact HO513.out) hb); have n2_ := Aside0.mk (Kd.R_below (by (with_reducible repeat (first | apply Kd.R_alloc | apply Kd.R_drewN | apply Kd.R_drew)); exact HO515.out) hb); have n3_ := Aside0.mk (below_step (by repeat (first | (with_reducible first | exact HB.out | apply below_alloc | apply pw_below_drewN | apply below_drew1) | exact HB.out)) hb); clear HO509; clear HO513; clear HO515; clear HB; have HO509 := n0_; have HO513 := n1_; have HO515 := n2_; have HB := n3_; clear n0_ n1_ n2_ n3_; (try clear hb); (try clear hb2); (try clear hk); (try clear hi)))
          go_meet
          case rel => exact ⟨_, (true), (by first | rfl | (simp; done) | (simp [*]; done)), H', ⟨by first | omega | exact Nat.le_refl _⟩, ⟨by (with_reducible repeat (first | apply Kd.R_alloc | apply Kd.R_drewN | apply Kd.R_drew)); exact HO513.out⟩, ⟨by repeat (first | (with_reducible first | exact HB.out | apply below_alloc | apply pw_below_drewN | apply below_drew1) | exact HB.out)⟩⟩
      case rest =>
        clear HC9
        try clear c1
        try clear c2
        try clear p2
        try clear c3
        try clear c3b0
        try clear c3b1
        try clear c4
        try clear c6
        try clear c11
        try clear c16
        try clear c18
        try clear c21
        try clear c22
        obtain ⟨kq, x41_8, rfl, HA, HJ8, HO_6, HB⟩ := hcut
        cases kq with
        | zero => exact absurd HA.out (by simp [geyserlaw02_PackedPacks.j0])
        | succ kj8 =>
          have H := HA.out
          clear HA
          simp only [geyserlaw02_PackedPacks.j0] at H
          by_cases c27 : x41_8 = true
          · subst c27
            have H1 : (some false) = some r := by rw [if_pos rfl] at H; exact H
            clear H
            have H := H1
            clear H1
            obtain rfl := Option.some.inj H
            go_wp2
            go_ret
            exact ⟨by first | rfl | (simp [errW_none, errW_some] <;> rfl) | (simp [*, errW_none, errW_some] <;> rfl), by repeat (first | (with_reducible first | exact HB.out | apply below_alloc | apply pw_below_drewN | apply below_drew1) | exact HB.out)⟩
          · replace c27 := Bool.eq_false_iff.mpr c27
            subst c27
            have H1 : (if t516 = 0 then ((geyserref02_Pack.f kj8 l0 a1).bind fun t521 => ((geyserref02_SameWords.f kj8 t510 t521).bind fun t524 => (if t524 = true then ((geyserlaw02_awake.f kj8).bind fun t525 => (some t525)) else (some false)))) else (if (t510.length : Int) = 0 then ((geyserlaw02_awake.f kj8).bind fun t526 => (some t526)) else (some false))) = some r := by rw [if_neg (show ¬ (false = true) by decide)] at H; exact H
            clear H
            have H := H1
            clear H1
            by_cases c28 : t516 = 0
            · rw [if_pos c28] at H
              have c28b0 : (t516 == 0) = true := beq_iff_eq.mpr c28
              have c28b1 : (t516 != 0) = false := bne_eq_false_iff_eq.mpr c28
              clear c28
              replace H := Option.bind_eq_some_iff.mp H
              obtain ⟨t521, A290, H⟩ := H
              replace H : ((geyserref02_SameWords.f kj8 t510 t521).bind fun t524 => (if t524 = true then ((geyserlaw02_awake.f kj8).bind fun t525 => (some t525)) else (some false))) = some r := H
              have A29 := Aside0.mk A290
              clear A290
              replace H := Option.bind_eq_some_iff.mp H
              obtain ⟨t524, A300, H⟩ := H
              replace H : (if t524 = true then ((geyserlaw02_awake.f kj8).bind fun t525 => (some t525)) else (some false)) = some r := H
              have A30 := Aside0.mk A300
              clear A300
              by_cases c31 : t524 = true
              · subst c31
                have H1 : ((geyserlaw02_awake.f kj8).bind fun t525 => (some t525)) = some r := by rw [if_pos rfl] at H; exact H
                clear H
                have H := H1
                clear H1
                replace H := Option.bind_eq_some_iff.mp H
                obtain ⟨t525, A320, H⟩ := H
                replace H : (some t525) = some r := H
                have A32 := Aside0.mk A320
                clear A320
                obtain rfl := Option.some.inj H
                go_wp2_with (first | ((with_reducible refine gate_callee (f := 46) rfl ?_); refine goesL_ (some 53) rfl rfl Tryd.func46 (by kernel_rfl) rfl #[.slice A0 l0.length c0, .int .i64 a1] rfl (by (try simp only [List.map_toArray, List.map_cons, List.map_nil]); first | done | rfl | (simp only [List.length_drop, List.length_take]; rfl)) ?_; (with_reducible refine (geyserref02_Pack.calls kj8 _ _ l0 a1 t521 _ ?side1 ?side2 A29.out).mono ?_); (case side1 => repeat (first | exact (Kd.C_below HR0.out HB.out) | (with_reducible refine Kd.C_alloc ?_ _) | (with_reducible refine Kd.C_drewN ?_ _) | (with_reducible refine Kd.C_drew ?_))); (case side2 => exact HC0.out); rintro e w33 ⟨v522, rfl, ho0, hb⟩; refine ⟨_, rfl, ?_⟩; have n0_ := Aside0.mk (Kd.R_elder' (by (with_reducible repeat (first | apply Kd.R_alloc | apply Kd.R_drewN | apply Kd.R_drew)); exact HO_6.out) (Kd.R_base ho0) hb); have n1_ := Aside0.mk (Kd.R_lower (Kd.R_new' ho0 (Kd.R_lt (by (with_reducible repeat (first | apply Kd.R_alloc | apply Kd.R_drewN | apply Kd.R_drew)); exact HO_6.out))) (below_size (by repeat (first | (with_reducible first | exact HB.out | apply below_alloc | apply pw_below_drewN | apply below_drew1) | exact HB.out)))); have n2_ := Aside0.mk (below_step (by repeat (first | (with_reducible first | exact HB.out | apply below_alloc | apply pw_below_drewN | apply below_drew1) | exact HB.out)) hb); clear HO_6; clear HB; have HO_6 := n0_; have HO523 := n1_; have HB := n2_; clear n0_ n1_ n2_; (try clear hb); (try clear hb2); (try clear hk); (try clear hi); (try clear ho0); obtain ⟨Ao34, co34, eo34⟩ := Kd.R_slice HO_6.out; subst eo34; obtain ⟨Ao35, co35, eo35⟩ := Kd.R_slice HO523.out; subst eo35) | ((with_reducible refine gate_callee (f := 25) rfl ?_); refine goesL_ (some 54) rfl rfl Tryd.func25 (by kernel_rfl) rfl #[.slice Ao34 t510.length co34, .slice Ao35 t521.length co35] rfl (by (try simp only [List.map_toArray, List.map_cons, List.map_nil]); first | done | rfl | (simp only [List.length_drop, List.length_take]; rfl)) ?_; (with_reducible refine (geyserref02_SameWords.calls kj8 _ _ t510 _ _ t521 true _ ?side1 ?side2 ?side3 ?side4 A30.out).mono ?_); (case side1 => repeat (first | exact (Kd.R_reads' HO_6.out).2.2 | (with_reducible refine Kd.C_alloc ?_ _) | (with_reducible refine Kd.C_drewN ?_ _) | (with_reducible refine Kd.C_drew ?_))); (case side2 => exact (Kd.R_reads' HO_6.out).2.1); (case side3 => repeat (first | exact (Kd.R_reads' HO523.out).2.2 | (with_reducible refine Kd.C_alloc ?_ _) | (with_reducible refine Kd.C_drewN ?_ _) | (with_reducible refine Kd.C_drew ?_))); (case side4 => exact (Kd.R_reads' HO523.out).2.1); rintro e w' ⟨rfl, ⟨nd, rfl⟩⟩; refine ⟨_, rfl, ?_⟩) | (go_at_call 21; (with_reducible refine (geyserlaw02_awake.calls kj8  t525 _ ?side1 A32.out).mono ?_); (case side1 => first | exact HT.out | exact TabIn.below HT.out (by repeat (first | (with_reducible first | exact HB.out | apply below_alloc | apply pw_below_drewN | apply below_drew1) | exact HB.out)) | (repeat (first | apply TabIn.drewN | apply TabIn.drew | exact HT.out))); rintro e w36 ⟨rfl, hb⟩; have n0_ := Aside0.mk (Kd.R_below (by (with_reducible repeat (first | apply Kd.R_alloc | apply Kd.R_drewN | apply Kd.R_drew)); exact HO_6.out) hb); have n1_ := Aside0.mk (Kd.R_below (by (with_reducible repeat (first | apply Kd.R_alloc | apply Kd.R_drewN | apply Kd.R_drew)); exact HO523.out) hb); have n2_ := Aside0.mk (below_step (by repeat (first | (with_reducible first | exact HB.out | apply below_alloc | apply pw_below_drewN | apply below_drew1) | exact HB.out)) hb); clear HO_6; clear HO523; clear HB; have HO_6 := n0_; have HO523 := n1_; have HB := n2_; clear n0_ n1_ n2_; (try clear hb); (try clear hb2); (try clear hk); (try clear hi)))
                go_ret
                exact ⟨by first | rfl | (simp [errW_none, errW_some] <;> rfl) | (simp [*, errW_none, errW_some] <;> rfl), by repeat (first | (with_reducible first | exact HB.out | apply below_alloc | apply pw_below_drewN | apply below_drew1) | exact HB.out)⟩
              · replace c31 := Bool.eq_false_iff.mpr c31
                subst c31
                have H1 : (some false) = some r := by rw [if_neg (show ¬ (false = true) by decide)] at H; exact H
                clear H
                have H := H1
                clear H1
                obtain rfl := Option.some.inj H
                go_wp2_with (first | ((with_reducible refine gate_callee (f := 46) rfl ?_); refine goesL_ (some 53) rfl rfl Tryd.func46 (by kernel_rfl) rfl #[.slice A0 l0.length c0, .int .i64 a1] rfl (by (try simp only [List.map_toArray, List.map_cons, List.map_nil]); first | done | rfl | (simp only [List.length_drop, List.length_take]; rfl)) ?_; (with_reducible refine (geyserref02_Pack.calls kj8 _ _ l0 a1 t521 _ ?side1 ?side2 A29.out).mono ?_); (case side1 => repeat (first | exact (Kd.C_below HR0.out HB.out) | (with_reducible refine Kd.C_alloc ?_ _) | (with_reducible refine Kd.C_drewN ?_ _) | (with_reducible refine Kd.C_drew ?_))); (case side2 => exact HC0.out); rintro e w37 ⟨v522, rfl, ho0, hb⟩; refine ⟨_, rfl, ?_⟩; have n0_ := Aside0.mk (Kd.R_elder' (by (with_reducible repeat (first | apply Kd.R_alloc | apply Kd.R_drewN | apply Kd.R_drew)); exact HO_6.out) (Kd.R_base ho0) hb); have n1_ := Aside0.mk (Kd.R_lower (Kd.R_new' ho0 (Kd.R_lt (by (with_reducible repeat (first | apply Kd.R_alloc | apply Kd.R_drewN | apply Kd.R_drew)); exact HO_6.out))) (below_size (by repeat (first | (with_reducible first | exact HB.out | apply below_alloc | apply pw_below_drewN | apply below_drew1) | exact HB.out)))); have n2_ := Aside0.mk (below_step (by repeat (first | (with_reducible first | exact HB.out | apply below_alloc | apply pw_below_drewN | apply below_drew1) | exact HB.out)) hb); clear HO_6; clear HB; have HO_6 := n0_; have HO523 := n1_; have HB := n2_; clear n0_ n1_ n2_; (try clear hb); (try clear hb2); (try clear hk); (try clear hi); (try clear ho0); obtain ⟨Ao38, co38, eo38⟩ := Kd.R_slice HO_6.out; subst eo38; obtain ⟨Ao39, co39, eo39⟩ := Kd.R_slice HO523.out; subst eo39) | ((with_reducible refine gate_callee (f := 25) rfl ?_); refine goesL_ (some 54) rfl rfl Tryd.func25 (by kernel_rfl) rfl #[.slice Ao38 t510.length co38, .slice Ao39 t521.length co39] rfl (by (try simp only [List.map_toArray, List.map_cons, List.map_nil]); first | done | rfl | (simp only [List.length_drop, List.length_take]; rfl)) ?_; (with_reducible refine (geyserref02_SameWords.calls kj8 _ _ t510 _ _ t521 false _ ?side1 ?side2 ?side3 ?side4 A30.out).mono ?_); (case side1 => repeat (first | exact (Kd.R_reads' HO_6.out).2.2 | (with_reducible refine Kd.C_alloc ?_ _) | (with_reducible refine Kd.C_drewN ?_ _) | (with_reducible refine Kd.C_drew ?_))); (case side2 => exact (Kd.R_reads' HO_6.out).2.1); (case side3 => repeat (first | exact (Kd.R_reads' HO523.out).2.2 | (with_reducible refine Kd.C_alloc ?_ _) | (with_reducible refine Kd.C_drewN ?_ _) | (with_reducible refine Kd.C_drew ?_))); (case side4 => exact (Kd.R_reads' HO523.out).2.1); rintro e w' ⟨rfl, ⟨nd, rfl⟩⟩; refine ⟨_, rfl, ?_⟩))
                go_ret
                exact ⟨by first | rfl | (simp [errW_none, errW_some] <;> rfl) | (simp [*, errW_none, errW_some] <;> rfl), by repeat (first | (with_reducible first | exact HB.out | apply below_alloc | apply pw_below_drewN | apply below_drew1) | exact HB.out)⟩
            · rw [if_neg c28] at H
              have c28b0 : (t516 == 0) = false := beq_eq_false_iff_ne.mpr c28
              have c28b1 : (t516 != 0) = true := bne_iff_ne.mpr c28
              by_cases c40 : (t510.length : Int) = 0
              · rw [if_pos c40] at H
                have c40b0 : ((t510.length : Int) == 0) = true := beq_iff_eq.mpr c40
                have c40b1 : ((t510.length : Int) != 0) = false := bne_eq_false_iff_eq.mpr c40
                clear c40
                replace H := Option.bind_eq_some_iff.mp H
                obtain ⟨t526, A410, H⟩ := H
                replace H : (some t526) = some r := H
                have A41 := Aside0.mk A410
                clear A410
                obtain rfl := Option.some.inj H
                obtain ⟨Ao42, co42, eo42⟩ := Kd.R_slice HO_6.out
                subst eo42
                go_wp2_with (first | (go_at_call 21; (with_reducible refine (geyserlaw02_awake.calls kj8  t526 _ ?side1 A41.out).mono ?_); (case side1 => first | exact HT.out | exact TabIn.below HT.out (by repeat (first | (with_reducible first | exact HB.out | apply below_alloc | apply pw_below_drewN | apply below_drew1) | exact HB.out)) | (repeat (first | apply TabIn.drewN | apply TabIn.drew | exact HT.out))); rintro e w43 ⟨rfl, hb⟩; have n0_ := Aside0.mk (Kd.R_below (by (with_reducible repeat (first | apply Kd.R_alloc | apply Kd.R_drewN | apply Kd.R_drew)); exact HO_6.out) hb); have n1_ := Aside0.mk (below_step (by repeat (first | (with_reducible first | exact HB.out | apply below_alloc | apply pw_below_drewN | apply below_drew1) | exact HB.out)) hb); clear HO_6; clear HB; have HO_6 := n0_; have HB := n1_; clear n0_ n1_; (try clear hb); (try clear hb2); (try clear hk); (try clear hi)))
                go_ret
                exact ⟨by first | rfl | (simp [errW_none, errW_some] <;> rfl) | (simp [*, errW_none, errW_some] <;> rfl), by repeat (first | (with_reducible first | exact HB.out | apply below_alloc | apply pw_below_drewN | apply below_drew1) | exact HB.out)⟩
              · rw [if_neg c40] at H
                have c40b0 : ((t510.length : Int) == 0) = false := beq_eq_false_iff_ne.mpr c40
                have c40b1 : ((t510.length : Int) != 0) = true := bne_iff_ne.mpr c40
                have c40b2 : ¬ (t510 = []) := fun h_ => c40 (by rw [h_]; rfl)
                obtain rfl := Option.some.inj H
                obtain ⟨Ao44, co44, eo44⟩ := Kd.R_slice HO_6.out
                subst eo44
                go_wp2
                go_ret
                exact ⟨by first | rfl | (simp [errW_none, errW_some] <;> rfl) | (simp [*, errW_none, errW_some] <;> rfl), by repeat (first | (with_reducible first | exact HB.out | apply below_alloc | apply pw_below_drewN | apply below_drew1) | exact HB.out)⟩
    · rw [if_neg c6] at H
      exact absurd H (by simp)

end Go.Proofs.YtnigpfaecibdfaaDoor.P

namespace Go.Proofs.YtnigpfaecibdfaaDoor.Pure
open Go.RowKit Go.Proofs.YtnigpfaecibdfaaDoor.P Go.Proofs.YtnigpfaecibdfaaDoorW.PrintWords Go.Proofs.YtnigpfaecibdfaaDoorW.PrintLast Go.Proofs.YtnigpfaecibdfaaDoorW.PrintErr Go.Proofs.YtnigpfaecibdfaaDoorW.PrintMore
set_option linter.unusedVariables false
set_option linter.unusedSimpArgs false
/-! ### Pack, told whole -/
def packs (x : List Int) (S : List Int) : List Int := S.foldl setB x
theorem pack2_l0 (S : List Int) : ∀ (P x : List Int), (P ++ S).length < 9223372036854775807 → (∀ c ∈ S, 0 ≤ c ∧ c < 64 * (x.length : Int)) → (∀ a ∈ x, U64 a) → x.length ≤ 1000000 →
    Ev (fun k => packed_Pack.l0 k x (P ++ S) ((P ++ S).length : Int) (P.length : Int)) (if S.Nodup ∧ ∀ c ∈ S, hasB x c.toNat = false then (packs x S, []) else ([], [⟨packName, true, 2⟩])) := by
  induction S with
  | nil =>
    intro P x hP _ hx _
    rw [if_pos ⟨List.nodup_nil, by simp⟩]
    refine Ev.step (f := fun _ => some (x, [])) (fun k => ?_) (Ev.now _)
    rw [packed_Pack.l0, if_neg (by simp)]
  | cons c S ih =>
    intro P x hP hS hx hn
    have hlen : (P ++ c :: S).length = P.length + (S.length + 1) := by simp
    obtain ⟨m, rfl⟩ := Int.eq_ofNat_of_zero_le (hS c (by simp)).1
    have hm : m < 64 * x.length := by have := (hS (m : Int) (by simp)).2; omega
    have hm' : m < 9223372036854775807 := by omega
    by_cases hb : hasB x m = true
    · rw [if_neg (fun h => by have := h.2 (m : Int) (by simp); rw [Int.toNat_natCast, hb] at this; cases this)]
      refine Ev.step (f := fun _ => some ([], [⟨packName, true, 2⟩])) (fun k => ?_) (Ev.now _)
      rw [packed_Pack.l0, if_pos (by omega), if_pos (by omega), if_pos (by omega), rd_mid, has_eq x hx m hm']
      simp only [Option.bind_some]
      rw [if_pos hb, new_eqS _ 2 (by decide)]
      rfl
    · have h1 := setB_len x (m : Int)
      have hr := ih (P ++ [(m : Int)]) (setB x (m : Int)) (by simpa using hP) (fun t ht => by rw [h1]; exact hS t (by simp [ht])) (setB_u64 x hx m hm (by omega)) (by omega)
      have e1 : P ++ [(m : Int)] ++ S = P ++ (m : Int) :: S := by simp
      have e2 : ((P ++ [(m : Int)]).length : Int) = wrap64 ((P.length : Int) + 1) := by rw [w64s (by omega) (by omega)]; simp
      have hbf : hasB x m = false := by simpa using hb
      have e3 : (S.Nodup ∧ ∀ c ∈ S, hasB (setB x (m : Int)) c.toNat = false) ↔ (((m : Int) :: S).Nodup ∧ ∀ c ∈ (m : Int) :: S, hasB x c.toNat = false) := by
        constructor
        · rintro ⟨hnd, hno⟩
          refine ⟨List.nodup_cons.2 ⟨fun hin => ?_, hnd⟩, ?_⟩
          · have := hno _ hin
            rw [Int.toNat_natCast, setB_has x hx m hm (by omega)] at this
            simp at this
          · intro t ht
            rcases List.mem_cons.1 ht with rfl | ht
            · rw [Int.toNat_natCast]; exact hbf
            · have := hno t ht
              rw [setB_has x hx m hm (by omega)] at this
              simp at this
              exact this.1
        · rintro ⟨hnd, hno⟩
          obtain ⟨hni, hnd⟩ := List.nodup_cons.1 hnd
          refine ⟨hnd, fun t ht => ?_⟩
          rw [setB_has x hx m hm (by omega), hno t (by simp [ht]), Bool.false_or]
          refine decide_eq_false (fun h => hni ?_)
          have h0 := (hS t (by simp [ht])).1
          have : t = (m : Int) := by omega
          rwa [← this]
      have e4 : (if S.Nodup ∧ ∀ c ∈ S, hasB (setB x (m : Int)) c.toNat = false then (packs (setB x (m : Int)) S, []) else (([] : List Int), [(⟨packName, true, 2⟩ : FE)])) = (if ((m : Int) :: S).Nodup ∧ ∀ c ∈ (m : Int) :: S, hasB x c.toNat = false then (packs x ((m : Int) :: S), []) else ([], [⟨packName, true, 2⟩])) := by
        by_cases h : S.Nodup ∧ ∀ c ∈ S, hasB (setB x (m : Int)) c.toNat = false
        · rw [if_pos h, if_pos (e3.1 h)]; rfl
        · rw [if_neg h, if_neg (fun h' => h (e3.2 h'))]
      rw [e1, e2, e4] at hr
      refine Ev.step (fun k => ?_) hr
      obtain ⟨f1, f2, f3⟩ := word_facts m x.length hm hn
      rw [packed_Pack.l0, if_pos (by omega), if_pos (by omega), if_pos (by omega), rd_mid, has_eq x hx m hm']
      simp only [Option.bind_some]
      rw [if_neg hb, if_pos f1, if_pos f2, if_pos f3]
      rfl
theorem packs_facts (S : List Int) : ∀ x : List Int, (∀ c ∈ S, 0 ≤ c ∧ c < 64 * (x.length : Int)) → (∀ a ∈ x, U64 a) → x.length ≤ 1000000 →
    (packs x S).length = x.length ∧ (∀ a ∈ packs x S, U64 a) ∧ ∀ d : Nat, hasB (packs x S) d = (hasB x d || decide ((d : Int) ∈ S)) := by
  induction S with
  | nil => intro x _ hx _; exact ⟨rfl, hx, by simp [packs]⟩
  | cons c S ih =>
    intro x hS hx hn
    obtain ⟨m, rfl⟩ := Int.eq_ofNat_of_zero_le (hS c (by simp)).1
    have hm : m < 64 * x.length := by have := (hS (m : Int) (by simp)).2; omega
    have h1 := setB_len x (m : Int)
    obtain ⟨a1, a2, a3⟩ := ih (setB x (m : Int)) (fun t ht => by rw [h1]; exact hS t (by simp [ht])) (setB_u64 x hx m hm (by omega)) (by omega)
    refine ⟨a1.trans h1, a2, fun d => ?_⟩
    show hasB (packs (setB x (m : Int)) S) d = _
    rw [a3 d, setB_has x hx m hm (by omega)]
    by_cases hd : d = m
    · subst hd; simp
    · have : ¬ (d : Int) = (m : Int) := by omega
      simp [hd, this]
def nW (n : Int) : Nat := (n.toNat + 63) / 64
def packR (l : List Int) (n : Int) : List Int × List FE :=
  if colsBad l n = 0 then (if l.Nodup then (packs (List.replicate (nW n) 0) l, []) else ([], [⟨packName, true, 2⟩])) else ([], [⟨packName, true, 1⟩])
theorem colsBad_zero {l : List Int} {n : Int} (h : colsBad l n = 0) : 0 ≤ n ∧ n ≤ 4096 ∧ ∀ c ∈ l, 0 ≤ c ∧ c < n := by
  unfold colsBad at h
  split at h
  · assumption
  · cases h
theorem pack2_ev (l : List Int) (n : Int) (hl : l.length < 9223372036854775807) : Ev (fun k => packed_Pack.f k l n) (packR l n) := by
  have hc := pcheck_ev l n hl
  unfold packed_Pack.f packR
  refine Ev.bind hc ?_
  by_cases h : colsBad l n = 0
  · obtain ⟨h0, h1, h2⟩ := colsBad_zero h
    simp only [if_pos h]
    have hlen : (List.replicate (nW n) (0 : Int)).length = (n.toNat + 63) / 64 := by simp [nW]
    have hr := pack2_l0 l [] (List.replicate (nW n) 0) (by simpa using hl) (fun c hc => by have := h2 c hc; rw [hlen]; omega) (fun a ha => by have := List.eq_of_mem_replicate ha; subst this; exact ⟨by decide, by decide⟩) (by rw [hlen]; omega)
    have e : (if l.Nodup ∧ ∀ c ∈ l, hasB (List.replicate (nW n) 0) c.toNat = false then (packs (List.replicate (nW n) 0) l, []) else (([] : List Int), [(⟨packName, true, 2⟩ : FE)])) = (if l.Nodup then (packs (List.replicate (nW n) 0) l, []) else ([], [⟨packName, true, 2⟩])) := by
      by_cases hd : l.Nodup
      · rw [if_pos hd, if_pos ⟨hd, fun c _ => hasB_zero _ _⟩]
      · rw [if_neg hd, if_neg (fun h' => hd h'.1)]
    rw [e] at hr
    simp only [psize_eq n h0 h1, Option.bind_some, Int.toNat_natCast]
    refine Ev.congr (fun k => ?_) hr
    rw [if_pos (by omega), if_pos (by omega)]
    rfl
  · have e0 : colsBad l n = 1 := by unfold colsBad at h ⊢; split at h; exact absurd rfl h; rw [if_neg ‹_›]
    simp only [if_neg h]
    rw [e0, new_eqS _ 1 (by decide)]
    exact Ev.now _
/-! ### Check, by definition -/
def chk (l : List Int) (n : Int) : Int := if colsBad l n = 0 then (if l.Nodup then 0 else 2) else 1
theorem take_snoc_ (l : List Int) (i : Nat) (h : i < l.length) : l.take (i + 1) = l.take i ++ [l[i]] := List.take_succ_eq_append_getElem h
theorem rcheck_l1 (l : List Int) (hl : l.length < 1000000) : ∀ d i : Nat, i + d = l.length → (l.take i).Nodup → Ev (fun k => geyserref02_Check.l1 k l (i : Int)) (if l.Nodup then 0 else 2) := by
  intro d
  induction d with
  | zero =>
    intro i hi hnd
    rw [List.take_of_length_le (by omega)] at hnd
    rw [if_pos hnd]
    refine Ev.step (f := fun _ => some 0) (fun k => ?_) (Ev.now _)
    rw [geyserref02_Check.l1, if_neg (by omega)]
  | succ d ih =>
    intro i hi hnd
    have hlt : i < l.length := by omega
    have hr : rd l (i : Int) = l[i] := by unfold rd; rw [Int.toNat_natCast, List.getD_eq_getElem?_getD, List.getElem?_eq_getElem hlt, Option.getD_some]
    have hin := in_ev (l.take i) (l[i]) (by rw [List.length_take]; omega)
    have e2 : wrap64 ((i : Int) + 1) = ((i + 1 : Nat) : Int) := by rw [w64s (by omega) (by omega)]; rfl
    refine Ev.step (f := fun k => (geyserref02_In.f k (l.take i) (l[i])).bind fun t => (if t = true then (some 2) else (geyserref02_Check.l1 k l ((i + 1 : Nat) : Int)))) (fun k => ?_) ?_
    · rw [geyserref02_Check.l1, if_pos (by omega), if_pos (by omega), if_pos (by omega), hr, Int.toNat_natCast, e2]
    · refine Ev.bind hin ?_
      by_cases hm : l[i] ∈ l.take i
      · rw [decide_eq_true hm]
        have : ¬ l.Nodup := by
          intro h
          have h2 : (l.take (i + 1)).Nodup := h.sublist (List.take_sublist _ _)
          rw [take_snoc_ l i hlt, List.nodup_append] at h2
          exact h2.2.2 _ hm _ (by simp) rfl
        rw [if_neg this]
        exact Ev.now _
      · rw [decide_eq_false hm]
        refine Ev.congr (fun k => ?_) (ih (i + 1) (by omega) ?_)
        · rw [if_neg (by decide)]
        · rw [take_snoc_ l i hlt, List.nodup_append]
          refine ⟨hnd, by simp, fun a ha b hb h => ?_⟩
          obtain rfl : b = l[i] := by simpa using hb
          subst h
          exact hm ha
theorem rcheck_l0 (l : List Int) (n : Int) (hl : l.length < 1000000) : ∀ d i : Nat, i + d = l.length → Ev (fun k => geyserref02_Check.l0 k l n (i : Int)) (if ∀ c ∈ l.drop i, 0 ≤ c ∧ c < n then (if l.Nodup then 0 else 2) else 1) := by
  intro d
  induction d with
  | zero =>
    intro i hi
    rw [if_pos (by rw [List.drop_eq_nil_of_le (by omega)]; simp)]
    refine Ev.step (fun k => ?_) (rcheck_l1 l hl l.length 0 (by omega) (by simp))
    rw [geyserref02_Check.l0, if_neg (by omega)]
    rfl
  | succ d ih =>
    intro i hi
    have hlt : i < l.length := by omega
    have hr : rd l (i : Int) = l[i] := by unfold rd; rw [Int.toNat_natCast, List.getD_eq_getElem?_getD, List.getElem?_eq_getElem hlt, Option.getD_some]
    have hd : l.drop i = l[i] :: l.drop (i + 1) := List.drop_eq_getElem_cons hlt
    have e2 : wrap64 ((i : Int) + 1) = ((i + 1 : Nat) : Int) := by rw [w64s (by omega) (by omega)]; rfl
    by_cases hc : 0 ≤ l[i] ∧ l[i] < n
    · have e : ∀ t : List Int, l.drop i = l[i] :: t → (if ∀ c ∈ l.drop i, 0 ≤ c ∧ c < n then (if l.Nodup then (0 : Int) else 2) else 1) = (if ∀ c ∈ t, 0 ≤ c ∧ c < n then (if l.Nodup then (0 : Int) else 2) else 1) := by
        intro t hd
        by_cases hS : ∀ c ∈ t, 0 ≤ c ∧ c < n
        · rw [if_pos hS, if_pos (by rw [hd]; intro c hc'; rcases List.mem_cons.1 hc' with rfl | hc'; exact hc; exact hS c hc')]
        · rw [if_neg hS, if_neg (fun h => hS (fun c hc' => h c (by rw [hd]; exact List.mem_cons_of_mem _ hc')))]
      rw [e _ hd]
      refine Ev.step (fun k => ?_) (ih (i + 1) (by omega))
      rw [geyserref02_Check.l0, if_pos (by omega), if_pos (by omega), hr, if_neg (by omega), if_neg (by omega), e2]
    · rw [if_neg (fun h => hc (h (l[i]) (by rw [hd]; exact List.mem_cons_self)))]
      refine Ev.step (f := fun _ => some 1) (fun k => ?_) (Ev.now _)
      rw [geyserref02_Check.l0, if_pos (by omega), if_pos (by omega), hr]
      by_cases h0 : l[i] < 0
      · rw [if_pos h0]
      · rw [if_neg h0, if_pos (by omega)]
theorem rchk_ev (l : List Int) (n : Int) (hl : l.length < 1000000) : Ev (fun k => geyserref02_Check.f k l n) (chk l n) := by
  unfold geyserref02_Check.f chk colsBad
  by_cases h0 : n < 0
  · simp only [if_pos h0]
    rw [if_neg (show ¬ (0 ≤ n ∧ n ≤ 4096 ∧ ∀ c ∈ l, 0 ≤ c ∧ c < n) by omega)]
    refine Ev.step (f := fun _ => some 1) (fun k => ?_) (Ev.now _)
    rw [geyserref02_Check.j0, if_pos rfl]
  · simp only [if_neg h0]
    by_cases h1 : n > 4096
    · rw [if_neg (show ¬ (0 ≤ n ∧ n ≤ 4096 ∧ ∀ c ∈ l, 0 ≤ c ∧ c < n) by omega), decide_eq_true h1]
      refine Ev.step (f := fun _ => some 1) (fun k => ?_) (Ev.now _)
      rw [geyserref02_Check.j0, if_pos rfl]
    · rw [decide_eq_false h1]
      have h := rcheck_l0 l n hl l.length 0 (by omega)
      rw [List.drop_zero] at h
      have e : (if (if 0 ≤ n ∧ n ≤ 4096 ∧ ∀ c ∈ l, 0 ≤ c ∧ c < n then (0 : Int) else 1) = 0 then (if l.Nodup then (0 : Int) else 2) else 1) = (if ∀ c ∈ l, 0 ≤ c ∧ c < n then (if l.Nodup then 0 else 2) else 1) := by
        by_cases hS : ∀ t ∈ l, 0 ≤ t ∧ t < n
        · rw [if_pos hS, if_pos (by rw [if_pos ⟨by omega, by omega, hS⟩])]
        · rw [if_neg hS, if_neg (by rw [if_neg (fun h => hS h.2.2)]; decide)]
      rw [e]
      refine Ev.step (fun k => ?_) h
      rw [geyserref02_Check.j0, if_neg (by decide)]
      rfl
/-! ### Size -/
def szR (n : Int) : Int := if n < 0 ∨ n > 4096 then 0 else (nW n : Int)
theorem psz_eq (n : Int) : packed_Size.f n = some (szR n) := by
  unfold szR
  by_cases h : n < 0 ∨ n > 4096
  · rw [if_pos h]
    unfold packed_Size.f
    rcases h with h | h
    · rw [if_pos h]
    · rw [if_neg (by omega), if_pos h]
  · rw [if_neg h, psize_eq n (by omega) (by omega)]
    rfl
theorem rsz_l0 (m : Nat) (hm : m ≤ 4096) : ∀ d i : Nat, i + d = (m + 63) / 64 → Ev (fun k => geyserref02_Size.l0 k (m : Int) (i : Int)) (((m + 63) / 64 : Nat) : Int) := by
  intro d
  induction d with
  | zero =>
    intro i hi
    have : i = (m + 63) / 64 := by omega
    subst this
    refine Ev.step (f := fun _ => some _) (fun k => ?_) (Ev.now _)
    rw [geyserref02_Size.l0, w64s (by omega) (by omega), if_neg (by omega)]
  | succ d ih =>
    intro i hi
    refine Ev.step (fun k => ?_) (ih (i + 1) (by omega))
    rw [geyserref02_Size.l0, w64s (x := 64 * (i : Int)) (by omega) (by omega), if_pos (by omega), w64s (by omega) (by omega)]
    rfl
theorem rsz_ev (n : Int) : Ev (fun k => geyserref02_Size.f k n) (szR n) := by
  unfold geyserref02_Size.f szR
  by_cases h0 : n < 0
  · rw [if_pos (.inl h0)]
    refine Ev.step (f := fun _ => some 0) (fun k => ?_) (Ev.now _)
    rw [if_pos h0, geyserref02_Size.j0, if_pos rfl]
  · by_cases h1 : n > 4096
    · rw [if_pos (.inr h1)]
      refine Ev.step (f := fun _ => some 0) (fun k => ?_) (Ev.now _)
      rw [if_neg h0, decide_eq_true h1, geyserref02_Size.j0, if_pos rfl]
    · rw [if_neg (by omega)]
      obtain ⟨m, rfl⟩ := Int.eq_ofNat_of_zero_le (by omega : 0 ≤ n)
      have h := rsz_l0 m (by omega) ((m + 63) / 64) 0 (by omega)
      refine Ev.step (fun k => ?_) h
      rw [if_neg h0, decide_eq_false h1, geyserref02_Size.j0, if_neg (by decide)]
      rfl
/-! ### Pack, by definition -/
def hiW (l : List Int) (base : Nat) : Nat → Nat
  | 0 => 0
  | t + 1 => 2 * hiW l base t + (if ((base + (63 - t) : Nat) : Int) ∈ l then 1 else 0)
theorem hiW_lt (l : List Int) (base : Nat) : ∀ t, hiW l base t < 2 ^ t
  | 0 => by simp [hiW]
  | t + 1 => by have := hiW_lt l base t; rw [hiW, Nat.pow_succ]; split <;> omega
theorem hiW_bit (l : List Int) (base : Nat) : ∀ t, t ≤ 64 → ∀ j, (hiW l base t).testBit j = (decide (j < t) && decide (((base + (64 - t + j) : Nat) : Int) ∈ l))
  | 0, _, j => by simp [hiW]
  | t + 1, ht, 0 => by
    rw [hiW, Nat.testBit_zero]
    have e : base + (64 - (t + 1) + 0) = base + (63 - t) := by omega
    rw [e]
    by_cases h : ((base + (63 - t) : Nat) : Int) ∈ l
    · rw [if_pos h, decide_eq_true h, decide_eq_true (show 0 < t + 1 by omega)]
      have : (2 * hiW l base t + 1) % 2 = 1 := by omega
      rw [this]; rfl
    · rw [if_neg h, decide_eq_false h]
      have : (2 * hiW l base t + 0) % 2 = 0 := by omega
      rw [this]; simp
  | t + 1, ht, j + 1 => by
    rw [hiW, Nat.testBit_succ]
    have e1 : (2 * hiW l base t + (if ((base + (63 - t) : Nat) : Int) ∈ l then 1 else 0)) / 2 = hiW l base t := by split <;> omega
    rw [e1, hiW_bit l base t (by omega) j]
    have e2 : base + (64 - t + j) = base + (64 - (t + 1) + (j + 1)) := by omega
    rw [e2]
    have e3 : decide (j < t) = decide (j + 1 < t + 1) := by rw [decide_eq_decide]; omega
    rw [e3]
theorem wrapu_nat (a : Nat) (ha : a < 18446744073709551616) : IntKind.u64.wrap (a : Int) = (a : Int) := by rw [IntKind.wrap_u64]; omega
theorem rpack_l1 (l : List Int) (n : Int) (hl : l.length < 1000000) (acc : List Int) (i : Nat) (r : List Int) (hi : i ≤ 1000) (hacc : acc.length ≤ 1000)
    (h : Ev (fun k => geyserref02_Pack.l0 k l n (acc ++ [((hiW l (64 * i) 64 : Nat) : Int)]) ((i + 1 : Nat) : Int)) r) : ∀ d t : Nat, t + d = 64 →
    Ev (fun k => geyserref02_Pack.l1 k l n acc (i : Int) ((hiW l (64 * i) t : Nat) : Int) (63 - (t : Int))) r := by
  intro d
  induction d with
  | zero =>
    intro t ht
    obtain rfl : t = 64 := by omega
    refine Ev.step (fun k => ?_) h
    rw [geyserref02_Pack.l1, if_neg (by omega), if_pos (by omega), w64s (by omega) (by omega)]
    rfl
  | succ d ih =>
    intro t ht
    have hlt := hiW_lt l (64 * i) (t + 1)
    have hp : 2 ^ (t + 1) ≤ 18446744073709551616 := by
      have : (2 : Nat) ^ (t + 1) ≤ 2 ^ 64 := Nat.pow_le_pow_right (by decide) (by omega)
      have e : (2 : Nat) ^ 64 = 18446744073709551616 := by decide
      omega
    have h' := ih (t + 1) (by omega)
    have e0 : (63 : Int) - ((t + 1 : Nat) : Int) = wrap64 (63 - (t : Int) - 1) := by rw [w64s (by omega) (by omega)]; omega
    have e1 : wrap64 (wrap64 (64 * (i : Int)) + (63 - (t : Int))) = ((64 * i + (63 - t) : Nat) : Int) := by
      rw [w64s (x := 64 * (i : Int)) (by omega) (by omega), w64s (by omega) (by omega)]; omega
    rw [e0] at h'
    have hin := in_ev l ((64 * i + (63 - t) : Nat) : Int) (by omega)
    refine Ev.step (f := fun k => (geyserref02_In.f k l ((64 * i + (63 - t) : Nat) : Int)).bind fun t499 => (if t499 = true then (geyserref02_Pack.l1 k l n acc (i : Int) (IntKind.u64.wrap ((IntKind.u64.wrap (2 * ((hiW l (64 * i) t : Nat) : Int))) + 1)) (wrap64 (63 - (t : Int) - 1))) else (geyserref02_Pack.l1 k l n acc (i : Int) (IntKind.u64.wrap (2 * ((hiW l (64 * i) t : Nat) : Int))) (wrap64 (63 - (t : Int) - 1))))) (fun k => ?_) ?_
    · rw [geyserref02_Pack.l1, if_pos (by omega), e1]
    · refine Ev.bind hin ?_
      rw [hiW] at hlt h'
      have e2 : (2 * ((hiW l (64 * i) t : Nat) : Int)) = ((2 * hiW l (64 * i) t : Nat) : Int) := by omega
      by_cases hm : ((64 * i + (63 - t) : Nat) : Int) ∈ l
      · rw [if_pos hm] at hlt h'
        rw [decide_eq_true hm, e2, wrapu_nat _ (by omega)]
        have e3 : ((2 * hiW l (64 * i) t : Nat) : Int) + 1 = ((2 * hiW l (64 * i) t + 1 : Nat) : Int) := by omega
        rw [e3, wrapu_nat _ (by omega)]
        refine Ev.congr (fun k => ?_) h'
        rw [if_pos rfl]
      · rw [if_neg hm] at hlt h'
        rw [decide_eq_false hm, e2, wrapu_nat _ (by omega)]
        rw [Nat.add_zero] at h'
        refine Ev.congr (fun k => ?_) h'
        rw [if_neg (by decide)]
def wordsOf (l : List Int) (s d : Nat) : List Int := (List.range' s d).map fun i => ((hiW l (64 * i) 64 : Nat) : Int)
theorem rpack_l0 (l : List Int) (n : Int) (hl : l.length < 1000000) (h0 : 0 ≤ n) (h1 : n ≤ 4096) : ∀ (d i : Nat) (acc : List Int), i + d = nW n → acc.length = i →
    Ev (fun k => geyserref02_Pack.l0 k l n acc (i : Int)) (acc ++ wordsOf l i d) := by
  have hs := rsz_ev n
  have es : szR n = (nW n : Int) := by unfold szR; rw [if_neg (by omega)]
  rw [es] at hs
  have hw : nW n ≤ 64 := by unfold nW; omega
  intro d
  induction d with
  | zero =>
    intro i acc hi hacc
    have e : wordsOf l i 0 = [] := rfl
    rw [e, List.append_nil]
    refine Ev.step (f := fun k => (geyserref02_Size.f k n).bind fun t498 => (if (i : Int) < t498 then (geyserref02_Pack.l1 k l n acc (i : Int) 0 63) else (some acc))) (fun k => ?_) (Ev.bind hs ?_)
    · rw [geyserref02_Pack.l0]
    · refine Ev.congr (fun k => ?_) (Ev.now _)
      rw [if_neg (by omega)]
  | succ d ih =>
    intro i acc hi hacc
    have h' := ih (i + 1) (acc ++ [((hiW l (64 * i) 64 : Nat) : Int)]) (by omega) (by simp [hacc])
    have e : acc ++ wordsOf l i (d + 1) = acc ++ [((hiW l (64 * i) 64 : Nat) : Int)] ++ wordsOf l (i + 1) d := by simp [wordsOf, List.range'_succ]
    rw [e]
    have hx := rpack_l1 l n hl acc i _ (by omega) (by omega) h' 64 0 (by omega)
    refine Ev.step (f := fun k => (geyserref02_Size.f k n).bind fun t498 => (if (i : Int) < t498 then (geyserref02_Pack.l1 k l n acc (i : Int) 0 63) else (some acc))) (fun k => ?_) (Ev.bind hs ?_)
    · rw [geyserref02_Pack.l0]
    · refine Ev.congr (fun k => ?_) hx
      rw [if_pos (by omega)]
      rfl
theorem rpack_ev (l : List Int) (n : Int) (hl : l.length < 1000000) (h0 : 0 ≤ n) (h1 : n ≤ 4096) : Ev (fun k => geyserref02_Pack.f k l n) (wordsOf l 0 (nW n)) := by
  have h := rpack_l0 l n hl h0 h1 (nW n) 0 [] (by omega) rfl
  rw [List.nil_append] at h
  exact h
theorem words_eq (a b : List Int) (hl : a.length = b.length) (ha : ∀ x ∈ a, U64 x) (hb : ∀ x ∈ b, U64 x) (h : ∀ d, hasB a d = hasB b d) : a = b := by
  apply List.ext_getElem hl
  intro i h1 h2
  have u1 := ha _ (List.getElem_mem h1)
  have u2 := hb _ (List.getElem_mem h2)
  have e : a[i].toNat = b[i].toNat := by
    apply Nat.eq_of_testBit_eq
    intro j
    by_cases hj : j < 64
    · have hh := h (64 * i + j)
      unfold hasB at hh
      have e1 : (64 * i + j) / 64 = i := by omega
      have e2 : (64 * i + j) % 64 = j := by omega
      rw [e1, e2, decide_eq_true h1, decide_eq_true h2, Bool.true_and, Bool.true_and, List.getD_eq_getElem?_getD, List.getD_eq_getElem?_getD, List.getElem?_eq_getElem h1, List.getElem?_eq_getElem h2, Option.getD_some, Option.getD_some] at hh
      exact hh
    · have hp : (2 : Nat) ^ 64 ≤ 2 ^ j := Nat.pow_le_pow_right (by decide) (by omega)
      have e64 : (2 : Nat) ^ 64 = 18446744073709551616 := by decide
      obtain ⟨x1, x2⟩ := u1
      obtain ⟨y1, y2⟩ := u2
      rw [Nat.testBit_lt_two_pow (by omega), Nat.testBit_lt_two_pow (by omega)]
  obtain ⟨x1, _⟩ := u1
  obtain ⟨y1, _⟩ := u2
  omega
theorem wordsOf_facts (l : List Int) (n : Nat) (hlt : ∀ c ∈ l, c < 64 * (n : Int)) : (wordsOf l 0 n).length = n ∧ (∀ a ∈ wordsOf l 0 n, U64 a) ∧ ∀ d : Nat, hasB (wordsOf l 0 n) d = decide ((d : Int) ∈ l) := by
  have hlen : (wordsOf l 0 n).length = n := by simp [wordsOf]
  refine ⟨hlen, ?_, ?_⟩
  · intro a ha
    obtain ⟨i, _, rfl⟩ := List.mem_map.1 ha
    have := hiW_lt l (64 * i) 64
    have e64 : (2 : Nat) ^ 64 = 18446744073709551616 := by decide
    exact ⟨by omega, by omega⟩
  · intro d
    unfold hasB
    rw [hlen]
    by_cases hd : d / 64 < n
    · have hg : (wordsOf l 0 n).getD (d / 64) 0 = ((hiW l (64 * (d / 64)) 64 : Nat) : Int) := by
        rw [List.getD_eq_getElem?_getD, List.getElem?_eq_getElem (by rw [hlen]; exact hd), Option.getD_some]
        simp [wordsOf]
      rw [hg, decide_eq_true hd, Bool.true_and, Int.toNat_natCast, hiW_bit l _ 64 (Nat.le_refl _), decide_eq_true (Nat.mod_lt _ (by decide)), Bool.true_and]
      have e : 64 * (d / 64) + (64 - 64 + d % 64) = d := by omega
      rw [e]
    · rw [decide_eq_false hd, Bool.false_and]
      refine (decide_eq_false (fun h => ?_)).symm
      have := hlt _ h
      omega
theorem packs_words (l : List Int) (n : Int) (h : colsBad l n = 0) : packs (List.replicate (nW n) 0) l = wordsOf l 0 (nW n) := by
  obtain ⟨h0, h1, h2⟩ := colsBad_zero h
  have hw : nW n ≤ 64 := by unfold nW; omega
  have hin : ∀ c ∈ l, 0 ≤ c ∧ c < 64 * (nW n : Int) := fun c hc => by have := h2 c hc; unfold nW; omega
  obtain ⟨a1, a2, a3⟩ := packs_facts l (List.replicate (nW n) 0) (fun c hc => by rw [List.length_replicate]; exact hin c hc) (fun a ha => by have := List.eq_of_mem_replicate ha; subst this; exact ⟨by decide, by decide⟩) (by rw [List.length_replicate]; omega)
  obtain ⟨b1, b2, b3⟩ := wordsOf_facts l (nW n) (fun c hc => (hin c hc).2)
  refine words_eq _ _ (by rw [a1, b1, List.length_replicate]) a2 b2 (fun d => ?_)
  rw [a3 d, b3 d, hasB_zero, Bool.false_or]
/-! ### the law -/
theorem samen_l0 (S : List Int) : ∀ P : List Int, (P ++ S).length < 9223372036854775807 → Ev (fun k => geyserref02_Same.l0 k (P ++ S) (P ++ S) (P.length : Int)) true := by
  induction S with
  | nil =>
    intro P hP
    refine Ev.step (f := fun _ => some true) (fun k => ?_) (Ev.now _)
    rw [geyserref02_Same.l0, if_neg (by simp)]
  | cons c S ih =>
    intro P hP
    have hlen : (P ++ c :: S).length = P.length + (S.length + 1) := by simp
    have h' := ih (P ++ [c]) (by simpa using hP)
    have e1 : P ++ [c] ++ S = P ++ c :: S := by simp
    have e2 : ((P ++ [c]).length : Int) = wrap64 ((P.length : Int) + 1) := by rw [w64s (by omega) (by omega)]; simp
    rw [e1, e2] at h'
    refine Ev.step (fun k => ?_) h'
    rw [geyserref02_Same.l0, if_pos (by omega), if_pos (by omega), if_pos (by omega), if_pos rfl]
theorem samen_ev (a : List Int) (h : a.length < 9223372036854775807) : Ev (fun k => geyserref02_Same.f k a a) true := by
  unfold geyserref02_Same.f
  simp only [if_true]
  exact samen_l0 a [] (by simpa using h)
theorem tells02_flat (c : ByteArray) (n : Int) (h : n ≠ 0) : geyserlaw02_tells.f [⟨c, true, n⟩] n c = some true := by
  unfold geyserlaw02_tells.f
  rw [if_neg h]
  simp
theorem packs_tells (l : List Int) (n : Int) : geyserlaw02_tells.f (packR l n).2 (chk l n) packName = some true := by
  unfold packR chk
  by_cases h : colsBad l n = 0
  · rw [if_pos h, if_pos h]
    by_cases hd : l.Nodup
    · rw [if_pos hd, if_pos hd]; rfl
    · rw [if_neg hd, if_neg hd]; exact tells02_flat _ 2 (by decide)
  · rw [if_neg h, if_neg h]; exact tells02_flat _ 1 (by decide)
theorem packs_j0 (l : List Int) (n : Int) (hl : l.length < 1000000) : Ev (fun k => geyserlaw02_PackedPacks.j0 k l n (packR l n).1 (chk l n) false) true := by
  have bad : ∀ e : Int, e ≠ 0 → Ev (fun k => geyserlaw02_PackedPacks.j0 k l n [] e false) true := by
    intro e he
    refine Ev.step (f := fun k => (geyserlaw02_awake.f k).bind fun t => some t) (fun k => ?_) (Ev.bind awake02_ev (Ev.now _))
    rw [geyserlaw02_PackedPacks.j0, if_neg (by decide), if_neg he, if_pos (by simp)]
  unfold packR chk
  by_cases h : colsBad l n = 0
  · rw [if_pos h, if_pos h]
    by_cases hd : l.Nodup
    · rw [if_pos hd, if_pos hd]
      obtain ⟨h0, h1, _⟩ := colsBad_zero h
      have hp := rpack_ev l n hl h0 h1
      have hlen : (wordsOf l 0 (nW n)).length = nW n := by simp [wordsOf]
      have hw : nW n ≤ 64 := by unfold nW; omega
      refine Ev.step (f := fun k => (geyserref02_Pack.f k l n).bind fun t521 => ((geyserref02_SameWords.f k (packs (List.replicate (nW n) 0) l) t521).bind fun t524 => (if t524 = true then ((geyserlaw02_awake.f k).bind fun t525 => (some t525)) else (some false)))) (fun k => ?_) (Ev.bind hp ?_)
      · rw [geyserlaw02_PackedPacks.j0, if_neg (by decide), if_pos rfl]
      · rw [packs_words l n h]
        refine Ev.bind (same_ev _ (by omega)) ?_
        simp only [if_true]
        exact Ev.bind awake02_ev (Ev.now _)
    · rw [if_neg hd, if_neg hd]; exact bad 2 (by decide)
  · rw [if_neg h, if_neg h]; exact bad 1 (by decide)
theorem PackedPacks (l : List Int) (n : Int) : ∃ k, geyserlaw02_PackedPacks.f k l n = some true := by
  refine Ev.rounds (g := fun k => geyserlaw02_PackedPacks.f k l n) ?_
  unfold geyserlaw02_PackedPacks.f
  by_cases hn : (l.length : Int) > 300
  · simp only [if_pos hn]
    exact Ev.bind awake02_ev (Ev.now _)
  · simp only [if_neg hn, Option.bind_some, List.nil_append, List.length_nil, Nat.zero_add]
    simp only [if_pos (show l.length < 17592186044416 by omega)]
    refine Ev.bind (pack2_ev l n (by omega)) ?_
    refine Ev.bind (rchk_ev l n (by omega)) ?_
    rw [show (⟨#[112, 97, 99, 107, 101, 100, 46, 80, 97, 99, 107]⟩ : ByteArray) = packName from rfl]
    simp only [packs_tells, Option.bind_some, if_true]
    refine Ev.bind (samen_ev l (by omega)) ?_
    simp only [if_true, psz_eq, Option.bind_some]
    refine Ev.bind (rsz_ev n) ?_
    simp only [bne_self_eq_false]
    exact packs_j0 l n (by omega)
end Go.Proofs.YtnigpfaecibdfaaDoor.Pure
