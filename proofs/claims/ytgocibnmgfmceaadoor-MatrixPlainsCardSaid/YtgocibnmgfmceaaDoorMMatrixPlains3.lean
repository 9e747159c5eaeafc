-- joined by merge.py: Px70 Px71 PureRPack Px72 Px73 PureM4 Px66 Px67 PureSame3 Px74 PureMatrixPlains
import Derived.RegionTactic
import Derived.BigRegion
import Derived.Test.YtgocibnmgfmceaaDoorWOpen
import Derived.Test.YtgocibnmgfmceaaDoorMMatrixPlains2
namespace Go.Proofs.YtgocibnmgfmceaaDoor.P
open Go.RowKit Go.Proofs.YtgocibnmgfmceaaDoorW.PrintWords Go.Proofs.YtgocibnmgfmceaaDoorW.PrintLast Go.Proofs.YtgocibnmgfmceaaDoorW.PrintErr Go.Proofs.YtgocibnmgfmceaaDoorW.PrintMore
attribute [local go_sem] max2_int min2_int max_two min_two max_three min_three max_four min_four run_eql_errOf run_neq_errOf eqGuard_errOf   -- for this text's walks alone
set_option linter.unusedVariables false
set_option linter.unusedSimpArgs false

/-! ### geyserref02_In: function 71 -/
def geyserref02_In.l0 : Nat → List Int → Int → Int → Option (Bool)
 | 0, _, _, _ => none
 | k + 1, x0, x1, x5 => if x5 < (x0.length : Int) then (if 0 ≤ x5 then (if (rd x0 x5) = x1 then (some true) else (geyserref02_In.l0 k x0 x1 (wrap64 (x5 + 1)))) else (none)) else (some false)
def geyserref02_In.f (k : Nat) (l0 : List Int) (a1 : Int) : Option (Bool) := geyserref02_In.l0 k l0 a1 0
theorem geyserref02_In.mono_l : ∀ k, (∀ y0 y1 y2, LeO (geyserref02_In.l0 k y0 y1 y2) (geyserref02_In.l0 (k + 1) y0 y1 y2))
 | 0 => fun _ _ _ r h => by simp [geyserref02_In.l0] at h
 | k + 1 => by
  have ih0 := geyserref02_In.mono_l k
  ·intro y0 y1 y2
   unfold geyserref02_In.l0
   repeat' first
   | (with_reducible exact ih0 _ _ _)
   | (with_reducible exact LeO.refl _)
   | (with_reducible exact LeO.none _)
   | (with_reducible refine LeO.ite ?_ ?_)
   | (with_reducible refine LeO.bind ?_ (fun _ => ?_))
   | exact ih0 _ _ _
   | exact LeO.none _
   | refine LeO.ite ?_ ?_
   | refine LeO.bind ?_ (fun _ => ?_)
theorem geyserref02_In.mono : ∀ a0 a1 k, LeO (geyserref02_In.f k a0 a1) (geyserref02_In.f (k + 1) a0 a1) := by
 intro a0 a1 k
 have ih0 := geyserref02_In.mono_l k
 unfold geyserref02_In.f
 repeat' first
   | (with_reducible exact ih0 _ _ _)
   | (with_reducible exact LeO.refl _)
   | (with_reducible exact LeO.none _)
   | (with_reducible refine LeO.ite ?_ ?_)
   | (with_reducible refine LeO.bind ?_ (fun _ => ?_))
   | exact ih0 _ _ _
   | exact LeO.none _
   | refine LeO.ite ?_ ?_
   | refine LeO.bind ?_ (fun _ => ?_)
set_option maxHeartbeats 8000000 in
set_option maxRecDepth 100000 in
theorem geyserref02_In.calls (k : Nat) (A0 : Option Addr) (c0 : Nat) (l0 : List Int) (a1 : Int) (r : Bool) (w : World) (hr0 : Kd.C (Kd.int .i64) w A0 l0.length l0) (hc0 : l0.length ≤ c0) (h : geyserref02_In.f k l0 a1 = some r) :
  Calls Tryd.prog 71 #[.slice A0 l0.length c0, .int .i64 a1] w fun e w' => e = .returned (.bool r) ∧ Drawn0 w w' := by
 have HR0 := Aside0.mk hr0
 have HC0 := Aside0.mk hc0
 clear hr0 hc0
 have H : (geyserref02_In.l0 k l0 a1 0) = some r := h
 clear h
 have H' := Aside0.mk H
 clear H
 go_enter Tryd.func71, Tryd.ntmps71
 go_wp2
 go_loopg [5] k (fun kq v5 w' => ∃ (x5_1 : Int), v5 = .int .i64 x5_1 ∧ Aside0 (geyserref02_In.l0 kq l0 a1 x5_1 = some r) ∧ Aside0 (kq ≤ k) ∧ Drawn0 w w')
 case atStart => exact ⟨(0), (by first | rfl | (simp; done) | (simp [*]; done)), H', ⟨Nat.le_refl _⟩, by repeat (first | exact Drawn0.refl _ | apply Drawn0.step)⟩
 case round =>
  clear H'
  try clear p2
  obtain ⟨x5_1, rfl, HA, HK1, ⟨m1, rfl⟩⟩ := hrel
  cases gk with
  | zero => exact absurd HA.out (by simp [geyserref02_In.l0])
  | succ k1 =>
   have H := HA.out
   clear HA
   simp only [geyserref02_In.l0] at H
   by_cases c3 : x5_1 < (l0.length : Int)
   ·rw [if_pos c3] at H
    have c3b0 : decide (x5_1 < (l0.length : Int)) = true := decide_eq_true c3
    clear c3
    by_cases c4 : 0 ≤ x5_1
    ·rw [if_pos c4] at H
     have c4b0 : decide (0 ≤ x5_1) = true := decide_eq_true c4
     clear c4
     by_cases c5 : (rd l0 x5_1) = a1
     ·rw [if_pos c5] at H
      have c5b0 : ((rd l0 x5_1) == a1) = true := beq_iff_eq.mpr c5
      have c5b1 : ((rd l0 x5_1) != a1) = false := bne_eq_false_iff_eq.mpr c5
      clear c5
      obtain rfl := Option.some.inj H
      have p533 : 0 ≤ (x5_1 : Int) := of_decide_eq_true (by first | (with_reducible assumption) | assumption)
      have q533 : x5_1 < (l0.length : Int) := of_decide_eq_true (by first | (with_reducible assumption) | assumption)
      obtain ⟨ad533, e533, hx533_0⟩ := Kd.at_int HR0.out x5_1 p533 q533
      cases e533
      replace p533 := eq_true p533
      replace q533 := eq_true q533
      go_wp2
      go_ret
      exact ⟨by first | rfl | (simp; done) | (simp [*]; done), by repeat (first | exact Drawn0.refl _ | apply Drawn0.step)⟩
     ·rw [if_neg c5] at H
      have c5b0 : ((rd l0 x5_1) == a1) = false := beq_eq_false_iff_ne.mpr c5
      have c5b1 : ((rd l0 x5_1) != a1) = true := bne_iff_ne.mpr c5
      have H' := Aside0.mk H
      clear H
      have p533 : 0 ≤ (x5_1 : Int) := of_decide_eq_true (by first | (with_reducible assumption) | assumption)
      have q533 : x5_1 < (l0.length : Int) := of_decide_eq_true (by first | (with_reducible assumption) | assumption)
      obtain ⟨ad533, e533, hx533_0⟩ := Kd.at_int HR0.out x5_1 p533 q533
      cases e533
      replace p533 := eq_true p533
      replace q533 := eq_true q533
      go_wp2
      go_roundg k1
      case measure => have := HK1.out; omega
      case rel => exact ⟨(wrap64 (x5_1 + 1)), (by first | rfl | (simp; done) | (simp [*]; done)), H', ⟨by have := HK1.out; omega⟩, by repeat (first | exact Drawn0.refl _ | apply Drawn0.step)⟩
    ·rw [if_neg c4] at H
     exact absurd H (by simp)
   ·rw [if_neg c3] at H
    have c3b0 : decide (x5_1 < (l0.length : Int)) = false := decide_eq_false c3
    clear c3
    obtain rfl := Option.some.inj H
    go_wp2
    go_ret
    exact ⟨by first | rfl | (simp; done) | (simp [*]; done), by repeat (first | exact Drawn0.refl _ | apply Drawn0.step)⟩


/-! ### geyserref02_Pack: function 56 -/
mutual
def geyserref02_Pack.l0 : Nat → List Int → Int → List Int → Int → Option (List Int)
 | 0, _, _, _, _ => none
 | k + 1, x0, x1, x5, x6 => (geyserref02_Size.f k x1).bind fun t537 => (if x6 < t537 then (geyserref02_Pack.l1 k x0 x1 x5 x6 0 63) else (some x5))
def geyserref02_Pack.l1 : Nat → List Int → Int → List Int → Int → Int → Int → Option (List Int)
 | 0, _, _, _, _, _, _ => none
 | k + 1, x0, x1, x5, x6, x7, x8 => if x8 ≥ 0 then ((geyserref02_In.f k x0 (wrap64 ((wrap64 (64 * x6)) + x8))).bind fun t538 => (if t538 = true then (geyserref02_Pack.l1 k x0 x1 x5 x6 (IntKind.u64.wrap ((IntKind.u64.wrap (2 * x7)) + 1)) (wrap64 (x8 - 1))) else (geyserref02_Pack.l1 k x0 x1 x5 x6 (IntKind.u64.wrap (2 * x7)) (wrap64 (x8 - 1))))) else (if x5.length < 17592186044416 then (geyserref02_Pack.l0 k x0 x1 (x5 ++ [x7]) (wrap64 (x6 + 1))) else (none))
end
def geyserref02_Pack.f (k : Nat) (l0 : List Int) (a1 : Int) : Option (List Int) := geyserref02_Pack.l0 k l0 a1 (([] : List Int)) 0
theorem geyserref02_Pack.mono_l : ∀ k, (∀ y0 y1 y2 y3, LeO (geyserref02_Pack.l0 k y0 y1 y2 y3) (geyserref02_Pack.l0 (k + 1) y0 y1 y2 y3)) ∧ (∀ y0 y1 y2 y3 y4 y5, LeO (geyserref02_Pack.l1 k y0 y1 y2 y3 y4 y5) (geyserref02_Pack.l1 (k + 1) y0 y1 y2 y3 y4 y5))
 | 0 => ⟨fun _ _ _ _ r h => by simp [geyserref02_Pack.l0] at h, fun _ _ _ _ _ _ r h => by simp [geyserref02_Pack.l1] at h⟩
 | k + 1 => by
  obtain ⟨ih0, ih1⟩ := geyserref02_Pack.mono_l k
  refine ⟨?_, ?_⟩
  ·intro y0 y1 y2 y3
   unfold geyserref02_Pack.l0
   repeat' first
   | (with_reducible exact ih0 _ _ _ _)
   | (with_reducible exact ih1 _ _ _ _ _ _)
   | (with_reducible exact geyserref02_In.mono _ _ _)
   | (with_reducible exact geyserref02_Size.mono _ _)
   | (with_reducible exact LeO.refl _)
   | (with_reducible exact LeO.none _)
   | (with_reducible refine LeO.ite ?_ ?_)
   | (with_reducible refine LeO.bind ?_ (fun _ => ?_))
   | exact ih0 _ _ _ _
   | exact ih1 _ _ _ _ _ _
   | exact geyserref02_In.mono _ _ _
   | exact geyserref02_Size.mono _ _
   | exact LeO.none _
   | refine LeO.ite ?_ ?_
   | refine LeO.bind ?_ (fun _ => ?_)
  ·intro y0 y1 y2 y3 y4 y5
   unfold geyserref02_Pack.l1
   repeat' first
   | (with_reducible exact ih0 _ _ _ _)
   | (with_reducible exact ih1 _ _ _ _ _ _)
   | (with_reducible exact geyserref02_In.mono _ _ _)
   | (with_reducible exact geyserref02_Size.mono _ _)
   | (with_reducible exact LeO.refl _)
   | (with_reducible exact LeO.none _)
   | (with_reducible refine LeO.ite ?_ ?_)
   | (with_reducible refine LeO.bind ?_ (fun _ => ?_))
   | exact ih0 _ _ _ _
   | exact ih1 _ _ _ _ _ _
   | exact geyserref02_In.mono _ _ _
   | exact geyserref02_Size.mono _ _
   | exact LeO.none _
   | refine LeO.ite ?_ ?_
   | refine LeO.bind ?_ (fun _ => ?_)
theorem geyserref02_Pack.mono : ∀ a0 a1 k, LeO (geyserref02_Pack.f k a0 a1) (geyserref02_Pack.f (k + 1) a0 a1) := by
 intro a0 a1 k
 obtain ⟨ih0, ih1⟩ := geyserref02_Pack.mono_l k
 unfold geyserref02_Pack.f
 repeat' first
   | (with_reducible exact ih0 _ _ _ _)
   | (with_reducible exact ih1 _ _ _ _ _ _)
   | (with_reducible exact geyserref02_In.mono _ _ _)
   | (with_reducible exact geyserref02_Size.mono _ _)
   | (with_reducible exact LeO.refl _)
   | (with_reducible exact LeO.none _)
   | (with_reducible refine LeO.ite ?_ ?_)
   | (with_reducible refine LeO.bind ?_ (fun _ => ?_))
   | exact ih0 _ _ _ _
   | exact ih1 _ _ _ _ _ _
   | exact geyserref02_In.mono _ _ _
   | exact geyserref02_Size.mono _ _
   | exact LeO.none _
   | refine LeO.ite ?_ ?_
   | refine LeO.bind ?_ (fun _ => ?_)
set_option maxHeartbeats 8000000 in
set_option maxRecDepth 100000 in
theorem geyserref02_Pack.calls (k : Nat) (A0 : Option Addr) (c0 : Nat) (l0 : List Int) (a1 : Int) (r : List Int) (w : World) (hr0 : Kd.C (Kd.int .i64) w A0 l0.length l0) (hc0 : l0.length ≤ c0) (h : geyserref02_Pack.f k l0 a1 = some r) :
  Calls Tryd.prog 56 #[.slice A0 l0.length c0, .int .i64 a1] w fun e w' => ∃ v0_ : Value, e = .returned (v0_) ∧ Kd.R (Kd.int .u64) 29 w' w.heap.size (fun _ => True) v0_ r ∧ Below w.heap.size w w' := by
 have HR0 := Aside0.mk hr0
 have HC0 := Aside0.mk hc0
 clear hr0 hc0
 have HB := Aside0.mk (Below.refl w.heap.size w)
 have H : (geyserref02_Pack.l0 k l0 a1 (([] : List Int)) 0) = some r := h
 clear h
 obtain ⟨y534, hy534⟩ : ∃ y_ : List Int, y_ = (([] : List Int)) := ⟨_, rfl⟩
 replace H : (geyserref02_Pack.l0 k l0 a1 y534 0) = some r := by first | (rw [hy534]; with_reducible exact H) | (have H2_ := (Option.bind_some _ _).symm.trans H; rw [hy534]; with_reducible exact H2_) | (have H2_ := (Option.bind_some _ _).symm.trans H; with_reducible exact H2_) | with_reducible exact H | (rw [hy534]; exact H) | exact H
 have Ny534 := Aside0.mk hy534
 clear hy534
 have H' := Aside0.mk H
 clear H
 go_enter Tryd.func56, Tryd.ntmps56
 go_wp2_with (first | ((with_reducible refine gate_dst (N := 9) rfl ?_); refine Kd.R_lit (Kd.int .u64) _ 29 ?hg (N := 9) ?hd (xs := ([] : List Int)) (inner := []) (ok := fun _ => True) (okp := fun _ => True) ?hr ?hp (fun _ hk => hk) trivial (Below.refl _ _) (Nat.le_refl _) (by simp) ?_; (case hd => rfl); (case hg => rfl); (case hr => first | (go_simp; done) | (go_simp; rfl)); (case hp => exact (Reps.none _ _)); intro v535 w3 ho4 hb hg_ hnew_; clear hg_ hnew_; (first | rw [← Ny534.out] at ho4 | (simp only [Int.reduceToNat] at ho4; rw [← Ny534.out] at ho4)); have n0_ := Aside0.mk (Kd.R_lower ho4 (below_size (by repeat (first | (with_reducible first | exact HB.out | apply below_alloc | apply pw_below_drewN | apply below_drew1) | exact HB.out)))); have n1_ := Aside0.mk (below_step (by repeat (first | (with_reducible first | exact HB.out | apply below_alloc | apply pw_below_drewN | apply below_drew1) | exact HB.out)) hb); clear HB; have HO536 := n0_; have HB := n1_; clear n0_ n1_; clear hb ho4))
 go_loopg [5, 6] k (fun kq v5 v6 w' => ∃ (x5_1 : List Int) (x6_1 : Int), v6 = .int .i64 x6_1 ∧ Aside0 (geyserref02_Pack.l0 kq l0 a1 x5_1 x6_1 = some r) ∧ Aside0 (kq ≤ k) ∧ Aside0 (Kd.R (Kd.int .u64) 29 w' w.heap.size (fun _ => True) v5 x5_1) ∧ Aside0 (Below w.heap.size w w'))
 case atStart => exact ⟨(y534), (0), (by first | rfl | (simp; done) | (simp [*]; done)), H', ⟨Nat.le_refl _⟩, ⟨by (with_reducible repeat (first | apply Kd.R_alloc | apply Kd.R_drewN | apply Kd.R_drew)); exact HO536.out⟩, ⟨by repeat (first | (with_reducible first | exact HB.out | apply below_alloc | apply pw_below_drewN | apply below_drew1) | exact HB.out)⟩⟩
 case round =>
  clear H'
  try clear p2
  obtain ⟨x5_1, x6_1, rfl, HA, HK1, HO_5, HB⟩ := hrel
  cases gk with
  | zero => exact absurd HA.out (by simp [geyserref02_Pack.l0])
  | succ k1 =>
   have H := HA.out
   clear HA
   simp only [geyserref02_Pack.l0] at H
   replace H := Option.bind_eq_some_iff.mp H
   obtain ⟨t537, A50, H⟩ := H
   replace H : (if x6_1 < t537 then (geyserref02_Pack.l1 k1 l0 a1 x5_1 x6_1 0 63) else (some x5_1)) = some r := H
   have A5 := Aside0.mk A50
   clear A50
   by_cases c6 : x6_1 < t537
   ·rw [if_pos c6] at H
    have c6b0 : decide (x6_1 < t537) = true := decide_eq_true c6
    clear c6
    have H' := Aside0.mk H
    clear H
    go_wp2_with (first | ((with_reducible refine gate_callee (f := 13) rfl ?_); refine goesL_ (some 12) rfl rfl Tryd.func13 (by kernel_rfl) rfl #[.int .i64 a1] rfl (by (try simp only [List.map_toArray, List.map_cons, List.map_nil]); first | done | rfl | (simp only [List.length_drop, List.length_take]; rfl)) ?_; (with_reducible refine (geyserref02_Size.calls k1 a1 t537 _ A5.out).mono ?_); rintro e w' ⟨rfl, ⟨nd, rfl⟩⟩; refine ⟨_, rfl, ?_⟩))
    go_loopg [7, 8] k1 (fun kq v7 v8 w' => ∃ (x7_2 : Int) (x8_2 : Int), v7 = .int .u64 x7_2 ∧ v8 = .int .i64 x8_2 ∧ Aside0 (geyserref02_Pack.l1 kq l0 a1 x5_1 x6_1 x7_2 x8_2 = some r) ∧ Aside0 (kq ≤ k1) ∧ Aside0 (Kd.R (Kd.int .u64) 29 w' w.heap.size (fun _ => True) u5 x5_1) ∧ Aside0 (Below w.heap.size w w'))
    case atStart => exact ⟨(0), (63), (by first | rfl | (simp; done) | (simp [*]; done)), (by first | rfl | (simp; done) | (simp [*]; done)), H', ⟨Nat.le_refl _⟩, ⟨by (with_reducible repeat (first | apply Kd.R_alloc | apply Kd.R_drewN | apply Kd.R_drew)); exact HO_5.out⟩, ⟨by repeat (first | (with_reducible first | exact HB.out | apply below_alloc | apply pw_below_drewN | apply below_drew1) | exact HB.out)⟩⟩
    case round =>
     clear H'
     try clear c1
     try clear p2
     try clear c5
     try clear c6
     try clear c6b0
     try clear p2
     obtain ⟨x7_2, x8_2, rfl, rfl, HA, HK2, HO_5, HB⟩ := hrel
     cases gk with
     | zero => exact absurd HA.out (by simp [geyserref02_Pack.l1])
     | succ k2 =>
      have H := HA.out
      clear HA
      simp only [geyserref02_Pack.l1] at H
      by_cases c7 : x8_2 ≥ 0
      ·rw [if_pos c7] at H
       have c7b0 : decide (0 ≤ x8_2) = true := decide_eq_true c7
       clear c7
       replace H := Option.bind_eq_some_iff.mp H
       obtain ⟨t538, A80, H⟩ := H
       replace H : (if t538 = true then (geyserref02_Pack.l1 k2 l0 a1 x5_1 x6_1 (IntKind.u64.wrap ((IntKind.u64.wrap (2 * x7_2)) + 1)) (wrap64 (x8_2 - 1))) else (geyserref02_Pack.l1 k2 l0 a1 x5_1 x6_1 (IntKind.u64.wrap (2 * x7_2)) (wrap64 (x8_2 - 1)))) = some r := H
       have A8 := Aside0.mk A80
       clear A80
       by_cases c9 : t538 = true
       ·subst c9
        have H1 : (geyserref02_Pack.l1 k2 l0 a1 x5_1 x6_1 (IntKind.u64.wrap ((IntKind.u64.wrap (2 * x7_2)) + 1)) (wrap64 (x8_2 - 1))) = some r := by rw [if_pos rfl] at H; exact H
        clear H
        have H := H1
        clear H1
        have H' := Aside0.mk H
        clear H
        go_wp2_with (first | ((with_reducible refine gate_callee (f := 71) rfl ?_); refine goesL_ (some 27) rfl rfl Tryd.func71 (by kernel_rfl) rfl #[.slice A0 l0.length c0, .int .i64 (wrap64 ((wrap64 (64 * x6_1)) + x8_2))] rfl (by (try simp only [List.map_toArray, List.map_cons, List.map_nil]); first | done | rfl | (simp only [List.length_drop, List.length_take]; rfl)) ?_; (with_reducible refine (geyserref02_In.calls k2 _ _ l0 (wrap64 ((wrap64 (64 * x6_1)) + x8_2)) true _ ?side1 ?side2 A8.out).mono ?_); (case side1 => repeat (first | exact (Kd.C_below HR0.out HB.out) | (with_reducible refine Kd.C_alloc ?_ _) | (with_reducible refine Kd.C_drewN ?_ _) | (with_reducible refine Kd.C_drew ?_))); (case side2 => exact HC0.out); rintro e w' ⟨rfl, ⟨nd, rfl⟩⟩; refine ⟨_, rfl, ?_⟩))
        go_roundg k2
        case measure => have := HK1.out; have := HK2.out; omega
        case rel => exact ⟨(IntKind.u64.wrap ((IntKind.u64.wrap (2 * x7_2)) + 1)), (wrap64 (x8_2 - 1)), (by first | rfl | (simp; done) | (simp [*]; done)), (by first | rfl | (simp; done) | (simp [*]; done)), H', ⟨by have := HK1.out; have := HK2.out; omega⟩, ⟨by (with_reducible repeat (first | apply Kd.R_alloc | apply Kd.R_drewN | apply Kd.R_drew)); exact HO_5.out⟩, ⟨by repeat (first | (with_reducible first | exact HB.out | apply below_alloc | apply pw_below_drewN | apply below_drew1) | exact HB.out)⟩⟩
       ·replace c9 := Bool.eq_false_iff.mpr c9
        subst c9
        have H1 : (geyserref02_Pack.l1 k2 l0 a1 x5_1 x6_1 (IntKind.u64.wrap (2 * x7_2)) (wrap64 (x8_2 - 1))) = some r := by rw [if_neg (show ¬ (false = true) by decide)] at H; exact H
        clear H
        have H := H1
        clear H1
        have H' := Aside0.mk H
        clear H
        go_wp2_with (first | ((with_reducible refine gate_callee (f := 71) rfl ?_); refine goesL_ (some 27) rfl rfl Tryd.func71 (by kernel_rfl) rfl #[.slice A0 l0.length c0, .int .i64 (wrap64 ((wrap64 (64 * x6_1)) + x8_2))] rfl (by (try simp only [List.map_toArray, List.map_cons, List.map_nil]); first | done | rfl | (simp only [List.length_drop, List.length_take]; rfl)) ?_; (with_reducible refine (geyserref02_In.calls k2 _ _ l0 (wrap64 ((wrap64 (64 * x6_1)) + x8_2)) false _ ?side1 ?side2 A8.out).mono ?_); (case side1 => repeat (first | exact (Kd.C_below HR0.out HB.out) | (with_reducible refine Kd.C_alloc ?_ _) | (with_reducible refine Kd.C_drewN ?_ _) | (with_reducible refine Kd.C_drew ?_))); (case side2 => exact HC0.out); rintro e w' ⟨rfl, ⟨nd, rfl⟩⟩; refine ⟨_, rfl, ?_⟩))
        go_roundg k2
        case measure => have := HK1.out; have := HK2.out; omega
        case rel => exact ⟨(IntKind.u64.wrap (2 * x7_2)), (wrap64 (x8_2 - 1)), (by first | rfl | (simp; done) | (simp [*]; done)), (by first | rfl | (simp; done) | (simp [*]; done)), H', ⟨by have := HK1.out; have := HK2.out; omega⟩, ⟨by (with_reducible repeat (first | apply Kd.R_alloc | apply Kd.R_drewN | apply Kd.R_drew)); exact HO_5.out⟩, ⟨by repeat (first | (with_reducible first | exact HB.out | apply below_alloc | apply pw_below_drewN | apply below_drew1) | exact HB.out)⟩⟩
      ·rw [if_neg c7] at H
       have c7b0 : decide (0 ≤ x8_2) = false := decide_eq_false c7
       clear c7
       by_cases c10 : x5_1.length < 17592186044416
       ·rw [if_pos c10] at H
        have LMc10 := Aside0.mk c10
        clear c10
        obtain ⟨y539, hy539⟩ : ∃ y_ : List Int, y_ = (x5_1 ++ [x7_2]) := ⟨_, rfl⟩
        replace H : (geyserref02_Pack.l0 k2 l0 a1 y539 (wrap64 (x6_1 + 1))) = some r := by first | (rw [hy539]; with_reducible exact H) | (have H2_ := (Option.bind_some _ _).symm.trans H; rw [hy539]; with_reducible exact H2_) | (have H2_ := (Option.bind_some _ _).symm.trans H; with_reducible exact H2_) | with_reducible exact H | (rw [hy539]; exact H) | exact H
        have Ny539 := Aside0.mk hy539
        clear hy539
        have H' := Aside0.mk H
        clear H
        go_wp2_with (first | ((with_reducible refine gate_builtin (b := .append) (xs := #[.tmp 30, .tmp 32]) rfl ?_); at_builtin; refine Kd.R_append (Kd.int .u64) (w0 := w) w.heap.size rfl (.tmp 30) (.tmp 32) 27 29 (.int .u64 0) 8 rfl Tryd.underlying27 info29 rfl (by decide) (by omega) u5 x5_1 x7_2 [.int .u64 x7_2] (fun _ => True) (fun _ => False) rfl rfl ?aP (fun _ hk => hk.elim) ?aF ?aO ?aB ?aS ?aL ?_; (case aP => exact rfl); (case aB => exact (by repeat (first | (with_reducible first | exact HB.out | apply below_alloc | apply pw_below_drewN | apply below_drew1) | exact HB.out))); (case aF => exact (fun _ _ => trivial)); (case aO => exact (by (with_reducible repeat (first | apply Kd.R_alloc | apply Kd.R_drewN | apply Kd.R_drew)); exact HO_5.out)); (case aS => exact (below_size (by repeat (first | (with_reducible first | exact HB.out | apply below_alloc | apply pw_below_drewN | apply below_drew1) | exact HB.out)))); (case aL => have := LMc10.out; omega); intro v540 w11 ho hb hg hat; rw [← Ny539.out] at ho; have n0_ := Aside0.mk (hb); have n1_ := Aside0.mk (ho); clear HB; clear HO_5; have HB := n0_; have HO541 := n1_; clear n0_ n1_; clear ho hb hg hat))
        go_roundg k2
        case measure => have := HK1.out; have := HK2.out; omega
        case rel => exact ⟨(y539), (wrap64 (x6_1 + 1)), (by first | rfl | (simp; done) | (simp [*]; done)), H', ⟨by have := HK1.out; have := HK2.out; omega⟩, ⟨by (with_reducible repeat (first | apply Kd.R_alloc | apply Kd.R_drewN | apply Kd.R_drew)); exact HO541.out⟩, ⟨by repeat (first | (with_reducible first | exact HB.out | apply below_alloc | apply pw_below_drewN | apply below_drew1) | exact HB.out)⟩⟩
       ·rw [if_neg c10] at H
        exact absurd H (by simp)
   ·rw [if_neg c6] at H
    have c6b0 : decide (x6_1 < t537) = false := decide_eq_false c6
    clear c6
    obtain rfl := Option.some.inj H
    go_wp2_with (first | ((with_reducible refine gate_callee (f := 13) rfl ?_); refine goesL_ (some 12) rfl rfl Tryd.func13 (by kernel_rfl) rfl #[.int .i64 a1] rfl (by (try simp only [List.map_toArray, List.map_cons, List.map_nil]); first | done | rfl | (simp only [List.length_drop, List.length_take]; rfl)) ?_; (with_reducible refine (geyserref02_Size.calls k1 a1 t537 _ A5.out).mono ?_); rintro e w' ⟨rfl, ⟨nd, rfl⟩⟩; refine ⟨_, rfl, ?_⟩))
    go_ret
    exact ⟨_, by first | rfl | (simp [errW_none, errW_some] <;> rfl) | (simp [*, errW_none, errW_some] <;> rfl), by (with_reducible repeat (first | apply Kd.R_alloc | apply Kd.R_drewN | apply Kd.R_drew)); exact HO_5.out, by repeat (first | (with_reducible first | exact HB.out | apply below_alloc | apply pw_below_drewN | apply below_drew1) | exact HB.out)⟩

end Go.Proofs.YtgocibnmgfmceaaDoor.P

namespace Go.Proofs.YtgocibnmgfmceaaDoor.Pure
open Go.RowKit Go.Proofs.YtgocibnmgfmceaaDoor.P Go.Proofs.YtgocibnmgfmceaaDoorW.PrintWords Go.Proofs.YtgocibnmgfmceaaDoorW.PrintLast Go.Proofs.YtgocibnmgfmceaaDoorW.PrintErr Go.Proofs.YtgocibnmgfmceaaDoorW.PrintMore
set_option linter.unusedVariables false
set_option linter.unusedSimpArgs false
theorem in_l0 (v : Int) (S : List Int) : ∀ P : List Int, (P ++ S).length < 9223372036854775807 → Ev (fun k => geyserref02_In.l0 k (P ++ S) v (P.length : Int)) (decide (v ∈ S)) := by
  induction S with
  | nil =>
    intro P hP
    refine Ev.step (f := fun _ => some false) (fun k => ?_) (Ev.congr (fun _ => by simp) (Ev.now _))
    rw [geyserref02_In.l0, if_neg (by simp)]
  | cons c S ih =>
    intro P hP
    have hlen : (P ++ c :: S).length = P.length + (S.length + 1) := by simp
    by_cases hc : c = v
    · subst hc
      refine Ev.step (f := fun _ => some true) (fun k => ?_) (Ev.congr (fun _ => by simp) (Ev.now _))
      rw [geyserref02_In.l0, if_pos (by omega), if_pos (by omega), rd_mid, if_pos rfl]
    · have h' := ih (P ++ [c]) (by simpa using hP)
      have e1 : P ++ [c] ++ S = P ++ c :: S := by simp
      have e2 : ((P ++ [c]).length : Int) = wrap64 ((P.length : Int) + 1) := by rw [w64s (by omega) (by omega)]; simp
      have e3 : decide (v ∈ c :: S) = decide (v ∈ S) := by
        have : ¬ v = c := fun h => hc h.symm
        simp [this]
      rw [e1, e2] at h'
      rw [e3]
      refine Ev.step (fun k => ?_) h'
      rw [geyserref02_In.l0, if_pos (by omega), if_pos (by omega), rd_mid, if_neg hc]
theorem in_ev (l : List Int) (v : Int) (hl : l.length < 9223372036854775807) : Ev (fun k => geyserref02_In.f k l v) (decide (v ∈ l)) := in_l0 v l [] (by simpa using hl)

def hiW (l : List Int) (base : Nat) : Nat → Nat
  | 0 => 0
  | t + 1 => 2 * hiW l base t + (if ((base + (63 - t) : Nat) : Int) ∈ l then 1 else 0)
theorem hiW_lt (l : List Int) (base : Nat) : ∀ t, hiW l base t < 2 ^ t
  | 0 => by simp [hiW]
  | t + 1 => by have := hiW_lt l base t; rw [hiW, Nat.pow_succ]; split <;> omega
theorem hiW_bit (l : List Int) (base : Nat) : ∀ t, t ≤ 64 → ∀ j, (hiW l base t).testBit j = (decide (j < t) && decide (((base + (64 - t + j) : Nat) : Int) ∈ l))
  | 0, _, j => by simp [hiW]
  | t + 1, ht, 0 => by
    rw [hiW, Nat.testBit_zero]
    have e : base + (64 - (t + 1) + 0) = base + (63 - t) := by omega
    rw [e]
    by_cases h : ((base + (63 - t) : Nat) : Int) ∈ l
    · rw [if_pos h, decide_eq_true h, decide_eq_true (show 0 < t + 1 by omega)]
      have : (2 * hiW l base t + 1) % 2 = 1 := by omega
      rw [this]; rfl
    · rw [if_neg h, decide_eq_false h]
      have : (2 * hiW l base t + 0) % 2 = 0 := by omega
      rw [this]; simp
  | t + 1, ht, j + 1 => by
    rw [hiW, Nat.testBit_succ]
    have e1 : (2 * hiW l base t + (if ((base + (63 - t) : Nat) : Int) ∈ l then 1 else 0)) / 2 = hiW l base t := by split <;> omega
    rw [e1, hiW_bit l base t (by omega) j]
    have e2 : base + (64 - t + j) = base + (64 - (t + 1) + (j + 1)) := by omega
    rw [e2]
    have e3 : decide (j < t) = decide (j + 1 < t + 1) := by rw [decide_eq_decide]; omega
    rw [e3]
theorem wrapu_nat (a : Nat) (ha : a < 18446744073709551616) : IntKind.u64.wrap (a : Int) = (a : Int) := by rw [IntKind.wrap_u64]; omega
theorem rpack_l1 (l : List Int) (n : Int) (hl : l.length < 1000000) (acc : List Int) (i : Nat) (r : List Int) (hi : i ≤ 1000) (hacc : acc.length ≤ 1000)
    (h : Ev (fun k => geyserref02_Pack.l0 k l n (acc ++ [((hiW l (64 * i) 64 : Nat) : Int)]) ((i + 1 : Nat) : Int)) r) : ∀ d t : Nat, t + d = 64 →
    Ev (fun k => geyserref02_Pack.l1 k l n acc (i : Int) ((hiW l (64 * i) t : Nat) : Int) (63 - (t : Int))) r := by
  intro d
  induction d with
  | zero =>
    intro t ht
    obtain rfl : t = 64 := by omega
    refine Ev.step (fun k => ?_) h
    rw [geyserref02_Pack.l1, if_neg (by omega), if_pos (by omega), w64s (by omega) (by omega)]
    rfl
  | succ d ih =>
    intro t ht
    have hlt := hiW_lt l (64 * i) (t + 1)
    have hp : 2 ^ (t + 1) ≤ 18446744073709551616 := by
      have : (2 : Nat) ^ (t + 1) ≤ 2 ^ 64 := Nat.pow_le_pow_right (by decide) (by omega)
      have e : (2 : Nat) ^ 64 = 18446744073709551616 := by decide
      omega
    have h' := ih (t + 1) (by omega)
    have e0 : (63 : Int) - ((t + 1 : Nat) : Int) = wrap64 (63 - (t : Int) - 1) := by rw [w64s (by omega) (by omega)]; omega
    have e1 : wrap64 (wrap64 (64 * (i : Int)) + (63 - (t : Int))) = ((64 * i + (63 - t) : Nat) : Int) := by
      rw [w64s (x := 64 * (i : Int)) (by omega) (by omega), w64s (by omega) (by omega)]; omega
    rw [e0] at h'
    have hin := in_ev l ((64 * i + (63 - t) : Nat) : Int) (by omega)
    refine Ev.step (f := fun k => (geyserref02_In.f k l ((64 * i + (63 - t) : Nat) : Int)).bind fun t499 => (if t499 = true then (geyserref02_Pack.l1 k l n acc (i : Int) (IntKind.u64.wrap ((IntKind.u64.wrap (2 * ((hiW l (64 * i) t : Nat) : Int))) + 1)) (wrap64 (63 - (t : Int) - 1))) else (geyserref02_Pack.l1 k l n acc (i : Int) (IntKind.u64.wrap (2 * ((hiW l (64 * i) t : Nat) : Int))) (wrap64 (63 - (t : Int) - 1))))) (fun k => ?_) ?_
    · rw [geyserref02_Pack.l1, if_pos (by omega), e1]
    · refine Ev.bind hin ?_
      rw [hiW] at hlt h'
      have e2 : (2 * ((hiW l (64 * i) t : Nat) : Int)) = ((2 * hiW l (64 * i) t : Nat) : Int) := by omega
      by_cases hm : ((64 * i + (63 - t) : Nat) : Int) ∈ l
      · rw [if_pos hm] at hlt h'
        rw [decide_eq_true hm, e2, wrapu_nat _ (by omega)]
        have e3 : ((2 * hiW l (64 * i) t : Nat) : Int) + 1 = ((2 * hiW l (64 * i) t + 1 : Nat) : Int) := by omega
        rw [e3, wrapu_nat _ (by omega)]
        refine Ev.congr (fun k => ?_) h'
        rw [if_pos rfl]
      · rw [if_neg hm] at hlt h'
        rw [decide_eq_false hm, e2, wrapu_nat _ (by omega)]
        rw [Nat.add_zero] at h'
        refine Ev.congr (fun k => ?_) h'
        rw [if_neg (by decide)]
def wordsOf (l : List Int) (s d : Nat) : List Int := (List.range' s d).map fun i => ((hiW l (64 * i) 64 : Nat) : Int)
theorem rpack_l0 (l : List Int) (n : Int) (hl : l.length < 1000000) (h0 : 0 ≤ n) (h1 : n ≤ 4096) : ∀ (d i : Nat) (acc : List Int), i + d = nW n → acc.length = i →
    Ev (fun k => geyserref02_Pack.l0 k l n acc (i : Int)) (acc ++ wordsOf l i d) := by
  have hs := rsz_ev n
  have es : szR n = (nW n : Int) := by unfold szR; rw [if_neg (by omega)]
  rw [es] at hs
  have hw : nW n ≤ 64 := by unfold nW; omega
  intro d
  induction d with
  | zero =>
    intro i acc hi hacc
    have e : wordsOf l i 0 = [] := rfl
    rw [e, List.append_nil]
    refine Ev.step (f := fun k => (geyserref02_Size.f k n).bind fun t498 => (if (i : Int) < t498 then (geyserref02_Pack.l1 k l n acc (i : Int) 0 63) else (some acc))) (fun k => ?_) (Ev.bind hs ?_)
    · rw [geyserref02_Pack.l0]
    · refine Ev.congr (fun k => ?_) (Ev.now _)
      rw [if_neg (by omega)]
  | succ d ih =>
    intro i acc hi hacc
    have h' := ih (i + 1) (acc ++ [((hiW l (64 * i) 64 : Nat) : Int)]) (by omega) (by simp [hacc])
    have e : acc ++ wordsOf l i (d + 1) = acc ++ [((hiW l (64 * i) 64 : Nat) : Int)] ++ wordsOf l (i + 1) d := by simp [wordsOf, List.range'_succ]
    rw [e]
    have hx := rpack_l1 l n hl acc i _ (by omega) (by omega) h' 64 0 (by omega)
    refine Ev.step (f := fun k => (geyserref02_Size.f k n).bind fun t498 => (if (i : Int) < t498 then (geyserref02_Pack.l1 k l n acc (i : Int) 0 63) else (some acc))) (fun k => ?_) (Ev.bind hs ?_)
    · rw [geyserref02_Pack.l0]
    · refine Ev.congr (fun k => ?_) hx
      rw [if_pos (by omega)]
      rfl
theorem rpack_ev (l : List Int) (n : Int) (hl : l.length < 1000000) (h0 : 0 ≤ n) (h1 : n ≤ 4096) : Ev (fun k => geyserref02_Pack.f k l n) (wordsOf l 0 (nW n)) := by
  have h := rpack_l0 l n hl h0 h1 (nW n) 0 [] (by omega) rfl
  rw [List.nil_append] at h
  exact h
theorem wordsOf_facts (l : List Int) (n : Nat) (hlt : ∀ c ∈ l, c < 64 * (n : Int)) : (wordsOf l 0 n).length = n ∧ (∀ a ∈ wordsOf l 0 n, U64 a) ∧ ∀ d : Nat, hasB (wordsOf l 0 n) d = decide ((d : Int) ∈ l) := by
  have hlen : (wordsOf l 0 n).length = n := by simp [wordsOf]
  refine ⟨hlen, ?_, ?_⟩
  · intro a ha
    obtain ⟨i, _, rfl⟩ := List.mem_map.1 ha
    have := hiW_lt l (64 * i) 64
    have e64 : (2 : Nat) ^ 64 = 18446744073709551616 := by decide
    exact ⟨by omega, by omega⟩
  · intro d
    unfold hasB
    rw [hlen]
    by_cases hd : d / 64 < n
    · have hg : (wordsOf l 0 n).getD (d / 64) 0 = ((hiW l (64 * (d / 64)) 64 : Nat) : Int) := by
        rw [List.getD_eq_getElem?_getD, List.getElem?_eq_getElem (by rw [hlen]; exact hd), Option.getD_some]
        simp [wordsOf]
      rw [hg, decide_eq_true hd, Bool.true_and, Int.toNat_natCast, hiW_bit l _ 64 (Nat.le_refl _), decide_eq_true (Nat.mod_lt _ (by decide)), Bool.true_and]
      have e : 64 * (d / 64) + (64 - 64 + d % 64) = d := by omega
      rw [e]
    · rw [decide_eq_false hd, Bool.false_and]
      refine (decide_eq_false (fun h => ?_)).symm
      have := hlt _ h
      omega
end Go.Proofs.YtgocibnmgfmceaaDoor.Pure

namespace Go.Proofs.YtgocibnmgfmceaaDoor.P
open Go.RowKit Go.Proofs.YtgocibnmgfmceaaDoorW.PrintWords Go.Proofs.YtgocibnmgfmceaaDoorW.PrintLast Go.Proofs.YtgocibnmgfmceaaDoorW.PrintErr Go.Proofs.YtgocibnmgfmceaaDoorW.PrintMore
attribute [local go_sem] max2_int min2_int max_two min_two max_three min_three max_four min_four run_eql_errOf run_neq_errOf eqGuard_errOf   -- for this text's walks alone
set_option linter.unusedVariables false
set_option linter.unusedSimpArgs false

/-! ### geyserref03_Words: function 42 -/
def geyserref03_Words.l0 : Nat → List Bool → List Int → Int → Option (List Int)
 | 0, _, _, _ => none
 | k + 1, x0, x3, x4 => if x4 < (x0.length : Int) then (if 0 ≤ x4 then (if rdOf false x0 x4 = true then (if x3.length < 17592186044416 then (geyserref03_Words.l0 k x0 (x3 ++ [x4]) (wrap64 (x4 + 1))) else (none)) else (geyserref03_Words.l0 k x0 x3 (wrap64 (x4 + 1)))) else (none)) else ((geyserref02_Pack.f k x3 (x0.length : Int)).bind fun t549 => (some t549))
def geyserref03_Words.f (k : Nat) (l0 : List Bool) : Option (List Int) := geyserref03_Words.l0 k l0 (([] : List Int)) 0
theorem geyserref03_Words.mono_l : ∀ k, (∀ y0 y1 y2, LeO (geyserref03_Words.l0 k y0 y1 y2) (geyserref03_Words.l0 (k + 1) y0 y1 y2))
 | 0 => fun _ _ _ r h => by simp [geyserref03_Words.l0] at h
 | k + 1 => by
  have ih0 := geyserref03_Words.mono_l k
  ·intro y0 y1 y2
   unfold geyserref03_Words.l0
   repeat' first
   | (with_reducible exact ih0 _ _ _)
   | (with_reducible exact geyserref02_Pack.mono _ _ _)
   | (with_reducible exact LeO.refl _)
   | (with_reducible exact LeO.none _)
   | (with_reducible refine LeO.ite ?_ ?_)
   | (with_reducible refine LeO.bind ?_ (fun _ => ?_))
   | exact ih0 _ _ _
   | exact geyserref02_Pack.mono _ _ _
   | exact LeO.none _
   | refine LeO.ite ?_ ?_
   | refine LeO.bind ?_ (fun _ => ?_)
theorem geyserref03_Words.mono : ∀ a0 k, LeO (geyserref03_Words.f k a0) (geyserref03_Words.f (k + 1) a0) := by
 intro a0 k
 have ih0 := geyserref03_Words.mono_l k
 unfold geyserref03_Words.f
 repeat' first
   | (with_reducible exact ih0 _ _ _)
   | (with_reducible exact geyserref02_Pack.mono _ _ _)
   | (with_reducible exact LeO.refl _)
   | (with_reducible exact LeO.none _)
   | (with_reducible refine LeO.ite ?_ ?_)
   | (with_reducible refine LeO.bind ?_ (fun _ => ?_))
   | exact ih0 _ _ _
   | exact geyserref02_Pack.mono _ _ _
   | exact LeO.none _
   | refine LeO.ite ?_ ?_
   | refine LeO.bind ?_ (fun _ => ?_)
set_option maxHeartbeats 8000000 in
set_option maxRecDepth 100000 in
theorem geyserref03_Words.calls (k : Nat) (A0 : Option Addr) (c0 : Nat) (l0 : List Bool) (r : List Int) (w : World) (hr0 : Kd.C Kd.bool w A0 l0.length l0) (hc0 : l0.length ≤ c0) (h : geyserref03_Words.f k l0 = some r) :
  Calls Tryd.prog 42 #[.slice A0 l0.length c0] w fun e w' => ∃ v0_ : Value, e = .returned (v0_) ∧ Kd.R (Kd.int .u64) 29 w' w.heap.size (fun _ => True) v0_ r ∧ Below w.heap.size w w' := by
 have HR0 := Aside0.mk hr0
 have HC0 := Aside0.mk hc0
 clear hr0 hc0
 have HB := Aside0.mk (Below.refl w.heap.size w)
 have H : (geyserref03_Words.l0 k l0 (([] : List Int)) 0) = some r := h
 clear h
 obtain ⟨y542, hy542⟩ : ∃ y_ : List Int, y_ = (([] : List Int)) := ⟨_, rfl⟩
 replace H : (geyserref03_Words.l0 k l0 y542 0) = some r := by first | (rw [hy542]; with_reducible exact H) | (have H2_ := (Option.bind_some _ _).symm.trans H; rw [hy542]; with_reducible exact H2_) | (have H2_ := (Option.bind_some _ _).symm.trans H; with_reducible exact H2_) | with_reducible exact H | (rw [hy542]; exact H) | exact H
 have Ny542 := Aside0.mk hy542
 clear hy542
 have H' := Aside0.mk H
 clear H
 go_enter Tryd.func42, Tryd.ntmps42
 go_wp2_with (first | ((with_reducible refine gate_dst (N := 5) rfl ?_); refine Kd.R_lit (Kd.int .i64) _ 3 ?hg (N := 5) ?hd (xs := ([] : List Int)) (inner := []) (ok := fun _ => True) (okp := fun _ => True) ?hr ?hp (fun _ hk => hk) trivial (Below.refl _ _) (Nat.le_refl _) (by simp) ?_; (case hd => rfl); (case hg => rfl); (case hr => first | (go_simp; done) | (go_simp; rfl)); (case hp => exact (Reps.none _ _)); intro v543 w2 ho3 hb hg_ hnew_; clear hg_ hnew_; (first | rw [← Ny542.out] at ho3 | (simp only [Int.reduceToNat] at ho3; rw [← Ny542.out] at ho3)); have n0_ := Aside0.mk (Kd.R_lower ho3 (below_size (by repeat (first | (with_reducible first | exact HB.out | apply below_alloc | apply pw_below_drewN | apply below_drew1) | exact HB.out)))); have n1_ := Aside0.mk (below_step (by repeat (first | (with_reducible first | exact HB.out | apply below_alloc | apply pw_below_drewN | apply below_drew1) | exact HB.out)) hb); clear HB; have HO544 := n0_; have HB := n1_; clear n0_ n1_; clear hb ho3))
 go_loopg [3, 4] k (fun kq v3 v4 w' => ∃ (x3_1 : List Int) (x4_1 : Int), v4 = .int .i64 x4_1 ∧ Aside0 (geyserref03_Words.l0 kq l0 x3_1 x4_1 = some r) ∧ Aside0 (kq ≤ k) ∧ Aside0 (Kd.R (Kd.int .i64) 3 w' w.heap.size (fun _ => True) v3 x3_1) ∧ Aside0 (Below w.heap.size w w'))
 case atStart => exact ⟨(y542), (0), (by first | rfl | (simp; done) | (simp [*]; done)), H', ⟨Nat.le_refl _⟩, ⟨by (with_reducible repeat (first | apply Kd.R_alloc | apply Kd.R_drewN | apply Kd.R_drew)); exact HO544.out⟩, ⟨by repeat (first | (with_reducible first | exact HB.out | apply below_alloc | apply pw_below_drewN | apply below_drew1) | exact HB.out)⟩⟩
 case round =>
  clear H'
  try clear p2
  obtain ⟨x3_1, x4_1, rfl, HA, HK1, HO_3, HB⟩ := hrel
  cases gk with
  | zero => exact absurd HA.out (by simp [geyserref03_Words.l0])
  | succ k1 =>
   have H := HA.out
   clear HA
   simp only [geyserref03_Words.l0] at H
   by_cases c4 : x4_1 < (l0.length : Int)
   ·rw [if_pos c4] at H
    have c4b0 : decide (x4_1 < (l0.length : Int)) = true := decide_eq_true c4
    clear c4
    by_cases c5 : 0 ≤ x4_1
    ·rw [if_pos c5] at H
     have c5b0 : decide (0 ≤ x4_1) = true := decide_eq_true c5
     clear c5
     obtain ⟨bq6, hbq6⟩ : ∃ b_ : Bool, b_ = (rdOf false l0 x4_1) := ⟨_, rfl⟩
     replace H : (if bq6 = true then (if x3_1.length < 17592186044416 then (geyserref03_Words.l0 k1 l0 (x3_1 ++ [x4_1]) (wrap64 (x4_1 + 1))) else (none)) else (geyserref03_Words.l0 k1 l0 x3_1 (wrap64 (x4_1 + 1)))) = some r := by rw [← hbq6] at H; exact H
     have Nbq6 := Aside0.mk hbq6
     clear hbq6
     by_cases c7 : bq6 = true
     ·subst c7
      have H1 : (if x3_1.length < 17592186044416 then (geyserref03_Words.l0 k1 l0 (x3_1 ++ [x4_1]) (wrap64 (x4_1 + 1))) else (none)) = some r := by rw [if_pos rfl] at H; exact H
      clear H
      have H := H1
      clear H1
      by_cases c8 : x3_1.length < 17592186044416
      ·rw [if_pos c8] at H
       have LMc8 := Aside0.mk c8
       clear c8
       obtain ⟨y546, hy546⟩ : ∃ y_ : List Int, y_ = (x3_1 ++ [x4_1]) := ⟨_, rfl⟩
       replace H : (geyserref03_Words.l0 k1 l0 y546 (wrap64 (x4_1 + 1))) = some r := by first | (rw [hy546]; with_reducible exact H) | (have H2_ := (Option.bind_some _ _).symm.trans H; rw [hy546]; with_reducible exact H2_) | (have H2_ := (Option.bind_some _ _).symm.trans H; with_reducible exact H2_) | with_reducible exact H | (rw [hy546]; exact H) | exact H
       have Ny546 := Aside0.mk hy546
       clear hy546
       have H' := Aside0.mk H
       clear H
       have p545 : 0 ≤ (x4_1 : Int) := of_decide_eq_true (by first | (with_reducible assumption) | assumption)
       have q545 : x4_1 < (l0.length : Int) := of_decide_eq_true (by first | (with_reducible assumption) | assumption)
       obtain ⟨ad545, e545, hx545_0⟩ := Kd.at_bool HR0.out x4_1 p545 q545
       (try rw [← Nbq6.out] at hx545_0)
       cases e545
       (first | replace hx545_0 := (HB.out.cell (World.block_lt_of_cell? w _ hx545_0)).trans hx545_0 | skip)
       replace p545 := eq_true p545
       replace q545 := eq_true q545
       go_wp2_with (first | ((with_reducible refine gate_builtin (b := .append) (xs := #[.tmp 16, .tmp 18]) rfl ?_); at_builtin; refine Kd.R_append (Kd.int .i64) (w0 := w) w.heap.size rfl (.tmp 16) (.tmp 18) 39 3 (.int .i64 0) 8 rfl Tryd.underlying39 info3 rfl (by decide) (by omega) u3 x3_1 x4_1 [.int .i64 x4_1] (fun _ => True) (fun _ => False) rfl rfl ?aP (fun _ hk => hk.elim) ?aF ?aO ?aB ?aS ?aL ?_; (case aP => exact rfl); (case aB => exact (by repeat (first | (with_reducible first | exact HB.out | apply below_alloc | apply pw_below_drewN | apply below_drew1) | exact HB.out))); (case aF => exact (fun _ _ => trivial)); (case aO => exact (by (with_reducible repeat (first | apply Kd.R_alloc | apply Kd.R_drewN | apply Kd.R_drew)); exact HO_3.out)); (case aS => exact (below_size (by repeat (first | (with_reducible first | exact HB.out | apply below_alloc | apply pw_below_drewN | apply below_drew1) | exact HB.out)))); (case aL => have := LMc8.out; omega); intro v547 w9 ho hb hg hat; rw [← Ny546.out] at ho; have n0_ := Aside0.mk (hb); have n1_ := Aside0.mk (ho); clear HB; clear HO_3; have HB := n0_; have HO548 := n1_; clear n0_ n1_; clear ho hb hg hat))
       go_roundg k1
       case measure => have := HK1.out; omega
       case rel => exact ⟨(y546), (wrap64 (x4_1 + 1)), (by first | rfl | (simp; done) | (simp [*]; done)), H', ⟨by have := HK1.out; omega⟩, ⟨by (with_reducible repeat (first | apply Kd.R_alloc | apply Kd.R_drewN | apply Kd.R_drew)); exact HO548.out⟩, ⟨by repeat (first | (with_reducible first | exact HB.out | apply below_alloc | apply pw_below_drewN | apply below_drew1) | exact HB.out)⟩⟩
      ·rw [if_neg c8] at H
       exact absurd H (by simp)
     ·replace c7 := Bool.eq_false_iff.mpr c7
      subst c7
      have H1 : (geyserref03_Words.l0 k1 l0 x3_1 (wrap64 (x4_1 + 1))) = some r := by rw [if_neg (show ¬ (false = true) by decide)] at H; exact H
      clear H
      have H := H1
      clear H1
      have H' := Aside0.mk H
      clear H
      have p545 : 0 ≤ (x4_1 : Int) := of_decide_eq_true (by first | (with_reducible assumption) | assumption)
      have q545 : x4_1 < (l0.length : Int) := of_decide_eq_true (by first | (with_reducible assumption) | assumption)
      obtain ⟨ad545, e545, hx545_0⟩ := Kd.at_bool HR0.out x4_1 p545 q545
      (try rw [← Nbq6.out] at hx545_0)
      cases e545
      (first | replace hx545_0 := (HB.out.cell (World.block_lt_of_cell? w _ hx545_0)).trans hx545_0 | skip)
      replace p545 := eq_true p545
      replace q545 := eq_true q545
      go_wp2
      go_roundg k1
      case measure => have := HK1.out; omega
      case rel => exact ⟨(x3_1), (wrap64 (x4_1 + 1)), (by first | rfl | (simp; done) | (simp [*]; done)), H', ⟨by have := HK1.out; omega⟩, ⟨by (with_reducible repeat (first | apply Kd.R_alloc | apply Kd.R_drewN | apply Kd.R_drew)); exact HO_3.out⟩, ⟨by repeat (first | (with_reducible first | exact HB.out | apply below_alloc | apply pw_below_drewN | apply below_drew1) | exact HB.out)⟩⟩
    ·rw [if_neg c5] at H
     exact absurd H (by simp)
   ·rw [if_neg c4] at H
    have c4b0 : decide (x4_1 < (l0.length : Int)) = false := decide_eq_false c4
    clear c4
    replace H := Option.bind_eq_some_iff.mp H
    obtain ⟨t549, A100, H⟩ := H
    replace H : (some t549) = some r := H
    have A10 := Aside0.mk A100
    clear A100
    obtain rfl := Option.some.inj H
    obtain ⟨Ao11, co11, eo11⟩ := Kd.R_slice HO_3.out
    subst eo11
    go_wp2_with (first | ((with_reducible refine gate_callee (f := 56) rfl ?_); refine goesL_ (some 23) rfl rfl Tryd.func56 (by kernel_rfl) rfl #[.slice Ao11 x3_1.length co11, .int .i64 (l0.length : Int)] rfl (by (try simp only [List.map_toArray, List.map_cons, List.map_nil]); first | done | rfl | (simp only [List.length_drop, List.length_take]; rfl)) ?_; (with_reducible refine (geyserref02_Pack.calls k1 _ _ x3_1 (l0.length : Int) t549 _ ?side1 ?side2 A10.out).mono ?_); (case side1 => repeat (first | exact (Kd.R_reads' HO_3.out).2.2 | (with_reducible refine Kd.C_alloc ?_ _) | (with_reducible refine Kd.C_drewN ?_ _) | (with_reducible refine Kd.C_drew ?_))); (case side2 => exact (Kd.R_reads' HO_3.out).2.1); rintro e w12 ⟨v550, rfl, ho0, hb⟩; refine ⟨_, rfl, ?_⟩; have n0_ := Aside0.mk (Kd.R_below (by (with_reducible repeat (first | apply Kd.R_alloc | apply Kd.R_drewN | apply Kd.R_drew)); exact HO_3.out) hb); have n1_ := Aside0.mk (Kd.R_lower ho0 (below_size (by repeat (first | (with_reducible first | exact HB.out | apply below_alloc | apply pw_below_drewN | apply below_drew1) | exact HB.out)))); have n2_ := Aside0.mk (below_step (by repeat (first | (with_reducible first | exact HB.out | apply below_alloc | apply pw_below_drewN | apply below_drew1) | exact HB.out)) hb); clear HO_3; clear HB; have HO_3 := n0_; have HO551 := n1_; have HB := n2_; clear n0_ n1_ n2_; (try clear hb); (try clear hb2); (try clear hk); (try clear hi); (try clear ho0)))
    go_ret
    exact ⟨_, by first | rfl | (simp [errW_none, errW_some] <;> rfl) | (simp [*, errW_none, errW_some] <;> rfl), by (with_reducible repeat (first | apply Kd.R_alloc | apply Kd.R_drewN | apply Kd.R_drew)); exact HO551.out, by repeat (first | (with_reducible first | exact HB.out | apply below_alloc | apply pw_below_drewN | apply below_drew1) | exact HB.out)⟩


/-! ### geyserref03_Plain: function 26 -/
def geyserref03_Plain.l0 : Nat → List (List Bool) → List (List Int) → Int → Option ((List (List Int)))
 | 0, _, _, _ => none
 | k + 1, x5, x6, x7 => if x7 < (x5.length : Int) then (if 0 ≤ x7 then ((geyserref03_Words.f k (rd_Lsbool x5 x7)).bind fun t562 => (if x6.length < 5864062014805 then (geyserref03_Plain.l0 k x5 (x6 ++ [t562]) (wrap64 (x7 + 1))) else (none))) else (none)) else (some x6)
def geyserref03_Plain.f (k : Nat) (l0 : List (List Int)) (a1 : Int) : Option ((List (List Int))) := (geyserref03_All.f k l0 a1).bind fun t552 => ((geyserref03_Gauss.f k t552 a1).bind fun t555 => (geyserref03_Plain.l0 k t555 (([] : List (List Int))) 0))
theorem geyserref03_Plain.mono_l : ∀ k, (∀ y0 y1 y2, LeO (geyserref03_Plain.l0 k y0 y1 y2) (geyserref03_Plain.l0 (k + 1) y0 y1 y2))
 | 0 => fun _ _ _ r h => by simp [geyserref03_Plain.l0] at h
 | k + 1 => by
  have ih0 := geyserref03_Plain.mono_l k
  ·intro y0 y1 y2
   unfold geyserref03_Plain.l0
   repeat' first
   | (with_reducible exact ih0 _ _ _)
   | (with_reducible exact geyserref03_All.mono _ _ _)
   | (with_reducible exact geyserref03_Gauss.mono _ _ _)
   | (with_reducible exact geyserref03_Words.mono _ _)
   | (with_reducible exact LeO.refl _)
   | (with_reducible exact LeO.none _)
   | (with_reducible refine LeO.ite ?_ ?_)
   | (with_reducible refine LeO.bind ?_ (fun _ => ?_))
   | exact ih0 _ _ _
   | exact geyserref03_All.mono _ _ _
   | exact geyserref03_Gauss.mono _ _ _
   | exact geyserref03_Words.mono _ _
   | exact LeO.none _
   | refine LeO.ite ?_ ?_
   | refine LeO.bind ?_ (fun _ => ?_)
theorem geyserref03_Plain.mono : ∀ a0 a1 k, LeO (geyserref03_Plain.f k a0 a1) (geyserref03_Plain.f (k + 1) a0 a1) := by
 intro a0 a1 k
 have ih0 := geyserref03_Plain.mono_l k
 unfold geyserref03_Plain.f
 repeat' first
   | (with_reducible exact ih0 _ _ _)
   | (with_reducible exact geyserref03_All.mono _ _ _)
   | (with_reducible exact geyserref03_Gauss.mono _ _ _)
   | (with_reducible exact geyserref03_Words.mono _ _)
   | (with_reducible exact LeO.refl _)
   | (with_reducible exact LeO.none _)
   | (with_reducible refine LeO.ite ?_ ?_)
   | (with_reducible refine LeO.bind ?_ (fun _ => ?_))
   | exact ih0 _ _ _
   | exact geyserref03_All.mono _ _ _
   | exact geyserref03_Gauss.mono _ _ _
   | exact geyserref03_Words.mono _ _
   | exact LeO.none _
   | refine LeO.ite ?_ ?_
   | refine LeO.bind ?_ (fun _ => ?_)
set_option maxHeartbeats 8000000 in
set_option maxRecDepth 100000 in
theorem geyserref03_Plain.calls (k : Nat) (A0 : Option Addr) (c0 : Nat) (l0 : List (List Int)) (a1 : Int) (r : List (List Int)) (w : World) (hr0 : Kd.C (Kd.slice 29 (Kd.int .u64)) w A0 l0.length l0) (hc0 : l0.length ≤ c0) (h : geyserref03_Plain.f k l0 a1 = some r) :
  Calls Tryd.prog 26 #[.slice A0 l0.length c0, .int .i64 a1] w fun e w' => ∃ v0_ : Value, e = .returned (v0_) ∧ Kd.S (Kd.slice 29 (Kd.int .u64)) 27 w' w.heap.size (fun _ => True) v0_ r ∧ Below w.heap.size w w' := by
 have HR0 := Aside0.mk hr0
 have HC0 := Aside0.mk hc0
 clear hr0 hc0
 have HB := Aside0.mk (Below.refl w.heap.size w)
 have H : ((geyserref03_All.f k l0 a1).bind fun t552 => ((geyserref03_Gauss.f k t552 a1).bind fun t555 => (geyserref03_Plain.l0 k t555 (([] : List (List Int))) 0))) = some r := h
 clear h
 replace H := Option.bind_eq_some_iff.mp H
 obtain ⟨t552, A30, H⟩ := H
 replace H : ((geyserref03_Gauss.f k t552 a1).bind fun t555 => (geyserref03_Plain.l0 k t555 (([] : List (List Int))) 0)) = some r := H
 have A3 := Aside0.mk A30
 clear A30
 replace H := Option.bind_eq_some_iff.mp H
 obtain ⟨t555, A40, H⟩ := H
 replace H : (geyserref03_Plain.l0 k t555 (([] : List (List Int))) 0) = some r := H
 have A4 := Aside0.mk A40
 clear A40
 obtain ⟨y558, hy558⟩ : ∃ y_ : List (List Int), y_ = (([] : List (List Int))) := ⟨_, rfl⟩
 replace H : (geyserref03_Plain.l0 k t555 y558 0) = some r := by first | (rw [hy558]; with_reducible exact H) | (have H2_ := (Option.bind_some _ _).symm.trans H; rw [hy558]; with_reducible exact H2_) | (have H2_ := (Option.bind_some _ _).symm.trans H; with_reducible exact H2_) | with_reducible exact H | (rw [hy558]; exact H) | exact H
 have Ny558 := Aside0.mk hy558
 clear hy558
 have H' := Aside0.mk H
 clear H
 go_enter Tryd.func26, Tryd.ntmps26
 go_wp2_with (first | ((with_reducible refine gate_callee (f := 35) rfl ?_); refine goesL_ (some 10) rfl rfl Tryd.func35 (by kernel_rfl) rfl #[.slice A0 l0.length c0, .int .i64 a1] rfl (by (try simp only [List.map_toArray, List.map_cons, List.map_nil]); first | done | rfl | (simp only [List.length_drop, List.length_take]; rfl)) ?_; (with_reducible refine (geyserref03_All.calls k _ _ l0 a1 t552 _ ?side1 ?side2 A3.out).mono ?_); (case side1 => repeat (first | exact HR0.out | (with_reducible refine Kd.C_alloc ?_ _) | (with_reducible refine Kd.C_drewN ?_ _) | (with_reducible refine Kd.C_drew ?_))); (case side2 => exact HC0.out); rintro e w5 ⟨v553, rfl, ho0, hb⟩; refine ⟨_, rfl, ?_⟩; have n0_ := Aside0.mk (Kd.S_lower ho0 (below_size (by repeat (first | (with_reducible first | exact HB.out | apply below_alloc | apply pw_below_drewN | apply below_drew1) | exact HB.out)))); have n1_ := Aside0.mk (below_step (by repeat (first | (with_reducible first | exact HB.out | apply below_alloc | apply pw_below_drewN | apply below_drew1) | exact HB.out)) hb); clear HB; have HO554 := n0_; have HB := n1_; clear n0_ n1_; (try clear hb); (try clear hb2); (try clear hk); (try clear hi); (try clear ho0); obtain ⟨Ao6, co6, eo6⟩ := Kd.S_slice HO554.out; subst eo6) | ((with_reducible refine gate_callee (f := 34) rfl ?_); refine goesL_ (some 12) rfl rfl Tryd.func34 (by kernel_rfl) rfl #[.slice Ao6 t552.length co6, .int .i64 a1] rfl (by (try simp only [List.map_toArray, List.map_cons, List.map_nil]); first | done | rfl | (simp only [List.length_drop, List.length_take]; rfl)) ?_; (with_reducible refine (geyserref03_Gauss.calls k (fun k_ => True) _ _ t552 a1 t555 _ ?side1 A4.out).mono ?_); (case side1 => exact Kd.S_V (HO554.out)); rintro e w7 ⟨v556, rfl, ho0, hb⟩; refine ⟨_, rfl, ?_⟩; have n0_ := Aside0.mk (Kd.S_below (by (with_reducible repeat (first | apply Kd.S_alloc | apply Kd.S_drewN | apply Kd.S_drew)); exact HO554.out) hb); have n1_ := Aside0.mk (Kd.V_lower (Kd.V_mono (ok' := fun k_ => True) ho0 (fun k_ hk_ => trivial)) (below_size (by repeat (first | (with_reducible first | exact HB.out | apply below_alloc | apply pw_below_drewN | apply below_drew1) | exact HB.out)))); have n2_ := Aside0.mk (below_step (by repeat (first | (with_reducible first | exact HB.out | apply below_alloc | apply pw_below_drewN | apply below_drew1) | exact HB.out)) hb); clear HO554; clear HB; have HO554 := n0_; have HO557 := n1_; have HB := n2_; clear n0_ n1_ n2_; (try clear hb); (try clear hb2); (try clear hk); (try clear hi); (try clear ho0)) | ((with_reducible refine gate_dst (N := 13) rfl ?_); refine Kd.S_lit (Kd.slice 29 (Kd.int .u64)) _ 27 ?hg (N := 13) ?hd (xs := ([] : List (List Int))) (inner := []) (ok := fun _ => True) (okp := fun _ => True) ?hr ?hp (fun _ hk => hk) trivial (Below.refl _ _) (Nat.le_refl _) (by simp) ?_; (case hd => rfl); (case hg => rfl); (case hr => first | (go_simp; done) | (go_simp; rfl)); (case hp => exact (Reps.none _ _)); intro v559 w8 ho9 hb hg_ hnew_; clear hg_ hnew_; (first | rw [← Ny558.out] at ho9 | (simp only [Int.reduceToNat] at ho9; rw [← Ny558.out] at ho9)); have n0_ := Aside0.mk (Kd.S_below (by (with_reducible repeat (first | apply Kd.S_alloc | apply Kd.S_drewN | apply Kd.S_drew)); exact HO554.out) hb); have n1_ := Aside0.mk (Kd.V_elder' (by (with_reducible repeat (first | apply Kd.V_alloc | apply Kd.V_drewN | apply Kd.V_drew)); exact HO557.out) (Kd.S_base ho9) hb); have n2_ := Aside0.mk (Kd.S_lower ho9 (below_size (by repeat (first | (with_reducible first | exact HB.out | apply below_alloc | apply pw_below_drewN | apply below_drew1) | exact HB.out)))); have n3_ := Aside0.mk (below_step (by repeat (first | (with_reducible first | exact HB.out | apply below_alloc | apply pw_below_drewN | apply below_drew1) | exact HB.out)) hb); clear HO554; clear HO557; clear HB; have HO554 := n0_; have HO557 := n1_; have HO560 := n2_; have HB := n3_; clear n0_ n1_ n2_ n3_; clear hb ho9))
 go_loopg [6, 7] k (fun kq v6 v7 w' => ∃ (x6_1 : List (List Int)) (x7_1 : Int), v7 = .int .i64 x7_1 ∧ Aside0 (geyserref03_Plain.l0 kq t555 x6_1 x7_1 = some r) ∧ Aside0 (kq ≤ k) ∧ Aside0 (Kd.V (Kd.slice 4 Kd.bool) 23 w' w.heap.size (fun k_ => some k_ ≠ (v6 : Value).ownBlock) v556 t555) ∧ Aside0 (Kd.S (Kd.slice 29 (Kd.int .u64)) 27 w' w.heap.size (fun _ => True) v6 x6_1) ∧ Aside0 (Below w.heap.size w w'))
 case atStart => exact ⟨(y558), (0), (by first | rfl | (simp; done) | (simp [*]; done)), H', ⟨Nat.le_refl _⟩, ⟨by (with_reducible repeat (first | apply Kd.V_alloc | apply Kd.V_drewN | apply Kd.V_drew)); exact Kd.V_mono HO557.out (fun _ hk => hk.2)⟩, ⟨by (with_reducible repeat (first | apply Kd.S_alloc | apply Kd.S_drewN | apply Kd.S_drew)); exact HO560.out⟩, ⟨by repeat (first | (with_reducible first | exact HB.out | apply below_alloc | apply pw_below_drewN | apply below_drew1) | exact HB.out)⟩⟩
 case round =>
  clear H'
  try clear c2
  try clear p2
  try clear c3
  obtain ⟨x6_1, x7_1, rfl, HA, HK1, HO_5, HO_6, HB⟩ := hrel
  cases gk with
  | zero => exact absurd HA.out (by simp [geyserref03_Plain.l0])
  | succ k1 =>
   have H := HA.out
   clear HA
   simp only [geyserref03_Plain.l0] at H
   by_cases c10 : x7_1 < (t555.length : Int)
   ·rw [if_pos c10] at H
    have c10b0 : decide (x7_1 < (t555.length : Int)) = true := decide_eq_true c10
    clear c10
    by_cases c11 : 0 ≤ x7_1
    ·rw [if_pos c11] at H
     have c11b0 : decide (0 ≤ x7_1) = true := decide_eq_true c11
     clear c11
     replace H := Option.bind_eq_some_iff.mp H
     obtain ⟨t562, A120, H⟩ := H
     replace H : (if x6_1.length < 5864062014805 then (geyserref03_Plain.l0 k1 t555 (x6_1 ++ [t562]) (wrap64 (x7_1 + 1))) else (none)) = some r := H
     have A12 := Aside0.mk A120
     clear A120
     by_cases c13 : x6_1.length < 5864062014805
     ·rw [if_pos c13] at H
      have LMc13 := Aside0.mk c13
      clear c13
      obtain ⟨y565, hy565⟩ : ∃ y_ : List (List Int), y_ = (x6_1 ++ [t562]) := ⟨_, rfl⟩
      replace H : (geyserref03_Plain.l0 k1 t555 y565 (wrap64 (x7_1 + 1))) = some r := by first | (rw [hy565]; with_reducible exact H) | (have H2_ := (Option.bind_some _ _).symm.trans H; rw [hy565]; with_reducible exact H2_) | (have H2_ := (Option.bind_some _ _).symm.trans H; with_reducible exact H2_) | with_reducible exact H | (rw [hy565]; exact H) | exact H
      have Ny565 := Aside0.mk hy565
      clear hy565
      have H' := Aside0.mk H
      clear H
      obtain ⟨Ao14, co14, eo14⟩ := Kd.V_slice HO_5.out
      subst eo14
      have p561 : 0 ≤ (x7_1 : Int) := of_decide_eq_true (by first | (with_reducible assumption) | assumption)
      have q561 : x7_1 < (t555.length : Int) := of_decide_eq_true (by first | (with_reducible assumption) | assumption)
      obtain ⟨ad561, A561_0, c561_0, e561, hx561_0, hl561_0, hi561_0⟩ := at_Lsbool (Kd.V_reads' HO_5.out).2.2 x7_1 p561 q561
      cases e561
      obtain ⟨ce561, hce561, hMe561, hcc561⟩ := Kd.V_get HO_5.out [] x7_1 p561 (by first | exact q561 | exact of_decide_eq_true (by first | (with_reducible assumption) | assumption) | (have e_ := (Kd.V_reads' HO_5.out).1; omega))
      obtain ⟨ua561_0, uc561_0, rfl, ul561_0, ge561_0⟩ := Kd.FK_slice_open hMe561
      have hv561_0 := hcc561 0 _ rfl
      rw [Nat.add_zero, show ((Kd.slice 4 Kd.bool)).sz = 1 from rfl, Nat.mul_one] at hv561_0
      replace hv561_0 := Option.some.inj (hv561_0.symm.trans hx561_0)
      injection hv561_0 with hva_ hvn_ hvc_
      rw [hva_] at ge561_0
      rw [hvc_] at ul561_0
      have HL561_0 := Aside0.mk (show Kd.V Kd.bool 4 _ w.heap.size _ _ (rd_Lsbool t555 x7_1) from Kd.V_mk ul561_0 ge561_0)
      clear hva_ hvn_ hvc_ ge561_0 ul561_0
      clear hcc561 hce561
      have HR561_0 := Aside0.mk hi561_0
      have HC561_0 := Aside0.mk hl561_0
      clear hi561_0 hl561_0
      replace p561 := eq_true p561
      replace q561 := eq_true q561
      go_wp2_with (first | ((with_reducible refine gate_callee (f := 42) rfl ?_); refine goesL_ (some 25) rfl rfl Tryd.func42 (by kernel_rfl) rfl #[.slice A561_0 (rd_Lsbool t555 x7_1).length c561_0] rfl (by (try simp only [List.map_toArray, List.map_cons, List.map_nil]); first | done | rfl | (simp only [List.length_drop, List.length_take]; rfl)) ?_; (with_reducible refine (geyserref03_Words.calls k1 _ _ (rd_Lsbool t555 x7_1) t562 _ ?side1 ?side2 A12.out).mono ?_); (case side1 => repeat (first | exact (by repeat (first | (with_reducible exact HR561_0.out) | (with_reducible refine Kd.C_alloc ?_ _) | (with_reducible refine Kd.C_drewN ?_ _) | (with_reducible refine Kd.C_drew ?_) | exact HR561_0.out)) | (with_reducible refine Kd.C_alloc ?_ _) | (with_reducible refine Kd.C_drewN ?_ _) | (with_reducible refine Kd.C_drew ?_))); (case side2 => exact HC561_0.out); rintro e w15 ⟨v563, rfl, ho0, hb⟩; refine ⟨_, rfl, ?_⟩; have n0_ := Aside0.mk (Kd.V_elder' (by (with_reducible repeat (first | apply Kd.V_alloc | apply Kd.V_drewN | apply Kd.V_drew)); exact HO_5.out) (Kd.R_base ho0) hb); have n1_ := Aside0.mk (Kd.S_elder' (by (with_reducible repeat (first | apply Kd.S_alloc | apply Kd.S_drewN | apply Kd.S_drew)); exact HO_6.out) (Kd.R_base ho0) hb); have n2_ := Aside0.mk (Kd.V_elder' (by (with_reducible repeat (first | apply Kd.V_alloc | apply Kd.V_drewN | apply Kd.V_drew)); exact HL561_0.out) (Kd.R_base ho0) hb); have n3_ := Aside0.mk (Kd.R_lower ho0 (below_size (by repeat (first | (with_reducible first | exact HB.out | apply below_alloc | apply pw_below_drewN | apply below_drew1) | exact HB.out)))); have n4_ := Aside0.mk (Kd.C_below (by repeat (first | (with_reducible exact HR561_0.out) | (with_reducible refine Kd.C_alloc ?_ _) | (with_reducible refine Kd.C_drewN ?_ _) | (with_reducible refine Kd.C_drew ?_) | exact HR561_0.out)) hb); have n5_ := Aside0.mk (below_step (by repeat (first | (with_reducible first | exact HB.out | apply below_alloc | apply pw_below_drewN | apply below_drew1) | exact HB.out)) hb); clear HO_5; clear HO_6; clear HL561_0; clear HR561_0; clear HB; have HO_5 := n0_; have HO_6 := n1_; have HL561_0 := n2_; have HO564 := n3_; have HR561_0 := n4_; have HB := n5_; clear n0_ n1_ n2_ n3_ n4_ n5_; (try clear hb); (try clear hb2); (try clear hk); (try clear hi); (try clear ho0); obtain ⟨Ao17, co17, eo17⟩ := Kd.R_slice HO564.out; subst eo17) | ((with_reducible refine gate_builtin (b := .append) (xs := #[.tmp 20, .tmp 26]) rfl ?_); at_builtin; refine Kd.S_append (Kd.slice 29 (Kd.int .u64)) (w0 := w) w.heap.size rfl (.tmp 20) (.tmp 26) 22 27 (.slice none 0 0) 24 rfl Tryd.underlying22 info27 rfl (by decide) (by omega) u6 x6_1 t562 [.slice Ao17 t562.length co17] (fun _ => True) (fun k_ => some k_ = (.slice Ao17 t562.length co17 : Value).ownBlock) rfl rfl ?aP (fun k_ hk_ => ((Kd.R_mono (ok' := fun k_ => ((fun _ => True)) k_ ∧ some k_ ≠ (u6 : Value).ownBlock) (Kd.R_apart' (HO564.out) (Kd.S_typed HO_6.out) (by decide)) (fun k_ hk => ⟨trivial, hk.2⟩))).1 k_ hk_.symm) ?aF ?aO ?aB ?aS ?aL ?_; (case aP => exact Kd.M_row (Kd.R_mono (Kd.R_tight rfl (Kd.R_mono (ok' := fun k_ => ((fun _ => True)) k_ ∧ some k_ ≠ (u6 : Value).ownBlock) (Kd.R_apart' (HO564.out) (Kd.S_typed HO_6.out) (by decide)) (fun k_ hk => ⟨trivial, hk.2⟩))) (fun _ h_ => h_))); (case aB => exact (by repeat (first | (with_reducible first | exact HB.out | apply below_alloc | apply pw_below_drewN | apply below_drew1) | exact HB.out))); (case aF => exact (fun _ _ => trivial)); (case aO => exact (by (with_reducible repeat (first | apply Kd.S_alloc | apply Kd.S_drewN | apply Kd.S_drew)); exact Kd.S_mono HO_6.out (fun k_ hk => ⟨trivial, fun e_ => hk.2 e_⟩))); (case aS => exact (below_size (by repeat (first | (with_reducible first | exact HB.out | apply below_alloc | apply pw_below_drewN | apply below_drew1) | exact HB.out)))); (case aL => have := LMc13.out; omega); intro v566 w16 ho hb hg hat; rw [← Ny565.out] at ho; have n0_ := Aside0.mk (Kd.V_afterv (ok := (fun k_ => some k_ ≠ (.slice Ao17 t562.length co17 : Value).ownBlock)) (by (with_reducible repeat (first | apply Kd.V_alloc | apply Kd.V_drewN | apply Kd.V_drew)); exact Kd.V_mono HO_5.out (fun _ hk => ⟨hk.2, hk.1⟩)) hg hat); have n1_ := Aside0.mk (Kd.V_afterv (ok := (fun k_ => some k_ ≠ (.slice Ao17 t562.length co17 : Value).ownBlock)) (by (with_reducible repeat (first | apply Kd.V_alloc | apply Kd.V_drewN | apply Kd.V_drew)); exact Kd.V_mono HL561_0.out (fun _ hk => ⟨hk.2, hk.1⟩)) hg hat); have n2_ := Aside0.mk (hb); have n3_ := Aside0.mk (ho); clear HO_5; clear HL561_0; clear HB; clear HO_6; clear HO564; have HO_5 := n0_; have HL561_0 := n1_; have HB := n2_; have HO567 := n3_; clear n0_ n1_ n2_ n3_; clear ho hb hg hat))
      go_roundg k1
      case measure => have := HK1.out; omega
      case rel => exact ⟨(y565), (wrap64 (x7_1 + 1)), (by first | rfl | (simp; done) | (simp [*]; done)), H', ⟨by have := HK1.out; omega⟩, ⟨by (with_reducible repeat (first | apply Kd.V_alloc | apply Kd.V_drewN | apply Kd.V_drew)); exact Kd.V_mono HO_5.out (fun _ hk => hk.2)⟩, ⟨by (with_reducible repeat (first | apply Kd.S_alloc | apply Kd.S_drewN | apply Kd.S_drew)); exact HO567.out⟩, ⟨by repeat (first | (with_reducible first | exact HB.out | apply below_alloc | apply pw_below_drewN | apply below_drew1) | exact HB.out)⟩⟩
     ·rw [if_neg c13] at H
      exact absurd H (by simp)
    ·rw [if_neg c11] at H
     exact absurd H (by simp)
   ·rw [if_neg c10] at H
    have c10b0 : decide (x7_1 < (t555.length : Int)) = false := decide_eq_false c10
    clear c10
    obtain rfl := Option.some.inj H
    obtain ⟨Ao18, co18, eo18⟩ := Kd.V_slice HO_5.out
    subst eo18
    go_wp2
    go_ret
    exact ⟨_, by first | rfl | (simp [errW_none, errW_some] <;> rfl) | (simp [*, errW_none, errW_some] <;> rfl), by (with_reducible repeat (first | apply Kd.S_alloc | apply Kd.S_drewN | apply Kd.S_drew)); exact HO_6.out, by repeat (first | (with_reducible first | exact HB.out | apply below_alloc | apply pw_below_drewN | apply below_drew1) | exact HB.out)⟩

end Go.Proofs.YtgocibnmgfmceaaDoor.P

namespace Go.Proofs.YtgocibnmgfmceaaDoor.Pure
open Go.RowKit Go.Proofs.YtgocibnmgfmceaaDoor.P Go.Proofs.YtgocibnmgfmceaaDoorW.PrintWords Go.Proofs.YtgocibnmgfmceaaDoorW.PrintLast Go.Proofs.YtgocibnmgfmceaaDoorW.PrintErr Go.Proofs.YtgocibnmgfmceaaDoorW.PrintMore Go.Proofs.YtgocibnmgfmceaaDoor.Lin
set_option linter.unusedVariables false
set_option linter.unusedSimpArgs false
/-- The least columns of the rows that are done rise, and lie below c. -/
def GM (R : List (List Bool)) (done c : Nat) (p : Nat → Nat) : Prop := (∀ j, j < done → p j < c ∧ ∀ e, e < p j → bv (gr R j) e = false) ∧ ∀ i j, i < j → j < done → p i < p j
theorem GM.skip {R : List (List Bool)} {done c : Nat} {p : Nat → Nat} (h : GM R done c p) : GM R done (c + 1) p :=
  ⟨fun j hj => ⟨by have := (h.1 j hj).1; omega, (h.1 j hj).2⟩, h.2⟩
theorem take_col {n m : Nat} {R0 R : List (List Bool)} {done c : Nat} {p : Nat → Nat} (h : GInv n m R0 R done c p) (i : Nat) (hi1 : done ≤ i) (hi2 : i < m) :
    (∀ k, k < m → k ≠ done → ∀ e, bv (gr (clearL (swapL R done i) done c) k) e = if bv (gr (swapL R done i) k) c = true then (bv (gr (swapL R done i) k) e != bv (gr R i) e) else bv (gr (swapL R done i) k) e) ∧ gr (clearL (swapL R done i) done c) done = gr R i ∧ ∀ k, k < done → gr (swapL R done i) k = gr R k := by
  have hlenR := h.len
  have l1 : (swapL R done i).length = m := by rw [swapL_len]; exact h.len
  have hd : done < m := by omega
  have g1 : ∀ k, k < m → gr (swapL R done i) k = gr R (sg done i k) := fun k hk => swapL_gr R done i (by omega) (by omega) k (by omega)
  have sg_lt : ∀ k, k < m → sg done i k < m := by intro k hk; unfold sg; split; omega; split <;> omega
  have sg_hi : ∀ k, done ≤ k → done ≤ sg done i k := by intro k hk; unfold sg; split; omega; split <;> omega
  have sg_lo : ∀ k, k < done → sg done i k = k := by intro k hk; unfold sg; rw [if_neg (by omega), if_neg (by omega)]
  have sg_done : sg done i done = i := by unfold sg; split; omega; rw [if_pos rfl]
  have sg_ne : ∀ j k, j < done → k ≠ j → sg done i k ≠ j := by
    intro j k hj hk
    by_cases hk2 : k < done
    · rw [sg_lo k hk2]; exact hk
    · have := sg_hi k (by omega); omega
  have r1len : ∀ k, k < m → (gr (swapL R done i) k).length = n := fun k hk => by rw [g1 k hk]; exact h.rows _ (gr_mem (by rw [h.len]; exact sg_lt k hk))
  have gd : gr (swapL R done i) done = gr R i := by rw [g1 done hd, sg_done]
  have g2 : ∀ k, k < m → gr (clearL (swapL R done i) done c) k = clr (swapL R done i) done c k := fun k hk => clearL_gr _ _ _ _ (by omega)
  -- columns of what comes out
  have hcol : ∀ k, k < m → k ≠ done → ∀ e, bv (gr (clearL (swapL R done i) done c) k) e = if bv (gr (swapL R done i) k) c = true then (bv (gr (swapL R done i) k) e != bv (gr R i) e) else bv (gr (swapL R done i) k) e := by
    intro k hk hne e
    rw [g2 k hk]
    unfold clr
    rw [if_neg hne]
    split
    · rw [bv_vx (r1len k hk) (r1len done hd), gd]
    · rfl
  have hdone : gr (clearL (swapL R done i) done c) done = gr R i := by rw [g2 done hd]; unfold clr; rw [if_pos rfl, gd]
  exact ⟨hcol, hdone, fun k hk => by rw [g1 k (by omega), sg_lo k hk]⟩
theorem GM.take {n m : Nat} {R0 R : List (List Bool)} {done c : Nat} {p : Nat → Nat} (hG : GM R done c p) (h : GInv n m R0 R done c p) (i : Nat) (hi1 : done ≤ i) (hi2 : i < m) :
    GM (clearL (swapL R done i) done c) (done + 1) (c + 1) (fun j => if j = done then c else p j) := by
  obtain ⟨h1, h2, h3⟩ := take_col h i hi1 hi2
  refine ⟨fun j hj => ?_, fun a b hab hb => ?_⟩
  · by_cases hjd : j = done
    · subst hjd
      simp only [if_true]
      refine ⟨by omega, fun e he => ?_⟩
      rw [h2]
      exact h.low i hi1 hi2 e he
    · simp only [if_neg hjd]
      have hj' : j < done := by omega
      obtain ⟨g1, g2⟩ := hG.1 j hj'
      refine ⟨by omega, fun e he => ?_⟩
      rw [h1 j (by omega) hjd e, h3 j hj', g2 e he, h.low i hi1 hi2 e (by omega)]
      split <;> rfl
  · show (if a = done then c else p a) < (if b = done then c else p b)
    rw [if_neg (by omega)]
    by_cases hbd : b = done
    · rw [if_pos hbd]; exact (hG.1 a (by omega)).1
    · rw [if_neg hbd]; exact hG.2 a b hab (by omega)
theorem gauss2_l0 (n m : Nat) (hn : n ≤ 1000000) (hm : m ≤ 1000000) (R0 : List (List Bool)) : ∀ (d c : Nat) (R : List (List Bool)) (done : Nat) (p : Nat → Nat), c + d = n → GInv n m R0 R done c p → GM R done c p →
    ∃ R' done' p', Ev (fun k => geyserref03_Gauss.l0 k R (n : Int) (done : Int) (c : Int)) (R'.take done') ∧ GInv n m R0 R' done' n p' ∧ GM R' done' n p' := by
  intro d
  induction d with
  | zero =>
    intro c R done p hc h hG
    obtain rfl : c = n := by omega
    have hlenR := h.len
    have hle := h.le
    refine ⟨R, done, p, ?_, h, hG⟩
    refine Ev.step (f := fun _ => some (R.take done)) (fun k => ?_) (Ev.now _)
    rw [geyserref03_Gauss.l0, if_neg (by omega), if_pos (by omega), if_pos (by omega), Int.toNat_natCast]
  | succ d ih =>
    intro c R done p hc h hG
    have hlenR := h.len
    have hle := h.le
    have e2 : ((c + 1 : Nat) : Int) = wrap64 ((c : Int) + 1) := by rw [w64s (by omega) (by omega)]; rfl
    obtain ⟨r, hr, hcase⟩ := pivot_ev R n c (by omega) h.rows (by omega) (R.length - done) done (by omega)
    have hr' : Ev (fun k => geyserref03_pivot.f k R (done : Int) (c : Int)) r := hr
    rcases hcase with ⟨rfl, hz⟩ | ⟨i, rfl, h1, h2, h3⟩
    · obtain ⟨R', done', p', hev, hI⟩ := ih (c + 1) R done p (by omega) (h.skip (fun j a b => hz j a (by omega))) hG.skip
      rw [e2] at hev
      refine ⟨R', done', p', ?_, hI⟩
      refine Ev.step (f := fun k => (geyserref03_pivot.f k R (done : Int) (c : Int)).bind fun t335 => (if t335 < 0 then (geyserref03_Gauss.l0 k R (n : Int) (done : Int) (wrap64 ((c : Int) + 1))) else ((geyserref03_swap.f R (done : Int) t335).bind fun t336 => ((geyserref03_clear.f k t336 (done : Int) (c : Int)).bind fun t339 => (geyserref03_Gauss.l0 k t339 (n : Int) (wrap64 ((done : Int) + 1)) (wrap64 ((c : Int) + 1))))))) (fun k => ?_) (Ev.bind hr' ?_)
      · rw [geyserref03_Gauss.l0, if_pos (by omega)]
      · refine Ev.congr (fun k => ?_) hev
        rw [if_pos (by decide)]
    · have hI1 := h.take i h1 (by omega) h3
      obtain ⟨R', done', p', hev, hI⟩ := ih (c + 1) _ (done + 1) _ (by omega) hI1 (hG.take h i h1 (by omega))
      have e3 : ((done + 1 : Nat) : Int) = wrap64 ((done : Int) + 1) := by rw [w64s (by omega) (by omega)]; rfl
      rw [e2, e3] at hev
      have l1 : (swapL R done i).length = m := by rw [swapL_len]; exact h.len
      have hrows1 : ∀ x ∈ swapL R done i, x.length = n := by
        intro x hx
        obtain ⟨k, hk, rfl⟩ := mem_gr hx
        rw [swapL_gr R done i (by omega) (by omega) k (by omega)]
        refine h.rows _ (gr_mem ?_)
        unfold sg; split; omega; split <;> omega
      have hclr := clear_ev (swapL R done i) n done c (by omega) (by omega) hrows1 hn (by omega)
      refine ⟨R', done', p', ?_, hI⟩
      refine Ev.step (f := fun k => (geyserref03_pivot.f k R (done : Int) (c : Int)).bind fun t335 => (if t335 < 0 then (geyserref03_Gauss.l0 k R (n : Int) (done : Int) (wrap64 ((c : Int) + 1))) else ((geyserref03_swap.f R (done : Int) t335).bind fun t336 => ((geyserref03_clear.f k t336 (done : Int) (c : Int)).bind fun t339 => (geyserref03_Gauss.l0 k t339 (n : Int) (wrap64 ((done : Int) + 1)) (wrap64 ((c : Int) + 1))))))) (fun k => ?_) (Ev.bind hr' ?_)
      · rw [geyserref03_Gauss.l0, if_pos (by omega)]
      · refine Ev.congr (fun k => ?_) (Ev.bind (f := fun k t339 => geyserref03_Gauss.l0 k t339 (n : Int) (wrap64 ((done : Int) + 1)) (wrap64 ((c : Int) + 1))) hclr hev)
        rw [if_neg (by omega), swap_eq R done i (by omega) (by omega) (by omega)]
        rfl
theorem gauss2_ev (R0 : List (List Bool)) (n : Nat) (hn : n ≤ 1000000) (hm : R0.length ≤ 1000000) (hR : ∀ x ∈ R0, x.length = n) : ∃ R' done' p', Ev (fun k => geyserref03_Gauss.f k R0 (n : Int)) (R'.take done') ∧ GInv n R0.length R0 R' done' n p' ∧ GM R' done' n p' := by
  have h0 : GInv n R0.length R0 R0 0 0 (fun _ => 0) := ⟨rfl, Nat.zero_le _, hR, fun j hj => by omega, fun i _ _ e he => by omega, fun x hx => Sp.mem (List.mem_map.2 ⟨x, hx, rfl⟩), fun x hx => Sp.mem (List.mem_map.2 ⟨x, hx, rfl⟩)⟩
  exact gauss2_l0 n R0.length hn hm R0 n 0 R0 0 (fun _ => 0) (by omega) h0 ⟨fun j hj => by omega, fun a b _ hb => by omega⟩
/-! ### truths as words -/
def colsB (t : List Bool) (c : Nat) : List Int := ((List.range c).filter (bv t)).map fun c : Nat => (c : Int)
theorem colsB_succ (t : List Bool) (c : Nat) : colsB t (c + 1) = colsB t c ++ (if bv t c = true then [(c : Int)] else []) := by
  unfold colsB
  rw [List.range_succ, List.filter_append, List.map_append]
  congr 1
  by_cases h : bv t c = true
  · rw [if_pos h, List.filter_cons_of_pos h]; rfl
  · rw [if_neg h, List.filter_cons_of_neg h]; rfl
theorem colsB_len (t : List Bool) (c : Nat) : (colsB t c).length ≤ c := by
  unfold colsB
  rw [List.length_map]
  refine Nat.le_trans (List.length_filter_le _ _) ?_
  simp
theorem colsB_mem (t : List Bool) (c : Nat) (d : Int) : d ∈ colsB t c ↔ ∃ e : Nat, d = e ∧ e < c ∧ bv t e = true := by
  unfold colsB
  simp only [List.mem_map, List.mem_filter, List.mem_range]
  constructor
  · rintro ⟨e, ⟨h1, h2⟩, rfl⟩; exact ⟨e, rfl, h1, h2⟩
  · rintro ⟨e, rfl, h1, h2⟩; exact ⟨e, ⟨h1, h2⟩, rfl⟩
/-- Truths as words. -/
def wq (t : List Bool) : List Int := wordsOf (colsB t t.length) 0 (nW (t.length : Int))
theorem words_l0 (t : List Bool) (hn : t.length ≤ 4096) : ∀ d c : Nat, c + d = t.length → Ev (fun k => geyserref03_Words.l0 k t (colsB t c) (c : Int)) (wq t) := by
  intro d
  induction d with
  | zero =>
    intro c hc
    obtain rfl : c = t.length := by omega
    have hp := rpack_ev (colsB t t.length) (t.length : Int) (by have := colsB_len t t.length; omega) (by omega) (by omega)
    refine Ev.step (f := fun k => (geyserref02_Pack.f k (colsB t t.length) (t.length : Int)).bind fun t549 => (some t549)) (fun k => ?_) (Ev.bind hp (Ev.now _))
    rw [geyserref03_Words.l0, if_neg (by omega)]
  | succ d ih =>
    intro c hc
    have h' := ih (c + 1) (by omega)
    have e2 : ((c + 1 : Nat) : Int) = wrap64 ((c : Int) + 1) := by rw [w64s (by omega) (by omega)]; rfl
    have hl := colsB_len t c
    rw [e2, colsB_succ] at h'
    refine Ev.step (fun k => ?_) h'
    rw [geyserref03_Words.l0, if_pos (by omega), if_pos (by omega), rdOf_bv]
    by_cases hb : bv t c = true
    · rw [if_pos hb, if_pos hb, if_pos (by omega)]
    · rw [if_neg hb, if_neg hb, List.append_nil]
theorem words_ev (t : List Bool) (hn : t.length ≤ 4096) : Ev (fun k => geyserref03_Words.f k t) (wq t) := words_l0 t hn t.length 0 (by omega)
theorem wq_facts (t : List Bool) (n : Nat) (ht : t.length = n) : (wq t).length = nW n ∧ (∀ a ∈ wq t, U64 a) ∧ ∀ c : Nat, hasB (wq t) c = bv t c := by
  subst ht
  have h := wordsOf_facts (colsB t t.length) (nW (t.length : Int)) (fun c hc => by
    obtain ⟨e, rfl, he, _⟩ := (colsB_mem t t.length c).1 hc
    unfold nW
    rw [Int.toNat_natCast]
    omega)
  refine ⟨h.1, h.2.1, fun c => ?_⟩
  rw [show hasB (wq t) c = decide ((c : Int) ∈ colsB t t.length) from h.2.2 c]
  by_cases hb : bv t c = true
  · rw [hb]
    refine decide_eq_true ((colsB_mem t t.length c).2 ⟨c, rfl, ?_, hb⟩)
    by_cases hc : c < t.length
    · exact hc
    · unfold bv at hb
      rw [List.getD_eq_getElem?_getD, List.getElem?_eq_none (by omega)] at hb
      cases hb
  · have hf : bv t c = false := by simpa using hb
    rw [hf]
    refine decide_eq_false fun hm => ?_
    obtain ⟨e, he, _, h2⟩ := (colsB_mem t t.length c).1 hm
    obtain rfl : c = e := by omega
    exact hb h2
theorem rplain_l0 (n : Nat) (hn : n ≤ 4096) (S : List (List Bool)) : ∀ (P : List (List Bool)) (acc : List (List Int)), (P ++ S).length ≤ 1000000 → acc.length ≤ P.length → (∀ t ∈ S, t.length = n) →
    Ev (fun k => geyserref03_Plain.l0 k (P ++ S) acc (P.length : Int)) (acc ++ S.map wq) := by
  induction S with
  | nil =>
    intro P acc _ _ _
    refine Ev.step (f := fun _ => some (acc ++ ([] : List (List Bool)).map wq)) (fun k => ?_) (Ev.now _)
    rw [geyserref03_Plain.l0, if_neg (by simp)]
    simp
  | cons s S ih =>
    intro P acc hP ha hS
    have hl : (P ++ s :: S).length = P.length + (S.length + 1) := by simp
    have e1 : P ++ [s] ++ S = P ++ s :: S := by simp
    have h' := ih (P ++ [s]) (acc ++ [wq s]) (by rw [e1]; exact hP) (by simp; omega) (fun t ht => hS t (by simp [ht]))
    have e2 : ((P ++ [s]).length : Int) = wrap64 ((P.length : Int) + 1) := by rw [w64s (by omega) (by omega)]; simp
    have e3 : acc ++ [wq s] ++ S.map wq = acc ++ (s :: S).map wq := by simp
    rw [e1, e2, e3] at h'
    have hrd : rd_Lsbool (P ++ s :: S) (P.length : Int) = s := by
      rw [rd_gr]
      unfold gr
      rw [List.getD_eq_getElem?_getD, List.getElem?_append_right (Nat.le_refl _)]
      simp
    refine Ev.step (f := fun k => (geyserref03_Words.f k s).bind fun t562 => (if acc.length < 5864062014805 then (geyserref03_Plain.l0 k (P ++ s :: S) (acc ++ [t562]) (wrap64 ((P.length : Int) + 1))) else (none))) (fun k => ?_) (Ev.bind (words_ev s (by rw [hS s (by simp)]; exact hn)) ?_)
    · rw [geyserref03_Plain.l0, if_pos (by omega), if_pos (by omega), hrd]
    · refine Ev.congr (fun k => ?_) h'
      rw [if_pos (by omega)]
theorem rplain_ev (rows : List (List Int)) (n : Nat) (hn : n ≤ 4096) (hl : rows.length ≤ 4096) (hR : Rws n rows) : ∃ Q, Ev (fun k => geyserref03_Plain.f k rows (n : Int)) Q ∧ IsPlain n rows Q := by
  have hnw : nW (n : Int) ≤ 64 := by unfold nW; rw [Int.toNat_natCast]; omega
  have hall := all_ev n (by omega) rows (by omega) (fun r hr => ⟨by have := (hR r hr).1; omega, (hR r hr).2.1⟩)
  obtain ⟨R', done', p', hg, hI, hG⟩ := gauss2_ev (rows.map (tr · n)) n (by omega) (by simpa using (by omega : rows.length ≤ 1000000)) (fun x hx => by
    obtain ⟨r, _, rfl⟩ := List.mem_map.1 hx
    exact tr_len r n)
  have hlen := hI.len
  have hle := hI.le
  rw [List.length_map] at hlen hle
  have em : (rows.map (tr · n)).map bv = rows.map hasB := by
    rw [List.map_map]
    exact List.map_congr_left fun r hr => bv_tr r n (hR r hr).2.2
  have hlt : (R'.take done').length = done' := by rw [List.length_take]; omega
  have hrl : ∀ x ∈ R', x.length = n := hI.rows
  have hw := rplain_l0 n hn (R'.take done') [] [] (by simp; omega) (by simp) (fun t ht => hrl t (List.mem_of_mem_take ht))
  rw [List.nil_append] at hw
  refine ⟨(R'.take done').map wq, ?_, ?_⟩
  · unfold geyserref03_Plain.f
    refine Ev.bind hall (Ev.bind hg ?_)
    exact hw
  · have hin : ∀ x ∈ (R'.take done').map wq, ∃ j, j < done' ∧ x = wq (gr R' j) := fun x hx => by
      obtain ⟨t, ht, rfl⟩ := List.mem_map.1 hx
      obtain ⟨j, hj, rfl⟩ := List.mem_iff_getElem.1 ht
      refine ⟨j, by omega, ?_⟩
      rw [List.getElem_take]
      unfold gr
      rw [List.getD_eq_getElem?_getD, List.getElem?_eq_getElem (by omega)]
      rfl
    have hgl : ∀ j, j < done' → (gr R' j).length = n := fun j hj => hrl _ (gr_mem (by omega))
    have hf : ∀ j, j < done' → fstI (wq (gr R' j)) = p' j := fun j hj => by
      have hb := (hI.piv j hj).1
      refine (fstI_is _).uniq (.inr ⟨p' j, rfl, ?_, ?_, fun c hc => ?_⟩)
      · have h1 := (hG.1 j hj).1
        rw [(wq_facts _ n (hgl j hj)).1]
        unfold nW
        rw [Int.toNat_natCast]
        omega
      · rw [(wq_facts _ n (hgl j hj)).2.2]; exact hb
      · rw [(wq_facts _ n (hgl j hj)).2.2]; exact (hG.1 j hj).2 c hc
    refine ⟨fun x hx => ?_, fun x hx => ?_, ?_, fun a ha b hb hne => ?_, fun x hx => ?_, fun x hx => ?_⟩
    · obtain ⟨j, hj, rfl⟩ := hin x hx
      obtain ⟨f1, f2, f3⟩ := wq_facts _ n (hgl j hj)
      refine ⟨f1, f2, fun c hc => ?_⟩
      rw [f3]
      unfold bv
      rw [List.getD_eq_getElem?_getD, List.getElem?_eq_none (by rw [hgl j hj]; exact hc)]
      rfl
    · obtain ⟨j, hj, rfl⟩ := hin x hx
      rw [hf j hj]
      omega
    · refine List.pairwise_iff_getElem.2 fun i j hi hj hij => ?_
      have hi' : i < done' := by rw [List.length_map, hlt] at hi; exact hi
      have hj' : j < done' := by rw [List.length_map, hlt] at hj; exact hj
      have e : ∀ q, ∀ hq : q < ((R'.take done').map wq).length, ((R'.take done').map wq)[q] = wq (gr R' q) := fun q hq => by
        have hq' : q < done' := by rw [List.length_map, hlt] at hq; exact hq
        rw [List.getElem_map, List.getElem_take]
        unfold gr
        rw [List.getD_eq_getElem?_getD, List.getElem?_eq_getElem (by omega)]
        rfl
      rw [e i hi, e j hj, hf i hi', hf j hj']
      have := hG.2 i j hij hj'
      omega
    · obtain ⟨i, hi, rfl⟩ := hin a ha
      obtain ⟨j, hj, rfl⟩ := hin b hb
      rw [hf j hj, Int.toNat_natCast, (wq_facts _ n (hgl i hi)).2.2]
      refine (hI.piv j hj).2 i (by rw [List.length_map]; omega) fun e => hne (by rw [e])
    · obtain ⟨j, hj, rfl⟩ := hin x hx
      have h1 := hI.tos _ (gr_mem (i := j) (R := R') (by omega))
      rw [em] at h1
      rw [show hasB (wq (gr R' j)) = bv (gr R' j) from funext (wq_facts _ n (hgl j hj)).2.2]
      exact h1
    · have h1 := hI.ofs (tr x n) (List.mem_map.2 ⟨x, hx, rfl⟩)
      rw [bv_tr x n (hR x hx).2.2] at h1
      refine h1.trans fun u hu => ?_
      obtain ⟨z, hz, rfl⟩ := List.mem_map.1 hu
      obtain ⟨q, hq, rfl⟩ := mem_gr hz
      by_cases hqd : q < done'
      · refine Sp.mem (List.mem_map.2 ⟨wq (gr R' q), List.mem_map.2 ⟨gr R' q, ?_, rfl⟩, funext (wq_facts _ n (hgl q hqd)).2.2⟩)
        refine List.mem_iff_getElem.2 ⟨q, by omega, ?_⟩
        rw [List.getElem_take]
        unfold gr
        rw [List.getD_eq_getElem?_getD, List.getElem?_eq_getElem hq]
        rfl
      · have hz0 : bv (gr R' q) = v0 := by
          funext e
          by_cases he : e < n
          · exact hI.low q (by omega) (by rw [List.length_map]; omega) e he
          · have hl := hI.rows _ (gr_mem hq)
            unfold bv
            rw [List.getD_eq_getElem?_getD, List.getElem?_eq_none (by omega)]
            rfl
        rw [hz0]; exact Sp.zero
end Go.Proofs.YtgocibnmgfmceaaDoor.Pure

namespace Go.Proofs.YtgocibnmgfmceaaDoor.P
open Go.RowKit Go.Proofs.YtgocibnmgfmceaaDoorW.PrintWords Go.Proofs.YtgocibnmgfmceaaDoorW.PrintLast Go.Proofs.YtgocibnmgfmceaaDoorW.PrintErr Go.Proofs.YtgocibnmgfmceaaDoorW.PrintMore
attribute [local go_sem] max2_int min2_int max_two min_two max_three min_three max_four min_four run_eql_errOf run_neq_errOf eqGuard_errOf   -- for this text's walks alone
set_option linter.unusedVariables false
set_option linter.unusedSimpArgs false

/-! ### geyserref02_SameWords: function 41 -/
def geyserref02_SameWords.l0 : Nat → List Int → List Int → Int → Option (Bool)
 | 0, _, _, _ => none
 | k + 1, x0, x1, x5 => if x5 < (x0.length : Int) then (if 0 ≤ x5 then (if x5 < (x1.length : Int) then (if (rd x0 x5) = (rd x1 x5) then (geyserref02_SameWords.l0 k x0 x1 (wrap64 (x5 + 1))) else (some false)) else (none)) else (none)) else (some true)
def geyserref02_SameWords.f (k : Nat) (l0 : List Int) (l1 : List Int) : Option (Bool) := if (l0.length : Int) = (l1.length : Int) then (geyserref02_SameWords.l0 k l0 l1 0) else (some false)
theorem geyserref02_SameWords.mono_l : ∀ k, (∀ y0 y1 y2, LeO (geyserref02_SameWords.l0 k y0 y1 y2) (geyserref02_SameWords.l0 (k + 1) y0 y1 y2))
 | 0 => fun _ _ _ r h => by simp [geyserref02_SameWords.l0] at h
 | k + 1 => by
  have ih0 := geyserref02_SameWords.mono_l k
  ·intro y0 y1 y2
   unfold geyserref02_SameWords.l0
   repeat' first
   | (with_reducible exact ih0 _ _ _)
   | (with_reducible exact LeO.refl _)
   | (with_reducible exact LeO.none _)
   | (with_reducible refine LeO.ite ?_ ?_)
   | (with_reducible refine LeO.bind ?_ (fun _ => ?_))
   | exact ih0 _ _ _
   | exact LeO.none _
   | refine LeO.ite ?_ ?_
   | refine LeO.bind ?_ (fun _ => ?_)
theorem geyserref02_SameWords.mono : ∀ a0 a1 k, LeO (geyserref02_SameWords.f k a0 a1) (geyserref02_SameWords.f (k + 1) a0 a1) := by
 intro a0 a1 k
 have ih0 := geyserref02_SameWords.mono_l k
 unfold geyserref02_SameWords.f
 repeat' first
   | (with_reducible exact ih0 _ _ _)
   | (with_reducible exact LeO.refl _)
   | (with_reducible exact LeO.none _)
   | (with_reducible refine LeO.ite ?_ ?_)
   | (with_reducible refine LeO.bind ?_ (fun _ => ?_))
   | exact ih0 _ _ _
   | exact LeO.none _
   | refine LeO.ite ?_ ?_
   | refine LeO.bind ?_ (fun _ => ?_)
set_option maxHeartbeats 8000000 in
set_option maxRecDepth 100000 in
theorem geyserref02_SameWords.calls (k : Nat) (A0 : Option Addr) (c0 : Nat) (l0 : List Int) (A1 : Option Addr) (c1 : Nat) (l1 : List Int) (r : Bool) (w : World) (hr0 : Kd.C (Kd.int .u64) w A0 l0.length l0) (hc0 : l0.length ≤ c0) (hr1 : Kd.C (Kd.int .u64) w A1 l1.length l1) (hc1 : l1.length ≤ c1) (h : geyserref02_SameWords.f k l0 l1 = some r) :
  Calls Tryd.prog 41 #[.slice A0 l0.length c0, .slice A1 l1.length c1] w fun e w' => e = .returned (.bool r) ∧ Drawn0 w w' := by
 have HR0 := Aside0.mk hr0
 have HC0 := Aside0.mk hc0
 clear hr0 hc0
 have HR1 := Aside0.mk hr1
 have HC1 := Aside0.mk hc1
 clear hr1 hc1
 have H : (if (l0.length : Int) = (l1.length : Int) then (geyserref02_SameWords.l0 k l0 l1 0) else (some false)) = some r := h
 clear h
 by_cases c3 : (l0.length : Int) = (l1.length : Int)
 ·rw [if_pos c3] at H
  have c3b0 : ((l0.length : Int) == (l1.length : Int)) = true := beq_iff_eq.mpr c3
  have c3b1 : ((l0.length : Int) != (l1.length : Int)) = false := bne_eq_false_iff_eq.mpr c3
  have c3b2 : (l0.length == l1.length) = true := by first | simpa using c3 | (simp at c3 ⊢; omega)
  clear c3
  have H' := Aside0.mk H
  clear H
  go_enter Tryd.func41, Tryd.ntmps41
  go_wp2
  repeat (go_quiet (fail); try go_wp2)
  go_loopg [5] k (fun kq v5 w' => ∃ (x5_1 : Int), v5 = .int .i64 x5_1 ∧ Aside0 (geyserref02_SameWords.l0 kq l0 l1 x5_1 = some r) ∧ Aside0 (kq ≤ k) ∧ Drawn0 w w')
  case atStart => exact ⟨(0), (by first | rfl | (simp; done) | (simp [*]; done)), H', ⟨Nat.le_refl _⟩, by repeat (first | exact Drawn0.refl _ | apply Drawn0.step)⟩
  case round =>
   clear H'
   try clear c1
   try clear p2
   try clear c3
   try clear c3b0
   try clear c3b1
   try clear c3b2
   obtain ⟨x5_1, rfl, HA, HK1, ⟨m1, rfl⟩⟩ := hrel
   cases gk with
   | zero => exact absurd HA.out (by simp [geyserref02_SameWords.l0])
   | succ k1 =>
    have H := HA.out
    clear HA
    simp only [geyserref02_SameWords.l0] at H
    by_cases c4 : x5_1 < (l0.length : Int)
    ·rw [if_pos c4] at H
     have c4b0 : decide (x5_1 < (l0.length : Int)) = true := decide_eq_true c4
     clear c4
     by_cases c5 : 0 ≤ x5_1
     ·rw [if_pos c5] at H
      have c5b0 : decide (0 ≤ x5_1) = true := decide_eq_true c5
      clear c5
      by_cases c6 : x5_1 < (l1.length : Int)
      ·rw [if_pos c6] at H
       have c6b0 : decide (x5_1 < (l1.length : Int)) = true := decide_eq_true c6
       clear c6
       by_cases c7 : (rd l0 x5_1) = (rd l1 x5_1)
       ·rw [if_pos c7] at H
        have c7b0 : ((rd l0 x5_1) == (rd l1 x5_1)) = true := beq_iff_eq.mpr c7
        have c7b1 : ((rd l0 x5_1) != (rd l1 x5_1)) = false := bne_eq_false_iff_eq.mpr c7
        clear c7
        have H' := Aside0.mk H
        clear H
        have p474 : 0 ≤ (x5_1 : Int) := of_decide_eq_true (by first | (with_reducible assumption) | assumption)
        have q474 : x5_1 < (l0.length : Int) := of_decide_eq_true (by first | (with_reducible assumption) | assumption)
        obtain ⟨ad474, e474, hx474_0⟩ := Kd.at_int HR0.out x5_1 p474 q474
        cases e474
        replace p474 := eq_true p474
        replace q474 := eq_true q474
        have p475 : 0 ≤ (x5_1 : Int) := of_decide_eq_true (by first | (with_reducible assumption) | assumption)
        have q475 : x5_1 < (l1.length : Int) := of_decide_eq_true (by first | (with_reducible assumption) | assumption)
        obtain ⟨ad475, e475, hx475_0⟩ := Kd.at_int HR1.out x5_1 p475 q475
        cases e475
        replace p475 := eq_true p475
        replace q475 := eq_true q475
        go_wp2
        repeat (go_quiet (fail); try go_wp2)
        go_roundg k1
        case measure => have := HK1.out; omega
        case rel => exact ⟨(wrap64 (x5_1 + 1)), (by first | rfl | (simp; done) | (simp [*]; done)), H', ⟨by have := HK1.out; omega⟩, by repeat (first | exact Drawn0.refl _ | apply Drawn0.step)⟩
       ·rw [if_neg c7] at H
        have c7b0 : ((rd l0 x5_1) == (rd l1 x5_1)) = false := beq_eq_false_iff_ne.mpr c7
        have c7b1 : ((rd l0 x5_1) != (rd l1 x5_1)) = true := bne_iff_ne.mpr c7
        obtain rfl := Option.some.inj H
        have p474 : 0 ≤ (x5_1 : Int) := of_decide_eq_true (by first | (with_reducible assumption) | assumption)
        have q474 : x5_1 < (l0.length : Int) := of_decide_eq_true (by first | (with_reducible assumption) | assumption)
        obtain ⟨ad474, e474, hx474_0⟩ := Kd.at_int HR0.out x5_1 p474 q474
        cases e474
        replace p474 := eq_true p474
        replace q474 := eq_true q474
        have p475 : 0 ≤ (x5_1 : Int) := of_decide_eq_true (by first | (with_reducible assumption) | assumption)
        have q475 : x5_1 < (l1.length : Int) := of_decide_eq_true (by first | (with_reducible assumption) | assumption)
        obtain ⟨ad475, e475, hx475_0⟩ := Kd.at_int HR1.out x5_1 p475 q475
        cases e475
        replace p475 := eq_true p475
        replace q475 := eq_true q475
        go_wp2
        repeat (go_quiet (fail); try go_wp2)
        go_ret
        exact ⟨by first | rfl | (simp; done) | (simp [*]; done), by repeat (first | exact Drawn0.refl _ | apply Drawn0.step)⟩
      ·rw [if_neg c6] at H
       exact absurd H (by simp)
     ·rw [if_neg c5] at H
      exact absurd H (by simp)
    ·rw [if_neg c4] at H
     have c4b0 : decide (x5_1 < (l0.length : Int)) = false := decide_eq_false c4
     clear c4
     obtain rfl := Option.some.inj H
     go_wp2
     repeat (go_quiet (fail); try go_wp2)
     go_ret
     exact ⟨by first | rfl | (simp; done) | (simp [*]; done), by repeat (first | exact Drawn0.refl _ | apply Drawn0.step)⟩
 ·rw [if_neg c3] at H
  have c3b0 : ((l0.length : Int) == (l1.length : Int)) = false := beq_eq_false_iff_ne.mpr c3
  have c3b1 : ((l0.length : Int) != (l1.length : Int)) = true := bne_iff_ne.mpr c3
  have c3b2 : (l0.length == l1.length) = false := by first | simpa using c3 | (simp at c3 ⊢; omega)
  obtain rfl := Option.some.inj H
  go_enter Tryd.func41, Tryd.ntmps41
  go_wp2
  repeat (go_quiet (fail); try go_wp2)
  go_ret
  exact ⟨by first | rfl | (simp; done) | (simp [*]; done), by repeat (first | exact Drawn0.refl _ | apply Drawn0.step)⟩


/-! ### geyserref03_Same: function 25 -/
def geyserref03_Same.l0 : Nat → List (List Int) → List (List Int) → Int → Option (Bool)
 | 0, _, _, _ => none
 | k + 1, x0, x1, x5 => if x5 < (x0.length : Int) then (if 0 ≤ x5 then (if x5 < (x1.length : Int) then ((geyserref02_SameWords.f k (rd_Lsu64 x0 x5) (rd_Lsu64 x1 x5)).bind fun t478 => (if t478 = true then (geyserref03_Same.l0 k x0 x1 (wrap64 (x5 + 1))) else (some false))) else (none)) else (none)) else (some true)
def geyserref03_Same.f (k : Nat) (l0 : List (List Int)) (l1 : List (List Int)) : Option (Bool) := if (l0.length : Int) = (l1.length : Int) then (geyserref03_Same.l0 k l0 l1 0) else (some false)
theorem geyserref03_Same.mono_l : ∀ k, (∀ y0 y1 y2, LeO (geyserref03_Same.l0 k y0 y1 y2) (geyserref03_Same.l0 (k + 1) y0 y1 y2))
 | 0 => fun _ _ _ r h => by simp [geyserref03_Same.l0] at h
 | k + 1 => by
  have ih0 := geyserref03_Same.mono_l k
  ·intro y0 y1 y2
   unfold geyserref03_Same.l0
   repeat' first
   | (with_reducible exact ih0 _ _ _)
   | (with_reducible exact geyserref02_SameWords.mono _ _ _)
   | (with_reducible exact LeO.refl _)
   | (with_reducible exact LeO.none _)
   | (with_reducible refine LeO.ite ?_ ?_)
   | (with_reducible refine LeO.bind ?_ (fun _ => ?_))
   | exact ih0 _ _ _
   | exact geyserref02_SameWords.mono _ _ _
   | exact LeO.none _
   | refine LeO.ite ?_ ?_
   | refine LeO.bind ?_ (fun _ => ?_)
theorem geyserref03_Same.mono : ∀ a0 a1 k, LeO (geyserref03_Same.f k a0 a1) (geyserref03_Same.f (k + 1) a0 a1) := by
 intro a0 a1 k
 have ih0 := geyserref03_Same.mono_l k
 unfold geyserref03_Same.f
 repeat' first
   | (with_reducible exact ih0 _ _ _)
   | (with_reducible exact geyserref02_SameWords.mono _ _ _)
   | (with_reducible exact LeO.refl _)
   | (with_reducible exact LeO.none _)
   | (with_reducible refine LeO.ite ?_ ?_)
   | (with_reducible refine LeO.bind ?_ (fun _ => ?_))
   | exact ih0 _ _ _
   | exact geyserref02_SameWords.mono _ _ _
   | exact LeO.none _
   | refine LeO.ite ?_ ?_
   | refine LeO.bind ?_ (fun _ => ?_)
set_option maxHeartbeats 8000000 in
set_option maxRecDepth 100000 in
theorem geyserref03_Same.calls (k : Nat) (A0 : Option Addr) (c0 : Nat) (l0 : List (List Int)) (A1 : Option Addr) (c1 : Nat) (l1 : List (List Int)) (r : Bool) (w : World) (hr0 : Kd.C (Kd.slice 29 (Kd.int .u64)) w A0 l0.length l0) (hc0 : l0.length ≤ c0) (hr1 : Kd.C (Kd.slice 29 (Kd.int .u64)) w A1 l1.length l1) (hc1 : l1.length ≤ c1) (h : geyserref03_Same.f k l0 l1 = some r) :
  Calls Tryd.prog 25 #[.slice A0 l0.length c0, .slice A1 l1.length c1] w fun e w' => e = .returned (.bool r) ∧ Drawn0 w w' := by
 have HR0 := Aside0.mk hr0
 have HC0 := Aside0.mk hc0
 clear hr0 hc0
 have HR1 := Aside0.mk hr1
 have HC1 := Aside0.mk hc1
 clear hr1 hc1
 have H : (if (l0.length : Int) = (l1.length : Int) then (geyserref03_Same.l0 k l0 l1 0) else (some false)) = some r := h
 clear h
 by_cases c3 : (l0.length : Int) = (l1.length : Int)
 ·rw [if_pos c3] at H
  have c3b0 : ((l0.length : Int) == (l1.length : Int)) = true := beq_iff_eq.mpr c3
  have c3b1 : ((l0.length : Int) != (l1.length : Int)) = false := bne_eq_false_iff_eq.mpr c3
  have c3b2 : (l0.length == l1.length) = true := by first | simpa using c3 | (simp at c3 ⊢; omega)
  clear c3
  have H' := Aside0.mk H
  clear H
  go_enter Tryd.func25, Tryd.ntmps25
  go_wp2
  repeat (go_quiet (fail); try go_wp2)
  go_loopg [5] k (fun kq v5 w' => ∃ (x5_1 : Int), v5 = .int .i64 x5_1 ∧ Aside0 (geyserref03_Same.l0 kq l0 l1 x5_1 = some r) ∧ Aside0 (kq ≤ k) ∧ Drawn0 w w')
  case atStart => exact ⟨(0), (by first | rfl | (simp; done) | (simp [*]; done)), H', ⟨Nat.le_refl _⟩, by repeat (first | exact Drawn0.refl _ | apply Drawn0.step)⟩
  case round =>
   clear H'
   try clear c1
   try clear c2
   try clear p2
   try clear c3
   try clear c3b0
   try clear c3b1
   try clear c3b2
   obtain ⟨x5_1, rfl, HA, HK1, ⟨m1, rfl⟩⟩ := hrel
   cases gk with
   | zero => exact absurd HA.out (by simp [geyserref03_Same.l0])
   | succ k1 =>
    have H := HA.out
    clear HA
    simp only [geyserref03_Same.l0] at H
    by_cases c4 : x5_1 < (l0.length : Int)
    ·rw [if_pos c4] at H
     have c4b0 : decide (x5_1 < (l0.length : Int)) = true := decide_eq_true c4
     clear c4
     by_cases c5 : 0 ≤ x5_1
     ·rw [if_pos c5] at H
      have c5b0 : decide (0 ≤ x5_1) = true := decide_eq_true c5
      clear c5
      by_cases c6 : x5_1 < (l1.length : Int)
      ·rw [if_pos c6] at H
       have c6b0 : decide (x5_1 < (l1.length : Int)) = true := decide_eq_true c6
       clear c6
       replace H := Option.bind_eq_some_iff.mp H
       obtain ⟨t478, A70, H⟩ := H
       replace H : (if t478 = true then (geyserref03_Same.l0 k1 l0 l1 (wrap64 (x5_1 + 1))) else (some false)) = some r := H
       have A7 := Aside0.mk A70
       clear A70
       by_cases c8 : t478 = true
       ·subst c8
        have H1 : (geyserref03_Same.l0 k1 l0 l1 (wrap64 (x5_1 + 1))) = some r := by rw [if_pos rfl] at H; exact H
        clear H
        have H := H1
        clear H1
        have H' := Aside0.mk H
        clear H
        have p476 : 0 ≤ (x5_1 : Int) := of_decide_eq_true (by first | (with_reducible assumption) | assumption)
        have q476 : x5_1 < (l0.length : Int) := of_decide_eq_true (by first | (with_reducible assumption) | assumption)
        obtain ⟨ad476, A476_0, c476_0, e476, hx476_0, hl476_0, hi476_0⟩ := at_Lsu64 HR0.out x5_1 p476 q476
        cases e476
        have HR476_0 := Aside0.mk hi476_0
        have HC476_0 := Aside0.mk hl476_0
        clear hi476_0 hl476_0
        replace p476 := eq_true p476
        replace q476 := eq_true q476
        have p477 : 0 ≤ (x5_1 : Int) := of_decide_eq_true (by first | (with_reducible assumption) | assumption)
        have q477 : x5_1 < (l1.length : Int) := of_decide_eq_true (by first | (with_reducible assumption) | assumption)
        obtain ⟨ad477, A477_0, c477_0, e477, hx477_0, hl477_0, hi477_0⟩ := at_Lsu64 HR1.out x5_1 p477 q477
        cases e477
        have HR477_0 := Aside0.mk hi477_0
        have HC477_0 := Aside0.mk hl477_0
        clear hi477_0 hl477_0
        replace p477 := eq_true p477
        replace q477 := eq_true q477
        go_wp2_with (first | (go_at_call 41; (with_reducible refine (geyserref02_SameWords.calls k1 _ _ (rd_Lsu64 l0 x5_1) _ _ (rd_Lsu64 l1 x5_1) true _ ?side1 ?side2 ?side3 ?side4 A7.out).mono ?_); (case side1 => repeat (first | exact HR476_0.out | (with_reducible refine Kd.C_alloc ?_ _) | (with_reducible refine Kd.C_drewN ?_ _) | (with_reducible refine Kd.C_drew ?_))); (case side2 => exact HC476_0.out); (case side3 => repeat (first | exact HR477_0.out | (with_reducible refine Kd.C_alloc ?_ _) | (with_reducible refine Kd.C_drewN ?_ _) | (with_reducible refine Kd.C_drew ?_))); (case side4 => exact HC477_0.out); rintro e w' ⟨rfl, ⟨nd, rfl⟩⟩; (try first | exact ⟨rfl, _, World.drewN_drewN _ _ _⟩ | exact ⟨rfl, _, Eq.trans (World.drewN_drewN _ _ _) (congrArg (World.drewN _) (Nat.add_assoc _ _ _))⟩)))
        repeat (go_quiet (first | (go_at_call 41; (with_reducible refine (geyserref02_SameWords.calls k1 _ _ (rd_Lsu64 l0 x5_1) _ _ (rd_Lsu64 l1 x5_1) true _ ?side1 ?side2 ?side3 ?side4 A7.out).mono ?_); (case side1 => repeat (first | exact HR476_0.out | (with_reducible refine Kd.C_alloc ?_ _) | (with_reducible refine Kd.C_drewN ?_ _) | (with_reducible refine Kd.C_drew ?_))); (case side2 => exact HC476_0.out); (case side3 => repeat (first | exact HR477_0.out | (with_reducible refine Kd.C_alloc ?_ _) | (with_reducible refine Kd.C_drewN ?_ _) | (with_reducible refine Kd.C_drew ?_))); (case side4 => exact HC477_0.out); rintro e w' ⟨rfl, ⟨nd, rfl⟩⟩; (try first | exact ⟨rfl, _, World.drewN_drewN _ _ _⟩ | exact ⟨rfl, _, Eq.trans (World.drewN_drewN _ _ _) (congrArg (World.drewN _) (Nat.add_assoc _ _ _))⟩))); try go_wp2_with (first | (go_at_call 41; (with_reducible refine (geyserref02_SameWords.calls k1 _ _ (rd_Lsu64 l0 x5_1) _ _ (rd_Lsu64 l1 x5_1) true _ ?side1 ?side2 ?side3 ?side4 A7.out).mono ?_); (case side1 => repeat (first | exact HR476_0.out | (with_reducible refine Kd.C_alloc ?_ _) | (with_reducible refine Kd.C_drewN ?_ _) | (with_reducible refine Kd.C_drew ?_))); (case side2 => exact HC476_0.out); (case side3 => repeat (first | exact HR477_0.out | (with_reducible refine Kd.C_alloc ?_ _) | (with_reducible refine Kd.C_drewN ?_ _) | (with_reducible refine Kd.C_drew ?_))); (case side4 => exact HC477_0.out); rintro e w' ⟨rfl, ⟨nd, rfl⟩⟩; (try first | exact ⟨rfl, _, World.drewN_drewN _ _ _⟩ | exact ⟨rfl, _, Eq.trans (World.drewN_drewN _ _ _) (congrArg (World.drewN _) (Nat.add_assoc _ _ _))⟩))))
        go_roundg k1
        case measure => have := HK1.out; omega
        case rel => exact ⟨(wrap64 (x5_1 + 1)), (by first | rfl | (simp; done) | (simp [*]; done)), H', ⟨by have := HK1.out; omega⟩, by repeat (first | exact Drawn0.refl _ | apply Drawn0.step)⟩
       ·replace c8 := Bool.eq_false_iff.mpr c8
        subst c8
        have H1 : (some false) = some r := by rw [if_neg (show ¬ (false = true) by decide)] at H; exact H
        clear H
        have H := H1
        clear H1
        obtain rfl := Option.some.inj H
        have p476 : 0 ≤ (x5_1 : Int) := of_decide_eq_true (by first | (with_reducible assumption) | assumption)
        have q476 : x5_1 < (l0.length : Int) := of_decide_eq_true (by first | (with_reducible assumption) | assumption)
        obtain ⟨ad476, A476_0, c476_0, e476, hx476_0, hl476_0, hi476_0⟩ := at_Lsu64 HR0.out x5_1 p476 q476
        cases e476
        have HR476_0 := Aside0.mk hi476_0
        have HC476_0 := Aside0.mk hl476_0
        clear hi476_0 hl476_0
        replace p476 := eq_true p476
        replace q476 := eq_true q476
        have p477 : 0 ≤ (x5_1 : Int) := of_decide_eq_true (by first | (with_reducible assumption) | assumption)
        have q477 : x5_1 < (l1.length : Int) := of_decide_eq_true (by first | (with_reducible assumption) | assumption)
        obtain ⟨ad477, A477_0, c477_0, e477, hx477_0, hl477_0, hi477_0⟩ := at_Lsu64 HR1.out x5_1 p477 q477
        cases e477
        have HR477_0 := Aside0.mk hi477_0
        have HC477_0 := Aside0.mk hl477_0
        clear hi477_0 hl477_0
        replace p477 := eq_true p477
        replace q477 := eq_true q477
        go_wp2_with (first | (go_at_call 41; (with_reducible refine (geyserref02_SameWords.calls k1 _ _ (rd_Lsu64 l0 x5_1) _ _ (rd_Lsu64 l1 x5_1) false _ ?side1 ?side2 ?side3 ?side4 A7.out).mono ?_); (case side1 => repeat (first | exact HR476_0.out | (with_reducible refine Kd.C_alloc ?_ _) | (with_reducible refine Kd.C_drewN ?_ _) | (with_reducible refine Kd.C_drew ?_))); (case side2 => exact HC476_0.out); (case side3 => repeat (first | exact HR477_0.out | (with_reducible refine Kd.C_alloc ?_ _) | (with_reducible refine Kd.C_drewN ?_ _) | (with_reducible refine Kd.C_drew ?_))); (case side4 => exact HC477_0.out); rintro e w' ⟨rfl, ⟨nd, rfl⟩⟩; (try first | exact ⟨rfl, _, World.drewN_drewN _ _ _⟩ | exact ⟨rfl, _, Eq.trans (World.drewN_drewN _ _ _) (congrArg (World.drewN _) (Nat.add_assoc _ _ _))⟩)))
        repeat (go_quiet (first | (go_at_call 41; (with_reducible refine (geyserref02_SameWords.calls k1 _ _ (rd_Lsu64 l0 x5_1) _ _ (rd_Lsu64 l1 x5_1) false _ ?side1 ?side2 ?side3 ?side4 A7.out).mono ?_); (case side1 => repeat (first | exact HR476_0.out | (with_reducible refine Kd.C_alloc ?_ _) | (with_reducible refine Kd.C_drewN ?_ _) | (with_reducible refine Kd.C_drew ?_))); (case side2 => exact HC476_0.out); (case side3 => repeat (first | exact HR477_0.out | (with_reducible refine Kd.C_alloc ?_ _) | (with_reducible refine Kd.C_drewN ?_ _) | (with_reducible refine Kd.C_drew ?_))); (case side4 => exact HC477_0.out); rintro e w' ⟨rfl, ⟨nd, rfl⟩⟩; (try first | exact ⟨rfl, _, World.drewN_drewN _ _ _⟩ | exact ⟨rfl, _, Eq.trans (World.drewN_drewN _ _ _) (congrArg (World.drewN _) (Nat.add_assoc _ _ _))⟩))); try go_wp2_with (first | (go_at_call 41; (with_reducible refine (geyserref02_SameWords.calls k1 _ _ (rd_Lsu64 l0 x5_1) _ _ (rd_Lsu64 l1 x5_1) false _ ?side1 ?side2 ?side3 ?side4 A7.out).mono ?_); (case side1 => repeat (first | exact HR476_0.out | (with_reducible refine Kd.C_alloc ?_ _) | (with_reducible refine Kd.C_drewN ?_ _) | (with_reducible refine Kd.C_drew ?_))); (case side2 => exact HC476_0.out); (case side3 => repeat (first | exact HR477_0.out | (with_reducible refine Kd.C_alloc ?_ _) | (with_reducible refine Kd.C_drewN ?_ _) | (with_reducible refine Kd.C_drew ?_))); (case side4 => exact HC477_0.out); rintro e w' ⟨rfl, ⟨nd, rfl⟩⟩; (try first | exact ⟨rfl, _, World.drewN_drewN _ _ _⟩ | exact ⟨rfl, _, Eq.trans (World.drewN_drewN _ _ _) (congrArg (World.drewN _) (Nat.add_assoc _ _ _))⟩))))
        go_ret
        exact ⟨by first | rfl | (simp; done) | (simp [*]; done), by repeat (first | exact Drawn0.refl _ | apply Drawn0.step)⟩
      ·rw [if_neg c6] at H
       exact absurd H (by simp)
     ·rw [if_neg c5] at H
      exact absurd H (by simp)
    ·rw [if_neg c4] at H
     have c4b0 : decide (x5_1 < (l0.length : Int)) = false := decide_eq_false c4
     clear c4
     obtain rfl := Option.some.inj H
     go_wp2
     repeat (go_quiet (fail); try go_wp2)
     go_ret
     exact ⟨by first | rfl | (simp; done) | (simp [*]; done), by repeat (first | exact Drawn0.refl _ | apply Drawn0.step)⟩
 ·rw [if_neg c3] at H
  have c3b0 : ((l0.length : Int) == (l1.length : Int)) = false := beq_eq_false_iff_ne.mpr c3
  have c3b1 : ((l0.length : Int) != (l1.length : Int)) = true := bne_iff_ne.mpr c3
  have c3b2 : (l0.length == l1.length) = false := by first | simpa using c3 | (simp at c3 ⊢; omega)
  obtain rfl := Option.some.inj H
  go_enter Tryd.func25, Tryd.ntmps25
  go_wp2
  repeat (go_quiet (fail); try go_wp2)
  go_ret
  exact ⟨by first | rfl | (simp; done) | (simp [*]; done), by repeat (first | exact Drawn0.refl _ | apply Drawn0.step)⟩

end Go.Proofs.YtgocibnmgfmceaaDoor.P

namespace Go.Proofs.YtgocibnmgfmceaaDoor.Pure
open Go.RowKit Go.Proofs.YtgocibnmgfmceaaDoor.P Go.Proofs.YtgocibnmgfmceaaDoorW.PrintWords Go.Proofs.YtgocibnmgfmceaaDoorW.PrintLast Go.Proofs.YtgocibnmgfmceaaDoorW.PrintErr Go.Proofs.YtgocibnmgfmceaaDoorW.PrintMore
set_option linter.unusedVariables false
theorem samew_l0 (S : List Int) : ∀ P : List Int, (P ++ S).length < 9223372036854775807 → Ev (fun k => geyserref02_SameWords.l0 k (P ++ S) (P ++ S) (P.length : Int)) true := by
  induction S with
  | nil =>
    intro P _
    refine Ev.step (f := fun _ => some true) (fun k => ?_) (Ev.now _)
    rw [geyserref02_SameWords.l0, if_neg (by simp)]
  | cons x S ih =>
    intro P hP
    have hl : (P ++ x :: S).length = P.length + (S.length + 1) := by simp
    have e1 : P ++ [x] ++ S = P ++ x :: S := by simp
    have h' := ih (P ++ [x]) (by rw [e1]; exact hP)
    have e2 : ((P ++ [x]).length : Int) = wrap64 ((P.length : Int) + 1) := by rw [w64s (by omega) (by omega)]; simp
    rw [e1, e2] at h'
    refine Ev.step (fun k => ?_) h'
    rw [geyserref02_SameWords.l0, if_pos (by omega), if_pos (by omega), if_pos (by omega), if_pos rfl]
theorem samew_ev (a : List Int) (h : a.length < 9223372036854775807) : Ev (fun k => geyserref02_SameWords.f k a a) true := by
  refine Ev.congr (fun k => ?_) (samew_l0 a [] h)
  unfold geyserref02_SameWords.f
  rw [if_pos rfl]; rfl
theorem same3_l0 (S : List (List Int)) : ∀ P : List (List Int), (P ++ S).length < 9223372036854775807 → (∀ x ∈ S, x.length < 9223372036854775807) → Ev (fun k => geyserref03_Same.l0 k (P ++ S) (P ++ S) (P.length : Int)) true := by
  induction S with
  | nil =>
    intro P _ _
    refine Ev.step (f := fun _ => some true) (fun k => ?_) (Ev.now _)
    rw [geyserref03_Same.l0, if_neg (by simp)]
  | cons x S ih =>
    intro P hP hx
    have hl : (P ++ x :: S).length = P.length + (S.length + 1) := by simp
    have e1 : P ++ [x] ++ S = P ++ x :: S := by simp
    have h' := ih (P ++ [x]) (by rw [e1]; exact hP) (fun y hy => hx y (by simp [hy]))
    have e2 : ((P ++ [x]).length : Int) = wrap64 ((P.length : Int) + 1) := by rw [w64s (by omega) (by omega)]; simp
    rw [e1, e2] at h'
    refine Ev.step (f := fun k => (geyserref02_SameWords.f k x x).bind fun t478 => (if t478 = true then (geyserref03_Same.l0 k (P ++ x :: S) (P ++ x :: S) (wrap64 ((P.length : Int) + 1))) else (some false))) (fun k => ?_) (Ev.bind (samew_ev x (hx x (by simp))) ?_)
    · rw [geyserref03_Same.l0, if_pos (by omega), if_pos (by omega), if_pos (by omega), rd_rowW]
    · refine Ev.congr (fun k => ?_) h'
      rw [if_pos rfl]
theorem same3_ev (a : List (List Int)) (h : a.length < 9223372036854775807) (hx : ∀ x ∈ a, x.length < 9223372036854775807) : Ev (fun k => geyserref03_Same.f k a a) true := by
  refine Ev.congr (fun k => ?_) (same3_l0 a [] h hx)
  unfold geyserref03_Same.f
  rw [if_pos rfl]; rfl
end Go.Proofs.YtgocibnmgfmceaaDoor.Pure

namespace Go.Proofs.YtgocibnmgfmceaaDoor.P
open Go.RowKit Go.Proofs.YtgocibnmgfmceaaDoorW.PrintWords Go.Proofs.YtgocibnmgfmceaaDoorW.PrintLast Go.Proofs.YtgocibnmgfmceaaDoorW.PrintErr Go.Proofs.YtgocibnmgfmceaaDoorW.PrintMore
attribute [local go_sem] max2_int min2_int max_two min_two max_three min_three max_four min_four run_eql_errOf run_neq_errOf eqGuard_errOf   -- for this text's walks alone
set_option linter.unusedVariables false
set_option linter.unusedSimpArgs false

-- IMPORT Derived.RegionTactic
-- IMPORT Derived.BigRegion
-- IMPORT WOpen
/-- What is held of the copies and of the plain form while its words are turned over: the copies lie below m, the plain form from m on; of its rows the lengths alone are told. -/
def matrix_Plains_loop.Inv (m base : Nat) (v5 v7 : Value) (x5 x7 : List (List Int)) (W : World) : Prop :=
 base ≤ m ∧ Kd.N (Kd.slice 29 (Kd.int .u64)) 27 W base (fun k => k < m) v5 x5 ∧ ∃ ys : List (List Int), ys.length = x7.length ∧ (∀ j, (ys.getD j []).length = (x7.getD j []).length) ∧ Kd.R (Kd.slice 29 (Kd.int .u64)) 27 W m (fun _ => True) v7 ys
section
variable {m base : Nat} {v5 v7 : Value} {x5 x7 : List (List Int)} {W W' : World}
theorem matrix_Plains_loop.Inv.below (h : matrix_Plains_loop.Inv m base v5 v7 x5 x7 W) (hb : Below W.heap.size W W') : matrix_Plains_loop.Inv m base v5 v7 x5 x7 W' := by
 obtain ⟨h0, h1, ys, h2, h3, h4⟩ := h
 exact ⟨h0, Kd.N_below h1 hb, ys, h2, h3, Kd.R_below h4 hb⟩
theorem matrix_Plains_loop.Inv.drewN (h : matrix_Plains_loop.Inv m base v5 v7 x5 x7 W) (n : Nat) : matrix_Plains_loop.Inv m base v5 v7 x5 x7 (W.drewN n) := h.below (pw_below_drewN (Below.refl _ _) n)
theorem matrix_Plains_loop.Inv.drew (h : matrix_Plains_loop.Inv m base v5 v7 x5 x7 W) : matrix_Plains_loop.Inv m base v5 v7 x5 x7 W.drew := h.below (below_drew (Below.refl _ _))
theorem matrix_Plains_loop.Inv.start {ok ok' : Nat → Prop} (h5 : Kd.N (Kd.slice 29 (Kd.int .u64)) 27 W base ok v5 x5) (hb : Below W.heap.size W W') (h7 : Kd.R (Kd.slice 29 (Kd.int .u64)) 27 W' W.heap.size ok' v7 x7) (hB : base ≤ W.heap.size) : ∃ m, matrix_Plains_loop.Inv m base v5 v7 x5 x7 W' :=
 ⟨W.heap.size, hB, Kd.N_mono (Kd.N_below (Kd.N_bound h5) hb) (fun _ h => h.2), x7, rfl, fun _ => rfl, Kd.R_mono h7 (fun _ _ => trivial)⟩
theorem matrix_Plains_loop.int_set {B e g o : Nat} {ok : Nat → Prop} {v : Value} {xs : List Int} (h : Kd.R (Kd.int .u64) e W B ok v xs) (u : Int) : ∃ xs' : List Int, xs'.length = xs.length ∧ Kd.R (Kd.int .u64) e (W.setCell ⟨g, o, none⟩ (.int .u64 u)) B ok v xs' := by
 by_cases hv : v.ownBlock = some g
 ·obtain ⟨A, c, rfl⟩ := Kd.R_slice h
  cases A with
  | none => simp [Value.ownBlock] at hv
  | some ad =>
   obtain ⟨g', rfl⟩ := Kd.R_head h
   obtain rfl : g' = g := by simpa [Value.ownBlock] using hv
   exact ⟨xs.set (o : Int).toNat u, by simp, Kd.R_putn h (o : Int) u⟩
 ·exact ⟨xs, rfl, Kd.R_mono (Kd.R_far (p := ⟨g, o, none⟩) (Kd.R_far1 h rfl (fun e => hv e.symm)) (fun _ hk => hk.2) _) (fun _ hk => hk.1)⟩
theorem matrix_Plains_loop.Inv.store (h : matrix_Plains_loop.Inv m base v5 v7 x5 x7 W) {g o : Nat} {cells : Array Value} (hg : m ≤ g) (hc : W.heap[g]? = some (.cells cells 29 (0, 0))) (u : Int) : matrix_Plains_loop.Inv m base v5 v7 x5 x7 (W.setCell ⟨g, o, none⟩ (.int .u64 u)) := by
 obtain ⟨h0, h1, ys, h2, h3, h4, inner, hown, hreps⟩ := h
 refine ⟨h0, Kd.N_far (p := ⟨g, o, none⟩) h1 (fun k hk e => by have : k = g := e; omega) _, ?_⟩
 have hown' := own_setCell (p := ⟨g, o, none⟩) hown (own_ne hown hc (by decide)) (.int .u64 u)
 have each : ∀ j, j < ys.length → ∃ y : List Int, y.length = (ys.getD j []).length ∧ Kd.M (Kd.slice 29 (Kd.int .u64)) (W.setCell ⟨g, o, none⟩ (.int .u64 u)) m (fun k => True ∧ some k ≠ v7.ownBlock) y ((inner.drop (j * Kd.sz (Kd.slice 29 (Kd.int .u64)))).take (Kd.sz (Kd.slice 29 (Kd.int .u64)))) := fun j hj => by
  obtain ⟨v, hv, hR⟩ := hreps.2 j ys[j] (List.getElem?_eq_getElem hj)
  obtain ⟨y, hy, hR'⟩ := matrix_Plains_loop.int_set (g := g) (o := o) hR u
  exact ⟨y, by rw [hy, List.getD_eq_getElem?_getD, List.getElem?_eq_getElem hj]; rfl, v, hv, hR'⟩
 obtain ⟨f, hf⟩ := Go.Deep.choose_lt each
 have hlen : ((List.range ys.length).map f).length = ys.length := by simp
 refine ⟨(List.range ys.length).map f, hlen.trans h2, fun j => ?_, h4, inner, by rw [hlen]; exact hown', by rw [hreps.1, hlen], fun j p hp => ?_⟩
 ·rw [← h3 j, List.getD_eq_getElem?_getD, List.getElem?_map]
  by_cases hj : j < ys.length
  ·rw [List.getElem?_range hj]
   exact (hf j hj).1
  ·rw [List.getElem?_eq_none (by simpa using hj), List.getD_eq_getElem?_getD, List.getElem?_eq_none (by omega)]
   rfl
 ·have hj : j < ys.length := by
   have := (List.getElem?_eq_some_iff.1 hp).1
   rwa [hlen] at this
  rw [List.getElem?_map, List.getElem?_range hj] at hp
  obtain rfl := Option.some.inj hp
  exact (hf j hj).2
/-- Row i of the plain form: its slice, and its words' cells. -/
theorem matrix_Plains_loop.Inv.at_ {A7 : Option Addr} {n7 c7 : Nat} (h : matrix_Plains_loop.Inv m base v5 (.slice A7 n7 c7) x5 x7 W) (i : Nat) (hi : i < x7.length) : ∃ g7, A7 = some ⟨g7, 0, none⟩ ∧ (n7 = x7.length ∧ x7.length ≤ 9223372036854775807 ∧ (x7.getD i []).length ≤ 9223372036854775807) ∧
  ∃ A c, W.cell? ⟨g7, i, none⟩ = some (.slice A (x7.getD i []).length c) ∧ ∀ k, k < (x7.getD i []).length → ∃ g z cells, A = some ⟨g, 0, none⟩ ∧ W.cell? ⟨g, k, none⟩ = some (.int .u64 z) ∧ W.frozen? ⟨g, k, none⟩ = false ∧ m ≤ g ∧ W.heap[g]? = some (.cells cells 29 (0, 0)) := by
 obtain ⟨h0, h1, ys, h2, h3, h4⟩ := h
 obtain ⟨hn, _, hC4⟩ := Kd.R_reads' h4
 have hmax := hC4.2.1
 obtain ⟨g7, cap, he, _⟩ := Kd.R_form h4 (by omega)
 injection he with ha hb hc
 subst ha
 obtain ⟨c, hcl, ⟨v, hv, hR⟩, hcc, _⟩ := Kd.R_elem h4 [] (i : Int) (by omega) (by omega)
 subst hv
 have hcell := hcc 0 v rfl
 rw [Int.toNat_natCast] at hcell hR
 have hcell' : W.cell? ⟨g7, i, none⟩ = some v := by
  have e : i * Kd.sz (Kd.slice 29 (Kd.int .u64)) + 0 = i := by show i * 1 + 0 = i; omega
  rw [e] at hcell; exact hcell
 obtain ⟨A, cc, rfl⟩ := Kd.R_slice hR
 have hmax2 := (Kd.R_reads' hR).2.2.2.1
 have hgd : ys.getD i [] = ys.getD (i : Int).toNat [] := by rw [Int.toNat_natCast]
 refine ⟨g7, rfl, ⟨by omega, by omega, by rw [← h3 i]; exact hmax2⟩, A, cc, by rw [hcell', h3 i], fun k hk => ?_⟩
 rw [← h3 i] at hk
 obtain ⟨g, cap', he', hbase, hlt, cells, hcells⟩ := Kd.R_form hR (by omega)
 injection he' with ha' hb' hc'
 subst ha'
 obtain ⟨c2, hcl2, hM2, hcc2, hfr2⟩ := Kd.R_elem hR 0 (k : Int) (by omega) (by omega)
 rw [Int.toNat_natCast] at hcc2 hM2
 have hM3 : c2 = [.int .u64 ((ys.getD i []).getD k 0)] := hM2
 have e2 : k * Kd.sz (Kd.int .u64) + 0 = k := by show k * 1 + 0 = k; omega
 have h5 := hcc2 0 _ (by rw [hM3]; rfl)
 rw [e2] at h5
 have h6 := hfr2 0
 rw [Int.toNat_natCast, e2] at h6
 exact ⟨g, _, cells, rfl, h5, h6, hbase, hcells⟩
end
/-- The same, of some m. -/
def matrix_Plains_loop.Inv_ (base : Nat) (v5 v7 : Value) (x5 x7 : List (List Int)) (W : World) : Prop := ∃ m, matrix_Plains_loop.Inv m base v5 v7 x5 x7 W
section
variable {base : Nat} {v5 v7 : Value} {x5 x7 : List (List Int)} {W W' : World}
theorem matrix_Plains_loop.Inv_.below (h : matrix_Plains_loop.Inv_ base v5 v7 x5 x7 W) (hb : Below W.heap.size W W') : matrix_Plains_loop.Inv_ base v5 v7 x5 x7 W' := by
 obtain ⟨m, h⟩ := h
 exact ⟨m, h.below hb⟩
theorem matrix_Plains_loop.Inv_.drewN {n : Nat} (h : matrix_Plains_loop.Inv_ base v5 v7 x5 x7 W) : matrix_Plains_loop.Inv_ base v5 v7 x5 x7 (W.drewN n) := by
 obtain ⟨m, h⟩ := h
 exact ⟨m, h.drewN n⟩
theorem matrix_Plains_loop.Inv_.drew (h : matrix_Plains_loop.Inv_ base v5 v7 x5 x7 W) : matrix_Plains_loop.Inv_ base v5 v7 x5 x7 W.drew := by
 obtain ⟨m, h⟩ := h
 exact ⟨m, h.drew⟩
theorem matrix_Plains_loop.Inv_.start {ok ok' : Nat → Prop} (h5 : Kd.N (Kd.slice 29 (Kd.int .u64)) 27 W base ok v5 x5) (hb : Below W.heap.size W W') (h7 : Kd.R (Kd.slice 29 (Kd.int .u64)) 27 W' W.heap.size ok' v7 x7) (hB : base ≤ W.heap.size) : matrix_Plains_loop.Inv_ base v5 v7 x5 x7 W' := matrix_Plains_loop.Inv.start h5 hb h7 hB
end

/-! ### geyserlaw03_MatrixPlains: function 9 -/
mutual
def geyserlaw03_MatrixPlains.l0 : Nat → List (List Int) → Int → List (List Int) → Int → Option (Bool)
 | 0, _, _, _, _ => none
 | k + 1, x0, x1, x5, x6 => if x6 < (x0.length : Int) then ((some (([] : List Int) : List Int)).bind fun y573 => (if 0 ≤ x6 then (if y573.length + (rd_Lsu64 x0 x6).length < 17592186044416 then (if x5.length < 5864062014805 then (geyserlaw03_MatrixPlains.l0 k x0 x1 (x5 ++ [(y573 ++ (rd_Lsu64 x0 x6))]) (wrap64 (x6 + 1))) else (none)) else (none)) else (none))) else ((matrix_Plain.f k x5 x1).bind fun bt583 => ((geyserref03_Check.f k x0 x1).bind fun t589 => ((geyserlaw03_tells.f bt583.2 t589 (⟨#[109, 97, 116, 114, 105, 120, 46, 80, 108, 97, 105, 110]⟩ : ByteArray)).bind fun t590 => (if t590 = true then ((geyserref03_Same.f k x5 x0).bind fun t591 => (geyserlaw03_MatrixPlains.j1 k x0 x1 x5 bt583.1 t589 (!t591))) else (geyserlaw03_MatrixPlains.j1 k x0 x1 x5 bt583.1 t589 true)))))
def geyserlaw03_MatrixPlains.j1 : Nat → List (List Int) → Int → List (List Int) → List (List Int) → Int → Bool → Option (Bool)
 | 0, _, _, _, _, _, _ => none
 | k + 1, x0, x1, x5, x7, x9, x51 => if x51 = true then (some false) else (if x9 = 0 then ((geyserref03_Plain.f k x0 x1).bind fun t593 => ((geyserref03_Same.f k x7 t593).bind fun t596 => (if t596 = true then ((geyserref03_Same.f k x5 x0).bind fun t597 => (if t597 = true then ((geyserlaw03_awake.f k).bind fun t598 => (some t598)) else (some false))) else (some false)))) else (if (x7.length : Int) = 0 then ((geyserlaw03_awake.f k).bind fun t592 => (some t592)) else (some false)))
end
def geyserlaw03_MatrixPlains.f (k : Nat) (l0 : List (List Int)) (a1 : Int) : Option (Bool) := (geyserlaw03_big.f l0 a1).bind fun t568 => (if t568 = true then ((geyserlaw03_awake.f k).bind fun t569 => (some t569)) else (geyserlaw03_MatrixPlains.l0 k l0 a1 (([] : List (List Int))) 0))
theorem geyserlaw03_MatrixPlains.mono_l : ∀ k, (∀ y0 y1 y2 y3, LeO (geyserlaw03_MatrixPlains.l0 k y0 y1 y2 y3) (geyserlaw03_MatrixPlains.l0 (k + 1) y0 y1 y2 y3)) ∧ (∀ y0 y1 y2 y3 y4 y5, LeO (geyserlaw03_MatrixPlains.j1 k y0 y1 y2 y3 y4 y5) (geyserlaw03_MatrixPlains.j1 (k + 1) y0 y1 y2 y3 y4 y5))
 | 0 => ⟨fun _ _ _ _ r h => by simp [geyserlaw03_MatrixPlains.l0] at h, fun _ _ _ _ _ _ r h => by simp [geyserlaw03_MatrixPlains.j1] at h⟩
 | k + 1 => by
  obtain ⟨ih0, ih1⟩ := geyserlaw03_MatrixPlains.mono_l k
  refine ⟨?_, ?_⟩
  ·intro y0 y1 y2 y3
   unfold geyserlaw03_MatrixPlains.l0
   repeat' first
   | (with_reducible exact ih0 _ _ _ _)
   | (with_reducible exact ih1 _ _ _ _ _ _)
   | (with_reducible exact geyserlaw03_awake.mono _)
   | (with_reducible exact geyserref03_Check.mono _ _ _)
   | (with_reducible exact geyserref03_Plain.mono _ _ _)
   | (with_reducible exact geyserref03_Same.mono _ _ _)
   | (with_reducible exact matrix_Plain.mono _ _ _)
   | (with_reducible exact LeO.refl _)
   | (with_reducible exact LeO.none _)
   | (with_reducible refine LeO.ite ?_ ?_)
   | (with_reducible refine LeO.bind ?_ (fun _ => ?_))
   | exact ih0 _ _ _ _
   | exact ih1 _ _ _ _ _ _
   | exact geyserlaw03_awake.mono _
   | exact geyserref03_Check.mono _ _ _
   | exact geyserref03_Plain.mono _ _ _
   | exact geyserref03_Same.mono _ _ _
   | exact matrix_Plain.mono _ _ _
   | exact LeO.none _
   | refine LeO.ite ?_ ?_
   | refine LeO.bind ?_ (fun _ => ?_)
  ·intro y0 y1 y2 y3 y4 y5
   unfold geyserlaw03_MatrixPlains.j1
   repeat' first
   | (with_reducible exact ih0 _ _ _ _)
   | (with_reducible exact ih1 _ _ _ _ _ _)
   | (with_reducible exact geyserlaw03_awake.mono _)
   | (with_reducible exact geyserref03_Check.mono _ _ _)
   | (with_reducible exact geyserref03_Plain.mono _ _ _)
   | (with_reducible exact geyserref03_Same.mono _ _ _)
   | (with_reducible exact matrix_Plain.mono _ _ _)
   | (with_reducible exact LeO.refl _)
   | (with_reducible exact LeO.none _)
   | (with_reducible refine LeO.ite ?_ ?_)
   | (with_reducible refine LeO.bind ?_ (fun _ => ?_))
   | exact ih0 _ _ _ _
   | exact ih1 _ _ _ _ _ _
   | exact geyserlaw03_awake.mono _
   | exact geyserref03_Check.mono _ _ _
   | exact geyserref03_Plain.mono _ _ _
   | exact geyserref03_Same.mono _ _ _
   | exact matrix_Plain.mono _ _ _
   | exact LeO.none _
   | refine LeO.ite ?_ ?_
   | refine LeO.bind ?_ (fun _ => ?_)
theorem geyserlaw03_MatrixPlains.mono : ∀ a0 a1 k, LeO (geyserlaw03_MatrixPlains.f k a0 a1) (geyserlaw03_MatrixPlains.f (k + 1) a0 a1) := by
 intro a0 a1 k
 obtain ⟨ih0, ih1⟩ := geyserlaw03_MatrixPlains.mono_l k
 unfold geyserlaw03_MatrixPlains.f
 repeat' first
   | (with_reducible exact ih0 _ _ _ _)
   | (with_reducible exact ih1 _ _ _ _ _ _)
   | (with_reducible exact geyserlaw03_awake.mono _)
   | (with_reducible exact geyserref03_Check.mono _ _ _)
   | (with_reducible exact geyserref03_Plain.mono _ _ _)
   | (with_reducible exact geyserref03_Same.mono _ _ _)
   | (with_reducible exact matrix_Plain.mono _ _ _)
   | (with_reducible exact LeO.refl _)
   | (with_reducible exact LeO.none _)
   | (with_reducible refine LeO.ite ?_ ?_)
   | (with_reducible refine LeO.bind ?_ (fun _ => ?_))
   | exact ih0 _ _ _ _
   | exact ih1 _ _ _ _ _ _
   | exact geyserlaw03_awake.mono _
   | exact geyserref03_Check.mono _ _ _
   | exact geyserref03_Plain.mono _ _ _
   | exact geyserref03_Same.mono _ _ _
   | exact matrix_Plain.mono _ _ _
   | exact LeO.none _
   | refine LeO.ite ?_ ?_
   | refine LeO.bind ?_ (fun _ => ?_)
set_option maxHeartbeats 8000000 in
set_option maxRecDepth 100000 in
theorem geyserlaw03_MatrixPlains.calls (k : Nat) (A0 : Option Addr) (c0 : Nat) (l0 : List (List Int)) (a1 : Int) (r : Bool) (w : World) (ht : TabIn w) (he : ErrIn w) (hr0 : Kd.C (Kd.slice 29 (Kd.int .u64)) w A0 l0.length l0) (hc0 : l0.length ≤ c0) (h : geyserlaw03_MatrixPlains.f k l0 a1 = some r) :
  Calls Tryd.prog 9 #[.slice A0 l0.length c0, .int .i64 a1] w fun e w' => e = .returned (.bool r) ∧ Below w.heap.size w w' := by
 have HR0 := Aside0.mk hr0
 have HC0 := Aside0.mk hc0
 clear hr0 hc0
 have HB := Aside0.mk (Below.refl w.heap.size w)
 have HT := Aside0.mk ht
 clear ht
 have HEI := Aside0.mk he
 clear he
 have H : ((geyserlaw03_big.f l0 a1).bind fun t568 => (if t568 = true then ((geyserlaw03_awake.f k).bind fun t569 => (some t569)) else (geyserlaw03_MatrixPlains.l0 k l0 a1 (([] : List (List Int))) 0))) = some r := h
 clear h
 replace H := Option.bind_eq_some_iff.mp H
 obtain ⟨t568, A30, H⟩ := H
 replace H : (if t568 = true then ((geyserlaw03_awake.f k).bind fun t569 => (some t569)) else (geyserlaw03_MatrixPlains.l0 k l0 a1 (([] : List (List Int))) 0)) = some r := H
 have A3 := Aside0.mk A30
 clear A30
 by_cases c4 : t568 = true
 ·subst c4
  have H1 : ((geyserlaw03_awake.f k).bind fun t569 => (some t569)) = some r := by rw [if_pos rfl] at H; exact H
  clear H
  have H := H1
  clear H1
  replace H := Option.bind_eq_some_iff.mp H
  obtain ⟨t569, A50, H⟩ := H
  replace H : (some t569) = some r := H
  have A5 := Aside0.mk A50
  clear A50
  obtain rfl := Option.some.inj H
  go_enter Tryd.func9, Tryd.ntmps9
  go_wp2_with (first | ((with_reducible refine gate_callee (f := 10) rfl ?_); refine goesL_ (some 15) rfl rfl Tryd.func10 (by kernel_rfl) rfl #[.slice A0 l0.length c0, .int .i64 a1] rfl (by (try simp only [List.map_toArray, List.map_cons, List.map_nil]); first | done | rfl | (simp only [List.length_drop, List.length_take]; rfl)) ?_; (with_reducible refine (geyserlaw03_big.calls _ _ l0 a1 true _ ?side1 ?side2 A3.out).mono ?_); (case side1 => repeat (first | exact HR0.out | (with_reducible refine Kd.C_alloc ?_ _) | (with_reducible refine Kd.C_drewN ?_ _) | (with_reducible refine Kd.C_drew ?_))); (case side2 => exact HC0.out); rintro e w' ⟨rfl, ⟨nd, rfl⟩⟩; refine ⟨_, rfl, ?_⟩) | ((with_reducible refine gate_callee (f := 12) rfl ?_); refine goesL_ (some 16) rfl rfl Tryd.func12 (by kernel_rfl) rfl #[] rfl (by (try simp only [List.map_toArray, List.map_cons, List.map_nil]); first | done | rfl | (simp only [List.length_drop, List.length_take]; rfl)) ?_; (with_reducible refine (geyserlaw03_awake.calls k  t569 _ ?side1 A5.out).mono ?_); (case side1 => first | exact HT.out | exact TabIn.below HT.out (by repeat (first | (with_reducible first | exact HB.out | apply below_alloc | apply pw_below_drewN | apply below_drew1) | exact HB.out)) | (repeat (first | apply TabIn.drewN | apply TabIn.drew | exact HT.out))); rintro e w6 ⟨rfl, hb⟩; refine ⟨_, rfl, ?_⟩; have n0_ := Aside0.mk (below_step (by repeat (first | (with_reducible first | exact HB.out | apply below_alloc | apply pw_below_drewN | apply below_drew1) | exact HB.out)) hb); clear HB; have HB := n0_; clear n0_; (try clear hb); (try clear hb2); (try clear hk); (try clear hi)))
  go_ret
  exact ⟨by first | rfl | (simp [errW_none, errW_some] <;> rfl) | (simp [*, errW_none, errW_some] <;> rfl), by repeat (first | (with_reducible first | exact HB.out | apply below_alloc | apply pw_below_drewN | apply below_drew1) | exact HB.out)⟩
 ·replace c4 := Bool.eq_false_iff.mpr c4
  subst c4
  have H1 : (geyserlaw03_MatrixPlains.l0 k l0 a1 (([] : List (List Int))) 0) = some r := by rw [if_neg (show ¬ (false = true) by decide)] at H; exact H
  clear H
  have H := H1
  clear H1
  obtain ⟨y570, hy570⟩ : ∃ y_ : List (List Int), y_ = (([] : List (List Int))) := ⟨_, rfl⟩
  replace H : (geyserlaw03_MatrixPlains.l0 k l0 a1 y570 0) = some r := by first | (rw [hy570]; with_reducible exact H) | (have H2_ := (Option.bind_some _ _).symm.trans H; rw [hy570]; with_reducible exact H2_) | (have H2_ := (Option.bind_some _ _).symm.trans H; with_reducible exact H2_) | with_reducible exact H | (rw [hy570]; exact H) | exact H
  have Ny570 := Aside0.mk hy570
  clear hy570
  have H' := Aside0.mk H
  clear H
  go_enter Tryd.func9, Tryd.ntmps9
  go_wp2_with (first | ((with_reducible refine gate_callee (f := 10) rfl ?_); refine goesL_ (some 15) rfl rfl Tryd.func10 (by kernel_rfl) rfl #[.slice A0 l0.length c0, .int .i64 a1] rfl (by (try simp only [List.map_toArray, List.map_cons, List.map_nil]); first | done | rfl | (simp only [List.length_drop, List.length_take]; rfl)) ?_; (with_reducible refine (geyserlaw03_big.calls _ _ l0 a1 false _ ?side1 ?side2 A3.out).mono ?_); (case side1 => repeat (first | exact HR0.out | (with_reducible refine Kd.C_alloc ?_ _) | (with_reducible refine Kd.C_drewN ?_ _) | (with_reducible refine Kd.C_drew ?_))); (case side2 => exact HC0.out); rintro e w' ⟨rfl, ⟨nd, rfl⟩⟩; refine ⟨_, rfl, ?_⟩) | ((with_reducible refine gate_dst (N := 17) rfl ?_); refine Kd.N_lit (Kd.slice 29 (Kd.int .u64)) _ 27 ?hg (N' := 17) ?hd (xs := ([] : List (List Int))) (inner := []) (ok := (fun _ => True)) (okp := (fun _ => True)) ?hr ?hp (fun _ hk => hk) ((show ∀ k_, w.heap.size ≤ k_ → (fun _ => True) k_ from fun k_ hk => trivial) _ (Nat.le_refl _)) (Below.refl _ _) (Nat.le_refl _) (by simp) ?_; (case hd => rfl); (case hg => rfl); (case hr => first | (go_simp; done) | (go_simp; rfl)); (case hp => exact (Reps.none _ _)); intro v571 w7 ho8 hb hg_ hnew_; clear hg_ hnew_; (first | rw [← Ny570.out] at ho8 | (simp only [Int.reduceToNat] at ho8; rw [← Ny570.out] at ho8)); have n0_ := Aside0.mk (Kd.N_lower ho8 (below_size (by repeat (first | (with_reducible first | exact HB.out | apply below_alloc | apply pw_below_drewN | apply below_drew1) | exact HB.out)))); have n1_ := Aside0.mk (below_step (by repeat (first | (with_reducible first | exact HB.out | apply below_alloc | apply pw_below_drewN | apply below_drew1) | exact HB.out)) hb); clear HB; have HO572 := n0_; have HB := n1_; clear n0_ n1_; clear hb ho8))
  go_loopg [5, 6] k (fun kq v5 v6 w' => ∃ (x5_1 : List (List Int)) (x6_1 : Int), v6 = .int .i64 x6_1 ∧ Aside0 (geyserlaw03_MatrixPlains.l0 kq l0 a1 x5_1 x6_1 = some r) ∧ Aside0 (kq ≤ k) ∧ Aside0 (Kd.N (Kd.slice 29 (Kd.int .u64)) 27 w' w.heap.size (fun _ => True) v5 x5_1) ∧ Aside0 (Below w.heap.size w w'))
  case atStart => exact ⟨(y570), (0), (by first | rfl | (simp; done) | (simp [*]; done)), H', ⟨Nat.le_refl _⟩, ⟨by (with_reducible repeat (first | apply Kd.N_alloc | apply Kd.N_drewN | apply Kd.N_drew)); exact HO572.out⟩, ⟨by repeat (first | (with_reducible first | exact HB.out | apply below_alloc | apply pw_below_drewN | apply below_drew1) | exact HB.out)⟩⟩
  case round =>
   clear H'
   try clear c1
   try clear p2
   try clear c4
   obtain ⟨x5_1, x6_1, rfl, HA, HK1, HO_5, HB⟩ := hrel
   cases gk with
   | zero => exact absurd HA.out (by simp [geyserlaw03_MatrixPlains.l0])
   | succ k1 =>
    have H := HA.out
    clear HA
    simp only [geyserlaw03_MatrixPlains.l0] at H
    by_cases c9 : x6_1 < (l0.length : Int)
    ·rw [if_pos c9] at H
     have c9b0 : decide (x6_1 < (l0.length : Int)) = true := decide_eq_true c9
     clear c9
     obtain ⟨y573, hy573⟩ : ∃ y_ : List Int, y_ = (([] : List Int)) := ⟨_, rfl⟩
     replace H : (if 0 ≤ x6_1 then (if y573.length + (rd_Lsu64 l0 x6_1).length < 17592186044416 then (if x5_1.length < 5864062014805 then (geyserlaw03_MatrixPlains.l0 k1 l0 a1 (x5_1 ++ [(y573 ++ (rd_Lsu64 l0 x6_1))]) (wrap64 (x6_1 + 1))) else (none)) else (none)) else (none)) = some r := by first | (rw [hy573]; with_reducible exact H) | (have H2_ := (Option.bind_some _ _).symm.trans H; rw [hy573]; with_reducible exact H2_) | (have H2_ := (Option.bind_some _ _).symm.trans H; with_reducible exact H2_) | with_reducible exact H | (rw [hy573]; exact H) | exact H
     have Ny573 := Aside0.mk hy573
     clear hy573
     by_cases c10 : 0 ≤ x6_1
     ·rw [if_pos c10] at H
      have c10b0 : decide (0 ≤ x6_1) = true := decide_eq_true c10
      clear c10
      by_cases c11 : y573.length + (rd_Lsu64 l0 x6_1).length < 17592186044416
      ·rw [if_pos c11] at H
       have LMc11 := Aside0.mk c11
       clear c11
       obtain ⟨y577, hy577⟩ : ∃ y_ : List Int, y_ = (y573 ++ (rd_Lsu64 l0 x6_1)) := ⟨_, rfl⟩
       replace H : (if x5_1.length < 5864062014805 then (geyserlaw03_MatrixPlains.l0 k1 l0 a1 (x5_1 ++ [y577]) (wrap64 (x6_1 + 1))) else (none)) = some r := by first | (rw [hy577]; with_reducible exact H) | (have H2_ := (Option.bind_some _ _).symm.trans H; rw [hy577]; with_reducible exact H2_) | (have H2_ := (Option.bind_some _ _).symm.trans H; with_reducible exact H2_) | with_reducible exact H | (rw [hy577]; exact H) | exact H
       have Ny577 := Aside0.mk hy577
       clear hy577
       by_cases c12 : x5_1.length < 5864062014805
       ·rw [if_pos c12] at H
        have LMc12 := Aside0.mk c12
        clear c12
        obtain ⟨y580, hy580⟩ : ∃ y_ : List (List Int), y_ = (x5_1 ++ [y577]) := ⟨_, rfl⟩
        replace H : (geyserlaw03_MatrixPlains.l0 k1 l0 a1 y580 (wrap64 (x6_1 + 1))) = some r := by first | (rw [hy580]; with_reducible exact H) | (have H2_ := (Option.bind_some _ _).symm.trans H; rw [hy580]; with_reducible exact H2_) | (have H2_ := (Option.bind_some _ _).symm.trans H; with_reducible exact H2_) | with_reducible exact H | (rw [hy580]; exact H) | exact H
        have Ny580 := Aside0.mk hy580
        clear hy580
        have H' := Aside0.mk H
        clear H
        go_wp2_with (first | ((with_reducible refine gate_dst (N := 25) rfl ?_); refine Kd.R_lit (Kd.int .u64) _ 29 ?hg (N := 25) ?hd (xs := ([] : List Int)) (inner := []) (ok := fun _ => True) (okp := fun _ => True) ?hr ?hp (fun _ hk => hk) trivial (Below.refl _ _) (Nat.le_refl _) (by simp) ?_; (case hd => rfl); (case hg => rfl); (case hr => first | (go_simp; done) | (go_simp; rfl)); (case hp => exact (Reps.none _ _)); intro v574 w13 ho14 hb hg_ hnew_; clear hg_ hnew_; (first | rw [← Ny573.out] at ho14 | (simp only [Int.reduceToNat] at ho14; rw [← Ny573.out] at ho14)); have n0_ := Aside0.mk (Kd.N_elder' (by (with_reducible repeat (first | apply Kd.N_alloc | apply Kd.N_drewN | apply Kd.N_drew)); exact HO_5.out) (Kd.R_base ho14) hb); have n1_ := Aside0.mk (Kd.R_lower ho14 (below_size (by repeat (first | (with_reducible first | exact HB.out | apply below_alloc | apply pw_below_drewN | apply below_drew1) | exact HB.out)))); have n2_ := Aside0.mk (below_step (by repeat (first | (with_reducible first | exact HB.out | apply below_alloc | apply pw_below_drewN | apply below_drew1) | exact HB.out)) hb); clear HO_5; clear HB; have HO_5 := n0_; have HO575 := n1_; have HB := n2_; clear n0_ n1_ n2_; clear hb ho14; have p576 : 0 ≤ (x6_1 : Int) := of_decide_eq_true (by first | (with_reducible assumption) | assumption); have q576 : x6_1 < (l0.length : Int) := of_decide_eq_true (by first | (with_reducible assumption) | assumption); obtain ⟨ad576, A576_0, c576_0, e576, hx576_0, hl576_0, hi576_0⟩ := at_Lsu64 HR0.out x6_1 p576 q576; cases e576; (first | replace hx576_0 := (HB.out.cell (World.block_lt_of_cell? w _ hx576_0)).trans hx576_0 | skip); have HR576_0 := Aside0.mk hi576_0; have HC576_0 := Aside0.mk hl576_0; clear hi576_0 hl576_0; replace p576 := eq_true p576; replace q576 := eq_true q576) | ((with_reducible refine gate_builtin (b := .append) (xs := #[.tmp 25, .tmp 29]) rfl ?_); at_builtin; refine Kd.R_append_rows (Kd.int .u64) (w0 := w) w.heap.size rfl (.tmp 25) (.tmp 29) 27 29 (.int .u64 0) 8 rfl Tryd.underlying27 info29 rfl (by decide) (by omega) v574 y573 (rd_Lsu64 l0 x6_1) _ _ _ (fun _ => True) (fun _ => False) rfl rfl ?aO ?aR (fun _ _ h => h) (fun _ h => h.elim) ?aF ?aB ?aS ?aL ?_; (case aR => repeat (first | exact (Kd.C_below HR576_0.out HB.out) | (with_reducible refine Kd.C_alloc ?_ _) | (with_reducible refine Kd.C_drewN ?_ _) | (with_reducible refine Kd.C_drew ?_))); (case aB => exact (by repeat (first | (with_reducible first | exact HB.out | apply below_alloc | apply pw_below_drewN | apply below_drew1) | exact HB.out))); (case aF => exact (fun _ _ => trivial)); (case aO => exact (by (with_reducible repeat (first | apply Kd.R_alloc | apply Kd.R_drewN | apply Kd.R_drew)); exact HO575.out)); (case aS => exact (below_size (by repeat (first | (with_reducible first | exact HB.out | apply below_alloc | apply pw_below_drewN | apply below_drew1) | exact HB.out)))); (case aL => have := LMc11.out; omega); intro v578 w15 ho hb hg hat; rw [← Ny577.out] at ho; have n0_ := Aside0.mk (Kd.N_afterv (ok := (fun _ => True)) (by (with_reducible repeat (first | apply Kd.N_alloc | apply Kd.N_drewN | apply Kd.N_drew)); exact HO_5.out) hg hat); have n1_ := Aside0.mk (hb); have n2_ := Aside0.mk (ho); clear HO_5; clear HB; clear HO575; have HO_5 := n0_; have HB := n1_; have HO579 := n2_; clear n0_ n1_ n2_; clear ho hb hg hat; obtain ⟨Ao17, co17, eo17⟩ := Kd.R_slice HO579.out; subst eo17) | ((with_reducible refine gate_builtin (b := .append) (xs := #[.tmp 24, .tmp 31]) rfl ?_); at_builtin; refine Kd.N_append (Kd.slice 29 (Kd.int .u64)) (w0 := w) w.heap.size rfl (.tmp 24) (.tmp 31) 22 27 (.slice none 0 0) 24 rfl Tryd.underlying22 info27 rfl (by decide) (by omega) u5 x5_1 y577 [.slice Ao17 y577.length co17] (fun _ => True) (fun k_ => ((fun _ => True)) k_ ∧ some k_ ≠ (u5 : Value).ownBlock) rfl rfl ?aP (fun _ hk => hk) ?aF ?aO ?aB ?aS ?aL ?_; (case aP => exact (Kd.FK_slice_mk (Kd.R_reads' (Kd.R_mono (ok' := (fun k_ => ((fun _ => True)) k_ ∧ some k_ ≠ (u5 : Value).ownBlock)) (Kd.R_apart' (HO579.out) (Kd.N_typed HO_5.out) (by decide)) (fun k_ hk => ⟨trivial, hk.2⟩))).2.1 (Kd.R_F (Kd.R_mono (ok' := (fun k_ => ((fun _ => True)) k_ ∧ some k_ ≠ (u5 : Value).ownBlock)) (Kd.R_apart' (HO579.out) (Kd.N_typed HO_5.out) (by decide)) (fun k_ hk => ⟨trivial, hk.2⟩))))); (case aB => exact (by repeat (first | (with_reducible first | exact HB.out | apply below_alloc | apply pw_below_drewN | apply below_drew1) | exact HB.out))); (case aF => exact (fun _ _ => trivial)); (case aO => exact (by (with_reducible repeat (first | apply Kd.N_alloc | apply Kd.N_drewN | apply Kd.N_drew)); exact Kd.N_mono HO_5.out (fun _ hk => trivial))); (case aS => exact (below_size (by repeat (first | (with_reducible first | exact HB.out | apply below_alloc | apply pw_below_drewN | apply below_drew1) | exact HB.out)))); (case aL => have := LMc12.out; omega); intro v581 w16 ho hb hg hat; rw [← Ny580.out] at ho; have n0_ := Aside0.mk (hb); have n1_ := Aside0.mk (ho); clear HB; clear HO_5; clear HO579; have HB := n0_; have HO582 := n1_; clear n0_ n1_; clear ho hb hg hat))
        go_roundg k1
        case measure => have := HK1.out; omega
        case rel => exact ⟨(y580), (wrap64 (x6_1 + 1)), (by first | rfl | (simp; done) | (simp [*]; done)), H', ⟨by have := HK1.out; omega⟩, ⟨by (with_reducible repeat (first | apply Kd.N_alloc | apply Kd.N_drewN | apply Kd.N_drew)); exact HO582.out⟩, ⟨by repeat (first | (with_reducible first | exact HB.out | apply below_alloc | apply pw_below_drewN | apply below_drew1) | exact HB.out)⟩⟩
       ·rw [if_neg c12] at H
        exact absurd H (by simp)
      ·rw [if_neg c11] at H
       exact absurd H (by simp)
     ·rw [if_neg c10] at H
      exact absurd H (by simp)
    ·rw [if_neg c9] at H
     have c9b0 : decide (x6_1 < (l0.length : Int)) = false := decide_eq_false c9
     clear c9
     replace H := Option.bind_eq_some_iff.mp H
     obtain ⟨⟨t583, t586⟩, A180, H⟩ := H
     replace H : ((geyserref03_Check.f k1 l0 a1).bind fun t589 => ((geyserlaw03_tells.f t586 t589 (⟨#[109, 97, 116, 114, 105, 120, 46, 80, 108, 97, 105, 110]⟩ : ByteArray)).bind fun t590 => (if t590 = true then ((geyserref03_Same.f k1 x5_1 l0).bind fun t591 => (geyserlaw03_MatrixPlains.j1 k1 l0 a1 x5_1 t583 t589 (!t591))) else (geyserlaw03_MatrixPlains.j1 k1 l0 a1 x5_1 t583 t589 true)))) = some r := H
     have A18 := Aside0.mk A180
     clear A180
     replace H := Option.bind_eq_some_iff.mp H
     obtain ⟨t589, A190, H⟩ := H
     replace H : ((geyserlaw03_tells.f t586 t589 (⟨#[109, 97, 116, 114, 105, 120, 46, 80, 108, 97, 105, 110]⟩ : ByteArray)).bind fun t590 => (if t590 = true then ((geyserref03_Same.f k1 x5_1 l0).bind fun t591 => (geyserlaw03_MatrixPlains.j1 k1 l0 a1 x5_1 t583 t589 (!t591))) else (geyserlaw03_MatrixPlains.j1 k1 l0 a1 x5_1 t583 t589 true))) = some r := H
     have A19 := Aside0.mk A190
     clear A190
     have HC20 := Aside0.mk H
     clear H
     obtain ⟨Ao21, co21, eo21⟩ := Kd.N_slice HO_5.out
     subst eo21
     go_upto_region 10 with (first | ((with_reducible refine gate_callee (f := 24) rfl ?_); refine goesL_ (some 36) rfl rfl Tryd.func24 (by kernel_rfl) rfl #[.slice Ao21 x5_1.length co21, .int .i64 a1] rfl (by (try simp only [List.map_toArray, List.map_cons, List.map_nil]); first | done | rfl | (simp only [List.length_drop, List.length_take]; rfl)) ?_; (with_reducible refine (matrix_Plain.callsR k1 _ _ x5_1 a1 t583 t586 _ ?side1 ?side2 ?side3 A18.out).mono ?_); (case side1 => first | exact HT.out | exact TabIn.below HT.out (by repeat (first | (with_reducible first | exact HB.out | apply below_alloc | apply pw_below_drewN | apply below_drew1) | exact HB.out)) | (repeat (first | apply TabIn.drewN | apply TabIn.drew | exact HT.out))); (case side2 => repeat (first | exact (Kd.N_reads' HO_5.out).2.2 | (with_reducible refine Kd.C_alloc ?_ _) | (with_reducible refine Kd.C_drewN ?_ _) | (with_reducible refine Kd.C_drew ?_))); (case side3 => exact (Kd.N_reads' HO_5.out).2.1); rintro e w22 ⟨v584, v587, rfl, ho0, ho1, hb⟩; refine ⟨_, rfl, ?_⟩; have HI := Aside0.mk (matrix_Plains_loop.Inv_.start (by (with_reducible repeat (first | apply Kd.N_alloc | apply Kd.N_drewN | apply Kd.N_drew)); exact HO_5.out) hb ho0 (below_size (by repeat (first | (with_reducible first | exact HB.out | apply below_alloc | apply pw_below_drewN | apply below_drew1) | exact HB.out)))); replace ho0 := Kd.R_N ho0; have n0_ := Aside0.mk (Kd.N_elder' (by (with_reducible repeat (first | apply Kd.N_alloc | apply Kd.N_drewN | apply Kd.N_drew)); exact HO_5.out) (Kd.N_base ho0) hb); have n1_ := Aside0.mk (Kd.N_lower (Kd.N_mono (ok' := fun k_ => some k_ ≠ (.slice Ao21 x5_1.length co21 : Value).ownBlock) ho0 (fun k_ hk_ => (Kd.fresh' (Kd.N_lt (by (with_reducible repeat (first | apply Kd.N_alloc | apply Kd.N_drewN | apply Kd.N_drew)); exact HO_5.out)) k_ hk_))) (below_size (by repeat (first | (with_reducible first | exact HB.out | apply below_alloc | apply pw_below_drewN | apply below_drew1) | exact HB.out)))); have n2_ := Aside0.mk (Kd.R_lower (Kd.R_mono (ok' := fun k_ => True) ho1 (fun _ hk_ => trivial)) (below_size (by repeat (first | (with_reducible first | exact HB.out | apply below_alloc | apply pw_below_drewN | apply below_drew1) | exact HB.out)))); have n3_ := Aside0.mk (below_step (by repeat (first | (with_reducible first | exact HB.out | apply below_alloc | apply pw_below_drewN | apply below_drew1) | exact HB.out)) hb); clear HO_5; clear HB; have HO_5 := n0_; have HO585 := n1_; have HO588 := n2_; have HB := n3_; clear n0_ n1_ n2_ n3_; (try clear hb); (try clear hb2); (try clear hk); (try clear hi); (try clear ho0); (try clear ho1)) | ((with_reducible refine gate_callee (f := 11) rfl ?_); refine goesL_ (some 41) rfl rfl Tryd.func11 (by kernel_rfl) rfl #[.slice A0 l0.length c0, .int .i64 a1] rfl (by (try simp only [List.map_toArray, List.map_cons, List.map_nil]); first | done | rfl | (simp only [List.length_drop, List.length_take]; rfl)) ?_; (with_reducible refine (geyserref03_Check.calls k1 _ _ l0 a1 t589 _ ?side1 ?side2 A19.out).mono ?_); (case side1 => repeat (first | exact (Kd.C_below HR0.out HB.out) | (with_reducible refine Kd.C_alloc ?_ _) | (with_reducible refine Kd.C_drewN ?_ _) | (with_reducible refine Kd.C_drew ?_))); (case side2 => exact HC0.out); rintro e w' ⟨rfl, ⟨nd, rfl⟩⟩; refine ⟨_, rfl, ?_⟩))
     (try simp only [Act.put, List.setIfInBounds_toArray, List.set_cons_zero, List.set_cons_succ])
     go_cut [51] (fun v51 wc => ∃ (kq : Nat) (x51_19 : Bool), v51 = .bool x51_19 ∧ Aside0 (geyserlaw03_MatrixPlains.j1 kq l0 a1 x5_1 t583 t589 x51_19 = some r) ∧ Aside0 (kq ≤ k1) ∧ Aside0 (Kd.N (Kd.slice 29 (Kd.int .u64)) 27 wc w.heap.size (fun k_ => some k_ ≠ (v584 : Value).ownBlock) (.slice Ao21 x5_1.length co21) x5_1) ∧ Aside0 (Kd.N (Kd.slice 29 (Kd.int .u64)) 27 wc w.heap.size (fun k_ => some k_ ≠ ((.slice Ao21 x5_1.length co21) : Value).ownBlock) v584 t583) ∧ Aside0 (matrix_Plains_loop.Inv_ w.heap.size (.slice Ao21 x5_1.length co21) v584 x5_1 t583 wc) ∧ Aside0 (Below w.heap.size w wc))
     case first =>
      have H := HC20.out
      clear HC20
      replace H := Option.bind_eq_some_iff.mp H
      obtain ⟨t590, A230, H⟩ := H
      replace H : (if t590 = true then ((geyserref03_Same.f k1 x5_1 l0).bind fun t591 => (geyserlaw03_MatrixPlains.j1 k1 l0 a1 x5_1 t583 t589 (!t591))) else (geyserlaw03_MatrixPlains.j1 k1 l0 a1 x5_1 t583 t589 true)) = some r := H
      have A23 := Aside0.mk A230
      clear A230
      by_cases c24 : t590 = true
      ·subst c24
       have H1 : ((geyserref03_Same.f k1 x5_1 l0).bind fun t591 => (geyserlaw03_MatrixPlains.j1 k1 l0 a1 x5_1 t583 t589 (!t591))) = some r := by rw [if_pos rfl] at H; exact H
       clear H
       have H := H1
       clear H1
       replace H := Option.bind_eq_some_iff.mp H
       obtain ⟨t591, A250, H⟩ := H
       replace H : (geyserlaw03_MatrixPlains.j1 k1 l0 a1 x5_1 t583 t589 (!t591)) = some r := H
       have A25 := Aside0.mk A250
       clear A250
       have H' := Aside0.mk H
       clear H
       obtain ⟨Ao26, co26, eo26⟩ := Kd.R_slice HO588.out
       subst eo26
       go_wp2_with (first | ((with_reducible refine gate_callee (f := 16) rfl ?_); refine goesL_ (some 44) rfl rfl Tryd.func16 (by kernel_rfl) rfl #[errOf (.slice Ao26 t586.length co26), .int .i64 t589, .string (⟨#[109, 97, 116, 114, 105, 120, 46, 80, 108, 97, 105, 110]⟩ : ByteArray)] rfl (by (try simp only [List.map_toArray, List.map_cons, List.map_nil]); first | done | rfl | (simp only [List.length_drop, List.length_take]; rfl)) ?_; (with_reducible refine (geyserlaw03_tells.calls _ _ t586 t589 (⟨#[109, 97, 116, 114, 105, 120, 46, 80, 108, 97, 105, 110]⟩ : ByteArray) true _ ?side1 ?side2 ?side3 A23.out).mono ?_); (case side1 => first | exact HEI.out | exact ErrIn.below HEI.out (by repeat (first | (with_reducible first | exact HB.out | apply below_alloc | apply pw_below_drewN | apply below_drew1) | exact HB.out)) | (repeat (first | apply ErrIn.drewN | apply ErrIn.drew | exact HEI.out))); (case side2 => repeat (first | exact (Kd.R_reads' HO588.out).2.2 | (with_reducible refine Kd.C_alloc ?_ _) | (with_reducible refine Kd.C_drewN ?_ _) | (with_reducible refine Kd.C_drew ?_))); (case side3 => exact (Kd.R_reads' HO588.out).2.1); rintro e w27 ⟨rfl, hb⟩; refine ⟨_, rfl, ?_⟩; replace HI := Aside0.mk (matrix_Plains_loop.Inv_.below (by repeat (first | exact HI.out | apply matrix_Plains_loop.Inv_.drewN | apply matrix_Plains_loop.Inv_.drew)) hb); have n0_ := Aside0.mk (Kd.N_below (by (with_reducible repeat (first | apply Kd.N_alloc | apply Kd.N_drewN | apply Kd.N_drew)); exact HO_5.out) hb); have n1_ := Aside0.mk (Kd.N_below (by (with_reducible repeat (first | apply Kd.N_alloc | apply Kd.N_drewN | apply Kd.N_drew)); exact HO585.out) hb); have n2_ := Aside0.mk (Kd.R_below (by (with_reducible repeat (first | apply Kd.R_alloc | apply Kd.R_drewN | apply Kd.R_drew)); exact HO588.out) hb); have n3_ := Aside0.mk (below_step (by repeat (first | (with_reducible first | exact HB.out | apply below_alloc | apply pw_below_drewN | apply below_drew1) | exact HB.out)) hb); clear HO_5; clear HO585; clear HO588; clear HB; have HO_5 := n0_; have HO585 := n1_; have HO588 := n2_; have HB := n3_; clear n0_ n1_ n2_ n3_; (try clear hb); (try clear hb2); (try clear hk); (try clear hi)) | (go_at_call 25; (with_reducible refine (geyserref03_Same.calls k1 _ _ x5_1 _ _ l0 t591 _ ?side1 ?side2 ?side3 ?side4 A25.out).mono ?_); (case side1 => repeat (first | exact (Kd.N_reads' HO_5.out).2.2 | (with_reducible refine Kd.C_alloc ?_ _) | (with_reducible refine Kd.C_drewN ?_ _) | (with_reducible refine Kd.C_drew ?_))); (case side2 => exact (Kd.N_reads' HO_5.out).2.1); (case side3 => repeat (first | exact (Kd.C_below HR0.out HB.out) | (with_reducible refine Kd.C_alloc ?_ _) | (with_reducible refine Kd.C_drewN ?_ _) | (with_reducible refine Kd.C_drew ?_))); (case side4 => exact HC0.out); rintro e w' ⟨rfl, ⟨nd, rfl⟩⟩))
       go_meet
       case rel => exact ⟨_, (!t591), (by first | rfl | (simp; done) | (simp [*]; done)), H', ⟨by have := HK1.out; first | omega | exact Nat.le_refl _⟩, ⟨by (with_reducible repeat (first | apply Kd.N_alloc | apply Kd.N_drewN | apply Kd.N_drew)); exact Kd.N_mono HO_5.out (fun _ hk => hk.2)⟩, ⟨by (with_reducible repeat (first | apply Kd.N_alloc | apply Kd.N_drewN | apply Kd.N_drew)); exact HO585.out⟩, ⟨(by repeat (first | exact HI.out | apply matrix_Plains_loop.Inv_.drewN | apply matrix_Plains_loop.Inv_.drew))⟩, ⟨by repeat (first | (with_reducible first | exact HB.out | apply below_alloc | apply pw_below_drewN | apply below_drew1) | exact HB.out)⟩⟩
      ·replace c24 := Bool.eq_false_iff.mpr c24
       subst c24
       have H1 : (geyserlaw03_MatrixPlains.j1 k1 l0 a1 x5_1 t583 t589 true) = some r := by rw [if_neg (show ¬ (false = true) by decide)] at H; exact H
       clear H
       have H := H1
       clear H1
       have H' := Aside0.mk H
       clear H
       obtain ⟨Ao28, co28, eo28⟩ := Kd.R_slice HO588.out
       subst eo28
       go_wp2_with (first | ((with_reducible refine gate_callee (f := 16) rfl ?_); refine goesL_ (some 44) rfl rfl Tryd.func16 (by kernel_rfl) rfl #[errOf (.slice Ao28 t586.length co28), .int .i64 t589, .string (⟨#[109, 97, 116, 114, 105, 120, 46, 80, 108, 97, 105, 110]⟩ : ByteArray)] rfl (by (try simp only [List.map_toArray, List.map_cons, List.map_nil]); first | done | rfl | (simp only [List.length_drop, List.length_take]; rfl)) ?_; (with_reducible refine (geyserlaw03_tells.calls _ _ t586 t589 (⟨#[109, 97, 116, 114, 105, 120, 46, 80, 108, 97, 105, 110]⟩ : ByteArray) false _ ?side1 ?side2 ?side3 A23.out).mono ?_); (case side1 => first | exact HEI.out | exact ErrIn.below HEI.out (by repeat (first | (with_reducible first | exact HB.out | apply below_alloc | apply pw_below_drewN | apply below_drew1) | exact HB.out)) | (repeat (first | apply ErrIn.drewN | apply ErrIn.drew | exact HEI.out))); (case side2 => repeat (first | exact (Kd.R_reads' HO588.out).2.2 | (with_reducible refine Kd.C_alloc ?_ _) | (with_reducible refine Kd.C_drewN ?_ _) | (with_reducible refine Kd.C_drew ?_))); (case side3 => exact (Kd.R_reads' HO588.out).2.1); rintro e w29 ⟨rfl, hb⟩; refine ⟨_, rfl, ?_⟩; replace HI := Aside0.mk (matrix_Plains_loop.Inv_.below (by repeat (first | exact HI.out | apply matrix_Plains_loop.Inv_.drewN | apply matrix_Plains_loop.Inv_.drew)) hb); have n0_ := Aside0.mk (Kd.N_below (by (with_reducible repeat (first | apply Kd.N_alloc | apply Kd.N_drewN | apply Kd.N_drew)); exact HO_5.out) hb); have n1_ := Aside0.mk (Kd.N_below (by (with_reducible repeat (first | apply Kd.N_alloc | apply Kd.N_drewN | apply Kd.N_drew)); exact HO585.out) hb); have n2_ := Aside0.mk (Kd.R_below (by (with_reducible repeat (first | apply Kd.R_alloc | apply Kd.R_drewN | apply Kd.R_drew)); exact HO588.out) hb); have n3_ := Aside0.mk (below_step (by repeat (first | (with_reducible first | exact HB.out | apply below_alloc | apply pw_below_drewN | apply below_drew1) | exact HB.out)) hb); clear HO_5; clear HO585; clear HO588; clear HB; have HO_5 := n0_; have HO585 := n1_; have HO588 := n2_; have HB := n3_; clear n0_ n1_ n2_ n3_; (try clear hb); (try clear hb2); (try clear hk); (try clear hi)))
       go_meet
       case rel => exact ⟨_, (true), (by first | rfl | (simp; done) | (simp [*]; done)), H', ⟨by have := HK1.out; first | omega | exact Nat.le_refl _⟩, ⟨by (with_reducible repeat (first | apply Kd.N_alloc | apply Kd.N_drewN | apply Kd.N_drew)); exact Kd.N_mono HO_5.out (fun _ hk => hk.2)⟩, ⟨by (with_reducible repeat (first | apply Kd.N_alloc | apply Kd.N_drewN | apply Kd.N_drew)); exact HO585.out⟩, ⟨(by repeat (first | exact HI.out | apply matrix_Plains_loop.Inv_.drewN | apply matrix_Plains_loop.Inv_.drew))⟩, ⟨by repeat (first | (with_reducible first | exact HB.out | apply below_alloc | apply pw_below_drewN | apply below_drew1) | exact HB.out)⟩⟩
     case rest =>
      clear HC20
      try clear c1
      try clear c2
      try clear p2
      try clear c4
      try clear c5
      try clear p5
      try clear q5
      try clear hx5
      try clear p6
      try clear c9
      try clear c9b0
      try clear c10
      try clear c10b0
      try clear c11
      try clear c12
      try clear c16
      try clear c24
      try clear hx576_0
      try clear p2
      try clear p576
      try clear q576
      obtain ⟨kq, x51_19, rfl, HA, HJ19, HO_5, HO_7, HI, HB⟩ := hcut
      cases kq with
      | zero => exact absurd HA.out (by simp [geyserlaw03_MatrixPlains.j1])
      | succ kj19 =>
       have H := HA.out
       clear HA
       simp only [geyserlaw03_MatrixPlains.j1] at H
       by_cases c30 : x51_19 = true
       ·subst c30
        have H1 : (some false) = some r := by rw [if_pos rfl] at H; exact H
        clear H
        have H := H1
        clear H1
        obtain rfl := Option.some.inj H
        go_wp2
        go_ret
        exact ⟨by first | rfl | (simp [errW_none, errW_some] <;> rfl) | (simp [*, errW_none, errW_some] <;> rfl), by repeat (first | (with_reducible first | exact HB.out | apply below_alloc | apply pw_below_drewN | apply below_drew1) | exact HB.out)⟩
       ·replace c30 := Bool.eq_false_iff.mpr c30
        subst c30
        have H1 : (if t589 = 0 then ((geyserref03_Plain.f kj19 l0 a1).bind fun t593 => ((geyserref03_Same.f kj19 t583 t593).bind fun t596 => (if t596 = true then ((geyserref03_Same.f kj19 x5_1 l0).bind fun t597 => (if t597 = true then ((geyserlaw03_awake.f kj19).bind fun t598 => (some t598)) else (some false))) else (some false)))) else (if (t583.length : Int) = 0 then ((geyserlaw03_awake.f kj19).bind fun t592 => (some t592)) else (some false))) = some r := by rw [if_neg (show ¬ (false = true) by decide)] at H; exact H
        clear H
        have H := H1
        clear H1
        by_cases c31 : t589 = 0
        ·rw [if_pos c31] at H
         have c31b0 : (t589 == 0) = true := beq_iff_eq.mpr c31
         have c31b1 : (t589 != 0) = false := bne_eq_false_iff_eq.mpr c31
         clear c31
         replace H := Option.bind_eq_some_iff.mp H
         obtain ⟨t593, A320, H⟩ := H
         replace H : ((geyserref03_Same.f kj19 t583 t593).bind fun t596 => (if t596 = true then ((geyserref03_Same.f kj19 x5_1 l0).bind fun t597 => (if t597 = true then ((geyserlaw03_awake.f kj19).bind fun t598 => (some t598)) else (some false))) else (some false))) = some r := H
         have A32 := Aside0.mk A320
         clear A320
         replace H := Option.bind_eq_some_iff.mp H
         obtain ⟨t596, A330, H⟩ := H
         replace H : (if t596 = true then ((geyserref03_Same.f kj19 x5_1 l0).bind fun t597 => (if t597 = true then ((geyserlaw03_awake.f kj19).bind fun t598 => (some t598)) else (some false))) else (some false)) = some r := H
         have A33 := Aside0.mk A330
         clear A330
         by_cases c34 : t596 = true
         ·subst c34
          have H1 : ((geyserref03_Same.f kj19 x5_1 l0).bind fun t597 => (if t597 = true then ((geyserlaw03_awake.f kj19).bind fun t598 => (some t598)) else (some false))) = some r := by rw [if_pos rfl] at H; exact H
          clear H
          have H := H1
          clear H1
          replace H := Option.bind_eq_some_iff.mp H
          obtain ⟨t597, A350, H⟩ := H
          replace H : (if t597 = true then ((geyserlaw03_awake.f kj19).bind fun t598 => (some t598)) else (some false)) = some r := H
          have A35 := Aside0.mk A350
          clear A350
          by_cases c36 : t597 = true
          ·subst c36
           have H1 : ((geyserlaw03_awake.f kj19).bind fun t598 => (some t598)) = some r := by rw [if_pos rfl] at H; exact H
           clear H
           have H := H1
           clear H1
           replace H := Option.bind_eq_some_iff.mp H
           obtain ⟨t598, A370, H⟩ := H
           replace H : (some t598) = some r := H
           have A37 := Aside0.mk A370
           clear A370
           obtain rfl := Option.some.inj H
           go_wp2_with (first | ((with_reducible refine gate_callee (f := 26) rfl ?_); refine goesL_ (some 62) rfl rfl Tryd.func26 (by kernel_rfl) rfl #[.slice A0 l0.length c0, .int .i64 a1] rfl (by (try simp only [List.map_toArray, List.map_cons, List.map_nil]); first | done | rfl | (simp only [List.length_drop, List.length_take]; rfl)) ?_; (with_reducible refine (geyserref03_Plain.calls kj19 _ _ l0 a1 t593 _ ?side1 ?side2 A32.out).mono ?_); (case side1 => repeat (first | exact (Kd.C_below HR0.out HB.out) | (with_reducible refine Kd.C_alloc ?_ _) | (with_reducible refine Kd.C_drewN ?_ _) | (with_reducible refine Kd.C_drew ?_))); (case side2 => exact HC0.out); rintro e w38 ⟨v594, rfl, ho0, hb⟩; refine ⟨_, rfl, ?_⟩; replace HI := Aside0.mk (matrix_Plains_loop.Inv_.below (by repeat (first | exact HI.out | apply matrix_Plains_loop.Inv_.drewN | apply matrix_Plains_loop.Inv_.drew)) hb); have n0_ := Aside0.mk (Kd.N_elder' (by (with_reducible repeat (first | apply Kd.N_alloc | apply Kd.N_drewN | apply Kd.N_drew)); exact HO_5.out) (Kd.S_base ho0) hb); have n1_ := Aside0.mk (Kd.N_elder' (by (with_reducible repeat (first | apply Kd.N_alloc | apply Kd.N_drewN | apply Kd.N_drew)); exact HO_7.out) (Kd.S_base ho0) hb); have n2_ := Aside0.mk (Kd.N_lower (Kd.N_mono (ok' := fun k_ => some k_ ≠ (.slice Ao21 x5_1.length co21 : Value).ownBlock ∧ some k_ ≠ (v584 : Value).ownBlock) (Kd.S_N (Kd.S_bound ho0)) (fun k_ hk_ => ⟨(Kd.fresh' (Kd.N_lt (by (with_reducible repeat (first | apply Kd.N_alloc | apply Kd.N_drewN | apply Kd.N_drew)); exact HO_5.out)) k_ hk_.2.1), (Kd.fresh' (Kd.N_lt (by (with_reducible repeat (first | apply Kd.N_alloc | apply Kd.N_drewN | apply Kd.N_drew)); exact HO_7.out)) k_ hk_.2.1)⟩)) (below_size (by repeat (first | (with_reducible first | exact HB.out | apply below_alloc | apply pw_below_drewN | apply below_drew1) | exact HB.out)))); have n3_ := Aside0.mk (below_step (by repeat (first | (with_reducible first | exact HB.out | apply below_alloc | apply pw_below_drewN | apply below_drew1) | exact HB.out)) hb); clear HO_5; clear HO_7; clear HB; have HO_5 := n0_; have HO_7 := n1_; have HO595 := n2_; have HB := n3_; clear n0_ n1_ n2_ n3_; (try clear hb); (try clear hb2); (try clear hk); (try clear hi); (try clear ho0); obtain ⟨Ao39, co39, eo39⟩ := Kd.N_slice HO_7.out; subst eo39; obtain ⟨Ao40, co40, eo40⟩ := Kd.N_slice HO595.out; subst eo40) | ((with_reducible refine gate_callee (f := 25) rfl ?_); refine goesL_ (some 65) rfl rfl Tryd.func25 (by kernel_rfl) rfl #[.slice Ao39 t583.length co39, .slice Ao40 t593.length co40] rfl (by (try simp only [List.map_toArray, List.map_cons, List.map_nil]); first | done | rfl | (simp only [List.length_drop, List.length_take]; rfl)) ?_; (with_reducible refine (geyserref03_Same.calls kj19 _ _ t583 _ _ t593 true _ ?side1 ?side2 ?side3 ?side4 A33.out).mono ?_); (case side1 => repeat (first | exact (Kd.N_reads' HO_7.out).2.2 | (with_reducible refine Kd.C_alloc ?_ _) | (with_reducible refine Kd.C_drewN ?_ _) | (with_reducible refine Kd.C_drew ?_))); (case side2 => exact (Kd.N_reads' HO_7.out).2.1); (case side3 => repeat (first | exact (Kd.N_reads' HO595.out).2.2 | (with_reducible refine Kd.C_alloc ?_ _) | (with_reducible refine Kd.C_drewN ?_ _) | (with_reducible refine Kd.C_drew ?_))); (case side4 => exact (Kd.N_reads' HO595.out).2.1); rintro e w' ⟨rfl, ⟨nd, rfl⟩⟩; refine ⟨_, rfl, ?_⟩) | ((with_reducible refine gate_callee (f := 25) rfl ?_); refine goesL_ (some 98) rfl rfl Tryd.func25 (by kernel_rfl) rfl #[.slice Ao21 x5_1.length co21, .slice A0 l0.length c0] rfl (by (try simp only [List.map_toArray, List.map_cons, List.map_nil]); first | done | rfl | (simp only [List.length_drop, List.length_take]; rfl)) ?_; (with_reducible refine (geyserref03_Same.calls kj19 _ _ x5_1 _ _ l0 true _ ?side1 ?side2 ?side3 ?side4 A35.out).mono ?_); (case side1 => repeat (first | exact (Kd.N_reads' HO_5.out).2.2 | (with_reducible refine Kd.C_alloc ?_ _) | (with_reducible refine Kd.C_drewN ?_ _) | (with_reducible refine Kd.C_drew ?_))); (case side2 => exact (Kd.N_reads' HO_5.out).2.1); (case side3 => repeat (first | exact (Kd.C_below HR0.out (by repeat (first | (with_reducible first | exact HB.out | apply below_alloc | apply pw_below_drewN | apply below_drew1) | exact HB.out))) | (with_reducible refine Kd.C_alloc ?_ _) | (with_reducible refine Kd.C_drewN ?_ _) | (with_reducible refine Kd.C_drew ?_))); (case side4 => exact HC0.out); rintro e w' ⟨rfl, ⟨nd, rfl⟩⟩; refine ⟨_, rfl, ?_⟩) | (go_at_call 12; (with_reducible refine (geyserlaw03_awake.calls kj19  t598 _ ?side1 A37.out).mono ?_); (case side1 => first | exact HT.out | exact TabIn.below HT.out (by repeat (first | (with_reducible first | exact HB.out | apply below_alloc | apply pw_below_drewN | apply below_drew1) | exact HB.out)) | (repeat (first | apply TabIn.drewN | apply TabIn.drew | exact HT.out))); rintro e w41 ⟨rfl, hb⟩; have n0_ := Aside0.mk (Kd.N_below (by (with_reducible repeat (first | apply Kd.N_alloc | apply Kd.N_drewN | apply Kd.N_drew)); exact HO_5.out) hb); have n1_ := Aside0.mk (Kd.N_below (by (with_reducible repeat (first | apply Kd.N_alloc | apply Kd.N_drewN | apply Kd.N_drew)); exact HO_7.out) hb); have n2_ := Aside0.mk (Kd.N_below (by (with_reducible repeat (first | apply Kd.N_alloc | apply Kd.N_drewN | apply Kd.N_drew)); exact HO595.out) hb); have n3_ := Aside0.mk (below_step (by repeat (first | (with_reducible first | exact HB.out | apply below_alloc | apply pw_below_drewN | apply below_drew1) | exact HB.out)) hb); clear HO_5; clear HO_7; clear HO595; clear HB; have HO_5 := n0_; have HO_7 := n1_; have HO595 := n2_; have HB := n3_; clear n0_ n1_ n2_ n3_; (try clear hb); (try clear hb2); (try clear hk); (try clear hi)))
           obtain ⟨mm, HM0⟩ := HI.out
           have HM := Aside0.mk HM0
           have hmB := Aside0.mk HM0.1
           clear HM0 HI
           go_loopg [11] (t583.length + 1) (fun kq v11 w' => ∃ i : Nat, v11 = .int .i64 (i : Int) ∧ Aside0 (kq + i = t583.length + 1 ∧ i ≤ t583.length) ∧ Aside0 (matrix_Plains_loop.Inv mm w.heap.size (.slice Ao21 x5_1.length co21) (.slice Ao39 t583.length co39) x5_1 t583 w') ∧ Aside0 (Below w.heap.size w w'))
           case atStart => exact ⟨0, rfl, ⟨by omega, by omega⟩, ⟨by repeat (first | exact HM.out | apply matrix_Plains_loop.Inv.drewN | apply matrix_Plains_loop.Inv.drew)⟩, ⟨by repeat (first | (with_reducible first | exact HB.out | apply below_alloc | apply pw_below_drewN | apply below_drew1) | exact HB.out)⟩⟩
           case round =>
            clear HB HM HO_5 HO_7
            obtain ⟨i, rfl, HKi, HM, HB⟩ := hrel
            cases gk with
            | zero => exact absurd HKi.out.1 (by have := HKi.out.2; omega)
            | succ g1 =>
             by_cases hlt : i < t583.length
             ·have hc1 : decide ((i : Int) < (t583.length : Int)) = true := decide_eq_true (by omega)
              have hp1 : (0 : Int) ≤ (i : Int) := by omega
              obtain ⟨g7, hg7, ⟨_, hn63, hL63⟩, A1, c1_, hcell1, hin⟩ := HM.out.at_ i hlt
              subst hg7
              obtain ⟨L, hL⟩ : ∃ L, L = (t583.getD i []).length := ⟨_, rfl⟩
              rw [← hL] at hcell1 hin hL63
              have HL := Lib.hid hL
              clear hL
              have HC1 := Aside0.mk hcell1
              clear hin
              go_wp2
              go_loopg [12] (L + 1) (fun kq v12 w' => ∃ j : Nat, v12 = .int .i64 (j : Int) ∧ Aside0 (kq + j = L + 1 ∧ j ≤ L) ∧ Aside0 (matrix_Plains_loop.Inv mm w.heap.size (.slice Ao21 x5_1.length co21) (.slice (some ⟨g7, 0, none⟩) t583.length co39) x5_1 t583 w') ∧ Aside0 (Below w.heap.size w w'))
              case atStart => exact ⟨0, rfl, ⟨by omega, by omega⟩, ⟨by repeat (first | exact HM.out | apply matrix_Plains_loop.Inv.drewN | apply matrix_Plains_loop.Inv.drew)⟩, ⟨by repeat (first | (with_reducible first | exact HB.out | apply below_alloc | apply pw_below_drewN | apply below_drew1) | exact HB.out)⟩⟩
              case round =>
               clear HB HM HC1 hcell1
               obtain ⟨j, rfl, HKj, HM, HB⟩ := hrel
               cases gk with
               | zero => exact absurd HKj.out.1 (by have := HKj.out.2; omega)
               | succ g2 =>
                obtain ⟨g7', hg7, _, A1, c1_, hcell1, hin⟩ := HM.out.at_ i hlt
                injection hg7 with hg7
                injection hg7 with hg7 _ _
                subst hg7
                rw [← HL.out] at hcell1 hin
                by_cases hj : j < L
                ·obtain ⟨g, z, cells, hA1, hcz, hfz, hmg, hblk⟩ := hin j hj
                 subst hA1
                 have hc2 : decide ((j : Int) < (L : Int)) = true := decide_eq_true (by omega)
                 have hp2 : (0 : Int) ≤ (j : Int) := by omega
                 have HZ := Aside0.mk hblk
                 have HG := Aside0.mk hmg
                 clear hblk hmg hin
                 go_wp2
                 go_region
                 go_wp2
                 go_roundg g2
                 case measure => have := HKj.out.1; omega
                 case rel =>
                  refine ⟨j + 1, by go_num, ⟨by have := HKj.out; omega, by omega⟩, ⟨?_⟩, ⟨?_⟩⟩
                  ·exact (HM.out.store HG.out HZ.out _).drew
                  ·exact below_drew (HB.out.setCell (Nat.le_trans hmB.out HG.out) _)
                ·have hc2 : decide ((j : Int) < (L : Int)) = false := decide_eq_false (by omega)
                 clear hin
                 go_wp2
                 go_roundg g1
                 case measure => have := HKi.out.1; omega
                 case rel => exact ⟨i + 1, by go_num, ⟨by have := HKi.out; omega, by omega⟩, ⟨by repeat (first | exact HM.out | apply matrix_Plains_loop.Inv.drewN | apply matrix_Plains_loop.Inv.drew)⟩, ⟨by repeat (first | (with_reducible first | exact HB.out | apply below_alloc | apply pw_below_drewN | apply below_drew1) | exact HB.out)⟩⟩
             ·have hc1 : decide ((i : Int) < (t583.length : Int)) = false := decide_eq_false (by omega)
              have HO_5 := Aside0.mk HM.out.2.1
              have HO_7 := HO_5
              have HO595 := HO_5
              go_wp2_with (first | ((with_reducible refine gate_callee (f := 26) rfl ?_); refine goesL_ (some 62) rfl rfl Tryd.func26 (by kernel_rfl) rfl #[.slice A0 l0.length c0, .int .i64 a1] rfl (by (try simp only [List.map_toArray, List.map_cons, List.map_nil]); first | done | rfl | (simp only [List.length_drop, List.length_take]; rfl)) ?_; (with_reducible refine (geyserref03_Plain.calls kj19 _ _ l0 a1 t593 _ ?side1 ?side2 A32.out).mono ?_); (case side1 => repeat (first | exact (Kd.C_below HR0.out HB.out) | (with_reducible refine Kd.C_alloc ?_ _) | (with_reducible refine Kd.C_drewN ?_ _) | (with_reducible refine Kd.C_drew ?_))); (case side2 => exact HC0.out); rintro e w38 ⟨v594, rfl, ho0, hb⟩; refine ⟨_, rfl, ?_⟩; replace HI := Aside0.mk (matrix_Plains_loop.Inv_.below (by repeat (first | exact HI.out | apply matrix_Plains_loop.Inv_.drewN | apply matrix_Plains_loop.Inv_.drew)) hb); have n0_ := Aside0.mk (Kd.N_elder' (by (with_reducible repeat (first | apply Kd.N_alloc | apply Kd.N_drewN | apply Kd.N_drew)); exact HO_5.out) (Kd.S_base ho0) hb); have n1_ := Aside0.mk (Kd.N_elder' (by (with_reducible repeat (first | apply Kd.N_alloc | apply Kd.N_drewN | apply Kd.N_drew)); exact HO_7.out) (Kd.S_base ho0) hb); have n2_ := Aside0.mk (Kd.N_lower (Kd.N_mono (ok' := fun k_ => some k_ ≠ (.slice Ao21 x5_1.length co21 : Value).ownBlock ∧ some k_ ≠ (v584 : Value).ownBlock) (Kd.S_N (Kd.S_bound ho0)) (fun k_ hk_ => ⟨(Kd.fresh' (Kd.N_lt (by (with_reducible repeat (first | apply Kd.N_alloc | apply Kd.N_drewN | apply Kd.N_drew)); exact HO_5.out)) k_ hk_.2.1), (Kd.fresh' (Kd.N_lt (by (with_reducible repeat (first | apply Kd.N_alloc | apply Kd.N_drewN | apply Kd.N_drew)); exact HO_7.out)) k_ hk_.2.1)⟩)) (below_size (by repeat (first | (with_reducible first | exact HB.out | apply below_alloc | apply pw_below_drewN | apply below_drew1) | exact HB.out)))); have n3_ := Aside0.mk (below_step (by repeat (first | (with_reducible first | exact HB.out | apply below_alloc | apply pw_below_drewN | apply below_drew1) | exact HB.out)) hb); clear HO_5; clear HO_7; clear HB; have HO_5 := n0_; have HO_7 := n1_; have HO595 := n2_; have HB := n3_; clear n0_ n1_ n2_ n3_; (try clear hb); (try clear hb2); (try clear hk); (try clear hi); (try clear ho0); obtain ⟨Ao39, co39, eo39⟩ := Kd.N_slice HO_7.out; subst eo39; obtain ⟨Ao40, co40, eo40⟩ := Kd.N_slice HO595.out; subst eo40) | ((with_reducible refine gate_callee (f := 25) rfl ?_); refine goesL_ (some 65) rfl rfl Tryd.func25 (by kernel_rfl) rfl #[.slice Ao39 t583.length co39, .slice Ao40 t593.length co40] rfl (by (try simp only [List.map_toArray, List.map_cons, List.map_nil]); first | done | rfl | (simp only [List.length_drop, List.length_take]; rfl)) ?_; (with_reducible refine (geyserref03_Same.calls kj19 _ _ t583 _ _ t593 true _ ?side1 ?side2 ?side3 ?side4 A33.out).mono ?_); (case side1 => repeat (first | exact (Kd.N_reads' HO_7.out).2.2 | (with_reducible refine Kd.C_alloc ?_ _) | (with_reducible refine Kd.C_drewN ?_ _) | (with_reducible refine Kd.C_drew ?_))); (case side2 => exact (Kd.N_reads' HO_7.out).2.1); (case side3 => repeat (first | exact (Kd.N_reads' HO595.out).2.2 | (with_reducible refine Kd.C_alloc ?_ _) | (with_reducible refine Kd.C_drewN ?_ _) | (with_reducible refine Kd.C_drew ?_))); (case side4 => exact (Kd.N_reads' HO595.out).2.1); rintro e w' ⟨rfl, ⟨nd, rfl⟩⟩; refine ⟨_, rfl, ?_⟩) | ((with_reducible refine gate_callee (f := 25) rfl ?_); refine goesL_ (some 98) rfl rfl Tryd.func25 (by kernel_rfl) rfl #[.slice Ao21 x5_1.length co21, .slice A0 l0.length c0] rfl (by (try simp only [List.map_toArray, List.map_cons, List.map_nil]); first | done | rfl | (simp only [List.length_drop, List.length_take]; rfl)) ?_; (with_reducible refine (geyserref03_Same.calls kj19 _ _ x5_1 _ _ l0 true _ ?side1 ?side2 ?side3 ?side4 A35.out).mono ?_); (case side1 => repeat (first | exact (Kd.N_reads' HO_5.out).2.2 | (with_reducible refine Kd.C_alloc ?_ _) | (with_reducible refine Kd.C_drewN ?_ _) | (with_reducible refine Kd.C_drew ?_))); (case side2 => exact (Kd.N_reads' HO_5.out).2.1); (case side3 => repeat (first | exact (Kd.C_below HR0.out (by repeat (first | (with_reducible first | exact HB.out | apply below_alloc | apply pw_below_drewN | apply below_drew1) | exact HB.out))) | (with_reducible refine Kd.C_alloc ?_ _) | (with_reducible refine Kd.C_drewN ?_ _) | (with_reducible refine Kd.C_drew ?_))); (case side4 => exact HC0.out); rintro e w' ⟨rfl, ⟨nd, rfl⟩⟩; refine ⟨_, rfl, ?_⟩) | (go_at_call 12; (with_reducible refine (geyserlaw03_awake.calls kj19  t598 _ ?side1 A37.out).mono ?_); (case side1 => first | exact HT.out | exact TabIn.below HT.out (by repeat (first | (with_reducible first | exact HB.out | apply below_alloc | apply pw_below_drewN | apply below_drew1) | exact HB.out)) | (repeat (first | apply TabIn.drewN | apply TabIn.drew | exact HT.out))); rintro e w41 ⟨rfl, hb⟩; have n0_ := Aside0.mk (Kd.N_below (by (with_reducible repeat (first | apply Kd.N_alloc | apply Kd.N_drewN | apply Kd.N_drew)); exact HO_5.out) hb); have n1_ := Aside0.mk (Kd.N_below (by (with_reducible repeat (first | apply Kd.N_alloc | apply Kd.N_drewN | apply Kd.N_drew)); exact HO_7.out) hb); have n2_ := Aside0.mk (Kd.N_below (by (with_reducible repeat (first | apply Kd.N_alloc | apply Kd.N_drewN | apply Kd.N_drew)); exact HO595.out) hb); have n3_ := Aside0.mk (below_step (by repeat (first | (with_reducible first | exact HB.out | apply below_alloc | apply pw_below_drewN | apply below_drew1) | exact HB.out)) hb); clear HO_5; clear HO_7; clear HO595; clear HB; have HO_5 := n0_; have HO_7 := n1_; have HO595 := n2_; have HB := n3_; clear n0_ n1_ n2_ n3_; (try clear hb); (try clear hb2); (try clear hk); (try clear hi)))
              go_ret
              exact ⟨by first | rfl | (simp [errW_none, errW_some] <;> rfl) | (simp [*, errW_none, errW_some] <;> rfl), by repeat (first | (with_reducible first | exact HB.out | apply below_alloc | apply pw_below_drewN | apply below_drew1) | exact HB.out)⟩
          ·replace c36 := Bool.eq_false_iff.mpr c36
           subst c36
           have H1 : (some false) = some r := by rw [if_neg (show ¬ (false = true) by decide)] at H; exact H
           clear H
           have H := H1
           clear H1
           obtain rfl := Option.some.inj H
           go_wp2_with (first | ((with_reducible refine gate_callee (f := 26) rfl ?_); refine goesL_ (some 62) rfl rfl Tryd.func26 (by kernel_rfl) rfl #[.slice A0 l0.length c0, .int .i64 a1] rfl (by (try simp only [List.map_toArray, List.map_cons, List.map_nil]); first | done | rfl | (simp only [List.length_drop, List.length_take]; rfl)) ?_; (with_reducible refine (geyserref03_Plain.calls kj19 _ _ l0 a1 t593 _ ?side1 ?side2 A32.out).mono ?_); (case side1 => repeat (first | exact (Kd.C_below HR0.out HB.out) | (with_reducible refine Kd.C_alloc ?_ _) | (with_reducible refine Kd.C_drewN ?_ _) | (with_reducible refine Kd.C_drew ?_))); (case side2 => exact HC0.out); rintro e w42 ⟨v594, rfl, ho0, hb⟩; refine ⟨_, rfl, ?_⟩; replace HI := Aside0.mk (matrix_Plains_loop.Inv_.below (by repeat (first | exact HI.out | apply matrix_Plains_loop.Inv_.drewN | apply matrix_Plains_loop.Inv_.drew)) hb); have n0_ := Aside0.mk (Kd.N_elder' (by (with_reducible repeat (first | apply Kd.N_alloc | apply Kd.N_drewN | apply Kd.N_drew)); exact HO_5.out) (Kd.S_base ho0) hb); have n1_ := Aside0.mk (Kd.N_elder' (by (with_reducible repeat (first | apply Kd.N_alloc | apply Kd.N_drewN | apply Kd.N_drew)); exact HO_7.out) (Kd.S_base ho0) hb); have n2_ := Aside0.mk (Kd.N_lower (Kd.N_mono (ok' := fun k_ => some k_ ≠ (.slice Ao21 x5_1.length co21 : Value).ownBlock ∧ some k_ ≠ (v584 : Value).ownBlock) (Kd.S_N (Kd.S_bound ho0)) (fun k_ hk_ => ⟨(Kd.fresh' (Kd.N_lt (by (with_reducible repeat (first | apply Kd.N_alloc | apply Kd.N_drewN | apply Kd.N_drew)); exact HO_5.out)) k_ hk_.2.1), (Kd.fresh' (Kd.N_lt (by (with_reducible repeat (first | apply Kd.N_alloc | apply Kd.N_drewN | apply Kd.N_drew)); exact HO_7.out)) k_ hk_.2.1)⟩)) (below_size (by repeat (first | (with_reducible first | exact HB.out | apply below_alloc | apply pw_below_drewN | apply below_drew1) | exact HB.out)))); have n3_ := Aside0.mk (below_step (by repeat (first | (with_reducible first | exact HB.out | apply below_alloc | apply pw_below_drewN | apply below_drew1) | exact HB.out)) hb); clear HO_5; clear HO_7; clear HB; have HO_5 := n0_; have HO_7 := n1_; have HO595 := n2_; have HB := n3_; clear n0_ n1_ n2_ n3_; (try clear hb); (try clear hb2); (try clear hk); (try clear hi); (try clear ho0); obtain ⟨Ao43, co43, eo43⟩ := Kd.N_slice HO_7.out; subst eo43; obtain ⟨Ao44, co44, eo44⟩ := Kd.N_slice HO595.out; subst eo44) | ((with_reducible refine gate_callee (f := 25) rfl ?_); refine goesL_ (some 65) rfl rfl Tryd.func25 (by kernel_rfl) rfl #[.slice Ao43 t583.length co43, .slice Ao44 t593.length co44] rfl (by (try simp only [List.map_toArray, List.map_cons, List.map_nil]); first | done | rfl | (simp only [List.length_drop, List.length_take]; rfl)) ?_; (with_reducible refine (geyserref03_Same.calls kj19 _ _ t583 _ _ t593 true _ ?side1 ?side2 ?side3 ?side4 A33.out).mono ?_); (case side1 => repeat (first | exact (Kd.N_reads' HO_7.out).2.2 | (with_reducible refine Kd.C_alloc ?_ _) | (with_reducible refine Kd.C_drewN ?_ _) | (with_reducible refine Kd.C_drew ?_))); (case side2 => exact (Kd.N_reads' HO_7.out).2.1); (case side3 => repeat (first | exact (Kd.N_reads' HO595.out).2.2 | (with_reducible refine Kd.C_alloc ?_ _) | (with_reducible refine Kd.C_drewN ?_ _) | (with_reducible refine Kd.C_drew ?_))); (case side4 => exact (Kd.N_reads' HO595.out).2.1); rintro e w' ⟨rfl, ⟨nd, rfl⟩⟩; refine ⟨_, rfl, ?_⟩) | ((with_reducible refine gate_callee (f := 25) rfl ?_); refine goesL_ (some 98) rfl rfl Tryd.func25 (by kernel_rfl) rfl #[.slice Ao21 x5_1.length co21, .slice A0 l0.length c0] rfl (by (try simp only [List.map_toArray, List.map_cons, List.map_nil]); first | done | rfl | (simp only [List.length_drop, List.length_take]; rfl)) ?_; (with_reducible refine (geyserref03_Same.calls kj19 _ _ x5_1 _ _ l0 false _ ?side1 ?side2 ?side3 ?side4 A35.out).mono ?_); (case side1 => repeat (first | exact (Kd.N_reads' HO_5.out).2.2 | (with_reducible refine Kd.C_alloc ?_ _) | (with_reducible refine Kd.C_drewN ?_ _) | (with_reducible refine Kd.C_drew ?_))); (case side2 => exact (Kd.N_reads' HO_5.out).2.1); (case side3 => repeat (first | exact (Kd.C_below HR0.out (by repeat (first | (with_reducible first | exact HB.out | apply below_alloc | apply pw_below_drewN | apply below_drew1) | exact HB.out))) | (with_reducible refine Kd.C_alloc ?_ _) | (with_reducible refine Kd.C_drewN ?_ _) | (with_reducible refine Kd.C_drew ?_))); (case side4 => exact HC0.out); rintro e w' ⟨rfl, ⟨nd, rfl⟩⟩; refine ⟨_, rfl, ?_⟩))
           obtain ⟨mm, HM0⟩ := HI.out
           have HM := Aside0.mk HM0
           have hmB := Aside0.mk HM0.1
           clear HM0 HI
           go_loopg [11] (t583.length + 1) (fun kq v11 w' => ∃ i : Nat, v11 = .int .i64 (i : Int) ∧ Aside0 (kq + i = t583.length + 1 ∧ i ≤ t583.length) ∧ Aside0 (matrix_Plains_loop.Inv mm w.heap.size (.slice Ao21 x5_1.length co21) (.slice Ao43 t583.length co43) x5_1 t583 w') ∧ Aside0 (Below w.heap.size w w'))
           case atStart => exact ⟨0, rfl, ⟨by omega, by omega⟩, ⟨by repeat (first | exact HM.out | apply matrix_Plains_loop.Inv.drewN | apply matrix_Plains_loop.Inv.drew)⟩, ⟨by repeat (first | (with_reducible first | exact HB.out | apply below_alloc | apply pw_below_drewN | apply below_drew1) | exact HB.out)⟩⟩
           case round =>
            clear HB HM HO_5 HO_7
            obtain ⟨i, rfl, HKi, HM, HB⟩ := hrel
            cases gk with
            | zero => exact absurd HKi.out.1 (by have := HKi.out.2; omega)
            | succ g1 =>
             by_cases hlt : i < t583.length
             ·have hc1 : decide ((i : Int) < (t583.length : Int)) = true := decide_eq_true (by omega)
              have hp1 : (0 : Int) ≤ (i : Int) := by omega
              obtain ⟨g7, hg7, ⟨_, hn63, hL63⟩, A1, c1_, hcell1, hin⟩ := HM.out.at_ i hlt
              subst hg7
              obtain ⟨L, hL⟩ : ∃ L, L = (t583.getD i []).length := ⟨_, rfl⟩
              rw [← hL] at hcell1 hin hL63
              have HL := Lib.hid hL
              clear hL
              have HC1 := Aside0.mk hcell1
              clear hin
              go_wp2
              go_loopg [12] (L + 1) (fun kq v12 w' => ∃ j : Nat, v12 = .int .i64 (j : Int) ∧ Aside0 (kq + j = L + 1 ∧ j ≤ L) ∧ Aside0 (matrix_Plains_loop.Inv mm w.heap.size (.slice Ao21 x5_1.length co21) (.slice (some ⟨g7, 0, none⟩) t583.length co43) x5_1 t583 w') ∧ Aside0 (Below w.heap.size w w'))
              case atStart => exact ⟨0, rfl, ⟨by omega, by omega⟩, ⟨by repeat (first | exact HM.out | apply matrix_Plains_loop.Inv.drewN | apply matrix_Plains_loop.Inv.drew)⟩, ⟨by repeat (first | (with_reducible first | exact HB.out | apply below_alloc | apply pw_below_drewN | apply below_drew1) | exact HB.out)⟩⟩
              case round =>
               clear HB HM HC1 hcell1
               obtain ⟨j, rfl, HKj, HM, HB⟩ := hrel
               cases gk with
               | zero => exact absurd HKj.out.1 (by have := HKj.out.2; omega)
               | succ g2 =>
                obtain ⟨g7', hg7, _, A1, c1_, hcell1, hin⟩ := HM.out.at_ i hlt
                injection hg7 with hg7
                injection hg7 with hg7 _ _
                subst hg7
                rw [← HL.out] at hcell1 hin
                by_cases hj : j < L
                ·obtain ⟨g, z, cells, hA1, hcz, hfz, hmg, hblk⟩ := hin j hj
                 subst hA1
                 have hc2 : decide ((j : Int) < (L : Int)) = true := decide_eq_true (by omega)
                 have hp2 : (0 : Int) ≤ (j : Int) := by omega
                 have HZ := Aside0.mk hblk
                 have HG := Aside0.mk hmg
                 clear hblk hmg hin
                 go_wp2
                 go_region
                 go_wp2
                 go_roundg g2
                 case measure => have := HKj.out.1; omega
                 case rel =>
                  refine ⟨j + 1, by go_num, ⟨by have := HKj.out; omega, by omega⟩, ⟨?_⟩, ⟨?_⟩⟩
                  ·exact (HM.out.store HG.out HZ.out _).drew
                  ·exact below_drew (HB.out.setCell (Nat.le_trans hmB.out HG.out) _)
                ·have hc2 : decide ((j : Int) < (L : Int)) = false := decide_eq_false (by omega)
                 clear hin
                 go_wp2
                 go_roundg g1
                 case measure => have := HKi.out.1; omega
                 case rel => exact ⟨i + 1, by go_num, ⟨by have := HKi.out; omega, by omega⟩, ⟨by repeat (first | exact HM.out | apply matrix_Plains_loop.Inv.drewN | apply matrix_Plains_loop.Inv.drew)⟩, ⟨by repeat (first | (with_reducible first | exact HB.out | apply below_alloc | apply pw_below_drewN | apply below_drew1) | exact HB.out)⟩⟩
             ·have hc1 : decide ((i : Int) < (t583.length : Int)) = false := decide_eq_false (by omega)
              have HO_5 := Aside0.mk HM.out.2.1
              have HO_7 := HO_5
              have HO595 := HO_5
              go_wp2_with (first | ((with_reducible refine gate_callee (f := 26) rfl ?_); refine goesL_ (some 62) rfl rfl Tryd.func26 (by kernel_rfl) rfl #[.slice A0 l0.length c0, .int .i64 a1] rfl (by (try simp only [List.map_toArray, List.map_cons, List.map_nil]); first | done | rfl | (simp only [List.length_drop, List.length_take]; rfl)) ?_; (with_reducible refine (geyserref03_Plain.calls kj19 _ _ l0 a1 t593 _ ?side1 ?side2 A32.out).mono ?_); (case side1 => repeat (first | exact (Kd.C_below HR0.out HB.out) | (with_reducible refine Kd.C_alloc ?_ _) | (with_reducible refine Kd.C_drewN ?_ _) | (with_reducible refine Kd.C_drew ?_))); (case side2 => exact HC0.out); rintro e w42 ⟨v594, rfl, ho0, hb⟩; refine ⟨_, rfl, ?_⟩; replace HI := Aside0.mk (matrix_Plains_loop.Inv_.below (by repeat (first | exact HI.out | apply matrix_Plains_loop.Inv_.drewN | apply matrix_Plains_loop.Inv_.drew)) hb); have n0_ := Aside0.mk (Kd.N_elder' (by (with_reducible repeat (first | apply Kd.N_alloc | apply Kd.N_drewN | apply Kd.N_drew)); exact HO_5.out) (Kd.S_base ho0) hb); have n1_ := Aside0.mk (Kd.N_elder' (by (with_reducible repeat (first | apply Kd.N_alloc | apply Kd.N_drewN | apply Kd.N_drew)); exact HO_7.out) (Kd.S_base ho0) hb); have n2_ := Aside0.mk (Kd.N_lower (Kd.N_mono (ok' := fun k_ => some k_ ≠ (.slice Ao21 x5_1.length co21 : Value).ownBlock ∧ some k_ ≠ (v584 : Value).ownBlock) (Kd.S_N (Kd.S_bound ho0)) (fun k_ hk_ => ⟨(Kd.fresh' (Kd.N_lt (by (with_reducible repeat (first | apply Kd.N_alloc | apply Kd.N_drewN | apply Kd.N_drew)); exact HO_5.out)) k_ hk_.2.1), (Kd.fresh' (Kd.N_lt (by (with_reducible repeat (first | apply Kd.N_alloc | apply Kd.N_drewN | apply Kd.N_drew)); exact HO_7.out)) k_ hk_.2.1)⟩)) (below_size (by repeat (first | (with_reducible first | exact HB.out | apply below_alloc | apply pw_below_drewN | apply below_drew1) | exact HB.out)))); have n3_ := Aside0.mk (below_step (by repeat (first | (with_reducible first | exact HB.out | apply below_alloc | apply pw_below_drewN | apply below_drew1) | exact HB.out)) hb); clear HO_5; clear HO_7; clear HB; have HO_5 := n0_; have HO_7 := n1_; have HO595 := n2_; have HB := n3_; clear n0_ n1_ n2_ n3_; (try clear hb); (try clear hb2); (try clear hk); (try clear hi); (try clear ho0); obtain ⟨Ao43, co43, eo43⟩ := Kd.N_slice HO_7.out; subst eo43; obtain ⟨Ao44, co44, eo44⟩ := Kd.N_slice HO595.out; subst eo44) | ((with_reducible refine gate_callee (f := 25) rfl ?_); refine goesL_ (some 65) rfl rfl Tryd.func25 (by kernel_rfl) rfl #[.slice Ao43 t583.length co43, .slice Ao44 t593.length co44] rfl (by (try simp only [List.map_toArray, List.map_cons, List.map_nil]); first | done | rfl | (simp only [List.length_drop, List.length_take]; rfl)) ?_; (with_reducible refine (geyserref03_Same.calls kj19 _ _ t583 _ _ t593 true _ ?side1 ?side2 ?side3 ?side4 A33.out).mono ?_); (case side1 => repeat (first | exact (Kd.N_reads' HO_7.out).2.2 | (with_reducible refine Kd.C_alloc ?_ _) | (with_reducible refine Kd.C_drewN ?_ _) | (with_reducible refine Kd.C_drew ?_))); (case side2 => exact (Kd.N_reads' HO_7.out).2.1); (case side3 => repeat (first | exact (Kd.N_reads' HO595.out).2.2 | (with_reducible refine Kd.C_alloc ?_ _) | (with_reducible refine Kd.C_drewN ?_ _) | (with_reducible refine Kd.C_drew ?_))); (case side4 => exact (Kd.N_reads' HO595.out).2.1); rintro e w' ⟨rfl, ⟨nd, rfl⟩⟩; refine ⟨_, rfl, ?_⟩) | ((with_reducible refine gate_callee (f := 25) rfl ?_); refine goesL_ (some 98) rfl rfl Tryd.func25 (by kernel_rfl) rfl #[.slice Ao21 x5_1.length co21, .slice A0 l0.length c0] rfl (by (try simp only [List.map_toArray, List.map_cons, List.map_nil]); first | done | rfl | (simp only [List.length_drop, List.length_take]; rfl)) ?_; (with_reducible refine (geyserref03_Same.calls kj19 _ _ x5_1 _ _ l0 false _ ?side1 ?side2 ?side3 ?side4 A35.out).mono ?_); (case side1 => repeat (first | exact (Kd.N_reads' HO_5.out).2.2 | (with_reducible refine Kd.C_alloc ?_ _) | (with_reducible refine Kd.C_drewN ?_ _) | (with_reducible refine Kd.C_drew ?_))); (case side2 => exact (Kd.N_reads' HO_5.out).2.1); (case side3 => repeat (first | exact (Kd.C_below HR0.out (by repeat (first | (with_reducible first | exact HB.out | apply below_alloc | apply pw_below_drewN | apply below_drew1) | exact HB.out))) | (with_reducible refine Kd.C_alloc ?_ _) | (with_reducible refine Kd.C_drewN ?_ _) | (with_reducible refine Kd.C_drew ?_))); (case side4 => exact HC0.out); rintro e w' ⟨rfl, ⟨nd, rfl⟩⟩; refine ⟨_, rfl, ?_⟩))
              go_ret
              exact ⟨by first | rfl | (simp [errW_none, errW_some] <;> rfl) | (simp [*, errW_none, errW_some] <;> rfl), by repeat (first | (with_reducible first | exact HB.out | apply below_alloc | apply pw_below_drewN | apply below_drew1) | exact HB.out)⟩
         ·replace c34 := Bool.eq_false_iff.mpr c34
          subst c34
          have H1 : (some false) = some r := by rw [if_neg (show ¬ (false = true) by decide)] at H; exact H
          clear H
          have H := H1
          clear H1
          obtain rfl := Option.some.inj H
          go_wp2_with (first | ((with_reducible refine gate_callee (f := 26) rfl ?_); refine goesL_ (some 62) rfl rfl Tryd.func26 (by kernel_rfl) rfl #[.slice A0 l0.length c0, .int .i64 a1] rfl (by (try simp only [List.map_toArray, List.map_cons, List.map_nil]); first | done | rfl | (simp only [List.length_drop, List.length_take]; rfl)) ?_; (with_reducible refine (geyserref03_Plain.calls kj19 _ _ l0 a1 t593 _ ?side1 ?side2 A32.out).mono ?_); (case side1 => repeat (first | exact (Kd.C_below HR0.out HB.out) | (with_reducible refine Kd.C_alloc ?_ _) | (with_reducible refine Kd.C_drewN ?_ _) | (with_reducible refine Kd.C_drew ?_))); (case side2 => exact HC0.out); rintro e w45 ⟨v594, rfl, ho0, hb⟩; refine ⟨_, rfl, ?_⟩; replace HI := Aside0.mk (matrix_Plains_loop.Inv_.below (by repeat (first | exact HI.out | apply matrix_Plains_loop.Inv_.drewN | apply matrix_Plains_loop.Inv_.drew)) hb); have n0_ := Aside0.mk (Kd.N_elder' (by (with_reducible repeat (first | apply Kd.N_alloc | apply Kd.N_drewN | apply Kd.N_drew)); exact HO_5.out) (Kd.S_base ho0) hb); have n1_ := Aside0.mk (Kd.N_elder' (by (with_reducible repeat (first | apply Kd.N_alloc | apply Kd.N_drewN | apply Kd.N_drew)); exact HO_7.out) (Kd.S_base ho0) hb); have n2_ := Aside0.mk (Kd.N_lower (Kd.N_mono (ok' := fun k_ => some k_ ≠ (.slice Ao21 x5_1.length co21 : Value).ownBlock ∧ some k_ ≠ (v584 : Value).ownBlock) (Kd.S_N (Kd.S_bound ho0)) (fun k_ hk_ => ⟨(Kd.fresh' (Kd.N_lt (by (with_reducible repeat (first | apply Kd.N_alloc | apply Kd.N_drewN | apply Kd.N_drew)); exact HO_5.out)) k_ hk_.2.1), (Kd.fresh' (Kd.N_lt (by (with_reducible repeat (first | apply Kd.N_alloc | apply Kd.N_drewN | apply Kd.N_drew)); exact HO_7.out)) k_ hk_.2.1)⟩)) (below_size (by repeat (first | (with_reducible first | exact HB.out | apply below_alloc | apply pw_below_drewN | apply below_drew1) | exact HB.out)))); have n3_ := Aside0.mk (below_step (by repeat (first | (with_reducible first | exact HB.out | apply below_alloc | apply pw_below_drewN | apply below_drew1) | exact HB.out)) hb); clear HO_5; clear HO_7; clear HB; have HO_5 := n0_; have HO_7 := n1_; have HO595 := n2_; have HB := n3_; clear n0_ n1_ n2_ n3_; (try clear hb); (try clear hb2); (try clear hk); (try clear hi); (try clear ho0); obtain ⟨Ao46, co46, eo46⟩ := Kd.N_slice HO_7.out; subst eo46; obtain ⟨Ao47, co47, eo47⟩ := Kd.N_slice HO595.out; subst eo47) | ((with_reducible refine gate_callee (f := 25) rfl ?_); refine goesL_ (some 65) rfl rfl Tryd.func25 (by kernel_rfl) rfl #[.slice Ao46 t583.length co46, .slice Ao47 t593.length co47] rfl (by (try simp only [List.map_toArray, List.map_cons, List.map_nil]); first | done | rfl | (simp only [List.length_drop, List.length_take]; rfl)) ?_; (with_reducible refine (geyserref03_Same.calls kj19 _ _ t583 _ _ t593 false _ ?side1 ?side2 ?side3 ?side4 A33.out).mono ?_); (case side1 => repeat (first | exact (Kd.N_reads' HO_7.out).2.2 | (with_reducible refine Kd.C_alloc ?_ _) | (with_reducible refine Kd.C_drewN ?_ _) | (with_reducible refine Kd.C_drew ?_))); (case side2 => exact (Kd.N_reads' HO_7.out).2.1); (case side3 => repeat (first | exact (Kd.N_reads' HO595.out).2.2 | (with_reducible refine Kd.C_alloc ?_ _) | (with_reducible refine Kd.C_drewN ?_ _) | (with_reducible refine Kd.C_drew ?_))); (case side4 => exact (Kd.N_reads' HO595.out).2.1); rintro e w' ⟨rfl, ⟨nd, rfl⟩⟩; refine ⟨_, rfl, ?_⟩))
          go_ret
          exact ⟨by first | rfl | (simp [errW_none, errW_some] <;> rfl) | (simp [*, errW_none, errW_some] <;> rfl), by repeat (first | (with_reducible first | exact HB.out | apply below_alloc | apply pw_below_drewN | apply below_drew1) | exact HB.out)⟩
        ·rw [if_neg c31] at H
         have c31b0 : (t589 == 0) = false := beq_eq_false_iff_ne.mpr c31
         have c31b1 : (t589 != 0) = true := bne_iff_ne.mpr c31
         by_cases c48 : (t583.length : Int) = 0
         ·rw [if_pos c48] at H
          have c48b0 : ((t583.length : Int) == 0) = true := beq_iff_eq.mpr c48
          have c48b1 : ((t583.length : Int) != 0) = false := bne_eq_false_iff_eq.mpr c48
          clear c48
          replace H := Option.bind_eq_some_iff.mp H
          obtain ⟨t592, A490, H⟩ := H
          replace H : (some t592) = some r := H
          have A49 := Aside0.mk A490
          clear A490
          obtain rfl := Option.some.inj H
          obtain ⟨Ao50, co50, eo50⟩ := Kd.N_slice HO_7.out
          subst eo50
          go_wp2_with (first | (go_at_call 12; (with_reducible refine (geyserlaw03_awake.calls kj19  t592 _ ?side1 A49.out).mono ?_); (case side1 => first | exact HT.out | exact TabIn.below HT.out (by repeat (first | (with_reducible first | exact HB.out | apply below_alloc | apply pw_below_drewN | apply below_drew1) | exact HB.out)) | (repeat (first | apply TabIn.drewN | apply TabIn.drew | exact HT.out))); rintro e w51 ⟨rfl, hb⟩; have n0_ := Aside0.mk (Kd.N_below (by (with_reducible repeat (first | apply Kd.N_alloc | apply Kd.N_drewN | apply Kd.N_drew)); exact HO_5.out) hb); have n1_ := Aside0.mk (Kd.N_below (by (with_reducible repeat (first | apply Kd.N_alloc | apply Kd.N_drewN | apply Kd.N_drew)); exact HO_7.out) hb); have n2_ := Aside0.mk (below_step (by repeat (first | (with_reducible first | exact HB.out | apply below_alloc | apply pw_below_drewN | apply below_drew1) | exact HB.out)) hb); clear HO_5; clear HO_7; clear HB; have HO_5 := n0_; have HO_7 := n1_; have HB := n2_; clear n0_ n1_ n2_; (try clear hb); (try clear hb2); (try clear hk); (try clear hi)))
          go_ret
          exact ⟨by first | rfl | (simp [errW_none, errW_some] <;> rfl) | (simp [*, errW_none, errW_some] <;> rfl), by repeat (first | (with_reducible first | exact HB.out | apply below_alloc | apply pw_below_drewN | apply below_drew1) | exact HB.out)⟩
         ·rw [if_neg c48] at H
          have c48b0 : ((t583.length : Int) == 0) = false := beq_eq_false_iff_ne.mpr c48
          have c48b1 : ((t583.length : Int) != 0) = true := bne_iff_ne.mpr c48
          have c48b2 : ¬ (t583 = []) := fun h_ => c48 (by rw [h_]; rfl)
          obtain rfl := Option.some.inj H
          obtain ⟨Ao52, co52, eo52⟩ := Kd.N_slice HO_7.out
          subst eo52
          go_wp2
          go_ret
          exact ⟨by first | rfl | (simp [errW_none, errW_some] <;> rfl) | (simp [*, errW_none, errW_some] <;> rfl), by repeat (first | (with_reducible first | exact HB.out | apply below_alloc | apply pw_below_drewN | apply below_drew1) | exact HB.out)⟩

end Go.Proofs.YtgocibnmgfmceaaDoor.P

namespace Go.Proofs.YtgocibnmgfmceaaDoor.Pure
open Go.RowKit Go.Proofs.YtgocibnmgfmceaaDoor.P Go.Proofs.YtgocibnmgfmceaaDoorW.PrintWords Go.Proofs.YtgocibnmgfmceaaDoorW.PrintLast Go.Proofs.YtgocibnmgfmceaaDoorW.PrintErr Go.Proofs.YtgocibnmgfmceaaDoorW.PrintMore Go.Proofs.YtgocibnmgfmceaaDoor.Lin
set_option linter.unusedVariables false
set_option linter.unusedSimpArgs false
theorem plains_j1 (rows : List (List Int)) (n : Int) (l : List (List Int)) (hr : rows.length < 9223372036854775807) (hx : ∀ x ∈ rows, x.length < 9223372036854775807) (hu : ∀ r ∈ rows, ∀ x ∈ r, U64 x)
    (hl : chk3 rows n ≠ 0 → l = []) (hp : ∀ m : Nat, n = m → chk3 rows n = 0 → IsPlain m rows l) : Ev (fun k => geyserlaw03_MatrixPlains.j1 k rows n rows l (chk3 rows n) false) true := by
  by_cases h : chk3 rows n = 0
  · obtain ⟨h0, _, _, _⟩ := chk3_zero h
    obtain ⟨m, rfl⟩ := Int.eq_ofNat_of_zero_le h0
    obtain ⟨hn, hlr, hR⟩ := chk_rws h hu
    have iP := hp m rfl h
    obtain ⟨Q, hQ, iQ⟩ := rplain_ev rows m hn hlr hR
    obtain rfl : l = Q := iP.uniq iQ (fun x hx => Sp.mem (List.mem_map.2 ⟨x, hx, rfl⟩)) (fun x hx => Sp.mem (List.mem_map.2 ⟨x, hx, rfl⟩))
    have hle := iP.le
    have hs1 := same3_ev l (by omega) (fun x hx => by
      have := (iP.row x hx).1
      unfold nW at this
      rw [Int.toNat_natCast] at this
      omega)
    have hs2 := same3_ev rows hr hx
    refine Ev.step (f := fun k => (geyserref03_Plain.f k rows (m : Int)).bind fun t593 => ((geyserref03_Same.f k l t593).bind fun t596 => (if t596 = true then ((geyserref03_Same.f k rows rows).bind fun t597 => (if t597 = true then ((geyserlaw03_awake.f k).bind fun t598 => (some t598)) else (some false))) else (some false)))) (fun k => ?_) (Ev.bind hQ (Ev.bind hs1 ?_))
    · rw [geyserlaw03_MatrixPlains.j1, if_neg (by simp), if_pos h]
    · simp only [if_true]
      refine Ev.bind hs2 ?_
      refine Ev.congr (fun k => ?_) (Ev.bind (f := fun _ t => some t) awake03_ev (Ev.now _))
      rw [if_pos rfl]
  · refine Ev.step (f := fun k => (geyserlaw03_awake.f k).bind fun t592 => (some t592)) (fun k => ?_) (Ev.bind awake03_ev (Ev.now _))
    rw [geyserlaw03_MatrixPlains.j1, if_neg (by simp), if_neg h, hl h, if_pos (by rfl)]
theorem plains_l0 (n : Int) (v : Bool) (S : List (List Int)) : ∀ P : List (List Int), (P ++ S).length < 5864062014805 → (∀ x ∈ S, x.length < 17592186044416) → Ev (fun k => geyserlaw03_MatrixPlains.l0 k (P ++ S) n (P ++ S) ((P ++ S).length : Int)) v →
    Ev (fun k => geyserlaw03_MatrixPlains.l0 k (P ++ S) n P (P.length : Int)) v := by
  induction S with
  | nil =>
    intro P _ _ h
    rw [List.append_nil] at h ⊢
    exact h
  | cons s S ih =>
    intro P hP hx h
    have hl : (P ++ s :: S).length = P.length + (S.length + 1) := by simp
    have e1 : P ++ [s] ++ S = P ++ s :: S := by simp
    have h' := ih (P ++ [s]) (by rw [e1]; exact hP) (fun y hy => hx y (by simp [hy])) (by rw [e1]; exact h)
    have e2 : ((P ++ [s]).length : Int) = wrap64 ((P.length : Int) + 1) := by rw [w64s (by omega) (by omega)]; simp
    rw [e1, e2] at h'
    have hs := hx s (by simp)
    refine Ev.step (fun k => ?_) h'
    rw [geyserlaw03_MatrixPlains.l0, if_pos (by omega)]
    simp only [Option.bind_some, List.length_nil, List.nil_append]
    rw [if_pos (by omega), rd_rowW, if_pos (by omega), if_pos (by omega)]
theorem MatrixPlains (rows : List (List Int)) (n : Int) (hr : rows.length < 5864062014805) (hx : ∀ x ∈ rows, x.length < 17592186044416) (hu : ∀ r ∈ rows, ∀ x ∈ r, U64 x) : ∃ k, geyserlaw03_MatrixPlains.f k rows n = some true := by
  refine Ev.rounds (g := fun k => geyserlaw03_MatrixPlains.f k rows n) ?_
  unfold geyserlaw03_MatrixPlains.f
  obtain ⟨b, hb, _⟩ := big_some rows n
  rw [hb]
  simp only [Option.bind_some]
  cases b with
  | true =>
    refine Ev.congr (fun k => ?_) (Ev.bind (f := fun _ t => some t) awake03_ev (Ev.now _))
    rw [if_pos rfl]
  | false =>
    simp only [Bool.false_eq_true, if_false]
    have hr' : rows.length < 9223372036854775807 := by omega
    have hx' : ∀ x ∈ rows, x.length < 9223372036854775807 := fun x h => by have := hx x h; omega
    have hc := rcheck3_ev rows n hr' hu
    have hs := same3_ev rows hr' hx'
    have key : ∃ (l : List (List Int)) (e : List FE), Ev (fun k => matrix_Plain.f k rows n) (l, e) ∧ geyserlaw03_tells.f e (chk3 rows n) plainName = some true ∧ (chk3 rows n ≠ 0 → l = []) ∧ ∀ m : Nat, n = m → chk3 rows n = 0 → IsPlain m rows l := by
      by_cases h : chk3 rows n = 0
      · obtain ⟨h0, _, _, _⟩ := chk3_zero h
        obtain ⟨m, rfl⟩ := Int.eq_ofNat_of_zero_le h0
        obtain ⟨P, hP, iP, _⟩ := plain_ev rows m hu h
        exact ⟨P, [], hP, by rw [h]; exact tells03_none _, fun h2 => absurd h h2, fun m' hm _ => by
          obtain rfl : m = m' := by omega
          exact iP⟩
      · exact ⟨[], [⟨plainName, false, chk3 rows n⟩], plain_bad rows n hr' hu h, tells03_deep _ _ h, fun _ => rfl, fun _ _ h2 => absurd h2 h⟩
    obtain ⟨l, e, hP, ht, hl, hp⟩ := key
    have hj := plains_j1 rows n l hr' hx' hu hl hp
    have h0 := plains_l0 n true rows [] hr hx ?_
    · exact h0
    · rw [List.nil_append]
      refine Ev.step (f := fun k => (matrix_Plain.f k rows n).bind fun bt583 => ((geyserref03_Check.f k rows n).bind fun t589 => ((geyserlaw03_tells.f bt583.2 t589 plainName).bind fun t590 => (if t590 = true then ((geyserref03_Same.f k rows rows).bind fun t591 => (geyserlaw03_MatrixPlains.j1 k rows n rows bt583.1 t589 (!t591))) else (geyserlaw03_MatrixPlains.j1 k rows n rows bt583.1 t589 true))))) (fun k => ?_) (Ev.bind hP (Ev.bind hc ?_))
      · rw [geyserlaw03_MatrixPlains.l0, if_neg (by omega)]
        rfl
      · simp only [ht, Option.bind_some, if_true]
        refine Ev.bind hs ?_
        exact hj
end Go.Proofs.YtgocibnmgfmceaaDoor.Pure
