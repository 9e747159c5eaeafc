-- joined by join.py: Px40 Px42 PureElimTrue
import Derived.Test.YtjmgkknbgffbjaaDoorMElimTrue4
namespace Go.Proofs.YtjmgkknbgffbjaaDoor.P
open Go.RowKit Go.Proofs.YtjmgkknbgffbjaaDoorW.PrintWords Go.Proofs.YtjmgkknbgffbjaaDoorW.PrintLast Go.Proofs.YtjmgkknbgffbjaaDoorW.PrintErr Go.Proofs.YtjmgkknbgffbjaaDoorW.PrintMore
attribute [local go_sem] max2_int min2_int max_two min_two max_three min_three max_four min_four run_eql_errOf run_neq_errOf eqGuard_errOf run_eql_ptrOf run_neq_ptrOf eqGuard_ptrOf   -- for this text's walks alone
set_option linter.unusedVariables false
set_option linter.unusedSimpArgs false
def geyserref04_Same.l0 : Nat → List (List Int) → List (List Int) → Int → Option (Bool)
 | 0, _, _, _ => none
 | k + 1, x0, x1, x5 => if x5 < (x0.length : Int) then (if 0 ≤ x5 then (if x5 < (x1.length : Int) then (if (strOfNums (rd_Lsu8 x0 x5)).toList = (strOfNums (rd_Lsu8 x1 x5)).toList then (geyserref04_Same.l0 k x0 x1 (wrap64 (x5 + 1))) else (some false)) else (none)) else (none)) else (some true)
def geyserref04_Same.f (k : Nat) (l0 : List (List Int)) (l1 : List (List Int)) : Option (Bool) := if (l0.length : Int) = (l1.length : Int) then (geyserref04_Same.l0 k l0 l1 0) else (some false)
theorem geyserref04_Same.mono_l : ∀ k, (∀ y0 y1 y2, LeO (geyserref04_Same.l0 k y0 y1 y2) (geyserref04_Same.l0 (k + 1) y0 y1 y2))
 | 0 => fun _ _ _ r h => by simp [geyserref04_Same.l0] at h
 | k + 1 => by
  have ih0 := geyserref04_Same.mono_l k
  ·intro y0 y1 y2; unfold geyserref04_Same.l0
   repeat' first
   | (with_reducible exact ih0 _ _ _)
   | (with_reducible exact LeO.refl _)
   | (with_reducible exact LeO.none _)
   | (with_reducible refine LeO.ite ?_ ?_)
   | (with_reducible refine LeO.bind ?_ (fun _ => ?_))
   | exact ih0 _ _ _
   | exact LeO.none _
   | refine LeO.ite ?_ ?_
   | refine LeO.bind ?_ (fun _ => ?_)
theorem geyserref04_Same.mono : ∀ a0 a1 k, LeO (geyserref04_Same.f k a0 a1) (geyserref04_Same.f (k + 1) a0 a1) := by
 intro a0 a1 k; have ih0 := geyserref04_Same.mono_l k; unfold geyserref04_Same.f
 repeat' first
   | (with_reducible exact ih0 _ _ _)
   | (with_reducible exact LeO.refl _)
   | (with_reducible exact LeO.none _)
   | (with_reducible refine LeO.ite ?_ ?_)
   | (with_reducible refine LeO.bind ?_ (fun _ => ?_))
   | exact ih0 _ _ _
   | exact LeO.none _
   | refine LeO.ite ?_ ?_
   | refine LeO.bind ?_ (fun _ => ?_)
set_option maxHeartbeats 8000000 in
set_option maxRecDepth 100000 in
theorem geyserref04_Same.calls (k : Nat) (A0 : Option Addr) (c0 : Nat) (l0 : List (List Int)) (A1 : Option Addr) (c1 : Nat) (l1 : List (List Int)) (r : Bool) (w : World) (hr0 : Kd.C (Kd.slice 5 (Kd.int .u8)) w A0 l0.length l0) (hc0 : l0.length ≤ c0) (hr1 : Kd.C (Kd.slice 5 (Kd.int .u8)) w A1 l1.length l1) (hc1 : l1.length ≤ c1) (h : geyserref04_Same.f k l0 l1 = some r) :
  Calls Tryd.prog 19 #[.slice A0 l0.length c0, .slice A1 l1.length c1] w fun e w' => e = .returned (.bool r) ∧ Drawn0 w w' := by
 have HR0 := AQ hr0; have HC0 := AQ hc0; clear hr0 hc0; have HR1 := AQ hr1; have HC1 := AQ hc1; clear hr1 hc1; have H : (if (l0.length : Int) = (l1.length : Int) then (geyserref04_Same.l0 k l0 l1 0) else (some false)) = some r := h; clear h
 by_cases c3 : (l0.length : Int) = (l1.length : Int)
 ·rw [if_pos c3] at H; have c3b0 : ((l0.length : Int) == (l1.length : Int)) = true := beq_iff_eq.mpr c3; have c3b1 : ((l0.length : Int) != (l1.length : Int)) = false := bne_eq_false_iff_eq.mpr c3; have c3b2 : (l0.length == l1.length) = true := (by first | simpa using c3 | (simp at c3 ⊢; omega)); clear c3; have H' := AQ H; clear H; go_enter Tryd.func19, Tryd.ntmps19; go_wp2
  repeat (go_quiet (fail); try go_wp2)
  go_loopg [5] k (fun kq v5 w' => ∃ (x5_1 : Int), v5 = .int .i64 x5_1 ∧ Aside0 (geyserref04_Same.l0 kq l0 l1 x5_1 = some r) ∧ Aside0 (kq ≤ k) ∧ Drawn0 w w')
  case atStart => exact ⟨(0), (by first | rfl | (simp; done) | (simp [*]; done)), H', ⟨Nat.le_refl _⟩, by repeat (first | exact Drawn0.refl _ | apply Drawn0.step)⟩
  case round =>
   clear H'; (try clear c1); (try clear p2); (try clear c3); (try clear c3b0); (try clear c3b1); (try clear c3b2); obtain ⟨x5_1, rfl, HA, HK1, ⟨m1, rfl⟩⟩ := hrel; cases gk with
   | zero => exact absurd HA.out (by simp [geyserref04_Same.l0])
   | succ k1 =>
    have H := HA.out; clear HA; simp only [geyserref04_Same.l0] at H
    by_cases c4 : x5_1 < (l0.length : Int)
    ·rw [if_pos c4] at H; have c4b0 : decide (x5_1 < (l0.length : Int)) = true := decide_eq_true c4; clear c4
     by_cases c5 : 0 ≤ x5_1
     ·rw [if_pos c5] at H; have c5b0 : decide (0 ≤ x5_1) = true := decide_eq_true c5; clear c5
      by_cases c6 : x5_1 < (l1.length : Int)
      ·rw [if_pos c6] at H; have c6b0 : decide (x5_1 < (l1.length : Int)) = true := decide_eq_true c6; clear c6
       by_cases c7 : (strOfNums (rd_Lsu8 l0 x5_1)).toList = (strOfNums (rd_Lsu8 l1 x5_1)).toList
       ·rw [if_pos c7] at H; have c7b0 : ((strOfNums (rd_Lsu8 l0 x5_1)).toList == (strOfNums (rd_Lsu8 l1 x5_1)).toList) = true := beq_iff_eq.mpr c7; have c7b1 : ((strOfNums (rd_Lsu8 l0 x5_1)).toList != (strOfNums (rd_Lsu8 l1 x5_1)).toList) = false := bne_eq_false_iff_eq.mpr c7; clear c7; have H' := AQ H; clear H; have p455 : 0 ≤ (x5_1 : Int) := PD; have q455 : x5_1 < (l0.length : Int) := PD; obtain ⟨ad455, A455_0, c455_0, e455, hx455_0, hl455_0, hi455_0⟩ := at_Lsu8 HR0.out x5_1 p455 q455; cases e455; have HR455_0 := AQ hi455_0; have HC455_0 := AQ hl455_0; clear hi455_0 hl455_0; replace p455 := eq_true p455; replace q455 := eq_true q455; have hcv8 := Kd.C_string (P := Tryd.prog) (A := A455_0) (c := c455_0) Tryd.underlying36 Tryd.underlying5 Tryd.underlying9 HR455_0.out; have hcv9 := fun m_ : Nat => Kd.C_string (P := Tryd.prog) (A := A455_0) (c := c455_0) Tryd.underlying36 Tryd.underlying5 Tryd.underlying9 (Kd.C_drewN HR455_0.out m_)
        have p456 : 0 ≤ (x5_1 : Int) := PD; have q456 : x5_1 < (l1.length : Int) := PD; obtain ⟨ad456, A456_0, c456_0, e456, hx456_0, hl456_0, hi456_0⟩ := at_Lsu8 HR1.out x5_1 p456 q456; cases e456; have HR456_0 := AQ hi456_0; have HC456_0 := AQ hl456_0; clear hi456_0 hl456_0; replace p456 := eq_true p456; replace q456 := eq_true q456; have hcv10 := Kd.C_string (P := Tryd.prog) (A := A456_0) (c := c456_0) Tryd.underlying36 Tryd.underlying5 Tryd.underlying9 HR456_0.out; have hcv11 := fun m_ : Nat => Kd.C_string (P := Tryd.prog) (A := A456_0) (c := c456_0) Tryd.underlying36 Tryd.underlying5 Tryd.underlying9 (Kd.C_drewN HR456_0.out m_)
        go_wp2
        repeat (go_quiet (fail); try go_wp2)
        go_roundg k1
        case measure => have := HK1.out; omega
        case rel => exact ⟨(wrap64 (x5_1 + 1)), (by first | rfl | (simp; done) | (simp [*]; done)), H', ⟨by have := HK1.out; omega⟩, by repeat (first | exact Drawn0.refl _ | apply Drawn0.step)⟩
       ·rw [if_neg c7] at H; have c7b0 : ((strOfNums (rd_Lsu8 l0 x5_1)).toList == (strOfNums (rd_Lsu8 l1 x5_1)).toList) = false := beq_eq_false_iff_ne.mpr c7; have c7b1 : ((strOfNums (rd_Lsu8 l0 x5_1)).toList != (strOfNums (rd_Lsu8 l1 x5_1)).toList) = true := bne_iff_ne.mpr c7; obtain rfl := Option.some.inj H; have p455 : 0 ≤ (x5_1 : Int) := PD; have q455 : x5_1 < (l0.length : Int) := PD; obtain ⟨ad455, A455_0, c455_0, e455, hx455_0, hl455_0, hi455_0⟩ := at_Lsu8 HR0.out x5_1 p455 q455; cases e455; have HR455_0 := AQ hi455_0; have HC455_0 := AQ hl455_0; clear hi455_0 hl455_0; replace p455 := eq_true p455; replace q455 := eq_true q455; have hcv12 := Kd.C_string (P := Tryd.prog) (A := A455_0) (c := c455_0) Tryd.underlying36 Tryd.underlying5 Tryd.underlying9 HR455_0.out; have hcv13 := fun m_ : Nat => Kd.C_string (P := Tryd.prog) (A := A455_0) (c := c455_0) Tryd.underlying36 Tryd.underlying5 Tryd.underlying9 (Kd.C_drewN HR455_0.out m_)
        have p456 : 0 ≤ (x5_1 : Int) := PD; have q456 : x5_1 < (l1.length : Int) := PD; obtain ⟨ad456, A456_0, c456_0, e456, hx456_0, hl456_0, hi456_0⟩ := at_Lsu8 HR1.out x5_1 p456 q456; cases e456; have HR456_0 := AQ hi456_0; have HC456_0 := AQ hl456_0; clear hi456_0 hl456_0; replace p456 := eq_true p456; replace q456 := eq_true q456; have hcv14 := Kd.C_string (P := Tryd.prog) (A := A456_0) (c := c456_0) Tryd.underlying36 Tryd.underlying5 Tryd.underlying9 HR456_0.out; have hcv15 := fun m_ : Nat => Kd.C_string (P := Tryd.prog) (A := A456_0) (c := c456_0) Tryd.underlying36 Tryd.underlying5 Tryd.underlying9 (Kd.C_drewN HR456_0.out m_)
        go_wp2
        repeat (go_quiet (fail); try go_wp2)
        go_ret; exact ⟨by first | rfl | (simp; done) | (simp [*]; done), by repeat (first | exact Drawn0.refl _ | apply Drawn0.step)⟩
      ·rw [if_neg c6] at H; exact absurd H (by simp)
     ·rw [if_neg c5] at H; exact absurd H (by simp)
    ·rw [if_neg c4] at H; have c4b0 : decide (x5_1 < (l0.length : Int)) = false := decide_eq_false c4; clear c4; obtain rfl := Option.some.inj H; go_wp2
     repeat (go_quiet (fail); try go_wp2)
     go_ret; exact ⟨by first | rfl | (simp; done) | (simp [*]; done), by repeat (first | exact Drawn0.refl _ | apply Drawn0.step)⟩
 ·rw [if_neg c3] at H; have c3b0 : ((l0.length : Int) == (l1.length : Int)) = false := beq_eq_false_iff_ne.mpr c3; have c3b1 : ((l0.length : Int) != (l1.length : Int)) = true := bne_iff_ne.mpr c3; have c3b2 : (l0.length == l1.length) = false := (by first | simpa using c3 | (simp at c3 ⊢; omega)); obtain rfl := Option.some.inj H; go_enter Tryd.func19, Tryd.ntmps19; go_wp2
  repeat (go_quiet (fail); try go_wp2)
  go_ret; exact ⟨by first | rfl | (simp; done) | (simp [*]; done), by repeat (first | exact Drawn0.refl _ | apply Drawn0.step)⟩
mutual
def geyserlaw05_ElimTrue.j0 : Nat → List (S74) → Bool → Int → List (List Int) → List Int → Option (Bool)
 | 0, _, _, _, _, _ => none
 | k + 1, x3, x29, x458000, x458001, x458002 => if x29 = true then (some false) else (geyserlaw05_ElimTrue.l0 k x3 0 x458000 x458001 x458002)
def geyserlaw05_ElimTrue.l0 : Nat → List (S74) → Int → Int → List (List Int) → List Int → Option (Bool)
 | 0, _, _, _, _, _ => none
 | k + 1, x3, x5, x458000, x458001, x458002 => if x5 < (x458002.length : Int) then (if 0 ≤ x5 then ((geyserlaw05_True_sym.f k x458000 x458001 x458002 (rd x458002 x5)).bind fun t476 => ((elim_System_Add.f k x3 (([rd x458002 x5] : List Int)) t476).bind fun bt479 => (if (bt479.2.1.length : Int) = 0 then (if bt479.1 = 1 then (geyserlaw05_ElimTrue.j2 k bt479.2.2 x5 false x458000 x458001 x458002) else (geyserlaw05_ElimTrue.j2 k bt479.2.2 x5 (bt479.1 != 2) x458000 x458001 x458002)) else (geyserlaw05_ElimTrue.j2 k bt479.2.2 x5 true x458000 x458001 x458002)))) else (none)) else ((elim_System_All.f k x3).bind fun bt491 => ((elim_System_Whole.f x3).bind fun t497 => (if (t497 == ((bt491.2.length : Int) == 0)) = true then (if (bt491.2.length : Int) = 0 then ((geyserref04_Same.f k bt491.1 x458001).bind fun t498 => (if t498 = true then ((elim_System_Clashed.f x3).bind fun t499 => (if t499 = true then (some false) else ((geyserlaw05_awake.f k).bind fun t500 => (some t500)))) else (some false))) else ((elim_System_Clashed.f x3).bind fun t501 => (if t501 = true then (some false) else ((geyserlaw05_awake.f k).bind fun t502 => (some t502))))) else (some false))))
def geyserlaw05_ElimTrue.j2 : Nat → List (S74) → Int → Bool → Int → List (List Int) → List Int → Option (Bool)
 | 0, _, _, _, _, _, _ => none
 | k + 1, x3, x5, x64, x458000, x458001, x458002 => if x64 = true then (some false) else (geyserlaw05_ElimTrue.l1 k x3 x5 0 x458000 x458001 x458002)
def geyserlaw05_ElimTrue.l1 : Nat → List (S74) → Int → Int → Int → List (List Int) → List Int → Option (Bool)
 | 0, _, _, _, _, _, _ => none
 | k + 1, x3, x5, x8, x458000, x458001, x458002 => if x8 < (x458001.length : Int) then ((elim_System_Value.f k x3 x8).bind fun bt484 => (if (bt484.2.length : Int) = 0 then (if 0 ≤ x8 then (if (strOfNums bt484.1).toList = (strOfNums (rd_Lsu8 x458001 x8)).toList then (geyserlaw05_ElimTrue.l1 k x3 x5 (wrap64 (x8 + 1)) x458000 x458001 x458002) else (some false)) else (none)) else (geyserlaw05_ElimTrue.l1 k x3 x5 (wrap64 (x8 + 1)) x458000 x458001 x458002))) else (geyserlaw05_ElimTrue.l0 k x3 (wrap64 (x5 + 1)) x458000 x458001 x458002)
end
def geyserlaw05_ElimTrue.f (k : Nat) (a0_0 : Int) (l0_1 : List (List Int)) (l0_2 : List Int) : Option (Bool) := (geyserlaw05_fit.f k a0_0 l0_1 l0_2).bind fun bt458 => ((elim_New.f (bt458.2.1.length : Int) bt458.1).bind fun bt465 => (if (bt465.2.length : Int) = 0 then (geyserlaw05_ElimTrue.j0 k bt465.1 ((bt465.1.length : Int) == 0) bt458.1 bt458.2.1 bt458.2.2) else (geyserlaw05_ElimTrue.j0 k bt465.1 true bt458.1 bt458.2.1 bt458.2.2)))
theorem geyserlaw05_ElimTrue.mono_l : ∀ k, (∀ y0 y1 y2 y3 y4, LeO (geyserlaw05_ElimTrue.j0 k y0 y1 y2 y3 y4) (geyserlaw05_ElimTrue.j0 (k + 1) y0 y1 y2 y3 y4)) ∧ (∀ y0 y1 y2 y3 y4, LeO (geyserlaw05_ElimTrue.l0 k y0 y1 y2 y3 y4) (geyserlaw05_ElimTrue.l0 (k + 1) y0 y1 y2 y3 y4)) ∧ (∀ y0 y1 y2 y3 y4 y5, LeO (geyserlaw05_ElimTrue.j2 k y0 y1 y2 y3 y4 y5) (geyserlaw05_ElimTrue.j2 (k + 1) y0 y1 y2 y3 y4 y5)) ∧ (∀ y0 y1 y2 y3 y4 y5, LeO (geyserlaw05_ElimTrue.l1 k y0 y1 y2 y3 y4 y5) (geyserlaw05_ElimTrue.l1 (k + 1) y0 y1 y2 y3 y4 y5))
 | 0 => ⟨fun _ _ _ _ _ r h => by simp [geyserlaw05_ElimTrue.j0] at h, fun _ _ _ _ _ r h => by simp [geyserlaw05_ElimTrue.l0] at h, fun _ _ _ _ _ _ r h => by simp [geyserlaw05_ElimTrue.j2] at h, fun _ _ _ _ _ _ r h => by simp [geyserlaw05_ElimTrue.l1] at h⟩
 | k + 1 => by
  obtain ⟨ih0, ih1, ih2, ih3⟩ := geyserlaw05_ElimTrue.mono_l k; refine ⟨?_, ?_, ?_, ?_⟩; intro y0 y1 y2 y3 y4; unfold geyserlaw05_ElimTrue.j0; rotate_left
  intro y0 y1 y2 y3 y4; unfold geyserlaw05_ElimTrue.l0; rotate_left
  intro y0 y1 y2 y3 y4 y5; unfold geyserlaw05_ElimTrue.j2; rotate_left
  intro y0 y1 y2 y3 y4 y5; unfold geyserlaw05_ElimTrue.l1; rotate_left
  all_goals repeat' first
   | (with_reducible exact ih0 _ _ _ _ _)
   | (with_reducible exact ih1 _ _ _ _ _)
   | (with_reducible exact ih2 _ _ _ _ _ _)
   | (with_reducible exact ih3 _ _ _ _ _ _)
   | (with_reducible exact elim_System_Add.mono _ _ _ _)
   | (with_reducible exact elim_System_All.mono _ _)
   | (with_reducible exact elim_System_Value.mono _ _ _)
   | (with_reducible exact geyserlaw05_True_sym.mono _ _ _ _ _)
   | (with_reducible exact geyserlaw05_awake.mono _)
   | (with_reducible exact geyserlaw05_fit.mono _ _ _ _)
   | (with_reducible exact geyserref04_Same.mono _ _ _)
   | (with_reducible exact LeO.refl _)
   | (with_reducible exact LeO.none _)
   | (with_reducible refine LeO.ite ?_ ?_)
   | (with_reducible refine LeO.bind ?_ (fun _ => ?_))
   | exact ih0 _ _ _ _ _
   | exact ih1 _ _ _ _ _
   | exact ih2 _ _ _ _ _ _
   | exact ih3 _ _ _ _ _ _
   | exact elim_System_Add.mono _ _ _ _
   | exact elim_System_All.mono _ _
   | exact elim_System_Value.mono _ _ _
   | exact geyserlaw05_True_sym.mono _ _ _ _ _
   | exact geyserlaw05_awake.mono _
   | exact geyserlaw05_fit.mono _ _ _ _
   | exact geyserref04_Same.mono _ _ _
   | exact LeO.none _
   | refine LeO.ite ?_ ?_
   | refine LeO.bind ?_ (fun _ => ?_)
theorem geyserlaw05_ElimTrue.mono : ∀ a0 a1 a2 k, LeO (geyserlaw05_ElimTrue.f k a0 a1 a2) (geyserlaw05_ElimTrue.f (k + 1) a0 a1 a2) := by
 intro a0 a1 a2 k; obtain ⟨ih0, ih1, ih2, ih3⟩ := geyserlaw05_ElimTrue.mono_l k; unfold geyserlaw05_ElimTrue.f
 repeat' first
   | (with_reducible exact ih0 _ _ _ _ _)
   | (with_reducible exact ih1 _ _ _ _ _)
   | (with_reducible exact ih2 _ _ _ _ _ _)
   | (with_reducible exact ih3 _ _ _ _ _ _)
   | (with_reducible exact elim_System_Add.mono _ _ _ _)
   | (with_reducible exact elim_System_All.mono _ _)
   | (with_reducible exact elim_System_Value.mono _ _ _)
   | (with_reducible exact geyserlaw05_True_sym.mono _ _ _ _ _)
   | (with_reducible exact geyserlaw05_awake.mono _)
   | (with_reducible exact geyserlaw05_fit.mono _ _ _ _)
   | (with_reducible exact geyserref04_Same.mono _ _ _)
   | (with_reducible exact LeO.refl _)
   | (with_reducible exact LeO.none _)
   | (with_reducible refine LeO.ite ?_ ?_)
   | (with_reducible refine LeO.bind ?_ (fun _ => ?_))
   | exact ih0 _ _ _ _ _
   | exact ih1 _ _ _ _ _
   | exact ih2 _ _ _ _ _ _
   | exact ih3 _ _ _ _ _ _
   | exact elim_System_Add.mono _ _ _ _
   | exact elim_System_All.mono _ _
   | exact elim_System_Value.mono _ _ _
   | exact geyserlaw05_True_sym.mono _ _ _ _ _
   | exact geyserlaw05_awake.mono _
   | exact geyserlaw05_fit.mono _ _ _ _
   | exact geyserref04_Same.mono _ _ _
   | exact LeO.none _
   | refine LeO.ite ?_ ?_
   | refine LeO.bind ?_ (fun _ => ?_)
def geyserlaw05_ElimTrue.T8 : Bool × List (List Nat × List Nat) := (true, [([], []), ([], []), ([1], [1]), ([], []), ([2, 3], [2, 3]), ([4], [4]), ([5], [5]), ([], []), ([], []), ([8], [8]), ([], []), ([9, 10], [9, 10]), ([11], [11]), ([7, 12], [7, 12]), ([0, 6, 13, 13], [0, 6, 13]), ([14], [14]), ([15], [15]), ([15], [15]), ([16, 14, 0, 1, 2, 3, 4, 5, 6, 7, 8, 9, 10, 11, 12, 13, 14, 15, 16], [16]), ([17, 18, 0, 1, 2, 3, 4, 5, 6, 7, 8, 9, 10, 11, 12, 13, 14, 15, 16, 17, 18], [17])])
def geyserlaw05_ElimTrue.B8 : List Nat := [0, 0, 2, 0, 14, 30, 62, 0, 0, 256, 0, 1792, 3840, 8064, 16383, 32767, 65535, 65535, 131071, 524287]
theorem geyserlaw05_ElimTrue.tab8 : rtab .any (opsOf Tryd.f5 8) = geyserlaw05_ElimTrue.T8 := by kernel_rfl
theorem geyserlaw05_ElimTrue.bits8 : waitsOk geyserlaw05_ElimTrue.T8.2 geyserlaw05_ElimTrue.B8 = true := by kernel_rfl
def geyserlaw05_ElimTrue.T15 : Bool × List (List Nat × List Nat) := (true, [([], []), ([0], [0]), ([1], [1]), ([2], [2]), ([3, 2], [2, 3]), ([2], [2]), ([5, 2], [2, 5]), ([2], [2]), ([6, 7, 2], [2, 6, 7]), ([8, 2], [2, 8]), ([9, 2], [2, 9]), ([4, 10, 2], [2, 4, 10]), ([2, 11], [2, 11])])
def geyserlaw05_ElimTrue.B15 : List Nat := [0, 1, 3, 7, 15, 7, 39, 7, 231, 487, 999, 2047, 4095]
theorem geyserlaw05_ElimTrue.tab15 : rtab .any (opsOf Tryd.f5 15) = geyserlaw05_ElimTrue.T15 := by kernel_rfl
theorem geyserlaw05_ElimTrue.bits15 : waitsOk geyserlaw05_ElimTrue.T15.2 geyserlaw05_ElimTrue.B15 = true := by kernel_rfl
def geyserlaw05_ElimTrue.T18 : Bool × List (List Nat × List Nat) := (true, [([], []), ([0], [0]), ([], []), ([2], [2]), ([1, 3], [1, 3]), ([4, 1], [4]), ([5], [5]), ([6, 5], [5, 6]), ([7, 5, 5], [5, 7]), ([8], [8]), ([8], [8]), ([10, 8], [8, 10]), ([9, 11, 8, 8], [8, 9, 11]), ([8, 12, 5], [5, 8, 12]), ([5, 13], [5, 13]), ([14, 12], [14]), ([15], [15]), ([16, 15, 15], [15, 16]), ([17, 15], [15, 17]), ([15, 18], [15, 18]), ([19, 17], [19]), ([20, 20], [20]), ([20, 21], [20, 21]), ([22, 21, 0, 1, 2, 3, 4, 5, 6, 7, 8, 9, 10, 11, 12, 13, 14, 15, 16, 17, 18, 19, 20, 21, 22], [22])])
def geyserlaw05_ElimTrue.B18 : List Nat := [0, 1, 0, 4, 15, 31, 63, 127, 255, 511, 511, 1535, 4095, 8191, 16383, 32767, 65535, 131071, 262143, 524287, 1048575, 2097151, 4194303, 8388607]
theorem geyserlaw05_ElimTrue.tab18 : rtab .any (opsOf Tryd.f5 18) = geyserlaw05_ElimTrue.T18 := by kernel_rfl
theorem geyserlaw05_ElimTrue.bits18 : waitsOk geyserlaw05_ElimTrue.T18.2 geyserlaw05_ElimTrue.B18 = true := by kernel_rfl
set_option maxHeartbeats 8000000 in
set_option maxRecDepth 100000 in
theorem geyserlaw05_ElimTrue.calls (k : Nat) (a0_0 : Int) (A0_1 : Option Addr) (c0_1 : Nat) (l0_1 : List (List Int)) (A0_2 : Option Addr) (c0_2 : Nat) (l0_2 : List Int) (r : Bool) (w : World) (ht : TabIn w) (hr0_1 : Kd.C (Kd.slice 5 (Kd.int .u8)) w A0_1 l0_1.length l0_1) (hc0_1 : l0_1.length ≤ c0_1) (hr0_2 : Kd.C (Kd.int .u64) w A0_2 l0_2.length l0_2) (hc0_2 : l0_2.length ≤ c0_2) (h : geyserlaw05_ElimTrue.f k a0_0 l0_1 l0_2 = some r) :
  Calls Tryd.prog 5 #[.agg #[.int .i64 a0_0, .slice A0_1 l0_1.length c0_1, .slice A0_2 l0_2.length c0_2]] w fun e w' => e = .returned (.bool r) ∧ Below w.heap.size w w' := by
 have hu25 := Tryd.underlying25; have HR0_1 := AQ hr0_1; have HC0_1 := AQ hc0_1; clear hr0_1 hc0_1; have HR0_2 := AQ hr0_2; have HC0_2 := AQ hc0_2; clear hr0_2 hc0_2; have HB := AQ (Below.refl w.heap.size w); have HT := AQ ht; clear ht; have H : ((geyserlaw05_fit.f k a0_0 l0_1 l0_2).bind fun bt458 => ((elim_New.f (bt458.2.1.length : Int) bt458.1).bind fun bt465 => (if (bt465.2.length : Int) = 0 then (geyserlaw05_ElimTrue.j0 k bt465.1 ((bt465.1.length : Int) == 0) bt458.1 bt458.2.1 bt458.2.2) else (geyserlaw05_ElimTrue.j0 k bt465.1 true bt458.1 bt458.2.1 bt458.2.2)))) = some r := h; clear h; replace H := Option.bind_eq_some_iff.mp H; obtain ⟨⟨t458, t459, t462⟩, A20, H⟩ := H; replace H : ((elim_New.f (t459.length : Int) t458).bind fun bt465 => (if (bt465.2.length : Int) = 0 then (geyserlaw05_ElimTrue.j0 k bt465.1 ((bt465.1.length : Int) == 0) t458 t459 t462) else (geyserlaw05_ElimTrue.j0 k bt465.1 true t458 t459 t462))) = some r := H; have A2 := AQ A20; clear A20; replace H := Option.bind_eq_some_iff.mp H; obtain ⟨⟨t465, t466⟩, A30, H⟩ := H; replace H : (if (t466.length : Int) = 0 then (geyserlaw05_ElimTrue.j0 k t465 ((t465.length : Int) == 0) t458 t459 t462) else (geyserlaw05_ElimTrue.j0 k t465 true t458 t459 t462)) = some r := H; have A3 := AQ A30; clear A30; have HC4 := AQ H; clear H; go_enter Tryd.func5, Tryd.ntmps5; go_upto_region 3 with (first | ((with_reducible refine gate_dst (N := 1) rfl ?_); refine box_event ?hg (N := 1) ?hd (cs := #[.int .i64 a0_0, .slice A0_1 l0_1.length c0_1, .slice A0_2 l0_2.length c0_2]) (t := 25) ?hr ?_; (case hd => rfl); (case hg => rfl); (case hr => first | (go_simp; done) | (go_simp; rfl)); intro gb457 hg w5 hbox hb; have n0_ := AQ (below_step (PB HB) hb); have n1_ := AQ (hbox); have n2_ := AQ ((by rw [hg]; exact (below_size (PB HB)) : w.heap.size ≤ gb457)); have n3_ := AQ ((by rw [hg]; exact (below_size (PB HB)) : w.heap.size ≤ gb457)); clear HB; have HB := n0_; have BK457 := n1_; have GW457 := n2_; have GE457 := n3_; clear n0_ n1_ n2_ n3_; clear hb hbox hg; have hcz6_0 : w5.cell? ⟨gb457, 0, none⟩ = some (.int .i64 a0_0) := (blk_cell BK457.out 0).trans rfl; have hcz6_1 : w5.cell? ⟨gb457, 1, none⟩ = some (.slice A0_1 l0_1.length c0_1) := (blk_cell BK457.out 1).trans rfl; have hcz6_2 : w5.cell? ⟨gb457, 2, none⟩ = some (.slice A0_2 l0_2.length c0_2) := (blk_cell BK457.out 2).trans rfl; have hfz6_0 := blk_frozen BK457.out 0; have hfz6_1 := blk_frozen BK457.out 1; have hfz6_2 := blk_frozen BK457.out 2) | ((with_reducible refine gate_callee (f := 9) rfl ?_); refine gL (some 14) rfl rfl Tryd.func9 #[.agg #[.int .i64 a0_0, .slice A0_1 l0_1.length c0_1, .slice A0_2 l0_2.length c0_2]] rfl ?_; (with_reducible refine (geyserlaw05_fit.calls k a0_0 _ _ l0_1 _ _ l0_2 t458 t459 t462 _ ?side1 ?side2 ?side3 ?side4 A2.out).mono ?_); (case side1 => repeat (first | exact (Kd.C_below HR0_1.out HB.out) | (with_reducible refine Kd.C_alloc ?_ _) | (with_reducible refine Kd.C_drewN ?_ _) | (with_reducible refine Kd.C_drew ?_))); (case side2 => exact HC0_1.out); (case side3 => repeat (first | exact (Kd.C_below HR0_2.out HB.out) | (with_reducible refine Kd.C_alloc ?_ _) | (with_reducible refine Kd.C_drewN ?_ _) | (with_reducible refine Kd.C_drew ?_))); (case side4 => exact HC0_2.out); rintro e w7 ⟨v460, v463, rfl, ho0, ho1, hb⟩; refine ⟨_, rfl, ?_⟩; have n0_ := AQ (Kd.S_lower ho0 (below_size (PX HB))); have n1_ := AQ (Kd.R_lower ho1 (below_size (PX HB))); have n2_ := AQ (blk_below (g := gb457) (o := .cells #[.int .i64 a0_0, .slice A0_1 l0_1.length c0_1, .slice A0_2 l0_2.length c0_2] 25 (0, 0)) (PK BK457) hb); have n3_ := AQ (below_step (PX HB) hb); clear BK457; clear HB; have HO461 := n0_; have HO464 := n1_; have BK457 := n2_; have HB := n3_; clear n0_ n1_ n2_ n3_; (try clear hb); (try clear hb2); (try clear hk); (try clear hi); (try clear ho0); (try clear ho1); have hcz8_0 : w7.cell? ⟨gb457, 0, none⟩ = some (.int .i64 a0_0) := (blk_cell BK457.out 0).trans rfl; have hcz8_1 : w7.cell? ⟨gb457, 1, none⟩ = some (.slice A0_1 l0_1.length c0_1) := (blk_cell BK457.out 1).trans rfl; have hcz8_2 : w7.cell? ⟨gb457, 2, none⟩ = some (.slice A0_2 l0_2.length c0_2) := (blk_cell BK457.out 2).trans rfl; have hfz8_0 := blk_frozen BK457.out 0; have hfz8_1 := blk_frozen BK457.out 1; have hfz8_2 := blk_frozen BK457.out 2; obtain ⟨Ao9, co9, eo9⟩ := Kd.S_slice HO461.out; subst eo9; obtain ⟨Ao10, co10, eo10⟩ := Kd.R_slice HO464.out; subst eo10) | ((with_reducible refine gate_callee (f := 10) rfl ?_); refine gL (some 21) rfl rfl Tryd.func10 #[.int .i64 (t459.length : Int), .int .i64 t458] rfl ?_; (with_reducible refine (elim_New.calls (t459.length : Int) t458 t465 t466 _ A3.out).mono ?_); rintro e w11 ⟨v467, v469, rfl, ho0, ho1, hb⟩; refine ⟨_, rfl, ?_⟩; have n0_ := AQ (Kd.S_below (PS (AQ (Kd.S_mono (Kd.S_far (p := ⟨gb457, 2, none⟩) (Kd.S_far (p := ⟨gb457, 1, none⟩) (Kd.S_far (p := ⟨gb457, 0, none⟩) (Kd.S_types HO461.out BK457.out (by decide)) (fun _ hk => hk.2) (.int .i64 t458)) (fun _ hk => hk.2) (.slice Ao9 t459.length co9)) (fun _ hk => hk.2) (.slice Ao10 t462.length co10)) (fun _ h_ => h_.1)))) hb); have n1_ := AQ (Kd.R_below (PR (AQ (Kd.R_mono (Kd.R_far (p := ⟨gb457, 2, none⟩) (Kd.R_far (p := ⟨gb457, 1, none⟩) (Kd.R_far (p := ⟨gb457, 0, none⟩) (Kd.R_types HO464.out BK457.out (by decide)) (fun _ hk => hk.2) (.int .i64 t458)) (fun _ hk => hk.2) (.slice Ao9 t459.length co9)) (fun _ hk => hk.2) (.slice Ao10 t462.length co10)) (fun _ h_ => h_.1)))) hb); have n2_ := AQ (Kd.R_lower (Kd.R_new' ho0 (Kd.R_lt (PR (AQ (Kd.R_mono (Kd.R_far (p := ⟨gb457, 2, none⟩) (Kd.R_far (p := ⟨gb457, 1, none⟩) (Kd.R_far (p := ⟨gb457, 0, none⟩) (Kd.R_types HO464.out BK457.out (by decide)) (fun _ hk => hk.2) (.int .i64 t458)) (fun _ hk => hk.2) (.slice Ao9 t459.length co9)) (fun _ hk => hk.2) (.slice Ao10 t462.length co10)) (fun _ h_ => h_.1)))))) (below_size (PX HB))); have n3_ := AQ (Kd.R_lower ho1 (below_size (PX HB))); have n4_ := AQ (blk_below (g := gb457) (o := .cells #[.int .i64 t458, .slice Ao9 t459.length co9, .slice Ao10 t462.length co10] 25 (0, 0)) (by (with_reducible repeat (first | refine blk_drewN ?_ _ | refine blk_drew ?_ | refine blk_alloc ?_ _)); refine blk_put (cs := #[.int .i64 t458, .slice Ao9 t459.length co9, .slice A0_2 l0_2.length c0_2]) ?_ 2 _ rfl; (with_reducible repeat (first | refine blk_drewN ?_ _ | refine blk_drew ?_ | refine blk_alloc ?_ _)); refine blk_put (cs := #[.int .i64 t458, .slice A0_1 l0_1.length c0_1, .slice A0_2 l0_2.length c0_2]) ?_ 1 _ rfl; (with_reducible repeat (first | refine blk_drewN ?_ _ | refine blk_drew ?_ | refine blk_alloc ?_ _)); refine blk_put (cs := #[.int .i64 a0_0, .slice A0_1 l0_1.length c0_1, .slice A0_2 l0_2.length c0_2]) ?_ 0 _ rfl; exact PK BK457) hb); have n5_ := AQ (below_step (PX HB) hb); clear HO461; clear HO464; clear BK457; clear HB; have HO461 := n0_; have HO464 := n1_; have HO468 := n2_; have HO470 := n3_; have BK457 := n4_; have HB := n5_; clear n0_ n1_ n2_ n3_ n4_ n5_; (try clear hb); (try clear hb2); (try clear hk); (try clear hi); (try clear ho0); (try clear ho1))); (try simp only [Act.put, List.setIfInBounds_toArray, List.set_cons_zero, List.set_cons_succ]); go_cut [29] (fun v29 wc => ∃ (kq : Nat) (x29_3 : Bool), v29 = .bool x29_3 ∧ Aside0 (geyserlaw05_ElimTrue.j0 kq t465 x29_3 t458 t459 t462 = some r) ∧ Aside0 (kq ≤ k) ∧ Aside0 (Kd.R k74 74 wc w.heap.size (fun k_ => some k_ ≠ ((.slice Ao10 t462.length co10) : Value).ownBlock) v467 t465) ∧ Aside0 (Kd.S (Kd.slice 5 (Kd.int .u8)) 36 wc w.heap.size (fun _ => True) (.slice Ao9 t459.length co9) t459) ∧ Aside0 (Kd.R (Kd.int .u64) 35 wc w.heap.size (fun _ => True) (.slice Ao10 t462.length co10) t462) ∧ Aside0 (wc.heap[gb457]? = some (.cells #[.int .i64 t458, (.slice Ao9 t459.length co9), (.slice Ao10 t462.length co10)] 25 (0, 0))) ∧ Aside0 (Below w.heap.size w wc))
 case first =>
  have H := HC4.out; clear HC4
  by_cases c12 : (t466.length : Int) = 0
  ·rw [if_pos c12] at H; have c12b0 : ((t466.length : Int) == 0) = true := beq_iff_eq.mpr c12; have c12b1 : ((t466.length : Int) != 0) = false := bne_eq_false_iff_eq.mpr c12; clear c12; (first | rw [c12b0] | rw [c12b1] | (simp only [i64_w, i32_w]; rw [c12b0]) | skip); have H' := AQ H; clear H; obtain ⟨Ao13, co13, eo13⟩ := Kd.R_slice HO470.out; subst eo13; obtain ⟨Ao14, co14, eo14⟩ := Kd.R_slice HO468.out; subst eo14; go_wp2; go_meet
   case rel => exact ⟨_, (((t465.length : Int) == 0)), (by first | rfl | (simp; done) | (simp [*]; done)), H', ⟨by first | omega | exact Nat.le_refl _⟩, ⟨by (with_reducible repeat (first | apply Kd.R_alloc | apply Kd.R_drewN | apply Kd.R_drew)); exact Kd.R_mono HO468.out (fun _ hk => hk.2)⟩, ⟨PS HO461⟩, ⟨PR HO464⟩, ⟨PK BK457⟩, ⟨PX HB⟩⟩
  ·rw [if_neg c12] at H; have c12b0 : ((t466.length : Int) == 0) = false := beq_eq_false_iff_ne.mpr c12; have c12b1 : ((t466.length : Int) != 0) = true := bne_iff_ne.mpr c12; have c12b2 : ¬ (t466 = []) := fun h_ => c12 (by rw [h_]; rfl)
   (first | rw [c12b0] | rw [c12b1] | (simp only [i64_w, i32_w]; rw [c12b0]) | skip); have H' := AQ H; clear H; obtain ⟨Ao15, co15, eo15⟩ := Kd.R_slice HO470.out; subst eo15; go_wp2; go_meet
   case rel => exact ⟨_, (true), (by first | rfl | (simp; done) | (simp [*]; done)), H', ⟨by first | omega | exact Nat.le_refl _⟩, ⟨by (with_reducible repeat (first | apply Kd.R_alloc | apply Kd.R_drewN | apply Kd.R_drew)); exact Kd.R_mono HO468.out (fun _ hk => hk.2)⟩, ⟨PS HO461⟩, ⟨PR HO464⟩, ⟨PK BK457⟩, ⟨PX HB⟩⟩
 case rest =>
  clear HC4; (try clear c1); (try clear p2); (try clear c5); (try clear c9); (try clear c10); (try clear c12); (try clear c12b0); (try clear c12b1); (try clear c12b2); (try clear hcz6_0); (try clear hcz6_1); (try clear hcz6_2); (try clear hcz8_0); (try clear hcz8_1); (try clear hcz8_2); (try clear hfz6_0); (try clear hfz6_1); (try clear hfz6_2); (try clear hfz8_0); (try clear hfz8_1); (try clear hfz8_2); obtain ⟨kq, x29_3, rfl, HA, HJ3, HO_3, HO_458001, HO_458002, BK457, HB⟩ := hcut; cases kq with
  | zero => exact absurd HA.out (by simp [geyserlaw05_ElimTrue.j0])
  | succ kj3 =>
   have H := HA.out; clear HA; simp only [geyserlaw05_ElimTrue.j0] at H
   by_cases c16 : x29_3 = true
   ·subst c16; have H1 : (some false) = some r := (by rw [if_pos rfl] at H; exact H); clear H; have H := H1; clear H1; obtain rfl := Option.some.inj H; go_wp2; go_ret; exact ⟨by first | rfl | (simp [errW_none, errW_some] <;> rfl) | (simp [*, errW_none, errW_some] <;> rfl), PX HB⟩
   ·replace c16 := Bool.eq_false_iff.mpr c16; subst c16; have H1 : (geyserlaw05_ElimTrue.l0 kj3 t465 0 t458 t459 t462) = some r := (by rw [if_neg (show ¬ (false = true) by decide)] at H; exact H); clear H; have H := H1; clear H1; have H' := AQ H; clear H; go_wp2; go_loopg [5] kj3 (fun kq v5 w' => ∃ (x3_2 : List (S74)) (x5_2 : Int), v5 = .int .i64 x5_2 ∧ Aside0 (geyserlaw05_ElimTrue.l0 kq x3_2 x5_2 t458 t459 t462 = some r) ∧ Aside0 (kq ≤ kj3) ∧ Aside0 (Kd.R k74 74 w' w.heap.size (fun k_ => some k_ ≠ ((.slice Ao10 t462.length co10) : Value).ownBlock) v467 x3_2) ∧ Aside0 (Kd.S (Kd.slice 5 (Kd.int .u8)) 36 w' w.heap.size (fun _ => True) (.slice Ao9 t459.length co9) t459) ∧ Aside0 (Kd.R (Kd.int .u64) 35 w' w.heap.size (fun _ => True) (.slice Ao10 t462.length co10) t462) ∧ Aside0 (w'.heap[gb457]? = some (.cells #[.int .i64 t458, (.slice Ao9 t459.length co9), (.slice Ao10 t462.length co10)] 25 (0, 0))) ∧ Aside0 (Below w.heap.size w w'))
    case atStart => exact ⟨(t465), (0), (by first | rfl | (simp; done) | (simp [*]; done)), H', ⟨Nat.le_refl _⟩, ⟨PR HO_3⟩, ⟨PS HO_458001⟩, ⟨PR HO_458002⟩, ⟨PK BK457⟩, ⟨PX HB⟩⟩
    case round =>
     clear H'; (try clear c1); (try clear p2); (try clear c5); (try clear c9); (try clear c10); (try clear c12); (try clear c12b0); (try clear c12b1); (try clear c12b2); (try clear c16); (try clear hcz6_0); (try clear hcz6_1); (try clear hcz6_2); (try clear hcz8_0); (try clear hcz8_1); (try clear hcz8_2); (try clear hfz6_0); (try clear hfz6_1); (try clear hfz6_2); (try clear hfz8_0); (try clear hfz8_1); (try clear hfz8_2); (try clear p2); obtain ⟨x3_2, x5_2, rfl, HA, HK2, HO_3, HO_458001, HO_458002, BK457, HB⟩ := hrel; cases gk with
     | zero => exact absurd HA.out (by simp [geyserlaw05_ElimTrue.l0])
     | succ k2 =>
      have H := HA.out; clear HA; simp only [geyserlaw05_ElimTrue.l0] at H
      by_cases c17 : x5_2 < (t462.length : Int)
      ·rw [if_pos c17] at H; have c17b0 : decide (x5_2 < (t462.length : Int)) = true := decide_eq_true c17; clear c17
       by_cases c18 : 0 ≤ x5_2
       ·rw [if_pos c18] at H; have c18b0 : decide (0 ≤ x5_2) = true := decide_eq_true c18; clear c18; obtain ⟨y472, hy472⟩ : ∃ y_ : List Int, y_ = (([rd t462 x5_2] : List Int)) := ⟨_, rfl⟩; replace H : ((geyserlaw05_True_sym.f k2 t458 t459 t462 (rd t462 x5_2)).bind fun t476 => ((elim_System_Add.f k2 x3_2 y472 t476).bind fun bt479 => (if (bt479.2.1.length : Int) = 0 then (if bt479.1 = 1 then (geyserlaw05_ElimTrue.j2 k2 bt479.2.2 x5_2 false t458 t459 t462) else (geyserlaw05_ElimTrue.j2 k2 bt479.2.2 x5_2 (bt479.1 != 2) t458 t459 t462)) else (geyserlaw05_ElimTrue.j2 k2 bt479.2.2 x5_2 true t458 t459 t462)))) = some r := (by first | (rw [hy472]; with_reducible exact H) | (have H2_ := (Option.bind_some _ _).symm.trans H; rw [hy472]; with_reducible exact H2_) | (have H2_ := (Option.bind_some _ _).symm.trans H; with_reducible exact H2_) | with_reducible exact H | (rw [hy472]; exact H) | exact H); have Ny472 := AQ hy472; clear hy472; replace H := Option.bind_eq_some_iff.mp H; obtain ⟨t476, A190, H⟩ := H; replace H : ((elim_System_Add.f k2 x3_2 y472 t476).bind fun bt479 => (if (bt479.2.1.length : Int) = 0 then (if bt479.1 = 1 then (geyserlaw05_ElimTrue.j2 k2 bt479.2.2 x5_2 false t458 t459 t462) else (geyserlaw05_ElimTrue.j2 k2 bt479.2.2 x5_2 (bt479.1 != 2) t458 t459 t462)) else (geyserlaw05_ElimTrue.j2 k2 bt479.2.2 x5_2 true t458 t459 t462))) = some r := H; have A19 := AQ A190; clear A190; replace H := Option.bind_eq_some_iff.mp H; obtain ⟨⟨t479, t480, t483⟩, A200, H⟩ := H; replace H : (if (t480.length : Int) = 0 then (if t479 = 1 then (geyserlaw05_ElimTrue.j2 k2 t483 x5_2 false t458 t459 t462) else (geyserlaw05_ElimTrue.j2 k2 t483 x5_2 (t479 != 2) t458 t459 t462)) else (geyserlaw05_ElimTrue.j2 k2 t483 x5_2 true t458 t459 t462)) = some r := H; have A20 := AQ A200; clear A200; have HC21 := AQ H; clear H; have hcz22_0 : wr.cell? ⟨gb457, 0, none⟩ = some (.int .i64 t458) := (blk_cell BK457.out 0).trans rfl; have hcz22_1 : wr.cell? ⟨gb457, 1, none⟩ = some (.slice Ao9 t459.length co9) := (blk_cell BK457.out 1).trans rfl; have hcz22_2 : wr.cell? ⟨gb457, 2, none⟩ = some (.slice Ao10 t462.length co10) := (blk_cell BK457.out 2).trans rfl; have hfz22_0 := blk_frozen BK457.out 0; have hfz22_1 := blk_frozen BK457.out 1; have hfz22_2 := blk_frozen BK457.out 2; obtain ⟨Ao23, co23, eo23⟩ := Kd.R_slice HO_3.out; subst eo23; (try go_wp2); have n0_ := AQ (Kd.R_drew HO_3.out); have n1_ := AQ (Kd.S_drew HO_458001.out); have n2_ := AQ (Kd.R_drew HO_458002.out); have n3_ := AQ (blk_drew BK457.out); have n4_ := AQ (below_drew1 HB.out); clear HO_3; clear HO_458001; clear HO_458002; clear BK457; clear HB; have HO_3 := n0_; have HO_458001 := n1_; have HO_458002 := n2_; have BK457 := n3_; have HB := n4_; clear n0_ n1_ n2_ n3_ n4_; have p471 : 0 ≤ (x5_2 : Int) := PD; have q471 : x5_2 < (t462.length : Int) := PD; obtain ⟨ad471, e471, hx471_0⟩ := Kd.at_int (Kd.R_reads' HO_458002.out).2.2 x5_2 p471 q471; cases e471; replace p471 := eq_true p471; replace q471 := eq_true q471; have p475 : 0 ≤ (x5_2 : Int) := PD; have q475 : x5_2 < (t462.length : Int) := PD; obtain ⟨ad475, e475, hx475_0⟩ := Kd.at_int (Kd.R_reads' HO_458002.out).2.2 x5_2 p475 q475; obtain rfl : ad471 = ad475 := (by injection e475); replace p475 := eq_true p475; replace q475 := eq_true q475; refine start_ (n := 20) (S := fun w' => w'.cell? ⟨gb457, 0, none⟩ = some (.int .i64 t458) ∧ w'.cell? ⟨gb457, 1, none⟩ = some (.slice Ao9 t459.length co9) ∧ w'.cell? ⟨gb457, 2, none⟩ = some (.slice (some ad471) t462.length co10) ∧ w'.cell? (ad471.add (x5_2).toNat) = some (.int .u64 (rd t462 x5_2)) ∧ w'.cell? (ad471.add (x5_2).toNat) = some (.int .u64 (rd t462 x5_2))) (ds := [14]) #[false, false, false, false, false, false, false, false, false, false, false, false, false, false, false, false, false, false, false, false] (by kernel_rfl) rfl rfl ⟨(blk_cell BK457.out 0).trans rfl, (blk_cell BK457.out 1).trans rfl, (blk_cell BK457.out 2).trans rfl, hx471_0, hx475_0⟩ (fun hHeld => ?_); refine with_tabW geyserlaw05_ElimTrue.tab8 geyserlaw05_ElimTrue.bits8 (fun HT_ HW_ => ?_)
        generalize wr.drew = w24 at HO_3 HO_458001 HO_458002 BK457 HB hx471_0 hx475_0 hHeld ⊢; refine pure_ (i := 0) (N := some 38) (v := ?_) (a' := ?_) #[true, false, false, false, false, false, false, false, false, false, false, false, false, false, false, false, false, false, false, false] rfl rfl (any_of HT_.out (by kernel_rfl)) (fun _ _ _ h => h) (Or.inl ⟨by rfl, ?_⟩) ?_ ?_; rotate_left
        ·intro w'; go_simp
         with_reducible rfl
        rotate_left
        ·simp only [Act.put, qT, qZ, qS, i64_w, i32_w]; rfl
        refine pure_ (i := 1) (N := some 39) (v := ?_) (a' := ?_) #[true, true, false, false, false, false, false, false, false, false, false, false, false, false, false, false, false, false, false, false] rfl rfl (any_of HT_.out (by kernel_rfl)) (fun _ _ _ h => h) (Or.inl ⟨by rfl, ?_⟩) ?_ ?_; rotate_left
        ·intro w'; go_simp
         with_reducible rfl
        rotate_left
        ·simp only [Act.put, qT, qZ, qS, i64_w, i32_w]; rfl
        refine pure_ (i := 3) (N := some 41) (v := ?_) (a' := ?_) #[true, true, false, true, false, false, false, false, false, false, false, false, false, false, false, false, false, false, false, false] rfl rfl (any_of HT_.out (by kernel_rfl)) (fun _ _ _ h => h) (Or.inl ⟨by rfl, ?_⟩) ?_ ?_; rotate_left
        ·intro w'; go_simp
         with_reducible rfl
        rotate_left
        ·simp only [Act.put, qT, qZ, qS, i64_w, i32_w]; rfl
        refine pure_ (i := 8) (N := some 46) (v := ?_) (a' := ?_) #[true, true, false, true, false, false, false, false, true, false, false, false, false, false, false, false, false, false, false, false] rfl rfl (any_of HT_.out (by kernel_rfl)) (fun _ _ _ h => h) (Or.inl ⟨by rfl, ?_⟩) ?_ ?_; rotate_left
        ·intro w'; go_simp
         with_reducible rfl
        rotate_left
        ·simp only [Act.put, qT, qZ, qS, i64_w, i32_w]; rfl
        refine pure_ (i := 10) (N := some 48) (v := ?_) (a' := ?_) #[true, true, false, true, false, false, false, false, true, false, true, false, false, false, false, false, false, false, false, false] rfl rfl (any_of HT_.out (by kernel_rfl)) (fun _ _ _ h => h) (Or.inl ⟨by rfl, ?_⟩) ?_ ?_; rotate_left
        ·intro w'; go_simp
         with_reducible rfl
        rotate_left
        ·simp only [Act.put, qT, qZ, qS, i64_w, i32_w]; rfl
        refine take_ (i := 2) (N := some 40) (v := ?_) (a' := ?_) #[true, true, true, true, false, false, false, false, true, false, true, false, false, false, false, false, false, false, false, false] rfl rfl (take_ofW HT_.out HW_.out (by kernel_rfl)) (fun _ _ _ h => h) (Or.inl ⟨by rfl, ?_⟩) hHeld ?_ ?_; rotate_left
        ·rintro w' ⟨s0, s1, s2, s3, s4⟩; go_simp
         with_reducible rfl
        rotate_left
        ·simp only [Act.put, qT, qZ, qS, i64_w, i32_w]; rfl
        refine pure_ (i := 4) (N := some 42) (v := ?_) (a' := ?_) #[true, true, true, true, true, false, false, false, true, false, true, false, false, false, false, false, false, false, false, false] rfl rfl (any_of HT_.out (by kernel_rfl)) (fun _ _ _ h => h) (Or.inl ⟨by rfl, ?_⟩) ?_ ?_; rotate_left
        ·intro w'; go_simp
         with_reducible rfl
        rotate_left
        ·simp only [Act.put, qT, qZ, qS, i64_w, i32_w]; rfl
        refine take_ (i := 5) (N := some 43) (v := ?_) (a' := ?_) #[true, true, true, true, true, true, false, false, true, false, true, false, false, false, false, false, false, false, false, false] rfl rfl (take_ofW HT_.out HW_.out (by kernel_rfl)) (fun _ _ _ h => h) (Or.inl ⟨by rfl, ?_⟩) hHeld ?_ ?_; rotate_left
        ·rintro w' ⟨s0, s1, s2, s3, s4⟩; go_simp
         with_reducible rfl
        rotate_left
        ·simp only [Act.put, qT, qZ, qS, i64_w, i32_w]; rfl
        refine take_ (i := 7) (N := some 45) (v := ?_) (a' := ?_) #[true, true, true, true, true, true, false, true, true, false, true, false, false, false, false, false, false, false, false, false] rfl rfl (take_ofW HT_.out HW_.out (by kernel_rfl)) (fun _ _ _ h => h) (Or.inl ⟨by rfl, ?_⟩) hHeld ?_ ?_; rotate_left
        ·rintro w' ⟨s0, s1, s2, s3, s4⟩; go_simp
         with_reducible rfl
        rotate_left
        ·simp only [Act.put, qT, qZ, qS, i64_w, i32_w]; rfl
        refine take_ (i := 9) (N := some 47) (v := ?_) (a' := ?_) #[true, true, true, true, true, true, false, true, true, true, true, false, false, false, false, false, false, false, false, false] rfl rfl (take_ofW HT_.out HW_.out (by kernel_rfl)) (fun _ _ _ h => h) (Or.inl ⟨by rfl, ?_⟩) hHeld ?_ ?_; rotate_left
        ·rintro w' ⟨s0, s1, s2, s3, s4⟩; go_simp
         with_reducible rfl
        rotate_left
        ·simp only [Act.put, qT, qZ, qS, i64_w, i32_w]; rfl
        refine pure_ (i := 11) (N := some 49) (v := ?_) (a' := ?_) #[true, true, true, true, true, true, false, true, true, true, true, true, false, false, false, false, false, false, false, false] rfl rfl (any_of HT_.out (by kernel_rfl)) (fun _ _ _ h => h) (Or.inl ⟨by rfl, ?_⟩) ?_ ?_; rotate_left
        ·intro w'; go_simp
         with_reducible rfl
        rotate_left
        ·simp only [Act.put, qT, qZ, qS, i64_w, i32_w]; rfl
        refine take_ (i := 12) (N := some 50) (v := ?_) (a' := ?_) #[true, true, true, true, true, true, false, true, true, true, true, true, true, false, false, false, false, false, false, false] rfl rfl (take_ofW HT_.out HW_.out (by kernel_rfl)) (fun _ _ _ h => h) (Or.inl ⟨by rfl, ?_⟩) hHeld ?_ ?_; rotate_left
        ·rintro w' ⟨s0, s1, s2, s3, s4⟩; go_simp
         with_reducible rfl
        rotate_left
        ·simp only [Act.put, qT, qZ, qS, i64_w, i32_w]; rfl
        refine join_ (σ := Value × Value) 6 #[true, true, true, true, true, true, true, true, true, true, true, true, true, true, false, false, false, false, false, false] (fun s_ => [(44, s_.1), (51, s_.2)]) (fun s_ w' => (w'.cell? ⟨gb457, 0, none⟩ = some (.int .i64 t458) ∧ w'.cell? ⟨gb457, 1, none⟩ = some (.slice Ao9 t459.length co9) ∧ w'.cell? ⟨gb457, 2, none⟩ = some (.slice (some ad471) t462.length co10) ∧ w'.cell? (ad471.add (x5_2).toNat) = some (.int .u64 (rd t462 x5_2)) ∧ w'.cell? (ad471.add (x5_2).toNat) = some (.int .u64 (rd t462 x5_2))) ∧ (Kd.R (Kd.int .u64) 35 w' w.heap.size (fun k_ => some k_ ≠ (.slice (some ad471) t462.length co10 : Value).ownBlock) s_.1 y472) ∧ (Kd.R (Kd.int .u8) 5 w' w.heap.size (fun _ => True) s_.2 t476) ∧ (Kd.R k74 74 w' w.heap.size (fun k_ => some k_ ≠ (s_.1 : Value).ownBlock ∧ some k_ ≠ (s_.2 : Value).ownBlock ∧ some k_ ≠ (.slice (some ad471) t462.length co10 : Value).ownBlock) (.slice Ao23 x3_2.length co23) x3_2) ∧ (Kd.S (Kd.slice 5 (Kd.int .u8)) 36 w' w.heap.size (fun k_ => some k_ ≠ (s_.2 : Value).ownBlock) (.slice Ao9 t459.length co9) t459) ∧ (Kd.R (Kd.int .u64) 35 w' w.heap.size (fun k_ => some k_ ≠ (s_.1 : Value).ownBlock) (.slice (some ad471) t462.length co10) t462) ∧ (w'.heap[gb457]? = some (.cells #[.int .i64 t458, .slice Ao9 t459.length co9, .slice (some ad471) t462.length co10] 25 (0, 0))) ∧ (Below w.heap.size w w')) ?_ ?_; rotate_left
        ·intro hCont; refine two_ (i := 6) (j := 13) (Ni := some 44) (Nj := some 51) #[true, true, true, true, true, true, true, true, true, true, true, true, true, false, false, false, false, false, false, false] #[true, true, true, true, true, true, false, true, true, true, true, true, true, true, false, false, false, false, false, false] rfl rfl rfl rfl (two_of HT_.out (by kernel_rfl)) (by decide) (by decide) (fun K hK => ?_) (fun K hK => ?_)
         ·skip
          refine Kd.R_lit_step (Kd.int .u64) _ 35 ?hg (N := 44) ?hd (xs := ([rd t462 x5_2] : List Int)) (inner := [.int .u64 (rd t462 x5_2)]) (ok := fun _ => True) (okp := fun _ => True) ?hr ?hp (fun _ hk => hk) trivial (Below.refl _ _) (Nat.le_refl _) (by simp) ?_; (case hd => rfl); (case hg => rfl); (case hr => first | (go_simp; done) | (go_simp; rfl)); (case hp => exact (Reps.one (show Kd.M (Kd.int .u64) _ _ _ (rd t462 x5_2) [.int .u64 (rd t462 x5_2)] from rfl) (Reps.none _ _)))
          intro v473 w25 ho26 hb hg_ hnew_; have HS3_ := (hb.cell (World.block_lt_of_cell? _ _ (hHeld.2.2.2.1))).trans (hHeld.2.2.2.1); have HS4_ := (hb.cell (World.block_lt_of_cell? _ _ (hHeld.2.2.2.2))).trans (hHeld.2.2.2.2); clear hg_ hnew_; (first | rw [← Ny472.out] at ho26 | (simp only [Int.reduceToNat] at ho26; rw [← Ny472.out] at ho26)); have n0_ := AQ (Kd.R_elder' (PR HO_3) (Kd.R_base ho26) hb); have n1_ := AQ (Kd.S_below (PS HO_458001) hb); have n2_ := AQ (Kd.R_elder' (PR HO_458002) (Kd.R_base ho26) hb); have n3_ := AQ (Kd.R_lower (Kd.R_new' ho26 (Kd.R_lt (PR HO_458002))) (below_size (PX HB))); have n4_ := AQ (blk_below (g := gb457) (o := .cells #[.int .i64 t458, .slice Ao9 t459.length co9, .slice (some ad471) t462.length co10] 25 (0, 0)) (PK BK457) hb); have n5_ := AQ (below_step (PX HB) hb); clear HO_3; clear HO_458001; clear HO_458002; clear BK457; clear HB; have HO_3 := n0_; have HO_458001 := n1_; have HO_458002 := n2_; have HO474 := n3_; have BK457 := n4_; have HB := n5_; clear n0_ n1_ n2_ n3_ n4_ n5_; clear hb ho26; refine hK.out _ _ ⟨(blk_cell BK457.out 0).trans rfl, (blk_cell BK457.out 1).trans rfl, (blk_cell BK457.out 2).trans rfl, HS3_, HS4_⟩ (fun hHeld => ?_); clear hK K; refine norm_ (a' := ?_) ?_ ?_; rotate_left
          ·show Act.put _ (some 44) _ = _
           simp only [Act.put, qT, qZ, qS, i64_w, i32_w]; rfl
          refine one_ (i := 13) (N := some 51) #[true, true, true, true, true, true, true, true, true, true, true, true, true, true, false, false, false, false, false, false] rfl rfl (one_of HT_.out (by kernel_rfl)) (by decide) (fun K hK => ?_); refine goes_ Tryd.func12 (by kernel_rfl) rfl #[.agg #[.int .i64 t458, .slice Ao9 t459.length co9, .slice (some ad471) t462.length co10], .int .u64 (rd t462 x5_2)] (by rfl) rfl rfl (by (try simp only [List.map_toArray, List.map_cons, List.map_nil]); first | done | rfl | (simp only [List.length_drop, List.length_take]; rfl)) ?_
          with_reducible refine (geyserlaw05_True_sym.calls k2 t458 _ _ t459 _ _ t462 (rd t462 x5_2) t476 _ ?side1 ?side2 ?side3 ?side4 A19.out).mono ?_
          (case side1 => repeat (first | exact (Kd.S_reads' HO_458001.out).2.2 | (with_reducible refine Kd.C_alloc ?_ _) | (with_reducible refine Kd.C_drewN ?_ _) | (with_reducible refine Kd.C_drew ?_))); (case side2 => exact (Kd.S_reads' HO_458001.out).2.1); (case side3 => exact QC HO_458002); (case side4 => exact (Kd.R_reads' HO_458002.out).2.1); rintro e w27 ⟨v477, rfl, ho0, hb⟩; have HS3_ := (hb.cell (World.block_lt_of_cell? _ _ (hHeld.2.2.2.1))).trans (hHeld.2.2.2.1); have HS4_ := (hb.cell (World.block_lt_of_cell? _ _ (hHeld.2.2.2.2))).trans (hHeld.2.2.2.2); refine ⟨_, rfl, ?_⟩; have n0_ := AQ (Kd.R_elder' (PR HO_3) (Kd.R_base ho0) hb); have n1_ := AQ (Kd.S_elder' (PS HO_458001) (Kd.R_base ho0) hb); have n2_ := AQ (Kd.R_below (PR HO_458002) hb); have n3_ := AQ (Kd.R_below (PR HO474) hb); have n4_ := AQ (Kd.R_lower ho0 (below_size (PX HB))); have n5_ := AQ (blk_below (g := gb457) (o := .cells #[.int .i64 t458, .slice Ao9 t459.length co9, .slice (some ad471) t462.length co10] 25 (0, 0)) (PK BK457) hb); have n6_ := AQ (below_step (PX HB) hb); clear HO_3; clear HO_458001; clear HO_458002; clear HO474; clear BK457; clear HB; have HO_3 := n0_; have HO_458001 := n1_; have HO_458002 := n2_; have HO474 := n3_; have HO478 := n4_; have BK457 := n5_; have HB := n6_; clear n0_ n1_ n2_ n3_ n4_ n5_ n6_; (try clear hb); (try clear hb2); (try clear hk); (try clear hi); (try clear ho0); refine hK.out _ _ ⟨(blk_cell BK457.out 0).trans rfl, (blk_cell BK457.out 1).trans rfl, (blk_cell BK457.out 2).trans rfl, HS3_, HS4_⟩ (fun hHeld => ?_); clear hK K; refine norm_ (a' := ?_) ?_ ?_; rotate_left
          ·show Act.put _ (some 51) _ = _
           simp only [Act.put, qT, qZ, qS, i64_w, i32_w]; rfl
          exact norm_ (by simp only [putAll, Act.put, List.setIfInBounds_toArray, List.set_cons_zero, List.set_cons_succ]) (hCont (v473, v477) _ ⟨hHeld, (by (with_reducible repeat (first | apply Kd.R_alloc | apply Kd.R_drewN | apply Kd.R_drew)); exact Kd.R_mono HO474.out (fun _ hk => hk.2)), (PR HO478), (by (with_reducible repeat (first | apply Kd.R_alloc | apply Kd.R_drewN | apply Kd.R_drew)); exact Kd.R_mono HO_3.out (fun _ hk => ⟨hk.1.2, ⟨hk.2, hk.1.1⟩⟩)), (by (with_reducible repeat (first | apply Kd.S_alloc | apply Kd.S_drewN | apply Kd.S_drew)); exact Kd.S_mono HO_458001.out (fun _ hk => hk.2)), (by (with_reducible repeat (first | apply Kd.R_alloc | apply Kd.R_drewN | apply Kd.R_drew)); exact Kd.R_mono HO_458002.out (fun _ hk => hk.2)), (PK BK457), (PX HB)⟩)
         ·skip
          refine goes_ Tryd.func12 (by kernel_rfl) rfl #[.agg #[.int .i64 t458, .slice Ao9 t459.length co9, .slice (some ad471) t462.length co10], .int .u64 (rd t462 x5_2)] (by rfl) rfl rfl (by (try simp only [List.map_toArray, List.map_cons, List.map_nil]); first | done | rfl | (simp only [List.length_drop, List.length_take]; rfl)) ?_
          with_reducible refine (geyserlaw05_True_sym.calls k2 t458 _ _ t459 _ _ t462 (rd t462 x5_2) t476 _ ?side1 ?side2 ?side3 ?side4 A19.out).mono ?_
          (case side1 => repeat (first | exact (Kd.S_reads' HO_458001.out).2.2 | (with_reducible refine Kd.C_alloc ?_ _) | (with_reducible refine Kd.C_drewN ?_ _) | (with_reducible refine Kd.C_drew ?_))); (case side2 => exact (Kd.S_reads' HO_458001.out).2.1); (case side3 => exact QC HO_458002); (case side4 => exact (Kd.R_reads' HO_458002.out).2.1); rintro e w25 ⟨v477, rfl, ho0, hb⟩; have HS3_ := (hb.cell (World.block_lt_of_cell? _ _ (hHeld.2.2.2.1))).trans (hHeld.2.2.2.1); have HS4_ := (hb.cell (World.block_lt_of_cell? _ _ (hHeld.2.2.2.2))).trans (hHeld.2.2.2.2); refine ⟨_, rfl, ?_⟩; have n0_ := AQ (Kd.R_elder' (PR HO_3) (Kd.R_base ho0) hb); have n1_ := AQ (Kd.S_elder' (PS HO_458001) (Kd.R_base ho0) hb); have n2_ := AQ (Kd.R_below (PR HO_458002) hb); have n3_ := AQ (Kd.R_lower ho0 (below_size (PX HB))); have n4_ := AQ (blk_below (g := gb457) (o := .cells #[.int .i64 t458, .slice Ao9 t459.length co9, .slice (some ad471) t462.length co10] 25 (0, 0)) (PK BK457) hb); have n5_ := AQ (below_step (PX HB) hb); clear HO_3; clear HO_458001; clear HO_458002; clear BK457; clear HB; have HO_3 := n0_; have HO_458001 := n1_; have HO_458002 := n2_; have HO478 := n3_; have BK457 := n4_; have HB := n5_; clear n0_ n1_ n2_ n3_ n4_ n5_; (try clear hb); (try clear hb2); (try clear hk); (try clear hi); (try clear ho0); refine hK.out _ _ ⟨(blk_cell BK457.out 0).trans rfl, (blk_cell BK457.out 1).trans rfl, (blk_cell BK457.out 2).trans rfl, HS3_, HS4_⟩ (fun hHeld => ?_); clear hK K; refine norm_ (a' := ?_) ?_ ?_; rotate_left
          ·show Act.put _ (some 51) _ = _
           simp only [Act.put, qT, qZ, qS, i64_w, i32_w]; rfl
          refine one_ (i := 6) (N := some 44) #[true, true, true, true, true, true, true, true, true, true, true, true, true, true, false, false, false, false, false, false] rfl rfl (one_of HT_.out (by kernel_rfl)) (by decide) (fun K hK => ?_); refine Kd.R_lit_step (Kd.int .u64) _ 35 ?hg (N := 44) ?hd (xs := ([rd t462 x5_2] : List Int)) (inner := [.int .u64 (rd t462 x5_2)]) (ok := fun _ => True) (okp := fun _ => True) ?hr ?hp (fun _ hk => hk) trivial (Below.refl _ _) (Nat.le_refl _) (by simp) ?_; (case hd => rfl); (case hg => rfl); (case hr => first | (go_simp; done) | (go_simp; rfl)); (case hp => exact (Reps.one (show Kd.M (Kd.int .u64) _ _ _ (rd t462 x5_2) [.int .u64 (rd t462 x5_2)] from rfl) (Reps.none _ _)))
          intro v473 w26 ho27 hb hg_ hnew_; have HS3_ := (hb.cell (World.block_lt_of_cell? _ _ (hHeld.2.2.2.1))).trans (hHeld.2.2.2.1); have HS4_ := (hb.cell (World.block_lt_of_cell? _ _ (hHeld.2.2.2.2))).trans (hHeld.2.2.2.2); clear hg_ hnew_; (first | rw [← Ny472.out] at ho27 | (simp only [Int.reduceToNat] at ho27; rw [← Ny472.out] at ho27)); have n0_ := AQ (Kd.R_elder' (PR HO_3) (Kd.R_base ho27) hb); have n1_ := AQ (Kd.S_below (PS HO_458001) hb); have n2_ := AQ (Kd.R_elder' (PR HO_458002) (Kd.R_base ho27) hb); have n3_ := AQ (Kd.R_below (PR HO478) hb); have n4_ := AQ (Kd.R_lower (Kd.R_new' ho27 (Kd.R_lt (PR HO_458002))) (below_size (PX HB))); have n5_ := AQ (blk_below (g := gb457) (o := .cells #[.int .i64 t458, .slice Ao9 t459.length co9, .slice (some ad471) t462.length co10] 25 (0, 0)) (PK BK457) hb); have n6_ := AQ (below_step (PX HB) hb); clear HO_3; clear HO_458001; clear HO_458002; clear HO478; clear BK457; clear HB; have HO_3 := n0_; have HO_458001 := n1_; have HO_458002 := n2_; have HO478 := n3_; have HO474 := n4_; have BK457 := n5_; have HB := n6_; clear n0_ n1_ n2_ n3_ n4_ n5_ n6_; clear hb ho27; refine hK.out _ _ ⟨(blk_cell BK457.out 0).trans rfl, (blk_cell BK457.out 1).trans rfl, (blk_cell BK457.out 2).trans rfl, HS3_, HS4_⟩ (fun hHeld => ?_); clear hK K; refine norm_ (a' := ?_) ?_ ?_; rotate_left
          ·show Act.put _ (some 44) _ = _
           simp only [Act.put, qT, qZ, qS, i64_w, i32_w]; rfl
          exact norm_ (by simp only [putAll, Act.put, List.setIfInBounds_toArray, List.set_cons_zero, List.set_cons_succ]) (hCont (v473, v477) _ ⟨hHeld, (by (with_reducible repeat (first | apply Kd.R_alloc | apply Kd.R_drewN | apply Kd.R_drew)); exact Kd.R_mono HO474.out (fun _ hk => hk.2)), (PR HO478), (by (with_reducible repeat (first | apply Kd.R_alloc | apply Kd.R_drewN | apply Kd.R_drew)); exact Kd.R_mono HO_3.out (fun _ hk => ⟨hk.2, ⟨hk.1.2, hk.1.1⟩⟩)), (by (with_reducible repeat (first | apply Kd.S_alloc | apply Kd.S_drewN | apply Kd.S_drew)); exact Kd.S_mono HO_458001.out (fun _ hk => hk.2)), (by (with_reducible repeat (first | apply Kd.R_alloc | apply Kd.R_drewN | apply Kd.R_drew)); exact Kd.R_mono HO_458002.out (fun _ hk => hk.2)), (PK BK457), (PX HB)⟩)
        rintro ⟨v473, v477⟩ w28 ⟨hS_, h0_, h1_, h2_, h3_, h4_, h5_, h6_⟩; have n0_ : Aside0 (Kd.R (Kd.int .u64) 35 w28 w.heap.size (fun k_ => some k_ ≠ (.slice (some ad471) t462.length co10 : Value).ownBlock) v473 y472) := ⟨h0_⟩; have n1_ : Aside0 (Kd.R (Kd.int .u8) 5 w28 w.heap.size (fun _ => True) v477 t476) := ⟨h1_⟩; have n2_ : Aside0 (Kd.R k74 74 w28 w.heap.size (fun k_ => some k_ ≠ (v473 : Value).ownBlock ∧ some k_ ≠ (v477 : Value).ownBlock ∧ some k_ ≠ (.slice (some ad471) t462.length co10 : Value).ownBlock) (.slice Ao23 x3_2.length co23) x3_2) := ⟨h2_⟩; have n3_ : Aside0 (Kd.S (Kd.slice 5 (Kd.int .u8)) 36 w28 w.heap.size (fun k_ => some k_ ≠ (v477 : Value).ownBlock) (.slice Ao9 t459.length co9) t459) := ⟨h3_⟩; have n4_ : Aside0 (Kd.R (Kd.int .u64) 35 w28 w.heap.size (fun k_ => some k_ ≠ (v473 : Value).ownBlock) (.slice (some ad471) t462.length co10) t462) := ⟨h4_⟩; have n5_ : Aside0 (w28.heap[gb457]? = some (.cells #[.int .i64 t458, .slice Ao9 t459.length co9, .slice (some ad471) t462.length co10] 25 (0, 0))) := ⟨h5_⟩; have n6_ : Aside0 (Below w.heap.size w w28) := ⟨h6_⟩; clear HO_3; clear HO_458001; clear HO_458002; clear BK457; clear HB; clear h0_ h1_ h2_ h3_ h4_ h5_ h6_; have HO474 := n0_; have HO478 := n1_; have HO_3 := n2_; have HO_458001 := n3_; have HO_458002 := n4_; have BK457 := n5_; have HB := n6_; clear n0_ n1_ n2_ n3_ n4_ n5_ n6_; have hHeld : w28.cell? ⟨gb457, 0, none⟩ = some (.int .i64 t458) ∧ w28.cell? ⟨gb457, 1, none⟩ = some (.slice Ao9 t459.length co9) ∧ w28.cell? ⟨gb457, 2, none⟩ = some (.slice (some ad471) t462.length co10) ∧ w28.cell? (ad471.add (x5_2).toNat) = some (.int .u64 (rd t462 x5_2)) ∧ w28.cell? (ad471.add (x5_2).toNat) = some (.int .u64 (rd t462 x5_2)) := hS_; obtain ⟨Ao29, co29, eo29⟩ := Kd.R_slice HO474.out; (first | subst eo29 | (injection eo29 with f1_ f2_ f3_; have f4_ := f1_.symm; have f5_ := f3_.symm; clear f1_ f2_ f3_; subst f4_; subst f5_)); obtain ⟨Ao30, co30, eo30⟩ := Kd.R_slice HO478.out; (first | subst eo30 | (injection eo30 with f1_ f2_ f3_; have f4_ := f1_.symm; have f5_ := f3_.symm; clear f1_ f2_ f3_; subst f4_; subst f5_)); refine norm_ (a' := ?_) ?_ ?_; rotate_left
        ·simp only [putAll, Act.put, List.setIfInBounds_toArray, List.set_cons_zero, List.set_cons_succ]; rfl
        refine last_ (i := 14) (N := some 52) #[true, true, true, true, true, true, true, true, true, true, true, true, true, true, true, false, false, false, false, false] rfl rfl (one_of HT_.out (by kernel_rfl)) (by decide) (fun K hK => ?_); refine goes_ Tryd.func11 (by kernel_rfl) rfl #[ptrOf (.slice Ao23 x3_2.length co23), .slice Ao29 y472.length co29, .slice Ao30 t476.length co30] (by rfl) rfl rfl (by (try simp only [List.map_toArray, List.map_cons, List.map_nil]); first | done | rfl | (simp only [List.length_drop, List.length_take]; rfl)) ?_
        with_reducible refine (elim_System_Add.calls k2 (fun k_ => (some k_ ≠ (.slice Ao29 y472.length co29 : Value).ownBlock ∧ (some k_ ≠ (.slice Ao30 t476.length co30 : Value).ownBlock ∧ some k_ ≠ (.slice (some ad471) t462.length co10 : Value).ownBlock))) (.slice Ao23 x3_2.length co23) x3_2 _ _ y472 _ _ t476 t479 t480 t483 w _ ?side1 ?side2 ?side3 ?side4 ?side5 ?side6 ?side7 A20.out).mono ?_
        (case side1 => first | exact HT.out | exact TabIn.below HT.out (PX HB) | (repeat (first | apply TabIn.drewN | apply TabIn.drew | exact HT.out))); (case side2 => exact PX HB); (case side3 => exact PR HO_3); (case side4 => exact QC HO474); (case side5 => exact (Kd.R_reads' HO474.out).2.1); (case side6 => exact QC HO478); (case side7 => exact (Kd.R_reads' HO478.out).2.1); rintro e w31 ⟨v481, rfl, ho0, hy0, hb, hkp⟩; refine ⟨_, rfl, ?_⟩; have n0_ := AQ (Kd.R_mono (ok' := fun k_ => (some k_ ≠ (.slice Ao29 y472.length co29 : Value).ownBlock ∧ (some k_ ≠ (.slice Ao30 t476.length co30 : Value).ownBlock ∧ some k_ ≠ (.slice (some ad471) t462.length co10 : Value).ownBlock))) hy0 (fun k_ hk_ => Or.elim hk_ (fun hs_ => hs_) (fun hn_ => ⟨(Kd.fresh' (Kd.R_lt (PR HO474)) k_ hn_), ⟨(Kd.fresh' (Kd.R_lt (PR HO478)) k_ hn_), (Kd.fresh' (Kd.R_lt (PR HO_458002)) k_ hn_)⟩⟩))); have n1_ := AQ (Kd.S_skept (PS HO_458001) hkp (by decide)); have n2_ := AQ (Kd.R_skept (PR HO_458002) hkp (by decide)); have n3_ := AQ (blk_skept (PK BK457) hkp (by decide)); have n4_ := AQ (Kd.R_skept (PR HO474) hkp (by decide)); have n5_ := AQ (Kd.R_skept (PR HO478) hkp (by decide)); have n6_ := AQ (Kd.R_lower ho0 (below_size (PX HB))); have n7_ := AQ (hb); clear HO_3; clear HO_458001; clear HO_458002; clear BK457; clear HO474; clear HO478; clear HB; have HO_3 := n0_; have HO_458001 := n1_; have HO_458002 := n2_; have BK457 := n3_; have HO474 := n4_; have HO478 := n5_; have HO482 := n6_; have HB := n7_; clear n0_ n1_ n2_ n3_ n4_ n5_ n6_ n7_; (try clear hb); (try clear hkp); (try clear hy0); (try clear ho0); refine hK.out _ _ ?_; clear hK K; refine norm_ (a' := ?_) ?_ ?_; rotate_left
        ·show Act.put _ (some 52) _ = _
         simp only [Act.put, qT, qZ, qS, i64_w, i32_w]; rfl
        refine pure_ (i := 15) (N := some 37) (v := ?_) (a' := ?_) #[true, true, true, true, true, true, true, true, true, true, true, true, true, true, true, true, false, false, false, false] rfl rfl (any_of HT_.out (by kernel_rfl)) (fun _ _ _ h => h) (Or.inl ⟨by rfl, ?_⟩) ?_ ?_; rotate_left
        ·intro w'; go_simp
         with_reducible rfl
        rotate_left
        ·simp only [Act.put, qT, qZ, qS, i64_w, i32_w]; rfl
        refine pure_ (i := 16) (N := some 53) (v := ?_) (a' := ?_) #[true, true, true, true, true, true, true, true, true, true, true, true, true, true, true, true, true, false, false, false] rfl rfl (any_of HT_.out (by kernel_rfl)) (fun _ _ _ h => h) (Or.inl ⟨by rfl, ?_⟩) ?_ ?_; rotate_left
        ·intro w'; go_simp
         with_reducible rfl
        rotate_left
        ·simp only [Act.put, qT, qZ, qS, i64_w, i32_w]; rfl
        refine pure_ (i := 17) (N := some 54) (v := ?_) (a' := ?_) #[true, true, true, true, true, true, true, true, true, true, true, true, true, true, true, true, true, true, false, false] rfl rfl (any_of HT_.out (by kernel_rfl)) (fun _ _ _ h => h) (Or.inl ⟨by rfl, ?_⟩) ?_ ?_; rotate_left
        ·intro w'; go_simp
         with_reducible rfl
        rotate_left
        ·simp only [Act.put, qT, qZ, qS, i64_w, i32_w]; rfl
        refine pure_ (i := 18) (N := some 6) (v := ?_) (a' := ?_) #[true, true, true, true, true, true, true, true, true, true, true, true, true, true, true, true, true, true, true, false] rfl rfl (any_of HT_.out (by kernel_rfl)) (fun _ _ _ h => h) (Or.inl ⟨by rfl, ?_⟩) ?_ ?_; rotate_left
        ·intro w'; go_simp
         with_reducible rfl
        rotate_left
        ·simp only [Act.put, qT, qZ, qS, i64_w, i32_w]; rfl
        refine pure_ (i := 19) (N := some 7) (v := ?_) (a' := ?_) #[true, true, true, true, true, true, true, true, true, true, true, true, true, true, true, true, true, true, true, true] rfl rfl (any_of HT_.out (by kernel_rfl)) (fun _ _ _ h => h) (Or.inl ⟨by rfl, ?_⟩) ?_ ?_; rotate_left
        ·intro w'; go_simp
         with_reducible rfl
        rotate_left
        ·simp only [Act.put, qT, qZ, qS, i64_w, i32_w]; rfl
        refine done_ (done_of HT_.out (by kernel_rfl)) ?_; go_upto_region 9 with (fail); go_cut [64] (fun v64 wc => ∃ (kq : Nat) (x64_20 : Bool), v64 = .bool x64_20 ∧ Aside0 (geyserlaw05_ElimTrue.j2 kq t483 x5_2 x64_20 t458 t459 t462 = some r) ∧ Aside0 (kq ≤ k2) ∧ Aside0 (Kd.R k74 74 wc w.heap.size (fun k_ => some k_ ≠ ((.slice (some ad471) t462.length co10) : Value).ownBlock) (.slice Ao23 x3_2.length co23) t483) ∧ Aside0 (Kd.S (Kd.slice 5 (Kd.int .u8)) 36 wc w.heap.size (fun _ => True) (.slice Ao9 t459.length co9) t459) ∧ Aside0 (Kd.R (Kd.int .u64) 35 wc w.heap.size (fun _ => True) (.slice (some ad471) t462.length co10) t462) ∧ Aside0 (wc.heap[gb457]? = some (.cells #[.int .i64 t458, (.slice Ao9 t459.length co9), (.slice (some ad471) t462.length co10)] 25 (0, 0))) ∧ Aside0 (Below w.heap.size w wc))
        case first =>
         have H := HC21.out; clear HC21
         by_cases c32 : (t480.length : Int) = 0
         ·rw [if_pos c32] at H; have c32b0 : ((t480.length : Int) == 0) = true := beq_iff_eq.mpr c32; have c32b1 : ((t480.length : Int) != 0) = false := bne_eq_false_iff_eq.mpr c32; clear c32; (first | rw [c32b0] | rw [c32b1] | (simp only [i64_w, i32_w]; rw [c32b0]) | skip)
          by_cases c33 : t479 = 1
          ·rw [if_pos c33] at H; have c33b0 : (t479 == 1) = true := beq_iff_eq.mpr c33; have c33b1 : (t479 != 1) = false := bne_eq_false_iff_eq.mpr c33; clear c33; have H' := AQ H; clear H; obtain ⟨Ao34, co34, eo34⟩ := Kd.R_slice HO482.out; subst eo34; go_wp2; go_meet
           case rel => exact ⟨_, (false), (by first | rfl | (simp; done) | (simp [*]; done)), H', ⟨by have := HJ3.out; have := HK2.out; first | omega | exact Nat.le_refl _⟩, ⟨by (with_reducible repeat (first | apply Kd.R_alloc | apply Kd.R_drewN | apply Kd.R_drew)); exact Kd.R_mono HO_3.out (fun _ hk => hk.2.2)⟩, ⟨by (with_reducible repeat (first | apply Kd.S_alloc | apply Kd.S_drewN | apply Kd.S_drew)); exact Kd.S_mono HO_458001.out (fun _ hk => trivial)⟩, ⟨by (with_reducible repeat (first | apply Kd.R_alloc | apply Kd.R_drewN | apply Kd.R_drew)); exact Kd.R_mono HO_458002.out (fun _ hk => trivial)⟩, ⟨PK BK457⟩, ⟨PX HB⟩⟩
          ·rw [if_neg c33] at H; have c33b0 : (t479 == 1) = false := beq_eq_false_iff_ne.mpr c33; have c33b1 : (t479 != 1) = true := bne_iff_ne.mpr c33; have H' := AQ H; clear H; obtain ⟨Ao35, co35, eo35⟩ := Kd.R_slice HO482.out; subst eo35; go_wp2; go_meet
           case rel => exact ⟨_, ((t479 != 2)), (by first | rfl | (simp; done) | (simp [*]; done)), H', ⟨by have := HJ3.out; have := HK2.out; first | omega | exact Nat.le_refl _⟩, ⟨by (with_reducible repeat (first | apply Kd.R_alloc | apply Kd.R_drewN | apply Kd.R_drew)); exact Kd.R_mono HO_3.out (fun _ hk => hk.2.2)⟩, ⟨by (with_reducible repeat (first | apply Kd.S_alloc | apply Kd.S_drewN | apply Kd.S_drew)); exact Kd.S_mono HO_458001.out (fun _ hk => trivial)⟩, ⟨by (with_reducible repeat (first | apply Kd.R_alloc | apply Kd.R_drewN | apply Kd.R_drew)); exact Kd.R_mono HO_458002.out (fun _ hk => trivial)⟩, ⟨PK BK457⟩, ⟨PX HB⟩⟩
         ·rw [if_neg c32] at H; have c32b0 : ((t480.length : Int) == 0) = false := beq_eq_false_iff_ne.mpr c32; have c32b1 : ((t480.length : Int) != 0) = true := bne_iff_ne.mpr c32; have c32b2 : ¬ (t480 = []) := fun h_ => c32 (by rw [h_]; rfl)
          (first | rw [c32b0] | rw [c32b1] | (simp only [i64_w, i32_w]; rw [c32b0]) | skip); have H' := AQ H; clear H; obtain ⟨Ao36, co36, eo36⟩ := Kd.R_slice HO482.out; subst eo36; go_wp2; go_meet
          case rel => exact ⟨_, (true), (by first | rfl | (simp; done) | (simp [*]; done)), H', ⟨by have := HJ3.out; have := HK2.out; first | omega | exact Nat.le_refl _⟩, ⟨by (with_reducible repeat (first | apply Kd.R_alloc | apply Kd.R_drewN | apply Kd.R_drew)); exact Kd.R_mono HO_3.out (fun _ hk => hk.2.2)⟩, ⟨by (with_reducible repeat (first | apply Kd.S_alloc | apply Kd.S_drewN | apply Kd.S_drew)); exact Kd.S_mono HO_458001.out (fun _ hk => trivial)⟩, ⟨by (with_reducible repeat (first | apply Kd.R_alloc | apply Kd.R_drewN | apply Kd.R_drew)); exact Kd.R_mono HO_458002.out (fun _ hk => trivial)⟩, ⟨PK BK457⟩, ⟨PX HB⟩⟩
        case rest =>
         clear HC21; (try clear c1); (try clear p2); (try clear c3); (try clear p4); (try clear q4); (try clear hx4); (try clear c5); (try clear c9); (try clear c10); (try clear c11); (try clear c12); (try clear c12b0); (try clear c12b1); (try clear c12b2); (try clear c16); (try clear c17); (try clear c17b0); (try clear c18); (try clear c18b0); (try clear c32); (try clear c32b0); (try clear c32b1); (try clear c32b2); (try clear c33); (try clear c33b0); (try clear c33b1); (try clear hcz22_0); (try clear hcz22_1); (try clear hcz22_2); (try clear hcz6_0); (try clear hcz6_1); (try clear hcz6_2); (try clear hcz8_0); (try clear hcz8_1); (try clear hcz8_2); (try clear hfz22_0); (try clear hfz22_1); (try clear hfz22_2); (try clear hfz6_0); (try clear hfz6_1); (try clear hfz6_2); (try clear hfz8_0); (try clear hfz8_1); (try clear hfz8_2); (try clear hx471_0); (try clear hx475_0); (try clear p2); (try clear p471); (try clear p475); (try clear q471); (try clear q475); obtain ⟨kq, x64_20, rfl, HA, HJ20, HO_3, HO_458001, HO_458002, BK457, HB⟩ := hcut; have hl3_20 := (Kd.R_reads' HO_3.out).1; rw [hl3_20] at HO_3; (try simp only [hl3_20]); (try simp only [hl3_20] at BK457); (try simp only [hl3_20] at HO_458001); (try simp only [hl3_20] at HO_458002); cases kq with
         | zero => exact absurd HA.out (by simp [geyserlaw05_ElimTrue.j2])
         | succ kj20 =>
          have H := HA.out; clear HA; simp only [geyserlaw05_ElimTrue.j2] at H
          by_cases c37 : x64_20 = true
          ·subst c37; have H1 : (some false) = some r := (by rw [if_pos rfl] at H; exact H); clear H; have H := H1; clear H1; obtain rfl := Option.some.inj H; go_wp2; go_ret; exact ⟨by first | rfl | (simp [errW_none, errW_some] <;> rfl) | (simp [*, errW_none, errW_some] <;> rfl), PX HB⟩
          ·replace c37 := Bool.eq_false_iff.mpr c37; subst c37; have H1 : (geyserlaw05_ElimTrue.l1 kj20 t483 x5_2 0 t458 t459 t462) = some r := (by rw [if_neg (show ¬ (false = true) by decide)] at H; exact H); clear H; have H := H1; clear H1; have H' := AQ H; clear H; go_wp2; go_loopg [8] kj20 (fun kq v8 w' => ∃ (x8_4 : Int), v8 = .int .i64 x8_4 ∧ Aside0 (geyserlaw05_ElimTrue.l1 kq t483 x5_2 x8_4 t458 t459 t462 = some r) ∧ Aside0 (kq ≤ kj20) ∧ Aside0 (Kd.R k74 74 w' w.heap.size (fun k_ => some k_ ≠ ((.slice (some ad471) t462.length co10) : Value).ownBlock) (.slice Ao23 t483.length co23) t483) ∧ Aside0 (Kd.S (Kd.slice 5 (Kd.int .u8)) 36 w' w.heap.size (fun _ => True) (.slice Ao9 t459.length co9) t459) ∧ Aside0 (Kd.R (Kd.int .u64) 35 w' w.heap.size (fun _ => True) (.slice (some ad471) t462.length co10) t462) ∧ Aside0 (w'.heap[gb457]? = some (.cells #[.int .i64 t458, (.slice Ao9 t459.length co9), (.slice (some ad471) t462.length co10)] 25 (0, 0))) ∧ Aside0 (Below w.heap.size w w'))
           case atStart => exact ⟨(0), (by first | rfl | (simp; done) | (simp [*]; done)), H', ⟨Nat.le_refl _⟩, ⟨by (try simp only [hl3_20]); (with_reducible repeat (first | apply Kd.R_alloc | apply Kd.R_drewN | apply Kd.R_drew)); exact HO_3.out⟩, ⟨by (try simp only [hl3_20]); (with_reducible repeat (first | apply Kd.S_alloc | apply Kd.S_drewN | apply Kd.S_drew)); exact HO_458001.out⟩, ⟨by (try simp only [hl3_20]); (with_reducible repeat (first | apply Kd.R_alloc | apply Kd.R_drewN | apply Kd.R_drew)); exact HO_458002.out⟩, ⟨by (try simp only [hl3_20]); (with_reducible repeat (first | refine blk_drewN ?_ _ | refine blk_drew ?_ | refine blk_alloc ?_ _)); exact BK457.out⟩, ⟨PX HB⟩⟩
           case round =>
            clear H'; (try clear c1); (try clear p2); (try clear c3); (try clear p4); (try clear q4); (try clear hx4); (try clear c5); (try clear c9); (try clear c10); (try clear c11); (try clear c12); (try clear c12b0); (try clear c12b1); (try clear c12b2); (try clear c16); (try clear c17); (try clear c17b0); (try clear c18); (try clear c18b0); (try clear c32); (try clear c32b0); (try clear c32b1); (try clear c32b2); (try clear c33); (try clear c33b0); (try clear c33b1); (try clear c37); (try clear hcz22_0); (try clear hcz22_1); (try clear hcz22_2); (try clear hcz6_0); (try clear hcz6_1); (try clear hcz6_2); (try clear hcz8_0); (try clear hcz8_1); (try clear hcz8_2); (try clear hfz22_0); (try clear hfz22_1); (try clear hfz22_2); (try clear hfz6_0); (try clear hfz6_1); (try clear hfz6_2); (try clear hfz8_0); (try clear hfz8_1); (try clear hfz8_2); (try clear hx471_0); (try clear hx475_0); (try clear p2); (try clear p4); (try clear p471); (try clear p475); (try clear q4); (try clear q471); (try clear q475); obtain ⟨x8_4, rfl, HA, HK4, HO_3, HO_458001, HO_458002, BK457, HB⟩ := hrel; cases gk with
            | zero => exact absurd HA.out (by simp [geyserlaw05_ElimTrue.l1])
            | succ k4 =>
             have H := HA.out; clear HA; simp only [geyserlaw05_ElimTrue.l1] at H
             by_cases c38 : x8_4 < (t459.length : Int)
             ·rw [if_pos c38] at H; have c38b0 : decide (x8_4 < (t459.length : Int)) = true := decide_eq_true c38; (try (have c38b0q := c38b0; simp only [hl3_20] at c38b0q)); clear c38; replace H := Option.bind_eq_some_iff.mp H; obtain ⟨⟨t484, t485⟩, A390, H⟩ := H; replace H : (if (t485.length : Int) = 0 then (if 0 ≤ x8_4 then (if (strOfNums t484).toList = (strOfNums (rd_Lsu8 t459 x8_4)).toList then (geyserlaw05_ElimTrue.l1 k4 t483 x5_2 (wrap64 (x8_4 + 1)) t458 t459 t462) else (some false)) else (none)) else (geyserlaw05_ElimTrue.l1 k4 t483 x5_2 (wrap64 (x8_4 + 1)) t458 t459 t462)) = some r := H; have A39 := AQ A390; clear A390
              by_cases c40 : (t485.length : Int) = 0
              ·rw [if_pos c40] at H; have c40b0 : ((t485.length : Int) == 0) = true := beq_iff_eq.mpr c40; (try (have c40b0q := c40b0; simp only [hl3_20] at c40b0q)); have c40b1 : ((t485.length : Int) != 0) = false := bne_eq_false_iff_eq.mpr c40; (try (have c40b1q := c40b1; simp only [hl3_20] at c40b1q)); clear c40
               by_cases c41 : 0 ≤ x8_4
               ·rw [if_pos c41] at H; have c41b0 : decide (0 ≤ x8_4) = true := decide_eq_true c41; clear c41
                by_cases c42 : (strOfNums t484).toList = (strOfNums (rd_Lsu8 t459 x8_4)).toList
                ·rw [if_pos c42] at H; have c42b0 : ((strOfNums t484).toList == (strOfNums (rd_Lsu8 t459 x8_4)).toList) = true := beq_iff_eq.mpr c42; have c42b1 : ((strOfNums t484).toList != (strOfNums (rd_Lsu8 t459 x8_4)).toList) = false := bne_eq_false_iff_eq.mpr c42; clear c42; have H' := AQ H; clear H; have hcz43_0 : wr.cell? ⟨gb457, 0, none⟩ = some (.int .i64 t458) := (blk_cell BK457.out 0).trans rfl; have hcz43_1 : wr.cell? ⟨gb457, 1, none⟩ = some (.slice Ao9 t459.length co9) := (blk_cell BK457.out 1).trans rfl; have hcz43_2 : wr.cell? ⟨gb457, 2, none⟩ = some (.slice (some ad471) t462.length co10) := (blk_cell BK457.out 2).trans rfl; have hfz43_0 := blk_frozen BK457.out 0; have hfz43_1 := blk_frozen BK457.out 1; have hfz43_2 := blk_frozen BK457.out 2; (try go_wp2_with (first | ((with_reducible refine gate_callee (f := 13) rfl ?_); refine gL (some 75) rfl rfl Tryd.func13 #[ptrOf (.slice Ao23 t483.length co23), .int .i64 x8_4] rfl ?_; (with_reducible refine (elim_System_Value.calls k4 _ _ t483 x8_4 t484 t485 _ ?side1 ?side2 ?side3 A39.out).mono ?_); (case side1 => first | exact HT.out | exact TabIn.below HT.out (PX HB) | (repeat (first | apply TabIn.drewN | apply TabIn.drew | exact HT.out))); (case side2 => exact QC HO_3); (case side3 => exact (Kd.R_reads' HO_3.out).2.1); rintro e w44 ⟨v486, v488, rfl, ho0, ho1, hb⟩; refine ⟨_, rfl, ?_⟩; have n0_ := AQ (Kd.R_elder' (PR HO_3) (Kd.R_base ho0) hb); have n1_ := AQ (Kd.S_elder' (PS HO_458001) (Kd.R_base ho0) hb); have n2_ := AQ (Kd.R_below (PR HO_458002) hb); have n3_ := AQ (Kd.R_lower ho0 (below_size (PX HB))); have n4_ := AQ (Kd.R_lower ho1 (below_size (PX HB))); have n5_ := AQ (blk_below (g := gb457) (o := .cells #[.int .i64 t458, .slice Ao9 t459.length co9, .slice (some ad471) t462.length co10] 25 (0, 0)) (PK BK457) hb); have n6_ := AQ (below_step (PX HB) hb); clear HO_3; clear HO_458001; clear HO_458002; clear BK457; clear HB; have HO_3 := n0_; have HO_458001 := n1_; have HO_458002 := n2_; have HO487 := n3_; have HO489 := n4_; have BK457 := n5_; have HB := n6_; clear n0_ n1_ n2_ n3_ n4_ n5_ n6_; (try clear hb); (try clear hb2); (try clear hk); (try clear hi); (try clear ho0); (try clear ho1)))); have n0_ := AQ (Kd.R_drew HO_3.out); have n1_ := AQ (Kd.S_drew HO_458001.out); have n2_ := AQ (Kd.R_drew HO_458002.out); have n3_ := AQ (Kd.R_drew HO487.out); have n4_ := AQ (Kd.R_drew HO489.out); have n5_ := AQ (blk_drew BK457.out); have n6_ := AQ (below_drew1 HB.out); clear HO_3; clear HO_458001; clear HO_458002; clear HO487; clear HO489; clear BK457; clear HB; have HO_3 := n0_; have HO_458001 := n1_; have HO_458002 := n2_; have HO487 := n3_; have HO489 := n4_; have BK457 := n5_; have HB := n6_; clear n0_ n1_ n2_ n3_ n4_ n5_ n6_; obtain ⟨Ao46, co46, eo46⟩ := Kd.R_slice HO489.out; (first | subst eo46 | (injection eo46 with f1_ f2_ f3_; have f4_ := f1_.symm; have f5_ := f3_.symm; clear f1_ f2_ f3_; subst f4_; subst f5_)); have p490 : 0 ≤ (x8_4 : Int) := PD; have q490 : x8_4 < (t459.length : Int) := PD; obtain ⟨ad490, A490_0, c490_0, e490, hx490_0, hl490_0, hi490_0⟩ := at_Lsu8 (Kd.S_reads' HO_458001.out).2.2 x8_4 p490 q490; cases e490; obtain ⟨ce490, hce490, hMe490, hcc490⟩ := Kd.S_get HO_458001.out [] x8_4 p490 (by first | exact q490 | exact PD | (have e_ := (Kd.S_reads' HO_458001.out).1; omega)); obtain ⟨ve490_0, rfl, ge490_0⟩ := hMe490; have hv490_0 := hcc490 0 _ rfl; rw [Nat.add_zero, show ((Kd.slice 5 (Kd.int .u8))).sz = 1 from rfl, Nat.mul_one] at hv490_0; replace hv490_0 := Option.some.inj (hv490_0.symm.trans hx490_0); rw [hv490_0] at ge490_0; have HL490_0 := AQ (show Kd.R (Kd.int .u8) 5 _ _ _ _ (rd_Lsu8 t459 x8_4) from ge490_0); clear hv490_0 ge490_0; clear hcc490 hce490; have HR490_0 := AQ hi490_0; have HC490_0 := AQ hl490_0; clear hi490_0 hl490_0; replace p490 := eq_true p490; replace q490 := eq_true q490; refine start_ (n := 13) (S := fun w' => w'.cell? ⟨gb457, 0, none⟩ = some (.int .i64 t458) ∧ w'.cell? ⟨gb457, 1, none⟩ = some (.slice (some ad490) t459.length co9) ∧ w'.cell? ⟨gb457, 2, none⟩ = some (.slice (some ad471) t462.length co10) ∧ (convert 36 9 v486).run Tryd.prog w' = .ok (.string (strOfNums t484)) w' ∧ w'.cell? (ad490.add (x8_4).toNat) = some (.slice A490_0 (rd_Lsu8 t459 x8_4).length c490_0) ∧ (convert 36 9 (.slice A490_0 (rd_Lsu8 t459 x8_4).length c490_0)).run Tryd.prog w' = .ok (.string (strOfNums (rd_Lsu8 t459 x8_4))) w') (ds := []) #[false, false, false, false, false, false, false, false, false, false, false, false, false] (by kernel_rfl) rfl rfl ⟨(blk_cell BK457.out 0).trans rfl, (blk_cell BK457.out 1).trans rfl, (blk_cell BK457.out 2).trans rfl, (own_string (P := Tryd.prog) Tryd.underlying36 Tryd.underlying5 Tryd.underlying9 (Kd.own_of_R HO487.out)), hx490_0, (Kd.C_string (P := Tryd.prog) (A := A490_0) (c := c490_0) Tryd.underlying36 Tryd.underlying5 Tryd.underlying9 (by first | exact HR490_0.out | exact Kd.C_drewN HR490_0.out _))⟩ (fun hHeld => ?_); refine with_tabW geyserlaw05_ElimTrue.tab15 geyserlaw05_ElimTrue.bits15 (fun HT_ HW_ => ?_)
                 generalize w44.drew = w45 at HO_3 HO_458001 HO_458002 HO487 HO489 BK457 HB HL490_0 HR490_0 hx490_0 hHeld ⊢; refine pure_ (i := 0) (N := some 78) (v := ?_) (a' := ?_) #[true, false, false, false, false, false, false, false, false, false, false, false, false] rfl rfl (any_of HT_.out (by kernel_rfl)) (fun _ _ _ h => h) (Or.inl ⟨by rfl, ?_⟩) ?_ ?_; rotate_left
                 ·intro w'; go_simp
                  with_reducible rfl
                 rotate_left
                 ·simp only [Act.put, qT, qZ, qS, i64_w, i32_w]; rfl
                 refine pure_ (i := 1) (N := some 79) (v := ?_) (a' := ?_) #[true, true, false, false, false, false, false, false, false, false, false, false, false] rfl rfl (any_of HT_.out (by kernel_rfl)) (fun _ _ _ h => h) (Or.inl ⟨by rfl, ?_⟩) ?_ ?_; rotate_left
                 ·intro w'; go_simp
                  with_reducible rfl
                 rotate_left
                 ·simp only [Act.put, qT, qZ, qS, i64_w, i32_w]; rfl
                 refine pure_ (i := 2) (N := some 80) (v := ?_) (a' := ?_) #[true, true, true, false, false, false, false, false, false, false, false, false, false] rfl rfl (any_of HT_.out (by kernel_rfl)) (fun _ _ _ h => h) (Or.inl ⟨by rfl, ?_⟩) ?_ ?_; rotate_left
                 ·intro w'; go_simp
                  with_reducible rfl
                 rotate_left
                 ·simp only [Act.put, qT, qZ, qS, i64_w, i32_w]; rfl
                 refine pure_ (i := 3) (N := some 81) (v := ?_) (a' := ?_) #[true, true, true, true, false, false, false, false, false, false, false, false, false] rfl rfl (any_of HT_.out (by kernel_rfl)) (fun _ _ _ h => h) (Or.inl ⟨by rfl, ?_⟩) ?_ ?_; rotate_left
                 ·intro w'; go_simp
                  with_reducible rfl
                 rotate_left
                 ·simp only [Act.put, qT, qZ, qS, i64_w, i32_w]; rfl
                 refine pure_ (i := 5) (N := some 83) (v := ?_) (a' := ?_) #[true, true, true, true, false, true, false, false, false, false, false, false, false] rfl rfl (any_of HT_.out (by kernel_rfl)) (fun _ _ _ h => h) (Or.inl ⟨by rfl, ?_⟩) ?_ ?_; rotate_left
                 ·intro w'; go_simp
                  with_reducible rfl
                 rotate_left
                 ·simp only [Act.put, qT, qZ, qS, i64_w, i32_w]; rfl
                 refine pure_ (i := 7) (N := some 85) (v := ?_) (a' := ?_) #[true, true, true, true, false, true, false, true, false, false, false, false, false] rfl rfl (any_of HT_.out (by kernel_rfl)) (fun _ _ _ h => h) (Or.inl ⟨by rfl, ?_⟩) ?_ ?_; rotate_left
                 ·intro w'; go_simp
                  with_reducible rfl
                 rotate_left
                 ·simp only [Act.put, qT, qZ, qS, i64_w, i32_w]; rfl
                 refine take_ (i := 4) (N := some 82) (v := ?_) (a' := ?_) #[true, true, true, true, true, true, false, true, false, false, false, false, false] rfl rfl (take_ofW HT_.out HW_.out (by kernel_rfl)) (fun _ _ _ h => h) (Or.inl ⟨by rfl, ?_⟩) hHeld ?_ ?_; rotate_left
                 ·rintro w' ⟨s0, s1, s2, s3, s4, s5⟩; go_simp
                  with_reducible rfl
                 rotate_left
                 ·simp only [Act.put, qT, qZ, qS, i64_w, i32_w]; rfl
                 refine take_ (i := 6) (N := some 84) (v := ?_) (a' := ?_) #[true, true, true, true, true, true, true, true, false, false, false, false, false] rfl rfl (take_ofW HT_.out HW_.out (by kernel_rfl)) (fun _ _ _ h => h) (Or.inl ⟨by rfl, ?_⟩) hHeld ?_ ?_; rotate_left
                 ·rintro w' ⟨s0, s1, s2, s3, s4, s5⟩; go_simp
                  with_reducible rfl
                 rotate_left
                 ·simp only [Act.put, qT, qZ, qS, i64_w, i32_w]; rfl
                 refine pure_ (i := 8) (N := some 86) (v := ?_) (a' := ?_) #[true, true, true, true, true, true, true, true, true, false, false, false, false] rfl rfl (any_of HT_.out (by kernel_rfl)) (fun _ _ _ h => h) (Or.inl ⟨by rfl, ?_⟩) ?_ ?_; rotate_left
                 ·intro w'; go_simp
                  with_reducible rfl
                 rotate_left
                 ·simp only [Act.put, qT, qZ, qS, i64_w, i32_w]; rfl
                 refine take_ (i := 9) (N := some 87) (v := ?_) (a' := ?_) #[true, true, true, true, true, true, true, true, true, true, false, false, false] rfl rfl (take_ofW HT_.out HW_.out (by kernel_rfl)) (fun _ _ _ h => h) (Or.inl ⟨by rfl, ?_⟩) hHeld ?_ ?_; rotate_left
                 ·rintro w' ⟨s0, s1, s2, s3, s4, s5⟩; go_simp
                  with_reducible rfl
                 rotate_left
                 ·simp only [Act.put, qT, qZ, qS, i64_w, i32_w]; rfl
                 refine take_ (i := 10) (N := some 88) (v := ?_) (a' := ?_) #[true, true, true, true, true, true, true, true, true, true, true, false, false] rfl rfl (take_ofW HT_.out HW_.out (by kernel_rfl)) (fun _ _ _ h => h) (Or.inl ⟨by rfl, ?_⟩) hHeld ?_ ?_; rotate_left
                 ·rintro w' ⟨s0, s1, s2, s3, s4, s5⟩; go_simp
                  with_reducible rfl
                 rotate_left
                 ·simp only [Act.put, qT, qZ, qS, i64_w, i32_w]; rfl
                 refine pure_ (i := 11) (N := some 89) (v := ?_) (a' := ?_) #[true, true, true, true, true, true, true, true, true, true, true, true, false] rfl rfl (any_of HT_.out (by kernel_rfl)) (fun _ _ _ h => h) (Or.inl ⟨by rfl, ?_⟩) ?_ ?_; rotate_left
                 ·intro w'; go_simp
                  with_reducible rfl
                 rotate_left
                 ·simp only [Act.put, qT, qZ, qS, i64_w, i32_w]; rfl
                 refine pure_ (i := 12) (N := some 90) (v := ?_) (a' := ?_) #[true, true, true, true, true, true, true, true, true, true, true, true, true] rfl rfl (any_of HT_.out (by kernel_rfl)) (fun _ _ _ h => h) (Or.inl ⟨by rfl, ?_⟩) ?_ ?_; rotate_left
                 ·intro w'; go_simp
                  with_reducible rfl
                 rotate_left
                 ·simp only [Act.put, qT, qZ, qS, i64_w, i32_w]; rfl
                 refine done_ (done_of HT_.out (by kernel_rfl)) ?_; (try go_wp2); go_roundg k4
                 case measure => have := HJ3.out; have := HK2.out; have := HJ20.out; have := HK4.out; omega
                 case rel => exact ⟨(wrap64 (x8_4 + 1)), (by first | rfl | (simp; done) | (simp [*]; done)), H', ⟨by have := HJ3.out; have := HK2.out; have := HJ20.out; have := HK4.out; omega⟩, ⟨by (try simp only [hl3_20]); (with_reducible repeat (first | apply Kd.R_alloc | apply Kd.R_drewN | apply Kd.R_drew)); exact Kd.R_mono HO_3.out (fun _ hk => hk.1)⟩, ⟨by (try simp only [hl3_20]); (with_reducible repeat (first | apply Kd.S_alloc | apply Kd.S_drewN | apply Kd.S_drew)); exact Kd.S_mono HO_458001.out (fun _ hk => trivial)⟩, ⟨by (try simp only [hl3_20]); (with_reducible repeat (first | apply Kd.R_alloc | apply Kd.R_drewN | apply Kd.R_drew)); exact HO_458002.out⟩, ⟨by (try simp only [hl3_20]); (with_reducible repeat (first | refine blk_drewN ?_ _ | refine blk_drew ?_ | refine blk_alloc ?_ _)); exact BK457.out⟩, ⟨PX HB⟩⟩
                ·rw [if_neg c42] at H; have c42b0 : ((strOfNums t484).toList == (strOfNums (rd_Lsu8 t459 x8_4)).toList) = false := beq_eq_false_iff_ne.mpr c42; have c42b1 : ((strOfNums t484).toList != (strOfNums (rd_Lsu8 t459 x8_4)).toList) = true := bne_iff_ne.mpr c42; obtain rfl := Option.some.inj H; have hcz47_0 : wr.cell? ⟨gb457, 0, none⟩ = some (.int .i64 t458) := (blk_cell BK457.out 0).trans rfl; have hcz47_1 : wr.cell? ⟨gb457, 1, none⟩ = some (.slice Ao9 t459.length co9) := (blk_cell BK457.out 1).trans rfl; have hcz47_2 : wr.cell? ⟨gb457, 2, none⟩ = some (.slice (some ad471) t462.length co10) := (blk_cell BK457.out 2).trans rfl; have hfz47_0 := blk_frozen BK457.out 0; have hfz47_1 := blk_frozen BK457.out 1; have hfz47_2 := blk_frozen BK457.out 2; (try go_wp2_with (first | ((with_reducible refine gate_callee (f := 13) rfl ?_); refine gL (some 75) rfl rfl Tryd.func13 #[ptrOf (.slice Ao23 t483.length co23), .int .i64 x8_4] rfl ?_; (with_reducible refine (elim_System_Value.calls k4 _ _ t483 x8_4 t484 t485 _ ?side1 ?side2 ?side3 A39.out).mono ?_); (case side1 => first | exact HT.out | exact TabIn.below HT.out (PX HB) | (repeat (first | apply TabIn.drewN | apply TabIn.drew | exact HT.out))); (case side2 => exact QC HO_3); (case side3 => exact (Kd.R_reads' HO_3.out).2.1); rintro e w48 ⟨v486, v488, rfl, ho0, ho1, hb⟩; refine ⟨_, rfl, ?_⟩; have n0_ := AQ (Kd.R_elder' (PR HO_3) (Kd.R_base ho0) hb); have n1_ := AQ (Kd.S_elder' (PS HO_458001) (Kd.R_base ho0) hb); have n2_ := AQ (Kd.R_below (PR HO_458002) hb); have n3_ := AQ (Kd.R_lower ho0 (below_size (PX HB))); have n4_ := AQ (Kd.R_lower ho1 (below_size (PX HB))); have n5_ := AQ (blk_below (g := gb457) (o := .cells #[.int .i64 t458, .slice Ao9 t459.length co9, .slice (some ad471) t462.length co10] 25 (0, 0)) (PK BK457) hb); have n6_ := AQ (below_step (PX HB) hb); clear HO_3; clear HO_458001; clear HO_458002; clear BK457; clear HB; have HO_3 := n0_; have HO_458001 := n1_; have HO_458002 := n2_; have HO487 := n3_; have HO489 := n4_; have BK457 := n5_; have HB := n6_; clear n0_ n1_ n2_ n3_ n4_ n5_ n6_; (try clear hb); (try clear hb2); (try clear hk); (try clear hi); (try clear ho0); (try clear ho1)))); have n0_ := AQ (Kd.R_drew HO_3.out); have n1_ := AQ (Kd.S_drew HO_458001.out); have n2_ := AQ (Kd.R_drew HO_458002.out); have n3_ := AQ (Kd.R_drew HO487.out); have n4_ := AQ (Kd.R_drew HO489.out); have n5_ := AQ (blk_drew BK457.out); have n6_ := AQ (below_drew1 HB.out); clear HO_3; clear HO_458001; clear HO_458002; clear HO487; clear HO489; clear BK457; clear HB; have HO_3 := n0_; have HO_458001 := n1_; have HO_458002 := n2_; have HO487 := n3_; have HO489 := n4_; have BK457 := n5_; have HB := n6_; clear n0_ n1_ n2_ n3_ n4_ n5_ n6_; obtain ⟨Ao50, co50, eo50⟩ := Kd.R_slice HO489.out; (first | subst eo50 | (injection eo50 with f1_ f2_ f3_; have f4_ := f1_.symm; have f5_ := f3_.symm; clear f1_ f2_ f3_; subst f4_; subst f5_)); have p490 : 0 ≤ (x8_4 : Int) := PD; have q490 : x8_4 < (t459.length : Int) := PD; obtain ⟨ad490, A490_0, c490_0, e490, hx490_0, hl490_0, hi490_0⟩ := at_Lsu8 (Kd.S_reads' HO_458001.out).2.2 x8_4 p490 q490; cases e490; obtain ⟨ce490, hce490, hMe490, hcc490⟩ := Kd.S_get HO_458001.out [] x8_4 p490 (by first | exact q490 | exact PD | (have e_ := (Kd.S_reads' HO_458001.out).1; omega)); obtain ⟨ve490_0, rfl, ge490_0⟩ := hMe490; have hv490_0 := hcc490 0 _ rfl; rw [Nat.add_zero, show ((Kd.slice 5 (Kd.int .u8))).sz = 1 from rfl, Nat.mul_one] at hv490_0; replace hv490_0 := Option.some.inj (hv490_0.symm.trans hx490_0); rw [hv490_0] at ge490_0; have HL490_0 := AQ (show Kd.R (Kd.int .u8) 5 _ _ _ _ (rd_Lsu8 t459 x8_4) from ge490_0); clear hv490_0 ge490_0; clear hcc490 hce490; have HR490_0 := AQ hi490_0; have HC490_0 := AQ hl490_0; clear hi490_0 hl490_0; replace p490 := eq_true p490; replace q490 := eq_true q490; refine start_ (n := 13) (S := fun w' => w'.cell? ⟨gb457, 0, none⟩ = some (.int .i64 t458) ∧ w'.cell? ⟨gb457, 1, none⟩ = some (.slice (some ad490) t459.length co9) ∧ w'.cell? ⟨gb457, 2, none⟩ = some (.slice (some ad471) t462.length co10) ∧ (convert 36 9 v486).run Tryd.prog w' = .ok (.string (strOfNums t484)) w' ∧ w'.cell? (ad490.add (x8_4).toNat) = some (.slice A490_0 (rd_Lsu8 t459 x8_4).length c490_0) ∧ (convert 36 9 (.slice A490_0 (rd_Lsu8 t459 x8_4).length c490_0)).run Tryd.prog w' = .ok (.string (strOfNums (rd_Lsu8 t459 x8_4))) w') (ds := []) #[false, false, false, false, false, false, false, false, false, false, false, false, false] (by kernel_rfl) rfl rfl ⟨(blk_cell BK457.out 0).trans rfl, (blk_cell BK457.out 1).trans rfl, (blk_cell BK457.out 2).trans rfl, (own_string (P := Tryd.prog) Tryd.underlying36 Tryd.underlying5 Tryd.underlying9 (Kd.own_of_R HO487.out)), hx490_0, (Kd.C_string (P := Tryd.prog) (A := A490_0) (c := c490_0) Tryd.underlying36 Tryd.underlying5 Tryd.underlying9 (by first | exact HR490_0.out | exact Kd.C_drewN HR490_0.out _))⟩ (fun hHeld => ?_); refine with_tabW geyserlaw05_ElimTrue.tab15 geyserlaw05_ElimTrue.bits15 (fun HT_ HW_ => ?_)
                 generalize w48.drew = w49 at HO_3 HO_458001 HO_458002 HO487 HO489 BK457 HB HL490_0 HR490_0 hx490_0 hHeld ⊢; refine pure_ (i := 0) (N := some 78) (v := ?_) (a' := ?_) #[true, false, false, false, false, false, false, false, false, false, false, false, false] rfl rfl (any_of HT_.out (by kernel_rfl)) (fun _ _ _ h => h) (Or.inl ⟨by rfl, ?_⟩) ?_ ?_; rotate_left
                 ·intro w'; go_simp
                  with_reducible rfl
                 rotate_left
                 ·simp only [Act.put, qT, qZ, qS, i64_w, i32_w]; rfl
                 refine pure_ (i := 1) (N := some 79) (v := ?_) (a' := ?_) #[true, true, false, false, false, false, false, false, false, false, false, false, false] rfl rfl (any_of HT_.out (by kernel_rfl)) (fun _ _ _ h => h) (Or.inl ⟨by rfl, ?_⟩) ?_ ?_; rotate_left
                 ·intro w'; go_simp
                  with_reducible rfl
                 rotate_left
                 ·simp only [Act.put, qT, qZ, qS, i64_w, i32_w]; rfl
                 refine pure_ (i := 2) (N := some 80) (v := ?_) (a' := ?_) #[true, true, true, false, false, false, false, false, false, false, false, false, false] rfl rfl (any_of HT_.out (by kernel_rfl)) (fun _ _ _ h => h) (Or.inl ⟨by rfl, ?_⟩) ?_ ?_; rotate_left
                 ·intro w'; go_simp
                  with_reducible rfl
                 rotate_left
                 ·simp only [Act.put, qT, qZ, qS, i64_w, i32_w]; rfl
                 refine pure_ (i := 3) (N := some 81) (v := ?_) (a' := ?_) #[true, true, true, true, false, false, false, false, false, false, false, false, false] rfl rfl (any_of HT_.out (by kernel_rfl)) (fun _ _ _ h => h) (Or.inl ⟨by rfl, ?_⟩) ?_ ?_; rotate_left
                 ·intro w'; go_simp
                  with_reducible rfl
                 rotate_left
                 ·simp only [Act.put, qT, qZ, qS, i64_w, i32_w]; rfl
                 refine pure_ (i := 5) (N := some 83) (v := ?_) (a' := ?_) #[true, true, true, true, false, true, false, false, false, false, false, false, false] rfl rfl (any_of HT_.out (by kernel_rfl)) (fun _ _ _ h => h) (Or.inl ⟨by rfl, ?_⟩) ?_ ?_; rotate_left
                 ·intro w'; go_simp
                  with_reducible rfl
                 rotate_left
                 ·simp only [Act.put, qT, qZ, qS, i64_w, i32_w]; rfl
                 refine pure_ (i := 7) (N := some 85) (v := ?_) (a' := ?_) #[true, true, true, true, false, true, false, true, false, false, false, false, false] rfl rfl (any_of HT_.out (by kernel_rfl)) (fun _ _ _ h => h) (Or.inl ⟨by rfl, ?_⟩) ?_ ?_; rotate_left
                 ·intro w'; go_simp
                  with_reducible rfl
                 rotate_left
                 ·simp only [Act.put, qT, qZ, qS, i64_w, i32_w]; rfl
                 refine take_ (i := 4) (N := some 82) (v := ?_) (a' := ?_) #[true, true, true, true, true, true, false, true, false, false, false, false, false] rfl rfl (take_ofW HT_.out HW_.out (by kernel_rfl)) (fun _ _ _ h => h) (Or.inl ⟨by rfl, ?_⟩) hHeld ?_ ?_; rotate_left
                 ·rintro w' ⟨s0, s1, s2, s3, s4, s5⟩; go_simp
                  with_reducible rfl
                 rotate_left
                 ·simp only [Act.put, qT, qZ, qS, i64_w, i32_w]; rfl
                 refine take_ (i := 6) (N := some 84) (v := ?_) (a' := ?_) #[true, true, true, true, true, true, true, true, false, false, false, false, false] rfl rfl (take_ofW HT_.out HW_.out (by kernel_rfl)) (fun _ _ _ h => h) (Or.inl ⟨by rfl, ?_⟩) hHeld ?_ ?_; rotate_left
                 ·rintro w' ⟨s0, s1, s2, s3, s4, s5⟩; go_simp
                  with_reducible rfl
                 rotate_left
                 ·simp only [Act.put, qT, qZ, qS, i64_w, i32_w]; rfl
                 refine pure_ (i := 8) (N := some 86) (v := ?_) (a' := ?_) #[true, true, true, true, true, true, true, true, true, false, false, false, false] rfl rfl (any_of HT_.out (by kernel_rfl)) (fun _ _ _ h => h) (Or.inl ⟨by rfl, ?_⟩) ?_ ?_; rotate_left
                 ·intro w'; go_simp
                  with_reducible rfl
                 rotate_left
                 ·simp only [Act.put, qT, qZ, qS, i64_w, i32_w]; rfl
                 refine take_ (i := 9) (N := some 87) (v := ?_) (a' := ?_) #[true, true, true, true, true, true, true, true, true, true, false, false, false] rfl rfl (take_ofW HT_.out HW_.out (by kernel_rfl)) (fun _ _ _ h => h) (Or.inl ⟨by rfl, ?_⟩) hHeld ?_ ?_; rotate_left
                 ·rintro w' ⟨s0, s1, s2, s3, s4, s5⟩; go_simp
                  with_reducible rfl
                 rotate_left
                 ·simp only [Act.put, qT, qZ, qS, i64_w, i32_w]; rfl
                 refine take_ (i := 10) (N := some 88) (v := ?_) (a' := ?_) #[true, true, true, true, true, true, true, true, true, true, true, false, false] rfl rfl (take_ofW HT_.out HW_.out (by kernel_rfl)) (fun _ _ _ h => h) (Or.inl ⟨by rfl, ?_⟩) hHeld ?_ ?_; rotate_left
                 ·rintro w' ⟨s0, s1, s2, s3, s4, s5⟩; go_simp
                  with_reducible rfl
                 rotate_left
                 ·simp only [Act.put, qT, qZ, qS, i64_w, i32_w]; rfl
                 refine pure_ (i := 11) (N := some 89) (v := ?_) (a' := ?_) #[true, true, true, true, true, true, true, true, true, true, true, true, false] rfl rfl (any_of HT_.out (by kernel_rfl)) (fun _ _ _ h => h) (Or.inl ⟨by rfl, ?_⟩) ?_ ?_; rotate_left
                 ·intro w'; go_simp
                  with_reducible rfl
                 rotate_left
                 ·simp only [Act.put, qT, qZ, qS, i64_w, i32_w]; rfl
                 refine pure_ (i := 12) (N := some 90) (v := ?_) (a' := ?_) #[true, true, true, true, true, true, true, true, true, true, true, true, true] rfl rfl (any_of HT_.out (by kernel_rfl)) (fun _ _ _ h => h) (Or.inl ⟨by rfl, ?_⟩) ?_ ?_; rotate_left
                 ·intro w'; go_simp
                  with_reducible rfl
                 rotate_left
                 ·simp only [Act.put, qT, qZ, qS, i64_w, i32_w]; rfl
                 refine done_ (done_of HT_.out (by kernel_rfl)) ?_; (try go_wp2); go_ret; exact ⟨by first | rfl | (simp [errW_none, errW_some] <;> rfl) | (simp [*, errW_none, errW_some] <;> rfl), PX HB⟩
               ·rw [if_neg c41] at H; exact absurd H (by simp)
              ·rw [if_neg c40] at H; have c40b0 : ((t485.length : Int) == 0) = false := beq_eq_false_iff_ne.mpr c40; (try (have c40b0q := c40b0; simp only [hl3_20] at c40b0q)); have c40b1 : ((t485.length : Int) != 0) = true := bne_iff_ne.mpr c40; (try (have c40b1q := c40b1; simp only [hl3_20] at c40b1q)); have c40b2 : ¬ (t485 = []) := fun h_ => c40 (by rw [h_]; rfl)
               have H' := AQ H; clear H; have hcz51_0 : wr.cell? ⟨gb457, 0, none⟩ = some (.int .i64 t458) := (blk_cell BK457.out 0).trans rfl; have hcz51_1 : wr.cell? ⟨gb457, 1, none⟩ = some (.slice Ao9 t459.length co9) := (blk_cell BK457.out 1).trans rfl; have hcz51_2 : wr.cell? ⟨gb457, 2, none⟩ = some (.slice (some ad471) t462.length co10) := (blk_cell BK457.out 2).trans rfl; have hfz51_0 := blk_frozen BK457.out 0; have hfz51_1 := blk_frozen BK457.out 1; have hfz51_2 := blk_frozen BK457.out 2; (try go_wp2_with (first | ((with_reducible refine gate_callee (f := 13) rfl ?_); refine gL (some 75) rfl rfl Tryd.func13 #[ptrOf (.slice Ao23 t483.length co23), .int .i64 x8_4] rfl ?_; (with_reducible refine (elim_System_Value.calls k4 _ _ t483 x8_4 t484 t485 _ ?side1 ?side2 ?side3 A39.out).mono ?_); (case side1 => first | exact HT.out | exact TabIn.below HT.out (PX HB) | (repeat (first | apply TabIn.drewN | apply TabIn.drew | exact HT.out))); (case side2 => exact QC HO_3); (case side3 => exact (Kd.R_reads' HO_3.out).2.1); rintro e w52 ⟨v486, v488, rfl, ho0, ho1, hb⟩; refine ⟨_, rfl, ?_⟩; have n0_ := AQ (Kd.R_elder' (PR HO_3) (Kd.R_base ho0) hb); have n1_ := AQ (Kd.S_elder' (PS HO_458001) (Kd.R_base ho0) hb); have n2_ := AQ (Kd.R_below (PR HO_458002) hb); have n3_ := AQ (Kd.R_lower ho0 (below_size (PX HB))); have n4_ := AQ (Kd.R_lower ho1 (below_size (PX HB))); have n5_ := AQ (blk_below (g := gb457) (o := .cells #[.int .i64 t458, .slice Ao9 t459.length co9, .slice (some ad471) t462.length co10] 25 (0, 0)) (PK BK457) hb); have n6_ := AQ (below_step (PX HB) hb); clear HO_3; clear HO_458001; clear HO_458002; clear BK457; clear HB; have HO_3 := n0_; have HO_458001 := n1_; have HO_458002 := n2_; have HO487 := n3_; have HO489 := n4_; have BK457 := n5_; have HB := n6_; clear n0_ n1_ n2_ n3_ n4_ n5_ n6_; (try clear hb); (try clear hb2); (try clear hk); (try clear hi); (try clear ho0); (try clear ho1)))); have n0_ := AQ (Kd.R_drew HO_3.out); have n1_ := AQ (Kd.S_drew HO_458001.out); have n2_ := AQ (Kd.R_drew HO_458002.out); have n3_ := AQ (Kd.R_drew HO487.out); have n4_ := AQ (Kd.R_drew HO489.out); have n5_ := AQ (blk_drew BK457.out); have n6_ := AQ (below_drew1 HB.out); clear HO_3; clear HO_458001; clear HO_458002; clear HO487; clear HO489; clear BK457; clear HB; have HO_3 := n0_; have HO_458001 := n1_; have HO_458002 := n2_; have HO487 := n3_; have HO489 := n4_; have BK457 := n5_; have HB := n6_; clear n0_ n1_ n2_ n3_ n4_ n5_ n6_; obtain ⟨Ao54, co54, eo54⟩ := Kd.R_slice HO489.out; (first | subst eo54 | (injection eo54 with f1_ f2_ f3_; have f4_ := f1_.symm; have f5_ := f3_.symm; clear f1_ f2_ f3_; subst f4_; subst f5_)); refine start_ (n := 13) (S := fun w' => True) (ds := []) #[false, false, false, false, false, false, false, false, false, false, false, false, false] (by kernel_rfl) rfl rfl trivial (fun hHeld => ?_); refine with_tabW geyserlaw05_ElimTrue.tab15 geyserlaw05_ElimTrue.bits15 (fun HT_ HW_ => ?_)
               generalize w52.drew = w53 at HO_3 HO_458001 HO_458002 HO487 HO489 BK457 HB hHeld ⊢; refine pure_ (i := 0) (N := some 78) (v := ?_) (a' := ?_) #[true, false, false, false, false, false, false, false, false, false, false, false, false] rfl rfl (any_of HT_.out (by kernel_rfl)) (fun _ _ _ h => h) (Or.inl ⟨by rfl, ?_⟩) ?_ ?_; rotate_left
               ·intro w'; go_simp
                with_reducible rfl
               rotate_left
               ·simp only [Act.put, qT, qZ, qS, i64_w, i32_w]; rfl
               refine pure_ (i := 1) (N := some 79) (v := ?_) (a' := ?_) #[true, true, false, false, false, false, false, false, false, false, false, false, false] rfl rfl (any_of HT_.out (by kernel_rfl)) (fun _ _ _ h => h) (Or.inl ⟨by rfl, ?_⟩) ?_ ?_; rotate_left
               ·intro w'; go_simp
                with_reducible rfl
               rotate_left
               ·simp only [Act.put, qT, qZ, qS, i64_w, i32_w]; rfl
               refine pure_ (i := 2) (N := some 80) (v := ?_) (a' := ?_) #[true, true, true, false, false, false, false, false, false, false, false, false, false] rfl rfl (any_of HT_.out (by kernel_rfl)) (fun _ _ _ h => h) (Or.inl ⟨by rfl, ?_⟩) ?_ ?_; rotate_left
               ·intro w'; go_simp
                with_reducible rfl
               rotate_left
               ·simp only [Act.put, qT, qZ, qS, i64_w, i32_w]; rfl
               refine pure_ (i := 3) (N := some 81) (v := undef) (a' := ?_) #[true, true, true, true, false, false, false, false, false, false, false, false, false] rfl rfl (any_of HT_.out (by kernel_rfl)) (fun _ _ _ h => h) (Or.inr ⟨by rfl, rfl⟩) ?_ ?_; rotate_left
               ·simp only [Act.put, qT, qZ, qS, i64_w, i32_w]; rfl
               refine pure_ (i := 4) (N := some 82) (v := undef) (a' := ?_) #[true, true, true, true, true, false, false, false, false, false, false, false, false] rfl rfl (any_of HT_.out (by kernel_rfl)) (fun _ _ _ h => h) (Or.inr ⟨by rfl, rfl⟩) ?_ ?_; rotate_left
               ·simp only [Act.put, qT, qZ, qS, i64_w, i32_w]; rfl
               refine pure_ (i := 5) (N := some 83) (v := undef) (a' := ?_) #[true, true, true, true, true, true, false, false, false, false, false, false, false] rfl rfl (any_of HT_.out (by kernel_rfl)) (fun _ _ _ h => h) (Or.inr ⟨by rfl, rfl⟩) ?_ ?_; rotate_left
               ·simp only [Act.put, qT, qZ, qS, i64_w, i32_w]; rfl
               refine pure_ (i := 6) (N := some 84) (v := undef) (a' := ?_) #[true, true, true, true, true, true, true, false, false, false, false, false, false] rfl rfl (any_of HT_.out (by kernel_rfl)) (fun _ _ _ h => h) (Or.inr ⟨by rfl, rfl⟩) ?_ ?_; rotate_left
               ·simp only [Act.put, qT, qZ, qS, i64_w, i32_w]; rfl
               refine pure_ (i := 7) (N := some 85) (v := undef) (a' := ?_) #[true, true, true, true, true, true, true, true, false, false, false, false, false] rfl rfl (any_of HT_.out (by kernel_rfl)) (fun _ _ _ h => h) (Or.inr ⟨by rfl, rfl⟩) ?_ ?_; rotate_left
               ·simp only [Act.put, qT, qZ, qS, i64_w, i32_w]; rfl
               refine pure_ (i := 8) (N := some 86) (v := undef) (a' := ?_) #[true, true, true, true, true, true, true, true, true, false, false, false, false] rfl rfl (any_of HT_.out (by kernel_rfl)) (fun _ _ _ h => h) (Or.inr ⟨by rfl, rfl⟩) ?_ ?_; rotate_left
               ·simp only [Act.put, qT, qZ, qS, i64_w, i32_w]; rfl
               refine pure_ (i := 9) (N := some 87) (v := undef) (a' := ?_) #[true, true, true, true, true, true, true, true, true, true, false, false, false] rfl rfl (any_of HT_.out (by kernel_rfl)) (fun _ _ _ h => h) (Or.inr ⟨by rfl, rfl⟩) ?_ ?_; rotate_left
               ·simp only [Act.put, qT, qZ, qS, i64_w, i32_w]; rfl
               refine pure_ (i := 10) (N := some 88) (v := undef) (a' := ?_) #[true, true, true, true, true, true, true, true, true, true, true, false, false] rfl rfl (any_of HT_.out (by kernel_rfl)) (fun _ _ _ h => h) (Or.inr ⟨by rfl, rfl⟩) ?_ ?_; rotate_left
               ·simp only [Act.put, qT, qZ, qS, i64_w, i32_w]; rfl
               refine pure_ (i := 11) (N := some 89) (v := undef) (a' := ?_) #[true, true, true, true, true, true, true, true, true, true, true, true, false] rfl rfl (any_of HT_.out (by kernel_rfl)) (fun _ _ _ h => h) (Or.inr ⟨by rfl, rfl⟩) ?_ ?_; rotate_left
               ·simp only [Act.put, qT, qZ, qS, i64_w, i32_w]; rfl
               refine pure_ (i := 12) (N := some 90) (v := ?_) (a' := ?_) #[true, true, true, true, true, true, true, true, true, true, true, true, true] rfl rfl (any_of HT_.out (by kernel_rfl)) (fun _ _ _ h => h) (Or.inl ⟨by rfl, ?_⟩) ?_ ?_; rotate_left
               ·intro w'; go_simp
                with_reducible rfl
               rotate_left
               ·simp only [Act.put, qT, qZ, qS, i64_w, i32_w]; rfl
               refine done_ (done_of HT_.out (by kernel_rfl)) ?_; (try go_wp2); go_roundg k4
               case measure => have := HJ3.out; have := HK2.out; have := HJ20.out; have := HK4.out; omega
               case rel => exact ⟨(wrap64 (x8_4 + 1)), (by first | rfl | (simp; done) | (simp [*]; done)), H', ⟨by have := HJ3.out; have := HK2.out; have := HJ20.out; have := HK4.out; omega⟩, ⟨by (try simp only [hl3_20]); (with_reducible repeat (first | apply Kd.R_alloc | apply Kd.R_drewN | apply Kd.R_drew)); exact Kd.R_mono HO_3.out (fun _ hk => hk.1)⟩, ⟨by (try simp only [hl3_20]); (with_reducible repeat (first | apply Kd.S_alloc | apply Kd.S_drewN | apply Kd.S_drew)); exact Kd.S_mono HO_458001.out (fun _ hk => trivial)⟩, ⟨by (try simp only [hl3_20]); (with_reducible repeat (first | apply Kd.R_alloc | apply Kd.R_drewN | apply Kd.R_drew)); exact HO_458002.out⟩, ⟨by (try simp only [hl3_20]); (with_reducible repeat (first | refine blk_drewN ?_ _ | refine blk_drew ?_ | refine blk_alloc ?_ _)); exact BK457.out⟩, ⟨PX HB⟩⟩
             ·rw [if_neg c38] at H; have c38b0 : decide (x8_4 < (t459.length : Int)) = false := decide_eq_false c38; (try (have c38b0q := c38b0; simp only [hl3_20] at c38b0q)); clear c38; have H' := AQ H; clear H; have hcz55_0 : wr.cell? ⟨gb457, 0, none⟩ = some (.int .i64 t458) := (blk_cell BK457.out 0).trans rfl; have hcz55_1 : wr.cell? ⟨gb457, 1, none⟩ = some (.slice Ao9 t459.length co9) := (blk_cell BK457.out 1).trans rfl; have hcz55_2 : wr.cell? ⟨gb457, 2, none⟩ = some (.slice (some ad471) t462.length co10) := (blk_cell BK457.out 2).trans rfl; have hfz55_0 := blk_frozen BK457.out 0; have hfz55_1 := blk_frozen BK457.out 1; have hfz55_2 := blk_frozen BK457.out 2; go_wp2; (try simp only [← hl3_20]); go_roundg k4
              case measure => have := HJ3.out; have := HK2.out; have := HJ20.out; have := HK4.out; omega
              case rel => exact ⟨(t483), (wrap64 (x5_2 + 1)), (by first | rfl | (simp; done) | (simp [*]; done)), H', ⟨by have := HJ3.out; have := HK2.out; have := HJ20.out; have := HK4.out; omega⟩, ⟨by (try simp only [hl3_20]); (with_reducible repeat (first | apply Kd.R_alloc | apply Kd.R_drewN | apply Kd.R_drew)); exact HO_3.out⟩, ⟨by (try simp only [hl3_20]); (with_reducible repeat (first | apply Kd.S_alloc | apply Kd.S_drewN | apply Kd.S_drew)); exact HO_458001.out⟩, ⟨by (try simp only [hl3_20]); (with_reducible repeat (first | apply Kd.R_alloc | apply Kd.R_drewN | apply Kd.R_drew)); exact HO_458002.out⟩, ⟨by (try simp only [hl3_20]); (with_reducible repeat (first | refine blk_drewN ?_ _ | refine blk_drew ?_ | refine blk_alloc ?_ _)); exact BK457.out⟩, ⟨PX HB⟩⟩
       ·rw [if_neg c18] at H; exact absurd H (by simp)
      ·rw [if_neg c17] at H; have c17b0 : decide (x5_2 < (t462.length : Int)) = false := decide_eq_false c17; clear c17; replace H := Option.bind_eq_some_iff.mp H; obtain ⟨⟨t491, t492⟩, A560, H⟩ := H; replace H : ((elim_System_Whole.f x3_2).bind fun t497 => (if (t497 == ((t492.length : Int) == 0)) = true then (if (t492.length : Int) = 0 then ((geyserref04_Same.f k2 t491 t459).bind fun t498 => (if t498 = true then ((elim_System_Clashed.f x3_2).bind fun t499 => (if t499 = true then (some false) else ((geyserlaw05_awake.f k2).bind fun t500 => (some t500)))) else (some false))) else ((elim_System_Clashed.f x3_2).bind fun t501 => (if t501 = true then (some false) else ((geyserlaw05_awake.f k2).bind fun t502 => (some t502))))) else (some false))) = some r := H; have A56 := AQ A560; clear A560; replace H := Option.bind_eq_some_iff.mp H; obtain ⟨t497, A570, H⟩ := H; replace H : (if (t497 == ((t492.length : Int) == 0)) = true then (if (t492.length : Int) = 0 then ((geyserref04_Same.f k2 t491 t459).bind fun t498 => (if t498 = true then ((elim_System_Clashed.f x3_2).bind fun t499 => (if t499 = true then (some false) else ((geyserlaw05_awake.f k2).bind fun t500 => (some t500)))) else (some false))) else ((elim_System_Clashed.f x3_2).bind fun t501 => (if t501 = true then (some false) else ((geyserlaw05_awake.f k2).bind fun t502 => (some t502))))) else (some false)) = some r := H; have A57 := AQ A570; clear A570
       by_cases c58 : (t497 == ((t492.length : Int) == 0)) = true
       ·rw [if_pos c58] at H; have c58b0 : (t497 == ((t492.length : Int) == 0)) = true := c58; (try (have c58b1 : decide (t497 = ((t492.length : Int) == 0)) = true := by simpa using c58)); (try (have c58b2 : (t497 == ((t492.length : Int) == 0)) = true := by simpa using c58)); clear c58
        by_cases c59 : (t492.length : Int) = 0
        ·rw [if_pos c59] at H; have c59b0 : ((t492.length : Int) == 0) = true := beq_iff_eq.mpr c59; have c58t : t497 = true := (by simpa [c59b0] using c58b0); have c59b1 : ((t492.length : Int) != 0) = false := bne_eq_false_iff_eq.mpr c59; clear c59; replace H := Option.bind_eq_some_iff.mp H; obtain ⟨t498, A600, H⟩ := H; replace H : (if t498 = true then ((elim_System_Clashed.f x3_2).bind fun t499 => (if t499 = true then (some false) else ((geyserlaw05_awake.f k2).bind fun t500 => (some t500)))) else (some false)) = some r := H; have A60 := AQ A600; clear A600
         by_cases c61 : t498 = true
         ·subst c61; have H1 : ((elim_System_Clashed.f x3_2).bind fun t499 => (if t499 = true then (some false) else ((geyserlaw05_awake.f k2).bind fun t500 => (some t500)))) = some r := (by rw [if_pos rfl] at H; exact H); clear H; have H := H1; clear H1; replace H := Option.bind_eq_some_iff.mp H; obtain ⟨t499, A620, H⟩ := H; replace H : (if t499 = true then (some false) else ((geyserlaw05_awake.f k2).bind fun t500 => (some t500))) = some r := H; have A62 := AQ A620; clear A620
          by_cases c63 : t499 = true
          ·subst c63; have H1 : (some false) = some r := (by rw [if_pos rfl] at H; exact H); clear H; have H := H1; clear H1; obtain rfl := Option.some.inj H; have hcz64_0 : wr.cell? ⟨gb457, 0, none⟩ = some (.int .i64 t458) := (blk_cell BK457.out 0).trans rfl; have hcz64_1 : wr.cell? ⟨gb457, 1, none⟩ = some (.slice Ao9 t459.length co9) := (blk_cell BK457.out 1).trans rfl; have hcz64_2 : wr.cell? ⟨gb457, 2, none⟩ = some (.slice Ao10 t462.length co10) := (blk_cell BK457.out 2).trans rfl; have hfz64_0 := blk_frozen BK457.out 0; have hfz64_1 := blk_frozen BK457.out 1; have hfz64_2 := blk_frozen BK457.out 2; obtain ⟨Ao65, co65, eo65⟩ := Kd.R_slice HO_3.out; subst eo65; (try go_wp2_with (first | ((with_reducible refine gate_callee (f := 17) rfl ?_); refine gL (some 93) rfl rfl Tryd.func17 #[ptrOf (.slice Ao65 x3_2.length co65)] rfl ?_; (with_reducible refine (elim_System_All.calls k2 _ _ x3_2 t491 t492 _ ?side1 ?side2 ?side3 A56.out).mono ?_); (case side1 => first | exact HT.out | exact TabIn.below HT.out (PX HB) | (repeat (first | apply TabIn.drewN | apply TabIn.drew | exact HT.out))); (case side2 => exact QC HO_3); (case side3 => exact (Kd.R_reads' HO_3.out).2.1); rintro e w66 ⟨v493, v495, rfl, ho0, ho1, hb⟩; refine ⟨_, rfl, ?_⟩; have n0_ := AQ (Kd.R_below (PR HO_3) hb); have n1_ := AQ (Kd.S_elder' (PS HO_458001) (Kd.S_base ho0) hb); have n2_ := AQ (Kd.R_below (PR HO_458002) hb); have n3_ := AQ (Kd.S_lower (Kd.S_new' ho0 (Kd.S_lt (PS HO_458001))) (below_size (PX HB))); have n4_ := AQ (Kd.R_lower ho1 (below_size (PX HB))); have n5_ := AQ (blk_below (g := gb457) (o := .cells #[.int .i64 t458, .slice Ao9 t459.length co9, .slice Ao10 t462.length co10] 25 (0, 0)) (PK BK457) hb); have n6_ := AQ (below_step (PX HB) hb); clear HO_3; clear HO_458001; clear HO_458002; clear BK457; clear HB; have HO_3 := n0_; have HO_458001 := n1_; have HO_458002 := n2_; have HO494 := n3_; have HO496 := n4_; have BK457 := n5_; have HB := n6_; clear n0_ n1_ n2_ n3_ n4_ n5_ n6_; (try clear hb); (try clear hb2); (try clear hk); (try clear hi); (try clear ho0); (try clear ho1)))); have n0_ := AQ (Kd.R_drew HO_3.out); have n1_ := AQ (Kd.S_drew HO_458001.out); have n2_ := AQ (Kd.R_drew HO_458002.out); have n3_ := AQ (Kd.S_drew HO494.out); have n4_ := AQ (Kd.R_drew HO496.out); have n5_ := AQ (blk_drew BK457.out); have n6_ := AQ (below_drew1 HB.out); clear HO_3; clear HO_458001; clear HO_458002; clear HO494; clear HO496; clear BK457; clear HB; have HO_3 := n0_; have HO_458001 := n1_; have HO_458002 := n2_; have HO494 := n3_; have HO496 := n4_; have BK457 := n5_; have HB := n6_; clear n0_ n1_ n2_ n3_ n4_ n5_ n6_; obtain ⟨Ao68, co68, eo68⟩ := Kd.R_slice HO496.out; (first | subst eo68 | (injection eo68 with f1_ f2_ f3_; have f4_ := f1_.symm; have f5_ := f3_.symm; clear f1_ f2_ f3_; subst f4_; subst f5_)); refine start_ (n := 24) (S := fun w' => w'.cell? ⟨gb457, 0, none⟩ = some (.int .i64 t458) ∧ w'.cell? ⟨gb457, 1, none⟩ = some (.slice Ao9 t459.length co9) ∧ w'.cell? ⟨gb457, 2, none⟩ = some (.slice Ao10 t462.length co10)) (ds := []) #[false, false, false, false, false, false, false, false, false, false, false, false, false, false, false, false, false, false, false, false, false, false, false, false] (by kernel_rfl) rfl rfl ⟨(blk_cell BK457.out 0).trans rfl, (blk_cell BK457.out 1).trans rfl, (blk_cell BK457.out 2).trans rfl⟩ (fun hHeld => ?_); refine with_tabW geyserlaw05_ElimTrue.tab18 geyserlaw05_ElimTrue.bits18 (fun HT_ HW_ => ?_)
           generalize w66.drew = w67 at HO_3 HO_458001 HO_458002 HO494 HO496 BK457 HB hHeld ⊢; refine pure_ (i := 0) (N := some 96) (v := ?_) (a' := ?_) #[true, false, false, false, false, false, false, false, false, false, false, false, false, false, false, false, false, false, false, false, false, false, false, false] rfl rfl (any_of HT_.out (by kernel_rfl)) (fun _ _ _ h => h) (Or.inl ⟨by rfl, ?_⟩) ?_ ?_; rotate_left
           ·intro w'; go_simp
            with_reducible rfl
           rotate_left
           ·simp only [Act.put, qT, qZ, qS, i64_w, i32_w]; rfl
           refine pure_ (i := 2) (N := some 98) (v := ?_) (a' := ?_) #[true, false, true, false, false, false, false, false, false, false, false, false, false, false, false, false, false, false, false, false, false, false, false, false] rfl rfl (any_of HT_.out (by kernel_rfl)) (fun _ _ _ h => h) (Or.inl ⟨by rfl, ?_⟩) ?_ ?_; rotate_left
           ·intro w'; go_simp
            with_reducible rfl
           rotate_left
           ·simp only [Act.put, qT, qZ, qS, i64_w, i32_w]; rfl
           refine pure_ (i := 3) (N := some 99) (v := ?_) (a' := ?_) #[true, false, true, true, false, false, false, false, false, false, false, false, false, false, false, false, false, false, false, false, false, false, false, false] rfl rfl (any_of HT_.out (by kernel_rfl)) (fun _ _ _ h => h) (Or.inl ⟨by rfl, ?_⟩) ?_ ?_; rotate_left
           ·intro w'; go_simp
            with_reducible rfl
           rotate_left
           ·simp only [Act.put, qT, qZ, qS, i64_w, i32_w]; rfl
           refine one_ (i := 1) (N := some 97) #[true, true, true, true, false, false, false, false, false, false, false, false, false, false, false, false, false, false, false, false, false, false, false, false] rfl rfl (one_of HT_.out (by kernel_rfl)) (by decide) (fun K hK => ?_); refine goes_ Tryd.func18 (by kernel_rfl) rfl #[ptrOf (.slice Ao65 x3_2.length co65)] (by rfl) rfl rfl (by (try simp only [List.map_toArray, List.map_cons, List.map_nil]); first | done | rfl | (simp only [List.length_drop, List.length_take]; rfl)) ?_
           with_reducible refine (elim_System_Whole.calls _ _ x3_2 t497 _ ?side1 ?side2 A57.out).mono ?_
           (case side1 => exact QC HO_3); (case side2 => exact (Kd.R_reads' HO_3.out).2.1); rintro e w69 ⟨rfl, hb⟩; refine ⟨_, rfl, ?_⟩; have n0_ := AQ (Kd.R_below (PR HO_3) hb); have n1_ := AQ (Kd.S_below (PS HO_458001) hb); have n2_ := AQ (Kd.R_below (PR HO_458002) hb); have n3_ := AQ (Kd.S_below (PS HO494) hb); have n4_ := AQ (Kd.R_below (PR HO496) hb); have n5_ := AQ (blk_below (g := gb457) (o := .cells #[.int .i64 t458, .slice Ao9 t459.length co9, .slice Ao10 t462.length co10] 25 (0, 0)) (PK BK457) hb); have n6_ := AQ (below_step (PX HB) hb); clear HO_3; clear HO_458001; clear HO_458002; clear HO494; clear HO496; clear BK457; clear HB; have HO_3 := n0_; have HO_458001 := n1_; have HO_458002 := n2_; have HO494 := n3_; have HO496 := n4_; have BK457 := n5_; have HB := n6_; clear n0_ n1_ n2_ n3_ n4_ n5_ n6_; (try clear hb); (try clear hb2); (try clear hk); (try clear hi); obtain ⟨Ao70, co70, eo70⟩ := Kd.S_slice HO494.out; (first | subst eo70 | (injection eo70 with f1_ f2_ f3_; have f4_ := f1_.symm; have f5_ := f3_.symm; clear f1_ f2_ f3_; subst f4_; subst f5_)); refine hK.out _ _ ⟨(blk_cell BK457.out 0).trans rfl, (blk_cell BK457.out 1).trans rfl, (blk_cell BK457.out 2).trans rfl⟩ (fun hHeld => ?_); clear hK K; refine norm_ (a' := ?_) ?_ ?_; rotate_left
           ·show Act.put _ (some 97) _ = _
            simp only [Act.put, qT, qZ, qS, i64_w, i32_w]; rfl
           refine pure_ (i := 4) (N := some 100) (v := ?_) (a' := ?_) #[true, true, true, true, true, false, false, false, false, false, false, false, false, false, false, false, false, false, false, false, false, false, false, false] rfl rfl (any_of HT_.out (by kernel_rfl)) (fun _ _ _ h => h) (Or.inl ⟨by rfl, ?_⟩) ?_ ?_; rotate_left
           ·intro w'; go_simp
            with_reducible rfl
           rotate_left
           ·simp only [Act.put, qT, qZ, qS, i64_w, i32_w]; rfl
           refine pure_ (i := 5) (N := some 101) (v := ?_) (a' := ?_) #[true, true, true, true, true, true, false, false, false, false, false, false, false, false, false, false, false, false, false, false, false, false, false, false] rfl rfl (any_of HT_.out (by kernel_rfl)) (fun _ _ _ h => h) (Or.inl ⟨by rfl, ?_⟩) ?_ ?_; rotate_left
           ·intro w'; go_simp
            with_reducible rfl
           rotate_left
           ·simp only [Act.put, qT, qZ, qS, i64_w, i32_w]; rfl
           refine pure_ (i := 6) (N := some 102) (v := ?_) (a' := ?_) #[true, true, true, true, true, true, true, false, false, false, false, false, false, false, false, false, false, false, false, false, false, false, false, false] rfl rfl (any_of HT_.out (by kernel_rfl)) (fun _ _ _ h => h) (Or.inl ⟨by rfl, ?_⟩) ?_ ?_; rotate_left
           ·intro w'; go_simp
            with_reducible rfl
           rotate_left
           ·simp only [Act.put, qT, qZ, qS, i64_w, i32_w]; rfl
           refine pure_ (i := 7) (N := some 103) (v := ?_) (a' := ?_) #[true, true, true, true, true, true, true, true, false, false, false, false, false, false, false, false, false, false, false, false, false, false, false, false] rfl rfl (any_of HT_.out (by kernel_rfl)) (fun _ _ _ h => h) (Or.inl ⟨by rfl, ?_⟩) ?_ ?_; rotate_left
           ·intro w'; go_simp
            with_reducible rfl
           rotate_left
           ·simp only [Act.put, qT, qZ, qS, i64_w, i32_w]; rfl
           refine pure_ (i := 8) (N := some 104) (v := ?_) (a' := ?_) #[true, true, true, true, true, true, true, true, true, false, false, false, false, false, false, false, false, false, false, false, false, false, false, false] rfl rfl (any_of HT_.out (by kernel_rfl)) (fun _ _ _ h => h) (Or.inl ⟨by rfl, ?_⟩) ?_ ?_; rotate_left
           ·intro w'; go_simp
            with_reducible rfl
           rotate_left
           ·simp only [Act.put, qT, qZ, qS, i64_w, i32_w]; rfl
           refine pure_ (i := 9) (N := some 105) (v := ?_) (a' := ?_) #[true, true, true, true, true, true, true, true, true, true, false, false, false, false, false, false, false, false, false, false, false, false, false, false] rfl rfl (any_of HT_.out (by kernel_rfl)) (fun _ _ _ h => h) (Or.inl ⟨by rfl, ?_⟩) ?_ ?_; rotate_left
           ·intro w'; go_simp
            with_reducible rfl
           rotate_left
           ·simp only [Act.put, qT, qZ, qS, i64_w, i32_w]; rfl
           refine pure_ (i := 10) (N := some 106) (v := ?_) (a' := ?_) #[true, true, true, true, true, true, true, true, true, true, true, false, false, false, false, false, false, false, false, false, false, false, false, false] rfl rfl (any_of HT_.out (by kernel_rfl)) (fun _ _ _ h => h) (Or.inl ⟨by rfl, ?_⟩) ?_ ?_; rotate_left
           ·intro w'; go_simp
            with_reducible rfl
           rotate_left
           ·simp only [Act.put, qT, qZ, qS, i64_w, i32_w]; rfl
           refine take_ (i := 11) (N := some 107) (v := ?_) (a' := ?_) #[true, true, true, true, true, true, true, true, true, true, true, true, false, false, false, false, false, false, false, false, false, false, false, false] rfl rfl (take_ofW HT_.out HW_.out (by kernel_rfl)) (fun _ _ _ h => h) (Or.inl ⟨by rfl, ?_⟩) hHeld ?_ ?_; rotate_left
           ·rintro w' ⟨s0, s1, s2⟩; go_simp
            with_reducible rfl
           rotate_left
           ·simp only [Act.put, qT, qZ, qS, i64_w, i32_w]; rfl
           refine one_ (i := 12) (N := some 108) #[true, true, true, true, true, true, true, true, true, true, true, true, true, false, false, false, false, false, false, false, false, false, false, false] rfl rfl (one_of HT_.out (by kernel_rfl)) (by decide) (fun K hK => ?_); refine goes_ Tryd.func19 (by kernel_rfl) rfl #[.slice Ao70 t491.length co70, .slice Ao9 t459.length co9] (by rfl) rfl rfl (by (try simp only [List.map_toArray, List.map_cons, List.map_nil]); first | done | rfl | (simp only [List.length_drop, List.length_take]; rfl)) ?_
           with_reducible refine (geyserref04_Same.calls k2 _ _ t491 _ _ t459 true _ ?side1 ?side2 ?side3 ?side4 A60.out).mono ?_
           (case side1 => repeat (first | exact (Kd.S_reads' HO494.out).2.2 | (with_reducible refine Kd.C_alloc ?_ _) | (with_reducible refine Kd.C_drewN ?_ _) | (with_reducible refine Kd.C_drew ?_))); (case side2 => exact (Kd.S_reads' HO494.out).2.1); (case side3 => repeat (first | exact (Kd.S_reads' HO_458001.out).2.2 | (with_reducible refine Kd.C_alloc ?_ _) | (with_reducible refine Kd.C_drewN ?_ _) | (with_reducible refine Kd.C_drew ?_))); (case side4 => exact (Kd.S_reads' HO_458001.out).2.1); rintro e w' ⟨rfl, ⟨nd, rfl⟩⟩; refine ⟨_, rfl, ?_⟩; refine hK.out _ _ ⟨(blk_cell BK457.out 0).trans rfl, (blk_cell BK457.out 1).trans rfl, (blk_cell BK457.out 2).trans rfl⟩ (fun hHeld => ?_); clear hK K; refine norm_ (a' := ?_) ?_ ?_; rotate_left
           ·show Act.put _ (some 108) _ = _
            simp only [Act.put, qT, qZ, qS, i64_w, i32_w]; rfl
           refine pure_ (i := 13) (N := some 109) (v := ?_) (a' := ?_) #[true, true, true, true, true, true, true, true, true, true, true, true, true, true, false, false, false, false, false, false, false, false, false, false] rfl rfl (any_of HT_.out (by kernel_rfl)) (fun _ _ _ h => h) (Or.inl ⟨by rfl, ?_⟩) ?_ ?_; rotate_left
           ·intro w'; go_simp
            with_reducible rfl
           rotate_left
           ·simp only [Act.put, qT, qZ, qS, i64_w, i32_w]; rfl
           refine pure_ (i := 14) (N := some 110) (v := ?_) (a' := ?_) #[true, true, true, true, true, true, true, true, true, true, true, true, true, true, true, false, false, false, false, false, false, false, false, false] rfl rfl (any_of HT_.out (by kernel_rfl)) (fun _ _ _ h => h) (Or.inl ⟨by rfl, ?_⟩) ?_ ?_; rotate_left
           ·intro w'; go_simp
            with_reducible rfl
           rotate_left
           ·simp only [Act.put, qT, qZ, qS, i64_w, i32_w]; rfl
           refine pure_ (i := 15) (N := some 111) (v := ?_) (a' := ?_) #[true, true, true, true, true, true, true, true, true, true, true, true, true, true, true, true, false, false, false, false, false, false, false, false] rfl rfl (any_of HT_.out (by kernel_rfl)) (fun _ _ _ h => h) (Or.inl ⟨by rfl, ?_⟩) ?_ ?_; rotate_left
           ·intro w'; go_simp
            with_reducible rfl
           rotate_left
           ·simp only [Act.put, qT, qZ, qS, i64_w, i32_w]; rfl
           refine pure_ (i := 16) (N := some 112) (v := ?_) (a' := ?_) #[true, true, true, true, true, true, true, true, true, true, true, true, true, true, true, true, true, false, false, false, false, false, false, false] rfl rfl (any_of HT_.out (by kernel_rfl)) (fun _ _ _ h => h) (Or.inl ⟨by rfl, ?_⟩) ?_ ?_; rotate_left
           ·intro w'; go_simp
            with_reducible rfl
           rotate_left
           ·simp only [Act.put, qT, qZ, qS, i64_w, i32_w]; rfl
           refine one_ (i := 17) (N := some 113) #[true, true, true, true, true, true, true, true, true, true, true, true, true, true, true, true, true, true, false, false, false, false, false, false] rfl rfl (one_of HT_.out (by kernel_rfl)) (by decide) (fun K hK => ?_); refine goes_ Tryd.func20 (by kernel_rfl) rfl #[ptrOf (.slice Ao65 x3_2.length co65)] (by rfl) rfl rfl (by (try simp only [List.map_toArray, List.map_cons, List.map_nil]); first | done | rfl | (simp only [List.length_drop, List.length_take]; rfl)) ?_
           with_reducible refine (elim_System_Clashed.calls _ _ x3_2 true _ ?side1 ?side2 A62.out).mono ?_
           (case side1 => exact QC HO_3); (case side2 => exact (Kd.R_reads' HO_3.out).2.1); rintro e w71 ⟨rfl, hb⟩; refine ⟨_, rfl, ?_⟩; have n0_ := AQ (Kd.R_below (PR HO_3) hb); have n1_ := AQ (Kd.S_below (PS HO_458001) hb); have n2_ := AQ (Kd.R_below (PR HO_458002) hb); have n3_ := AQ (Kd.S_below (PS HO494) hb); have n4_ := AQ (Kd.R_below (PR HO496) hb); have n5_ := AQ (blk_below (g := gb457) (o := .cells #[.int .i64 t458, .slice Ao9 t459.length co9, .slice Ao10 t462.length co10] 25 (0, 0)) (PK BK457) hb); have n6_ := AQ (below_step (PX HB) hb); clear HO_3; clear HO_458001; clear HO_458002; clear HO494; clear HO496; clear BK457; clear HB; have HO_3 := n0_; have HO_458001 := n1_; have HO_458002 := n2_; have HO494 := n3_; have HO496 := n4_; have BK457 := n5_; have HB := n6_; clear n0_ n1_ n2_ n3_ n4_ n5_ n6_; (try clear hb); (try clear hb2); (try clear hk); (try clear hi); refine hK.out _ _ ⟨(blk_cell BK457.out 0).trans rfl, (blk_cell BK457.out 1).trans rfl, (blk_cell BK457.out 2).trans rfl⟩ (fun hHeld => ?_); clear hK K; refine norm_ (a' := ?_) ?_ ?_; rotate_left
           ·show Act.put _ (some 113) _ = _
            simp only [Act.put, qT, qZ, qS, i64_w, i32_w]; rfl
           refine pure_ (i := 18) (N := some 114) (v := ?_) (a' := ?_) #[true, true, true, true, true, true, true, true, true, true, true, true, true, true, true, true, true, true, true, false, false, false, false, false] rfl rfl (any_of HT_.out (by kernel_rfl)) (fun _ _ _ h => h) (Or.inl ⟨by rfl, ?_⟩) ?_ ?_; rotate_left
           ·intro w'; go_simp
            with_reducible rfl
           rotate_left
           ·simp only [Act.put, qT, qZ, qS, i64_w, i32_w]; rfl
           refine pure_ (i := 19) (N := some 115) (v := ?_) (a' := ?_) #[true, true, true, true, true, true, true, true, true, true, true, true, true, true, true, true, true, true, true, true, false, false, false, false] rfl rfl (any_of HT_.out (by kernel_rfl)) (fun _ _ _ h => h) (Or.inl ⟨by rfl, ?_⟩) ?_ ?_; rotate_left
           ·intro w'; go_simp
            with_reducible rfl
           rotate_left
           ·simp only [Act.put, qT, qZ, qS, i64_w, i32_w]; rfl
           refine pure_ (i := 20) (N := some 116) (v := ?_) (a' := ?_) #[true, true, true, true, true, true, true, true, true, true, true, true, true, true, true, true, true, true, true, true, true, false, false, false] rfl rfl (any_of HT_.out (by kernel_rfl)) (fun _ _ _ h => h) (Or.inl ⟨by rfl, ?_⟩) ?_ ?_; rotate_left
           ·intro w'; go_simp
            with_reducible rfl
           rotate_left
           ·simp only [Act.put, qT, qZ, qS, i64_w, i32_w]; rfl
           refine pure_ (i := 21) (N := some 117) (v := undef) (a' := ?_) #[true, true, true, true, true, true, true, true, true, true, true, true, true, true, true, true, true, true, true, true, true, true, false, false] rfl rfl (any_of HT_.out (by kernel_rfl)) (fun _ _ _ h => h) (Or.inr ⟨by rfl, rfl⟩) ?_ ?_; rotate_left
           ·simp only [Act.put, qT, qZ, qS, i64_w, i32_w]; rfl
           refine pure_ (i := 22) (N := some 118) (v := ?_) (a' := ?_) #[true, true, true, true, true, true, true, true, true, true, true, true, true, true, true, true, true, true, true, true, true, true, true, false] rfl rfl (any_of HT_.out (by kernel_rfl)) (fun _ _ _ h => h) (Or.inl ⟨by rfl, ?_⟩) ?_ ?_; rotate_left
           ·intro w'; go_simp
            with_reducible rfl
           rotate_left
           ·simp only [Act.put, qT, qZ, qS, i64_w, i32_w]; rfl
           refine pure_ (i := 23) (N := some 2) (v := ?_) (a' := ?_) #[true, true, true, true, true, true, true, true, true, true, true, true, true, true, true, true, true, true, true, true, true, true, true, true] rfl rfl (any_of HT_.out (by kernel_rfl)) (fun _ _ _ h => h) (Or.inl ⟨by rfl, ?_⟩) ?_ ?_; rotate_left
           ·intro w'; go_simp
            with_reducible rfl
           rotate_left
           ·simp only [Act.put, qT, qZ, qS, i64_w, i32_w]; rfl
           refine done_ (done_of HT_.out (by kernel_rfl)) ?_; (try go_wp2); go_ret; exact ⟨by first | rfl | (simp [errW_none, errW_some] <;> rfl) | (simp [*, errW_none, errW_some] <;> rfl), PX HB⟩
          ·replace c63 := Bool.eq_false_iff.mpr c63; subst c63; have H1 : ((geyserlaw05_awake.f k2).bind fun t500 => (some t500)) = some r := (by rw [if_neg (show ¬ (false = true) by decide)] at H; exact H); clear H; have H := H1; clear H1; replace H := Option.bind_eq_some_iff.mp H; obtain ⟨t500, A720, H⟩ := H; replace H : (some t500) = some r := H; have A72 := AQ A720; clear A720; obtain rfl := Option.some.inj H; have hcz73_0 : wr.cell? ⟨gb457, 0, none⟩ = some (.int .i64 t458) := (blk_cell BK457.out 0).trans rfl; have hcz73_1 : wr.cell? ⟨gb457, 1, none⟩ = some (.slice Ao9 t459.length co9) := (blk_cell BK457.out 1).trans rfl; have hcz73_2 : wr.cell? ⟨gb457, 2, none⟩ = some (.slice Ao10 t462.length co10) := (blk_cell BK457.out 2).trans rfl; have hfz73_0 := blk_frozen BK457.out 0; have hfz73_1 := blk_frozen BK457.out 1; have hfz73_2 := blk_frozen BK457.out 2; obtain ⟨Ao74, co74, eo74⟩ := Kd.R_slice HO_3.out; subst eo74; (try go_wp2_with (first | ((with_reducible refine gate_callee (f := 17) rfl ?_); refine gL (some 93) rfl rfl Tryd.func17 #[ptrOf (.slice Ao74 x3_2.length co74)] rfl ?_; (with_reducible refine (elim_System_All.calls k2 _ _ x3_2 t491 t492 _ ?side1 ?side2 ?side3 A56.out).mono ?_); (case side1 => first | exact HT.out | exact TabIn.below HT.out (PX HB) | (repeat (first | apply TabIn.drewN | apply TabIn.drew | exact HT.out))); (case side2 => exact QC HO_3); (case side3 => exact (Kd.R_reads' HO_3.out).2.1); rintro e w75 ⟨v493, v495, rfl, ho0, ho1, hb⟩; refine ⟨_, rfl, ?_⟩; have n0_ := AQ (Kd.R_below (PR HO_3) hb); have n1_ := AQ (Kd.S_elder' (PS HO_458001) (Kd.S_base ho0) hb); have n2_ := AQ (Kd.R_below (PR HO_458002) hb); have n3_ := AQ (Kd.S_lower (Kd.S_new' ho0 (Kd.S_lt (PS HO_458001))) (below_size (PX HB))); have n4_ := AQ (Kd.R_lower ho1 (below_size (PX HB))); have n5_ := AQ (blk_below (g := gb457) (o := .cells #[.int .i64 t458, .slice Ao9 t459.length co9, .slice Ao10 t462.length co10] 25 (0, 0)) (PK BK457) hb); have n6_ := AQ (below_step (PX HB) hb); clear HO_3; clear HO_458001; clear HO_458002; clear BK457; clear HB; have HO_3 := n0_; have HO_458001 := n1_; have HO_458002 := n2_; have HO494 := n3_; have HO496 := n4_; have BK457 := n5_; have HB := n6_; clear n0_ n1_ n2_ n3_ n4_ n5_ n6_; (try clear hb); (try clear hb2); (try clear hk); (try clear hi); (try clear ho0); (try clear ho1)))); have n0_ := AQ (Kd.R_drew HO_3.out); have n1_ := AQ (Kd.S_drew HO_458001.out); have n2_ := AQ (Kd.R_drew HO_458002.out); have n3_ := AQ (Kd.S_drew HO494.out); have n4_ := AQ (Kd.R_drew HO496.out); have n5_ := AQ (blk_drew BK457.out); have n6_ := AQ (below_drew1 HB.out); clear HO_3; clear HO_458001; clear HO_458002; clear HO494; clear HO496; clear BK457; clear HB; have HO_3 := n0_; have HO_458001 := n1_; have HO_458002 := n2_; have HO494 := n3_; have HO496 := n4_; have BK457 := n5_; have HB := n6_; clear n0_ n1_ n2_ n3_ n4_ n5_ n6_; obtain ⟨Ao77, co77, eo77⟩ := Kd.R_slice HO496.out; (first | subst eo77 | (injection eo77 with f1_ f2_ f3_; have f4_ := f1_.symm; have f5_ := f3_.symm; clear f1_ f2_ f3_; subst f4_; subst f5_)); refine start_ (n := 24) (S := fun w' => w'.cell? ⟨gb457, 0, none⟩ = some (.int .i64 t458) ∧ w'.cell? ⟨gb457, 1, none⟩ = some (.slice Ao9 t459.length co9) ∧ w'.cell? ⟨gb457, 2, none⟩ = some (.slice Ao10 t462.length co10)) (ds := []) #[false, false, false, false, false, false, false, false, false, false, false, false, false, false, false, false, false, false, false, false, false, false, false, false] (by kernel_rfl) rfl rfl ⟨(blk_cell BK457.out 0).trans rfl, (blk_cell BK457.out 1).trans rfl, (blk_cell BK457.out 2).trans rfl⟩ (fun hHeld => ?_); refine with_tabW geyserlaw05_ElimTrue.tab18 geyserlaw05_ElimTrue.bits18 (fun HT_ HW_ => ?_)
           generalize w75.drew = w76 at HO_3 HO_458001 HO_458002 HO494 HO496 BK457 HB hHeld ⊢; refine pure_ (i := 0) (N := some 96) (v := ?_) (a' := ?_) #[true, false, false, false, false, false, false, false, false, false, false, false, false, false, false, false, false, false, false, false, false, false, false, false] rfl rfl (any_of HT_.out (by kernel_rfl)) (fun _ _ _ h => h) (Or.inl ⟨by rfl, ?_⟩) ?_ ?_; rotate_left
           ·intro w'; go_simp
            with_reducible rfl
           rotate_left
           ·simp only [Act.put, qT, qZ, qS, i64_w, i32_w]; rfl
           refine pure_ (i := 2) (N := some 98) (v := ?_) (a' := ?_) #[true, false, true, false, false, false, false, false, false, false, false, false, false, false, false, false, false, false, false, false, false, false, false, false] rfl rfl (any_of HT_.out (by kernel_rfl)) (fun _ _ _ h => h) (Or.inl ⟨by rfl, ?_⟩) ?_ ?_; rotate_left
           ·intro w'; go_simp
            with_reducible rfl
           rotate_left
           ·simp only [Act.put, qT, qZ, qS, i64_w, i32_w]; rfl
           refine pure_ (i := 3) (N := some 99) (v := ?_) (a' := ?_) #[true, false, true, true, false, false, false, false, false, false, false, false, false, false, false, false, false, false, false, false, false, false, false, false] rfl rfl (any_of HT_.out (by kernel_rfl)) (fun _ _ _ h => h) (Or.inl ⟨by rfl, ?_⟩) ?_ ?_; rotate_left
           ·intro w'; go_simp
            with_reducible rfl
           rotate_left
           ·simp only [Act.put, qT, qZ, qS, i64_w, i32_w]; rfl
           refine one_ (i := 1) (N := some 97) #[true, true, true, true, false, false, false, false, false, false, false, false, false, false, false, false, false, false, false, false, false, false, false, false] rfl rfl (one_of HT_.out (by kernel_rfl)) (by decide) (fun K hK => ?_); refine goes_ Tryd.func18 (by kernel_rfl) rfl #[ptrOf (.slice Ao74 x3_2.length co74)] (by rfl) rfl rfl (by (try simp only [List.map_toArray, List.map_cons, List.map_nil]); first | done | rfl | (simp only [List.length_drop, List.length_take]; rfl)) ?_
           with_reducible refine (elim_System_Whole.calls _ _ x3_2 t497 _ ?side1 ?side2 A57.out).mono ?_
           (case side1 => exact QC HO_3); (case side2 => exact (Kd.R_reads' HO_3.out).2.1); rintro e w78 ⟨rfl, hb⟩; refine ⟨_, rfl, ?_⟩; have n0_ := AQ (Kd.R_below (PR HO_3) hb); have n1_ := AQ (Kd.S_below (PS HO_458001) hb); have n2_ := AQ (Kd.R_below (PR HO_458002) hb); have n3_ := AQ (Kd.S_below (PS HO494) hb); have n4_ := AQ (Kd.R_below (PR HO496) hb); have n5_ := AQ (blk_below (g := gb457) (o := .cells #[.int .i64 t458, .slice Ao9 t459.length co9, .slice Ao10 t462.length co10] 25 (0, 0)) (PK BK457) hb); have n6_ := AQ (below_step (PX HB) hb); clear HO_3; clear HO_458001; clear HO_458002; clear HO494; clear HO496; clear BK457; clear HB; have HO_3 := n0_; have HO_458001 := n1_; have HO_458002 := n2_; have HO494 := n3_; have HO496 := n4_; have BK457 := n5_; have HB := n6_; clear n0_ n1_ n2_ n3_ n4_ n5_ n6_; (try clear hb); (try clear hb2); (try clear hk); (try clear hi); obtain ⟨Ao79, co79, eo79⟩ := Kd.S_slice HO494.out; (first | subst eo79 | (injection eo79 with f1_ f2_ f3_; have f4_ := f1_.symm; have f5_ := f3_.symm; clear f1_ f2_ f3_; subst f4_; subst f5_)); refine hK.out _ _ ⟨(blk_cell BK457.out 0).trans rfl, (blk_cell BK457.out 1).trans rfl, (blk_cell BK457.out 2).trans rfl⟩ (fun hHeld => ?_); clear hK K; refine norm_ (a' := ?_) ?_ ?_; rotate_left
           ·show Act.put _ (some 97) _ = _
            simp only [Act.put, qT, qZ, qS, i64_w, i32_w]; rfl
           refine pure_ (i := 4) (N := some 100) (v := ?_) (a' := ?_) #[true, true, true, true, true, false, false, false, false, false, false, false, false, false, false, false, false, false, false, false, false, false, false, false] rfl rfl (any_of HT_.out (by kernel_rfl)) (fun _ _ _ h => h) (Or.inl ⟨by rfl, ?_⟩) ?_ ?_; rotate_left
           ·intro w'; go_simp
            with_reducible rfl
           rotate_left
           ·simp only [Act.put, qT, qZ, qS, i64_w, i32_w]; rfl
           refine pure_ (i := 5) (N := some 101) (v := ?_) (a' := ?_) #[true, true, true, true, true, true, false, false, false, false, false, false, false, false, false, false, false, false, false, false, false, false, false, false] rfl rfl (any_of HT_.out (by kernel_rfl)) (fun _ _ _ h => h) (Or.inl ⟨by rfl, ?_⟩) ?_ ?_; rotate_left
           ·intro w'; go_simp
            with_reducible rfl
           rotate_left
           ·simp only [Act.put, qT, qZ, qS, i64_w, i32_w]; rfl
           refine pure_ (i := 6) (N := some 102) (v := ?_) (a' := ?_) #[true, true, true, true, true, true, true, false, false, false, false, false, false, false, false, false, false, false, false, false, false, false, false, false] rfl rfl (any_of HT_.out (by kernel_rfl)) (fun _ _ _ h => h) (Or.inl ⟨by rfl, ?_⟩) ?_ ?_; rotate_left
           ·intro w'; go_simp
            with_reducible rfl
           rotate_left
           ·simp only [Act.put, qT, qZ, qS, i64_w, i32_w]; rfl
           refine pure_ (i := 7) (N := some 103) (v := ?_) (a' := ?_) #[true, true, true, true, true, true, true, true, false, false, false, false, false, false, false, false, false, false, false, false, false, false, false, false] rfl rfl (any_of HT_.out (by kernel_rfl)) (fun _ _ _ h => h) (Or.inl ⟨by rfl, ?_⟩) ?_ ?_; rotate_left
           ·intro w'; go_simp
            with_reducible rfl
           rotate_left
           ·simp only [Act.put, qT, qZ, qS, i64_w, i32_w]; rfl
           refine pure_ (i := 8) (N := some 104) (v := ?_) (a' := ?_) #[true, true, true, true, true, true, true, true, true, false, false, false, false, false, false, false, false, false, false, false, false, false, false, false] rfl rfl (any_of HT_.out (by kernel_rfl)) (fun _ _ _ h => h) (Or.inl ⟨by rfl, ?_⟩) ?_ ?_; rotate_left
           ·intro w'; go_simp
            with_reducible rfl
           rotate_left
           ·simp only [Act.put, qT, qZ, qS, i64_w, i32_w]; rfl
           refine pure_ (i := 9) (N := some 105) (v := ?_) (a' := ?_) #[true, true, true, true, true, true, true, true, true, true, false, false, false, false, false, false, false, false, false, false, false, false, false, false] rfl rfl (any_of HT_.out (by kernel_rfl)) (fun _ _ _ h => h) (Or.inl ⟨by rfl, ?_⟩) ?_ ?_; rotate_left
           ·intro w'; go_simp
            with_reducible rfl
           rotate_left
           ·simp only [Act.put, qT, qZ, qS, i64_w, i32_w]; rfl
           refine pure_ (i := 10) (N := some 106) (v := ?_) (a' := ?_) #[true, true, true, true, true, true, true, true, true, true, true, false, false, false, false, false, false, false, false, false, false, false, false, false] rfl rfl (any_of HT_.out (by kernel_rfl)) (fun _ _ _ h => h) (Or.inl ⟨by rfl, ?_⟩) ?_ ?_; rotate_left
           ·intro w'; go_simp
            with_reducible rfl
           rotate_left
           ·simp only [Act.put, qT, qZ, qS, i64_w, i32_w]; rfl
           refine take_ (i := 11) (N := some 107) (v := ?_) (a' := ?_) #[true, true, true, true, true, true, true, true, true, true, true, true, false, false, false, false, false, false, false, false, false, false, false, false] rfl rfl (take_ofW HT_.out HW_.out (by kernel_rfl)) (fun _ _ _ h => h) (Or.inl ⟨by rfl, ?_⟩) hHeld ?_ ?_; rotate_left
           ·rintro w' ⟨s0, s1, s2⟩; go_simp
            with_reducible rfl
           rotate_left
           ·simp only [Act.put, qT, qZ, qS, i64_w, i32_w]; rfl
           refine one_ (i := 12) (N := some 108) #[true, true, true, true, true, true, true, true, true, true, true, true, true, false, false, false, false, false, false, false, false, false, false, false] rfl rfl (one_of HT_.out (by kernel_rfl)) (by decide) (fun K hK => ?_); refine goes_ Tryd.func19 (by kernel_rfl) rfl #[.slice Ao79 t491.length co79, .slice Ao9 t459.length co9] (by rfl) rfl rfl (by (try simp only [List.map_toArray, List.map_cons, List.map_nil]); first | done | rfl | (simp only [List.length_drop, List.length_take]; rfl)) ?_
           with_reducible refine (geyserref04_Same.calls k2 _ _ t491 _ _ t459 true _ ?side1 ?side2 ?side3 ?side4 A60.out).mono ?_
           (case side1 => repeat (first | exact (Kd.S_reads' HO494.out).2.2 | (with_reducible refine Kd.C_alloc ?_ _) | (with_reducible refine Kd.C_drewN ?_ _) | (with_reducible refine Kd.C_drew ?_))); (case side2 => exact (Kd.S_reads' HO494.out).2.1); (case side3 => repeat (first | exact (Kd.S_reads' HO_458001.out).2.2 | (with_reducible refine Kd.C_alloc ?_ _) | (with_reducible refine Kd.C_drewN ?_ _) | (with_reducible refine Kd.C_drew ?_))); (case side4 => exact (Kd.S_reads' HO_458001.out).2.1); rintro e w' ⟨rfl, ⟨nd, rfl⟩⟩; refine ⟨_, rfl, ?_⟩; refine hK.out _ _ ⟨(blk_cell BK457.out 0).trans rfl, (blk_cell BK457.out 1).trans rfl, (blk_cell BK457.out 2).trans rfl⟩ (fun hHeld => ?_); clear hK K; refine norm_ (a' := ?_) ?_ ?_; rotate_left
           ·show Act.put _ (some 108) _ = _
            simp only [Act.put, qT, qZ, qS, i64_w, i32_w]; rfl
           refine pure_ (i := 13) (N := some 109) (v := ?_) (a' := ?_) #[true, true, true, true, true, true, true, true, true, true, true, true, true, true, false, false, false, false, false, false, false, false, false, false] rfl rfl (any_of HT_.out (by kernel_rfl)) (fun _ _ _ h => h) (Or.inl ⟨by rfl, ?_⟩) ?_ ?_; rotate_left
           ·intro w'; go_simp
            with_reducible rfl
           rotate_left
           ·simp only [Act.put, qT, qZ, qS, i64_w, i32_w]; rfl
           refine pure_ (i := 14) (N := some 110) (v := ?_) (a' := ?_) #[true, true, true, true, true, true, true, true, true, true, true, true, true, true, true, false, false, false, false, false, false, false, false, false] rfl rfl (any_of HT_.out (by kernel_rfl)) (fun _ _ _ h => h) (Or.inl ⟨by rfl, ?_⟩) ?_ ?_; rotate_left
           ·intro w'; go_simp
            with_reducible rfl
           rotate_left
           ·simp only [Act.put, qT, qZ, qS, i64_w, i32_w]; rfl
           refine pure_ (i := 15) (N := some 111) (v := ?_) (a' := ?_) #[true, true, true, true, true, true, true, true, true, true, true, true, true, true, true, true, false, false, false, false, false, false, false, false] rfl rfl (any_of HT_.out (by kernel_rfl)) (fun _ _ _ h => h) (Or.inl ⟨by rfl, ?_⟩) ?_ ?_; rotate_left
           ·intro w'; go_simp
            with_reducible rfl
           rotate_left
           ·simp only [Act.put, qT, qZ, qS, i64_w, i32_w]; rfl
           refine pure_ (i := 16) (N := some 112) (v := ?_) (a' := ?_) #[true, true, true, true, true, true, true, true, true, true, true, true, true, true, true, true, true, false, false, false, false, false, false, false] rfl rfl (any_of HT_.out (by kernel_rfl)) (fun _ _ _ h => h) (Or.inl ⟨by rfl, ?_⟩) ?_ ?_; rotate_left
           ·intro w'; go_simp
            with_reducible rfl
           rotate_left
           ·simp only [Act.put, qT, qZ, qS, i64_w, i32_w]; rfl
           refine one_ (i := 17) (N := some 113) #[true, true, true, true, true, true, true, true, true, true, true, true, true, true, true, true, true, true, false, false, false, false, false, false] rfl rfl (one_of HT_.out (by kernel_rfl)) (by decide) (fun K hK => ?_); refine goes_ Tryd.func20 (by kernel_rfl) rfl #[ptrOf (.slice Ao74 x3_2.length co74)] (by rfl) rfl rfl (by (try simp only [List.map_toArray, List.map_cons, List.map_nil]); first | done | rfl | (simp only [List.length_drop, List.length_take]; rfl)) ?_
           with_reducible refine (elim_System_Clashed.calls _ _ x3_2 false _ ?side1 ?side2 A62.out).mono ?_
           (case side1 => exact QC HO_3); (case side2 => exact (Kd.R_reads' HO_3.out).2.1); rintro e w80 ⟨rfl, hb⟩; refine ⟨_, rfl, ?_⟩; have n0_ := AQ (Kd.R_below (PR HO_3) hb); have n1_ := AQ (Kd.S_below (PS HO_458001) hb); have n2_ := AQ (Kd.R_below (PR HO_458002) hb); have n3_ := AQ (Kd.S_below (PS HO494) hb); have n4_ := AQ (Kd.R_below (PR HO496) hb); have n5_ := AQ (blk_below (g := gb457) (o := .cells #[.int .i64 t458, .slice Ao9 t459.length co9, .slice Ao10 t462.length co10] 25 (0, 0)) (PK BK457) hb); have n6_ := AQ (below_step (PX HB) hb); clear HO_3; clear HO_458001; clear HO_458002; clear HO494; clear HO496; clear BK457; clear HB; have HO_3 := n0_; have HO_458001 := n1_; have HO_458002 := n2_; have HO494 := n3_; have HO496 := n4_; have BK457 := n5_; have HB := n6_; clear n0_ n1_ n2_ n3_ n4_ n5_ n6_; (try clear hb); (try clear hb2); (try clear hk); (try clear hi); refine hK.out _ _ ⟨(blk_cell BK457.out 0).trans rfl, (blk_cell BK457.out 1).trans rfl, (blk_cell BK457.out 2).trans rfl⟩ (fun hHeld => ?_); clear hK K; refine norm_ (a' := ?_) ?_ ?_; rotate_left
           ·show Act.put _ (some 113) _ = _
            simp only [Act.put, qT, qZ, qS, i64_w, i32_w]; rfl
           refine pure_ (i := 18) (N := some 114) (v := ?_) (a' := ?_) #[true, true, true, true, true, true, true, true, true, true, true, true, true, true, true, true, true, true, true, false, false, false, false, false] rfl rfl (any_of HT_.out (by kernel_rfl)) (fun _ _ _ h => h) (Or.inl ⟨by rfl, ?_⟩) ?_ ?_; rotate_left
           ·intro w'; go_simp
            with_reducible rfl
           rotate_left
           ·simp only [Act.put, qT, qZ, qS, i64_w, i32_w]; rfl
           refine pure_ (i := 19) (N := some 115) (v := ?_) (a' := ?_) #[true, true, true, true, true, true, true, true, true, true, true, true, true, true, true, true, true, true, true, true, false, false, false, false] rfl rfl (any_of HT_.out (by kernel_rfl)) (fun _ _ _ h => h) (Or.inl ⟨by rfl, ?_⟩) ?_ ?_; rotate_left
           ·intro w'; go_simp
            with_reducible rfl
           rotate_left
           ·simp only [Act.put, qT, qZ, qS, i64_w, i32_w]; rfl
           refine pure_ (i := 20) (N := some 116) (v := ?_) (a' := ?_) #[true, true, true, true, true, true, true, true, true, true, true, true, true, true, true, true, true, true, true, true, true, false, false, false] rfl rfl (any_of HT_.out (by kernel_rfl)) (fun _ _ _ h => h) (Or.inl ⟨by rfl, ?_⟩) ?_ ?_; rotate_left
           ·intro w'; go_simp
            with_reducible rfl
           rotate_left
           ·simp only [Act.put, qT, qZ, qS, i64_w, i32_w]; rfl
           refine one_ (i := 21) (N := some 117) #[true, true, true, true, true, true, true, true, true, true, true, true, true, true, true, true, true, true, true, true, true, true, false, false] rfl rfl (one_of HT_.out (by kernel_rfl)) (by decide) (fun K hK => ?_); refine goes_ Tryd.func15 (by kernel_rfl) rfl #[] (by rfl) rfl rfl (by (try simp only [List.map_toArray, List.map_cons, List.map_nil]); first | done | rfl | (simp only [List.length_drop, List.length_take]; rfl)) ?_
           with_reducible refine (geyserlaw05_awake.calls k2  t500 _ ?side1 A72.out).mono ?_
           (case side1 => first | exact HT.out | exact TabIn.below HT.out (PX HB) | (repeat (first | apply TabIn.drewN | apply TabIn.drew | exact HT.out))); rintro e w81 ⟨rfl, hb⟩; refine ⟨_, rfl, ?_⟩; have n0_ := AQ (Kd.R_below (PR HO_3) hb); have n1_ := AQ (Kd.S_below (PS HO_458001) hb); have n2_ := AQ (Kd.R_below (PR HO_458002) hb); have n3_ := AQ (Kd.S_below (PS HO494) hb); have n4_ := AQ (Kd.R_below (PR HO496) hb); have n5_ := AQ (blk_below (g := gb457) (o := .cells #[.int .i64 t458, .slice Ao9 t459.length co9, .slice Ao10 t462.length co10] 25 (0, 0)) (PK BK457) hb); have n6_ := AQ (below_step (PX HB) hb); clear HO_3; clear HO_458001; clear HO_458002; clear HO494; clear HO496; clear BK457; clear HB; have HO_3 := n0_; have HO_458001 := n1_; have HO_458002 := n2_; have HO494 := n3_; have HO496 := n4_; have BK457 := n5_; have HB := n6_; clear n0_ n1_ n2_ n3_ n4_ n5_ n6_; (try clear hb); (try clear hb2); (try clear hk); (try clear hi); refine hK.out _ _ ⟨(blk_cell BK457.out 0).trans rfl, (blk_cell BK457.out 1).trans rfl, (blk_cell BK457.out 2).trans rfl⟩ (fun hHeld => ?_); clear hK K; refine norm_ (a' := ?_) ?_ ?_; rotate_left
           ·show Act.put _ (some 117) _ = _
            simp only [Act.put, qT, qZ, qS, i64_w, i32_w]; rfl
           refine pure_ (i := 22) (N := some 118) (v := ?_) (a' := ?_) #[true, true, true, true, true, true, true, true, true, true, true, true, true, true, true, true, true, true, true, true, true, true, true, false] rfl rfl (any_of HT_.out (by kernel_rfl)) (fun _ _ _ h => h) (Or.inl ⟨by rfl, ?_⟩) ?_ ?_; rotate_left
           ·intro w'; go_simp
            with_reducible rfl
           rotate_left
           ·simp only [Act.put, qT, qZ, qS, i64_w, i32_w]; rfl
           refine pure_ (i := 23) (N := some 2) (v := ?_) (a' := ?_) #[true, true, true, true, true, true, true, true, true, true, true, true, true, true, true, true, true, true, true, true, true, true, true, true] rfl rfl (any_of HT_.out (by kernel_rfl)) (fun _ _ _ h => h) (Or.inl ⟨by rfl, ?_⟩) ?_ ?_; rotate_left
           ·intro w'; go_simp
            with_reducible rfl
           rotate_left
           ·simp only [Act.put, qT, qZ, qS, i64_w, i32_w]; rfl
           refine done_ (done_of HT_.out (by kernel_rfl)) ?_; (try go_wp2); go_ret; exact ⟨by first | rfl | (simp [errW_none, errW_some] <;> rfl) | (simp [*, errW_none, errW_some] <;> rfl), PX HB⟩
         ·replace c61 := Bool.eq_false_iff.mpr c61; subst c61; have H1 : (some false) = some r := (by rw [if_neg (show ¬ (false = true) by decide)] at H; exact H); clear H; have H := H1; clear H1; obtain rfl := Option.some.inj H; have hcz82_0 : wr.cell? ⟨gb457, 0, none⟩ = some (.int .i64 t458) := (blk_cell BK457.out 0).trans rfl; have hcz82_1 : wr.cell? ⟨gb457, 1, none⟩ = some (.slice Ao9 t459.length co9) := (blk_cell BK457.out 1).trans rfl; have hcz82_2 : wr.cell? ⟨gb457, 2, none⟩ = some (.slice Ao10 t462.length co10) := (blk_cell BK457.out 2).trans rfl; have hfz82_0 := blk_frozen BK457.out 0; have hfz82_1 := blk_frozen BK457.out 1; have hfz82_2 := blk_frozen BK457.out 2; obtain ⟨Ao83, co83, eo83⟩ := Kd.R_slice HO_3.out; subst eo83; (try go_wp2_with (first | ((with_reducible refine gate_callee (f := 17) rfl ?_); refine gL (some 93) rfl rfl Tryd.func17 #[ptrOf (.slice Ao83 x3_2.length co83)] rfl ?_; (with_reducible refine (elim_System_All.calls k2 _ _ x3_2 t491 t492 _ ?side1 ?side2 ?side3 A56.out).mono ?_); (case side1 => first | exact HT.out | exact TabIn.below HT.out (PX HB) | (repeat (first | apply TabIn.drewN | apply TabIn.drew | exact HT.out))); (case side2 => exact QC HO_3); (case side3 => exact (Kd.R_reads' HO_3.out).2.1); rintro e w84 ⟨v493, v495, rfl, ho0, ho1, hb⟩; refine ⟨_, rfl, ?_⟩; have n0_ := AQ (Kd.R_below (PR HO_3) hb); have n1_ := AQ (Kd.S_elder' (PS HO_458001) (Kd.S_base ho0) hb); have n2_ := AQ (Kd.R_below (PR HO_458002) hb); have n3_ := AQ (Kd.S_lower (Kd.S_new' ho0 (Kd.S_lt (PS HO_458001))) (below_size (PX HB))); have n4_ := AQ (Kd.R_lower ho1 (below_size (PX HB))); have n5_ := AQ (blk_below (g := gb457) (o := .cells #[.int .i64 t458, .slice Ao9 t459.length co9, .slice Ao10 t462.length co10] 25 (0, 0)) (PK BK457) hb); have n6_ := AQ (below_step (PX HB) hb); clear HO_3; clear HO_458001; clear HO_458002; clear BK457; clear HB; have HO_3 := n0_; have HO_458001 := n1_; have HO_458002 := n2_; have HO494 := n3_; have HO496 := n4_; have BK457 := n5_; have HB := n6_; clear n0_ n1_ n2_ n3_ n4_ n5_ n6_; (try clear hb); (try clear hb2); (try clear hk); (try clear hi); (try clear ho0); (try clear ho1)))); have n0_ := AQ (Kd.R_drew HO_3.out); have n1_ := AQ (Kd.S_drew HO_458001.out); have n2_ := AQ (Kd.R_drew HO_458002.out); have n3_ := AQ (Kd.S_drew HO494.out); have n4_ := AQ (Kd.R_drew HO496.out); have n5_ := AQ (blk_drew BK457.out); have n6_ := AQ (below_drew1 HB.out); clear HO_3; clear HO_458001; clear HO_458002; clear HO494; clear HO496; clear BK457; clear HB; have HO_3 := n0_; have HO_458001 := n1_; have HO_458002 := n2_; have HO494 := n3_; have HO496 := n4_; have BK457 := n5_; have HB := n6_; clear n0_ n1_ n2_ n3_ n4_ n5_ n6_; obtain ⟨Ao86, co86, eo86⟩ := Kd.R_slice HO496.out; (first | subst eo86 | (injection eo86 with f1_ f2_ f3_; have f4_ := f1_.symm; have f5_ := f3_.symm; clear f1_ f2_ f3_; subst f4_; subst f5_)); refine start_ (n := 24) (S := fun w' => w'.cell? ⟨gb457, 0, none⟩ = some (.int .i64 t458) ∧ w'.cell? ⟨gb457, 1, none⟩ = some (.slice Ao9 t459.length co9) ∧ w'.cell? ⟨gb457, 2, none⟩ = some (.slice Ao10 t462.length co10)) (ds := []) #[false, false, false, false, false, false, false, false, false, false, false, false, false, false, false, false, false, false, false, false, false, false, false, false] (by kernel_rfl) rfl rfl ⟨(blk_cell BK457.out 0).trans rfl, (blk_cell BK457.out 1).trans rfl, (blk_cell BK457.out 2).trans rfl⟩ (fun hHeld => ?_); refine with_tabW geyserlaw05_ElimTrue.tab18 geyserlaw05_ElimTrue.bits18 (fun HT_ HW_ => ?_)
          generalize w84.drew = w85 at HO_3 HO_458001 HO_458002 HO494 HO496 BK457 HB hHeld ⊢; refine pure_ (i := 0) (N := some 96) (v := ?_) (a' := ?_) #[true, false, false, false, false, false, false, false, false, false, false, false, false, false, false, false, false, false, false, false, false, false, false, false] rfl rfl (any_of HT_.out (by kernel_rfl)) (fun _ _ _ h => h) (Or.inl ⟨by rfl, ?_⟩) ?_ ?_; rotate_left
          ·intro w'; go_simp
           with_reducible rfl
          rotate_left
          ·simp only [Act.put, qT, qZ, qS, i64_w, i32_w]; rfl
          refine pure_ (i := 2) (N := some 98) (v := ?_) (a' := ?_) #[true, false, true, false, false, false, false, false, false, false, false, false, false, false, false, false, false, false, false, false, false, false, false, false] rfl rfl (any_of HT_.out (by kernel_rfl)) (fun _ _ _ h => h) (Or.inl ⟨by rfl, ?_⟩) ?_ ?_; rotate_left
          ·intro w'; go_simp
           with_reducible rfl
          rotate_left
          ·simp only [Act.put, qT, qZ, qS, i64_w, i32_w]; rfl
          refine pure_ (i := 3) (N := some 99) (v := ?_) (a' := ?_) #[true, false, true, true, false, false, false, false, false, false, false, false, false, false, false, false, false, false, false, false, false, false, false, false] rfl rfl (any_of HT_.out (by kernel_rfl)) (fun _ _ _ h => h) (Or.inl ⟨by rfl, ?_⟩) ?_ ?_; rotate_left
          ·intro w'; go_simp
           with_reducible rfl
          rotate_left
          ·simp only [Act.put, qT, qZ, qS, i64_w, i32_w]; rfl
          refine one_ (i := 1) (N := some 97) #[true, true, true, true, false, false, false, false, false, false, false, false, false, false, false, false, false, false, false, false, false, false, false, false] rfl rfl (one_of HT_.out (by kernel_rfl)) (by decide) (fun K hK => ?_); refine goes_ Tryd.func18 (by kernel_rfl) rfl #[ptrOf (.slice Ao83 x3_2.length co83)] (by rfl) rfl rfl (by (try simp only [List.map_toArray, List.map_cons, List.map_nil]); first | done | rfl | (simp only [List.length_drop, List.length_take]; rfl)) ?_
          with_reducible refine (elim_System_Whole.calls _ _ x3_2 t497 _ ?side1 ?side2 A57.out).mono ?_
          (case side1 => exact QC HO_3); (case side2 => exact (Kd.R_reads' HO_3.out).2.1); rintro e w87 ⟨rfl, hb⟩; refine ⟨_, rfl, ?_⟩; have n0_ := AQ (Kd.R_below (PR HO_3) hb); have n1_ := AQ (Kd.S_below (PS HO_458001) hb); have n2_ := AQ (Kd.R_below (PR HO_458002) hb); have n3_ := AQ (Kd.S_below (PS HO494) hb); have n4_ := AQ (Kd.R_below (PR HO496) hb); have n5_ := AQ (blk_below (g := gb457) (o := .cells #[.int .i64 t458, .slice Ao9 t459.length co9, .slice Ao10 t462.length co10] 25 (0, 0)) (PK BK457) hb); have n6_ := AQ (below_step (PX HB) hb); clear HO_3; clear HO_458001; clear HO_458002; clear HO494; clear HO496; clear BK457; clear HB; have HO_3 := n0_; have HO_458001 := n1_; have HO_458002 := n2_; have HO494 := n3_; have HO496 := n4_; have BK457 := n5_; have HB := n6_; clear n0_ n1_ n2_ n3_ n4_ n5_ n6_; (try clear hb); (try clear hb2); (try clear hk); (try clear hi); obtain ⟨Ao88, co88, eo88⟩ := Kd.S_slice HO494.out; (first | subst eo88 | (injection eo88 with f1_ f2_ f3_; have f4_ := f1_.symm; have f5_ := f3_.symm; clear f1_ f2_ f3_; subst f4_; subst f5_)); refine hK.out _ _ ⟨(blk_cell BK457.out 0).trans rfl, (blk_cell BK457.out 1).trans rfl, (blk_cell BK457.out 2).trans rfl⟩ (fun hHeld => ?_); clear hK K; refine norm_ (a' := ?_) ?_ ?_; rotate_left
          ·show Act.put _ (some 97) _ = _
           simp only [Act.put, qT, qZ, qS, i64_w, i32_w]; rfl
          refine pure_ (i := 4) (N := some 100) (v := ?_) (a' := ?_) #[true, true, true, true, true, false, false, false, false, false, false, false, false, false, false, false, false, false, false, false, false, false, false, false] rfl rfl (any_of HT_.out (by kernel_rfl)) (fun _ _ _ h => h) (Or.inl ⟨by rfl, ?_⟩) ?_ ?_; rotate_left
          ·intro w'; go_simp
           with_reducible rfl
          rotate_left
          ·simp only [Act.put, qT, qZ, qS, i64_w, i32_w]; rfl
          refine pure_ (i := 5) (N := some 101) (v := ?_) (a' := ?_) #[true, true, true, true, true, true, false, false, false, false, false, false, false, false, false, false, false, false, false, false, false, false, false, false] rfl rfl (any_of HT_.out (by kernel_rfl)) (fun _ _ _ h => h) (Or.inl ⟨by rfl, ?_⟩) ?_ ?_; rotate_left
          ·intro w'; go_simp
           with_reducible rfl
          rotate_left
          ·simp only [Act.put, qT, qZ, qS, i64_w, i32_w]; rfl
          refine pure_ (i := 6) (N := some 102) (v := ?_) (a' := ?_) #[true, true, true, true, true, true, true, false, false, false, false, false, false, false, false, false, false, false, false, false, false, false, false, false] rfl rfl (any_of HT_.out (by kernel_rfl)) (fun _ _ _ h => h) (Or.inl ⟨by rfl, ?_⟩) ?_ ?_; rotate_left
          ·intro w'; go_simp
           with_reducible rfl
          rotate_left
          ·simp only [Act.put, qT, qZ, qS, i64_w, i32_w]; rfl
          refine pure_ (i := 7) (N := some 103) (v := ?_) (a' := ?_) #[true, true, true, true, true, true, true, true, false, false, false, false, false, false, false, false, false, false, false, false, false, false, false, false] rfl rfl (any_of HT_.out (by kernel_rfl)) (fun _ _ _ h => h) (Or.inl ⟨by rfl, ?_⟩) ?_ ?_; rotate_left
          ·intro w'; go_simp
           with_reducible rfl
          rotate_left
          ·simp only [Act.put, qT, qZ, qS, i64_w, i32_w]; rfl
          refine pure_ (i := 8) (N := some 104) (v := ?_) (a' := ?_) #[true, true, true, true, true, true, true, true, true, false, false, false, false, false, false, false, false, false, false, false, false, false, false, false] rfl rfl (any_of HT_.out (by kernel_rfl)) (fun _ _ _ h => h) (Or.inl ⟨by rfl, ?_⟩) ?_ ?_; rotate_left
          ·intro w'; go_simp
           with_reducible rfl
          rotate_left
          ·simp only [Act.put, qT, qZ, qS, i64_w, i32_w]; rfl
          refine pure_ (i := 9) (N := some 105) (v := ?_) (a' := ?_) #[true, true, true, true, true, true, true, true, true, true, false, false, false, false, false, false, false, false, false, false, false, false, false, false] rfl rfl (any_of HT_.out (by kernel_rfl)) (fun _ _ _ h => h) (Or.inl ⟨by rfl, ?_⟩) ?_ ?_; rotate_left
          ·intro w'; go_simp
           with_reducible rfl
          rotate_left
          ·simp only [Act.put, qT, qZ, qS, i64_w, i32_w]; rfl
          refine pure_ (i := 10) (N := some 106) (v := ?_) (a' := ?_) #[true, true, true, true, true, true, true, true, true, true, true, false, false, false, false, false, false, false, false, false, false, false, false, false] rfl rfl (any_of HT_.out (by kernel_rfl)) (fun _ _ _ h => h) (Or.inl ⟨by rfl, ?_⟩) ?_ ?_; rotate_left
          ·intro w'; go_simp
           with_reducible rfl
          rotate_left
          ·simp only [Act.put, qT, qZ, qS, i64_w, i32_w]; rfl
          refine take_ (i := 11) (N := some 107) (v := ?_) (a' := ?_) #[true, true, true, true, true, true, true, true, true, true, true, true, false, false, false, false, false, false, false, false, false, false, false, false] rfl rfl (take_ofW HT_.out HW_.out (by kernel_rfl)) (fun _ _ _ h => h) (Or.inl ⟨by rfl, ?_⟩) hHeld ?_ ?_; rotate_left
          ·rintro w' ⟨s0, s1, s2⟩; go_simp
           with_reducible rfl
          rotate_left
          ·simp only [Act.put, qT, qZ, qS, i64_w, i32_w]; rfl
          refine one_ (i := 12) (N := some 108) #[true, true, true, true, true, true, true, true, true, true, true, true, true, false, false, false, false, false, false, false, false, false, false, false] rfl rfl (one_of HT_.out (by kernel_rfl)) (by decide) (fun K hK => ?_); refine goes_ Tryd.func19 (by kernel_rfl) rfl #[.slice Ao88 t491.length co88, .slice Ao9 t459.length co9] (by rfl) rfl rfl (by (try simp only [List.map_toArray, List.map_cons, List.map_nil]); first | done | rfl | (simp only [List.length_drop, List.length_take]; rfl)) ?_
          with_reducible refine (geyserref04_Same.calls k2 _ _ t491 _ _ t459 false _ ?side1 ?side2 ?side3 ?side4 A60.out).mono ?_
          (case side1 => repeat (first | exact (Kd.S_reads' HO494.out).2.2 | (with_reducible refine Kd.C_alloc ?_ _) | (with_reducible refine Kd.C_drewN ?_ _) | (with_reducible refine Kd.C_drew ?_))); (case side2 => exact (Kd.S_reads' HO494.out).2.1); (case side3 => repeat (first | exact (Kd.S_reads' HO_458001.out).2.2 | (with_reducible refine Kd.C_alloc ?_ _) | (with_reducible refine Kd.C_drewN ?_ _) | (with_reducible refine Kd.C_drew ?_))); (case side4 => exact (Kd.S_reads' HO_458001.out).2.1); rintro e w' ⟨rfl, ⟨nd, rfl⟩⟩; refine ⟨_, rfl, ?_⟩; refine hK.out _ _ ⟨(blk_cell BK457.out 0).trans rfl, (blk_cell BK457.out 1).trans rfl, (blk_cell BK457.out 2).trans rfl⟩ (fun hHeld => ?_); clear hK K; refine norm_ (a' := ?_) ?_ ?_; rotate_left
          ·show Act.put _ (some 108) _ = _
           simp only [Act.put, qT, qZ, qS, i64_w, i32_w]; rfl
          refine pure_ (i := 13) (N := some 109) (v := ?_) (a' := ?_) #[true, true, true, true, true, true, true, true, true, true, true, true, true, true, false, false, false, false, false, false, false, false, false, false] rfl rfl (any_of HT_.out (by kernel_rfl)) (fun _ _ _ h => h) (Or.inl ⟨by rfl, ?_⟩) ?_ ?_; rotate_left
          ·intro w'; go_simp
           with_reducible rfl
          rotate_left
          ·simp only [Act.put, qT, qZ, qS, i64_w, i32_w]; rfl
          refine pure_ (i := 14) (N := some 110) (v := ?_) (a' := ?_) #[true, true, true, true, true, true, true, true, true, true, true, true, true, true, true, false, false, false, false, false, false, false, false, false] rfl rfl (any_of HT_.out (by kernel_rfl)) (fun _ _ _ h => h) (Or.inl ⟨by rfl, ?_⟩) ?_ ?_; rotate_left
          ·intro w'; go_simp
           with_reducible rfl
          rotate_left
          ·simp only [Act.put, qT, qZ, qS, i64_w, i32_w]; rfl
          refine pure_ (i := 15) (N := some 111) (v := ?_) (a' := ?_) #[true, true, true, true, true, true, true, true, true, true, true, true, true, true, true, true, false, false, false, false, false, false, false, false] rfl rfl (any_of HT_.out (by kernel_rfl)) (fun _ _ _ h => h) (Or.inl ⟨by rfl, ?_⟩) ?_ ?_; rotate_left
          ·intro w'; go_simp
           with_reducible rfl
          rotate_left
          ·simp only [Act.put, qT, qZ, qS, i64_w, i32_w]; rfl
          refine pure_ (i := 16) (N := some 112) (v := undef) (a' := ?_) #[true, true, true, true, true, true, true, true, true, true, true, true, true, true, true, true, true, false, false, false, false, false, false, false] rfl rfl (any_of HT_.out (by kernel_rfl)) (fun _ _ _ h => h) (Or.inr ⟨by rfl, rfl⟩) ?_ ?_; rotate_left
          ·simp only [Act.put, qT, qZ, qS, i64_w, i32_w]; rfl
          refine pure_ (i := 17) (N := some 113) (v := undef) (a' := ?_) #[true, true, true, true, true, true, true, true, true, true, true, true, true, true, true, true, true, true, false, false, false, false, false, false] rfl rfl (any_of HT_.out (by kernel_rfl)) (fun _ _ _ h => h) (Or.inr ⟨by rfl, rfl⟩) ?_ ?_; rotate_left
          ·simp only [Act.put, qT, qZ, qS, i64_w, i32_w]; rfl
          refine pure_ (i := 18) (N := some 114) (v := undef) (a' := ?_) #[true, true, true, true, true, true, true, true, true, true, true, true, true, true, true, true, true, true, true, false, false, false, false, false] rfl rfl (any_of HT_.out (by kernel_rfl)) (fun _ _ _ h => h) (Or.inr ⟨by rfl, rfl⟩) ?_ ?_; rotate_left
          ·simp only [Act.put, qT, qZ, qS, i64_w, i32_w]; rfl
          refine pure_ (i := 19) (N := some 115) (v := ?_) (a' := ?_) #[true, true, true, true, true, true, true, true, true, true, true, true, true, true, true, true, true, true, true, true, false, false, false, false] rfl rfl (any_of HT_.out (by kernel_rfl)) (fun _ _ _ h => h) (Or.inl ⟨by rfl, ?_⟩) ?_ ?_; rotate_left
          ·intro w'; go_simp
           with_reducible rfl
          rotate_left
          ·simp only [Act.put, qT, qZ, qS, i64_w, i32_w]; rfl
          refine pure_ (i := 20) (N := some 116) (v := ?_) (a' := ?_) #[true, true, true, true, true, true, true, true, true, true, true, true, true, true, true, true, true, true, true, true, true, false, false, false] rfl rfl (any_of HT_.out (by kernel_rfl)) (fun _ _ _ h => h) (Or.inl ⟨by rfl, ?_⟩) ?_ ?_; rotate_left
          ·intro w'; go_simp
           with_reducible rfl
          rotate_left
          ·simp only [Act.put, qT, qZ, qS, i64_w, i32_w]; rfl
          refine pure_ (i := 21) (N := some 117) (v := undef) (a' := ?_) #[true, true, true, true, true, true, true, true, true, true, true, true, true, true, true, true, true, true, true, true, true, true, false, false] rfl rfl (any_of HT_.out (by kernel_rfl)) (fun _ _ _ h => h) (Or.inr ⟨by rfl, rfl⟩) ?_ ?_; rotate_left
          ·simp only [Act.put, qT, qZ, qS, i64_w, i32_w]; rfl
          refine pure_ (i := 22) (N := some 118) (v := ?_) (a' := ?_) #[true, true, true, true, true, true, true, true, true, true, true, true, true, true, true, true, true, true, true, true, true, true, true, false] rfl rfl (any_of HT_.out (by kernel_rfl)) (fun _ _ _ h => h) (Or.inl ⟨by rfl, ?_⟩) ?_ ?_; rotate_left
          ·intro w'; go_simp
           with_reducible rfl
          rotate_left
          ·simp only [Act.put, qT, qZ, qS, i64_w, i32_w]; rfl
          refine pure_ (i := 23) (N := some 2) (v := ?_) (a' := ?_) #[true, true, true, true, true, true, true, true, true, true, true, true, true, true, true, true, true, true, true, true, true, true, true, true] rfl rfl (any_of HT_.out (by kernel_rfl)) (fun _ _ _ h => h) (Or.inl ⟨by rfl, ?_⟩) ?_ ?_; rotate_left
          ·intro w'; go_simp
           with_reducible rfl
          rotate_left
          ·simp only [Act.put, qT, qZ, qS, i64_w, i32_w]; rfl
          refine done_ (done_of HT_.out (by kernel_rfl)) ?_; (try go_wp2); go_ret; exact ⟨by first | rfl | (simp [errW_none, errW_some] <;> rfl) | (simp [*, errW_none, errW_some] <;> rfl), PX HB⟩
        ·rw [if_neg c59] at H; have c59b0 : ((t492.length : Int) == 0) = false := beq_eq_false_iff_ne.mpr c59; have c58t : t497 = false := (by simpa [c59b0] using c58b0); have c59b1 : ((t492.length : Int) != 0) = true := bne_iff_ne.mpr c59; have c59b2 : ¬ (t492 = []) := fun h_ => c59 (by rw [h_]; rfl)
         replace H := Option.bind_eq_some_iff.mp H; obtain ⟨t501, A890, H⟩ := H; replace H : (if t501 = true then (some false) else ((geyserlaw05_awake.f k2).bind fun t502 => (some t502))) = some r := H; have A89 := AQ A890; clear A890
         by_cases c90 : t501 = true
         ·subst c90; have H1 : (some false) = some r := (by rw [if_pos rfl] at H; exact H); clear H; have H := H1; clear H1; obtain rfl := Option.some.inj H; have hcz91_0 : wr.cell? ⟨gb457, 0, none⟩ = some (.int .i64 t458) := (blk_cell BK457.out 0).trans rfl; have hcz91_1 : wr.cell? ⟨gb457, 1, none⟩ = some (.slice Ao9 t459.length co9) := (blk_cell BK457.out 1).trans rfl; have hcz91_2 : wr.cell? ⟨gb457, 2, none⟩ = some (.slice Ao10 t462.length co10) := (blk_cell BK457.out 2).trans rfl; have hfz91_0 := blk_frozen BK457.out 0; have hfz91_1 := blk_frozen BK457.out 1; have hfz91_2 := blk_frozen BK457.out 2; obtain ⟨Ao92, co92, eo92⟩ := Kd.R_slice HO_3.out; subst eo92; (try go_wp2_with (first | ((with_reducible refine gate_callee (f := 17) rfl ?_); refine gL (some 93) rfl rfl Tryd.func17 #[ptrOf (.slice Ao92 x3_2.length co92)] rfl ?_; (with_reducible refine (elim_System_All.calls k2 _ _ x3_2 t491 t492 _ ?side1 ?side2 ?side3 A56.out).mono ?_); (case side1 => first | exact HT.out | exact TabIn.below HT.out (PX HB) | (repeat (first | apply TabIn.drewN | apply TabIn.drew | exact HT.out))); (case side2 => exact QC HO_3); (case side3 => exact (Kd.R_reads' HO_3.out).2.1); rintro e w93 ⟨v493, v495, rfl, ho0, ho1, hb⟩; refine ⟨_, rfl, ?_⟩; have n0_ := AQ (Kd.R_below (PR HO_3) hb); have n1_ := AQ (Kd.S_elder' (PS HO_458001) (Kd.S_base ho0) hb); have n2_ := AQ (Kd.R_below (PR HO_458002) hb); have n3_ := AQ (Kd.S_lower (Kd.S_new' ho0 (Kd.S_lt (PS HO_458001))) (below_size (PX HB))); have n4_ := AQ (Kd.R_lower ho1 (below_size (PX HB))); have n5_ := AQ (blk_below (g := gb457) (o := .cells #[.int .i64 t458, .slice Ao9 t459.length co9, .slice Ao10 t462.length co10] 25 (0, 0)) (PK BK457) hb); have n6_ := AQ (below_step (PX HB) hb); clear HO_3; clear HO_458001; clear HO_458002; clear BK457; clear HB; have HO_3 := n0_; have HO_458001 := n1_; have HO_458002 := n2_; have HO494 := n3_; have HO496 := n4_; have BK457 := n5_; have HB := n6_; clear n0_ n1_ n2_ n3_ n4_ n5_ n6_; (try clear hb); (try clear hb2); (try clear hk); (try clear hi); (try clear ho0); (try clear ho1)))); have n0_ := AQ (Kd.R_drew HO_3.out); have n1_ := AQ (Kd.S_drew HO_458001.out); have n2_ := AQ (Kd.R_drew HO_458002.out); have n3_ := AQ (Kd.S_drew HO494.out); have n4_ := AQ (Kd.R_drew HO496.out); have n5_ := AQ (blk_drew BK457.out); have n6_ := AQ (below_drew1 HB.out); clear HO_3; clear HO_458001; clear HO_458002; clear HO494; clear HO496; clear BK457; clear HB; have HO_3 := n0_; have HO_458001 := n1_; have HO_458002 := n2_; have HO494 := n3_; have HO496 := n4_; have BK457 := n5_; have HB := n6_; clear n0_ n1_ n2_ n3_ n4_ n5_ n6_; obtain ⟨Ao95, co95, eo95⟩ := Kd.R_slice HO496.out; (first | subst eo95 | (injection eo95 with f1_ f2_ f3_; have f4_ := f1_.symm; have f5_ := f3_.symm; clear f1_ f2_ f3_; subst f4_; subst f5_)); refine start_ (n := 24) (S := fun w' => True) (ds := []) #[false, false, false, false, false, false, false, false, false, false, false, false, false, false, false, false, false, false, false, false, false, false, false, false] (by kernel_rfl) rfl rfl trivial (fun hHeld => ?_); refine with_tabW geyserlaw05_ElimTrue.tab18 geyserlaw05_ElimTrue.bits18 (fun HT_ HW_ => ?_)
          generalize w93.drew = w94 at HO_3 HO_458001 HO_458002 HO494 HO496 BK457 HB hHeld ⊢; refine pure_ (i := 0) (N := some 96) (v := ?_) (a' := ?_) #[true, false, false, false, false, false, false, false, false, false, false, false, false, false, false, false, false, false, false, false, false, false, false, false] rfl rfl (any_of HT_.out (by kernel_rfl)) (fun _ _ _ h => h) (Or.inl ⟨by rfl, ?_⟩) ?_ ?_; rotate_left
          ·intro w'; go_simp
           with_reducible rfl
          rotate_left
          ·simp only [Act.put, qT, qZ, qS, i64_w, i32_w]; rfl
          refine pure_ (i := 2) (N := some 98) (v := ?_) (a' := ?_) #[true, false, true, false, false, false, false, false, false, false, false, false, false, false, false, false, false, false, false, false, false, false, false, false] rfl rfl (any_of HT_.out (by kernel_rfl)) (fun _ _ _ h => h) (Or.inl ⟨by rfl, ?_⟩) ?_ ?_; rotate_left
          ·intro w'; go_simp
           with_reducible rfl
          rotate_left
          ·simp only [Act.put, qT, qZ, qS, i64_w, i32_w]; rfl
          refine pure_ (i := 3) (N := some 99) (v := ?_) (a' := ?_) #[true, false, true, true, false, false, false, false, false, false, false, false, false, false, false, false, false, false, false, false, false, false, false, false] rfl rfl (any_of HT_.out (by kernel_rfl)) (fun _ _ _ h => h) (Or.inl ⟨by rfl, ?_⟩) ?_ ?_; rotate_left
          ·intro w'; go_simp
           with_reducible rfl
          rotate_left
          ·simp only [Act.put, qT, qZ, qS, i64_w, i32_w]; rfl
          refine one_ (i := 1) (N := some 97) #[true, true, true, true, false, false, false, false, false, false, false, false, false, false, false, false, false, false, false, false, false, false, false, false] rfl rfl (one_of HT_.out (by kernel_rfl)) (by decide) (fun K hK => ?_); refine goes_ Tryd.func18 (by kernel_rfl) rfl #[ptrOf (.slice Ao92 x3_2.length co92)] (by rfl) rfl rfl (by (try simp only [List.map_toArray, List.map_cons, List.map_nil]); first | done | rfl | (simp only [List.length_drop, List.length_take]; rfl)) ?_
          with_reducible refine (elim_System_Whole.calls _ _ x3_2 t497 _ ?side1 ?side2 A57.out).mono ?_
          (case side1 => exact QC HO_3); (case side2 => exact (Kd.R_reads' HO_3.out).2.1); rintro e w96 ⟨rfl, hb⟩; refine ⟨_, rfl, ?_⟩; have n0_ := AQ (Kd.R_below (PR HO_3) hb); have n1_ := AQ (Kd.S_below (PS HO_458001) hb); have n2_ := AQ (Kd.R_below (PR HO_458002) hb); have n3_ := AQ (Kd.S_below (PS HO494) hb); have n4_ := AQ (Kd.R_below (PR HO496) hb); have n5_ := AQ (blk_below (g := gb457) (o := .cells #[.int .i64 t458, .slice Ao9 t459.length co9, .slice Ao10 t462.length co10] 25 (0, 0)) (PK BK457) hb); have n6_ := AQ (below_step (PX HB) hb); clear HO_3; clear HO_458001; clear HO_458002; clear HO494; clear HO496; clear BK457; clear HB; have HO_3 := n0_; have HO_458001 := n1_; have HO_458002 := n2_; have HO494 := n3_; have HO496 := n4_; have BK457 := n5_; have HB := n6_; clear n0_ n1_ n2_ n3_ n4_ n5_ n6_; (try clear hb); (try clear hb2); (try clear hk); (try clear hi); refine hK.out _ _ trivial (fun hHeld => ?_); clear hK K; refine norm_ (a' := ?_) ?_ ?_; rotate_left
          ·show Act.put _ (some 97) _ = _
           simp only [Act.put, qT, qZ, qS, i64_w, i32_w]; rfl
          refine pure_ (i := 4) (N := some 100) (v := ?_) (a' := ?_) #[true, true, true, true, true, false, false, false, false, false, false, false, false, false, false, false, false, false, false, false, false, false, false, false] rfl rfl (any_of HT_.out (by kernel_rfl)) (fun _ _ _ h => h) (Or.inl ⟨by rfl, ?_⟩) ?_ ?_; rotate_left
          ·intro w'; go_simp
           with_reducible rfl
          rotate_left
          ·simp only [Act.put, qT, qZ, qS, i64_w, i32_w]; rfl
          refine pure_ (i := 5) (N := some 101) (v := ?_) (a' := ?_) #[true, true, true, true, true, true, false, false, false, false, false, false, false, false, false, false, false, false, false, false, false, false, false, false] rfl rfl (any_of HT_.out (by kernel_rfl)) (fun _ _ _ h => h) (Or.inl ⟨by rfl, ?_⟩) ?_ ?_; rotate_left
          ·intro w'; go_simp
           with_reducible rfl
          rotate_left
          ·simp only [Act.put, qT, qZ, qS, i64_w, i32_w]; rfl
          refine pure_ (i := 6) (N := some 102) (v := ?_) (a' := ?_) #[true, true, true, true, true, true, true, false, false, false, false, false, false, false, false, false, false, false, false, false, false, false, false, false] rfl rfl (any_of HT_.out (by kernel_rfl)) (fun _ _ _ h => h) (Or.inl ⟨by rfl, ?_⟩) ?_ ?_; rotate_left
          ·intro w'; go_simp
           with_reducible rfl
          rotate_left
          ·simp only [Act.put, qT, qZ, qS, i64_w, i32_w]; rfl
          refine pure_ (i := 7) (N := some 103) (v := ?_) (a' := ?_) #[true, true, true, true, true, true, true, true, false, false, false, false, false, false, false, false, false, false, false, false, false, false, false, false] rfl rfl (any_of HT_.out (by kernel_rfl)) (fun _ _ _ h => h) (Or.inl ⟨by rfl, ?_⟩) ?_ ?_; rotate_left
          ·intro w'; go_simp
           with_reducible rfl
          rotate_left
          ·simp only [Act.put, qT, qZ, qS, i64_w, i32_w]; rfl
          refine pure_ (i := 8) (N := some 104) (v := ?_) (a' := ?_) #[true, true, true, true, true, true, true, true, true, false, false, false, false, false, false, false, false, false, false, false, false, false, false, false] rfl rfl (any_of HT_.out (by kernel_rfl)) (fun _ _ _ h => h) (Or.inl ⟨by rfl, ?_⟩) ?_ ?_; rotate_left
          ·intro w'; go_simp
           with_reducible rfl
          rotate_left
          ·simp only [Act.put, qT, qZ, qS, i64_w, i32_w]; rfl
          refine pure_ (i := 9) (N := some 105) (v := undef) (a' := ?_) #[true, true, true, true, true, true, true, true, true, true, false, false, false, false, false, false, false, false, false, false, false, false, false, false] rfl rfl (any_of HT_.out (by kernel_rfl)) (fun _ _ _ h => h) (Or.inr ⟨by rfl, rfl⟩) ?_ ?_; rotate_left
          ·simp only [Act.put, qT, qZ, qS, i64_w, i32_w]; rfl
          refine pure_ (i := 10) (N := some 106) (v := undef) (a' := ?_) #[true, true, true, true, true, true, true, true, true, true, true, false, false, false, false, false, false, false, false, false, false, false, false, false] rfl rfl (any_of HT_.out (by kernel_rfl)) (fun _ _ _ h => h) (Or.inr ⟨by rfl, rfl⟩) ?_ ?_; rotate_left
          ·simp only [Act.put, qT, qZ, qS, i64_w, i32_w]; rfl
          refine pure_ (i := 11) (N := some 107) (v := undef) (a' := ?_) #[true, true, true, true, true, true, true, true, true, true, true, true, false, false, false, false, false, false, false, false, false, false, false, false] rfl rfl (any_of HT_.out (by kernel_rfl)) (fun _ _ _ h => h) (Or.inr ⟨by rfl, rfl⟩) ?_ ?_; rotate_left
          ·simp only [Act.put, qT, qZ, qS, i64_w, i32_w]; rfl
          refine pure_ (i := 12) (N := some 108) (v := undef) (a' := ?_) #[true, true, true, true, true, true, true, true, true, true, true, true, true, false, false, false, false, false, false, false, false, false, false, false] rfl rfl (any_of HT_.out (by kernel_rfl)) (fun _ _ _ h => h) (Or.inr ⟨by rfl, rfl⟩) ?_ ?_; rotate_left
          ·simp only [Act.put, qT, qZ, qS, i64_w, i32_w]; rfl
          refine pure_ (i := 13) (N := some 109) (v := ?_) (a' := ?_) #[true, true, true, true, true, true, true, true, true, true, true, true, true, true, false, false, false, false, false, false, false, false, false, false] rfl rfl (any_of HT_.out (by kernel_rfl)) (fun _ _ _ h => h) (Or.inl ⟨by rfl, ?_⟩) ?_ ?_; rotate_left
          ·intro w'; go_simp
           with_reducible rfl
          rotate_left
          ·simp only [Act.put, qT, qZ, qS, i64_w, i32_w]; rfl
          refine pure_ (i := 14) (N := some 110) (v := ?_) (a' := ?_) #[true, true, true, true, true, true, true, true, true, true, true, true, true, true, true, false, false, false, false, false, false, false, false, false] rfl rfl (any_of HT_.out (by kernel_rfl)) (fun _ _ _ h => h) (Or.inl ⟨by rfl, ?_⟩) ?_ ?_; rotate_left
          ·intro w'; go_simp
           with_reducible rfl
          rotate_left
          ·simp only [Act.put, qT, qZ, qS, i64_w, i32_w]; rfl
          refine pure_ (i := 15) (N := some 111) (v := ?_) (a' := ?_) #[true, true, true, true, true, true, true, true, true, true, true, true, true, true, true, true, false, false, false, false, false, false, false, false] rfl rfl (any_of HT_.out (by kernel_rfl)) (fun _ _ _ h => h) (Or.inl ⟨by rfl, ?_⟩) ?_ ?_; rotate_left
          ·intro w'; go_simp
           with_reducible rfl
          rotate_left
          ·simp only [Act.put, qT, qZ, qS, i64_w, i32_w]; rfl
          refine pure_ (i := 16) (N := some 112) (v := ?_) (a' := ?_) #[true, true, true, true, true, true, true, true, true, true, true, true, true, true, true, true, true, false, false, false, false, false, false, false] rfl rfl (any_of HT_.out (by kernel_rfl)) (fun _ _ _ h => h) (Or.inl ⟨by rfl, ?_⟩) ?_ ?_; rotate_left
          ·intro w'; go_simp
           with_reducible rfl
          rotate_left
          ·simp only [Act.put, qT, qZ, qS, i64_w, i32_w]; rfl
          refine one_ (i := 17) (N := some 113) #[true, true, true, true, true, true, true, true, true, true, true, true, true, true, true, true, true, true, false, false, false, false, false, false] rfl rfl (one_of HT_.out (by kernel_rfl)) (by decide) (fun K hK => ?_); refine goes_ Tryd.func20 (by kernel_rfl) rfl #[ptrOf (.slice Ao92 x3_2.length co92)] (by rfl) rfl rfl (by (try simp only [List.map_toArray, List.map_cons, List.map_nil]); first | done | rfl | (simp only [List.length_drop, List.length_take]; rfl)) ?_
          with_reducible refine (elim_System_Clashed.calls _ _ x3_2 true _ ?side1 ?side2 A89.out).mono ?_
          (case side1 => exact QC HO_3); (case side2 => exact (Kd.R_reads' HO_3.out).2.1); rintro e w97 ⟨rfl, hb⟩; refine ⟨_, rfl, ?_⟩; have n0_ := AQ (Kd.R_below (PR HO_3) hb); have n1_ := AQ (Kd.S_below (PS HO_458001) hb); have n2_ := AQ (Kd.R_below (PR HO_458002) hb); have n3_ := AQ (Kd.S_below (PS HO494) hb); have n4_ := AQ (Kd.R_below (PR HO496) hb); have n5_ := AQ (blk_below (g := gb457) (o := .cells #[.int .i64 t458, .slice Ao9 t459.length co9, .slice Ao10 t462.length co10] 25 (0, 0)) (PK BK457) hb); have n6_ := AQ (below_step (PX HB) hb); clear HO_3; clear HO_458001; clear HO_458002; clear HO494; clear HO496; clear BK457; clear HB; have HO_3 := n0_; have HO_458001 := n1_; have HO_458002 := n2_; have HO494 := n3_; have HO496 := n4_; have BK457 := n5_; have HB := n6_; clear n0_ n1_ n2_ n3_ n4_ n5_ n6_; (try clear hb); (try clear hb2); (try clear hk); (try clear hi); refine hK.out _ _ trivial (fun hHeld => ?_); clear hK K; refine norm_ (a' := ?_) ?_ ?_; rotate_left
          ·show Act.put _ (some 113) _ = _
           simp only [Act.put, qT, qZ, qS, i64_w, i32_w]; rfl
          refine pure_ (i := 18) (N := some 114) (v := ?_) (a' := ?_) #[true, true, true, true, true, true, true, true, true, true, true, true, true, true, true, true, true, true, true, false, false, false, false, false] rfl rfl (any_of HT_.out (by kernel_rfl)) (fun _ _ _ h => h) (Or.inl ⟨by rfl, ?_⟩) ?_ ?_; rotate_left
          ·intro w'; go_simp
           with_reducible rfl
          rotate_left
          ·simp only [Act.put, qT, qZ, qS, i64_w, i32_w]; rfl
          refine pure_ (i := 19) (N := some 115) (v := ?_) (a' := ?_) #[true, true, true, true, true, true, true, true, true, true, true, true, true, true, true, true, true, true, true, true, false, false, false, false] rfl rfl (any_of HT_.out (by kernel_rfl)) (fun _ _ _ h => h) (Or.inl ⟨by rfl, ?_⟩) ?_ ?_; rotate_left
          ·intro w'; go_simp
           with_reducible rfl
          rotate_left
          ·simp only [Act.put, qT, qZ, qS, i64_w, i32_w]; rfl
          refine pure_ (i := 20) (N := some 116) (v := ?_) (a' := ?_) #[true, true, true, true, true, true, true, true, true, true, true, true, true, true, true, true, true, true, true, true, true, false, false, false] rfl rfl (any_of HT_.out (by kernel_rfl)) (fun _ _ _ h => h) (Or.inl ⟨by rfl, ?_⟩) ?_ ?_; rotate_left
          ·intro w'; go_simp
           with_reducible rfl
          rotate_left
          ·simp only [Act.put, qT, qZ, qS, i64_w, i32_w]; rfl
          refine pure_ (i := 21) (N := some 117) (v := undef) (a' := ?_) #[true, true, true, true, true, true, true, true, true, true, true, true, true, true, true, true, true, true, true, true, true, true, false, false] rfl rfl (any_of HT_.out (by kernel_rfl)) (fun _ _ _ h => h) (Or.inr ⟨by rfl, rfl⟩) ?_ ?_; rotate_left
          ·simp only [Act.put, qT, qZ, qS, i64_w, i32_w]; rfl
          refine pure_ (i := 22) (N := some 118) (v := ?_) (a' := ?_) #[true, true, true, true, true, true, true, true, true, true, true, true, true, true, true, true, true, true, true, true, true, true, true, false] rfl rfl (any_of HT_.out (by kernel_rfl)) (fun _ _ _ h => h) (Or.inl ⟨by rfl, ?_⟩) ?_ ?_; rotate_left
          ·intro w'; go_simp
           with_reducible rfl
          rotate_left
          ·simp only [Act.put, qT, qZ, qS, i64_w, i32_w]; rfl
          refine pure_ (i := 23) (N := some 2) (v := ?_) (a' := ?_) #[true, true, true, true, true, true, true, true, true, true, true, true, true, true, true, true, true, true, true, true, true, true, true, true] rfl rfl (any_of HT_.out (by kernel_rfl)) (fun _ _ _ h => h) (Or.inl ⟨by rfl, ?_⟩) ?_ ?_; rotate_left
          ·intro w'; go_simp
           with_reducible rfl
          rotate_left
          ·simp only [Act.put, qT, qZ, qS, i64_w, i32_w]; rfl
          refine done_ (done_of HT_.out (by kernel_rfl)) ?_; (try go_wp2); go_ret; exact ⟨by first | rfl | (simp [errW_none, errW_some] <;> rfl) | (simp [*, errW_none, errW_some] <;> rfl), PX HB⟩
         ·replace c90 := Bool.eq_false_iff.mpr c90; subst c90; have H1 : ((geyserlaw05_awake.f k2).bind fun t502 => (some t502)) = some r := (by rw [if_neg (show ¬ (false = true) by decide)] at H; exact H); clear H; have H := H1; clear H1; replace H := Option.bind_eq_some_iff.mp H; obtain ⟨t502, A980, H⟩ := H; replace H : (some t502) = some r := H; have A98 := AQ A980; clear A980; obtain rfl := Option.some.inj H; have hcz99_0 : wr.cell? ⟨gb457, 0, none⟩ = some (.int .i64 t458) := (blk_cell BK457.out 0).trans rfl; have hcz99_1 : wr.cell? ⟨gb457, 1, none⟩ = some (.slice Ao9 t459.length co9) := (blk_cell BK457.out 1).trans rfl; have hcz99_2 : wr.cell? ⟨gb457, 2, none⟩ = some (.slice Ao10 t462.length co10) := (blk_cell BK457.out 2).trans rfl; have hfz99_0 := blk_frozen BK457.out 0; have hfz99_1 := blk_frozen BK457.out 1; have hfz99_2 := blk_frozen BK457.out 2; obtain ⟨Ao100, co100, eo100⟩ := Kd.R_slice HO_3.out; subst eo100; (try go_wp2_with (first | ((with_reducible refine gate_callee (f := 17) rfl ?_); refine gL (some 93) rfl rfl Tryd.func17 #[ptrOf (.slice Ao100 x3_2.length co100)] rfl ?_; (with_reducible refine (elim_System_All.calls k2 _ _ x3_2 t491 t492 _ ?side1 ?side2 ?side3 A56.out).mono ?_); (case side1 => first | exact HT.out | exact TabIn.below HT.out (PX HB) | (repeat (first | apply TabIn.drewN | apply TabIn.drew | exact HT.out))); (case side2 => exact QC HO_3); (case side3 => exact (Kd.R_reads' HO_3.out).2.1); rintro e w101 ⟨v493, v495, rfl, ho0, ho1, hb⟩; refine ⟨_, rfl, ?_⟩; have n0_ := AQ (Kd.R_below (PR HO_3) hb); have n1_ := AQ (Kd.S_elder' (PS HO_458001) (Kd.S_base ho0) hb); have n2_ := AQ (Kd.R_below (PR HO_458002) hb); have n3_ := AQ (Kd.S_lower (Kd.S_new' ho0 (Kd.S_lt (PS HO_458001))) (below_size (PX HB))); have n4_ := AQ (Kd.R_lower ho1 (below_size (PX HB))); have n5_ := AQ (blk_below (g := gb457) (o := .cells #[.int .i64 t458, .slice Ao9 t459.length co9, .slice Ao10 t462.length co10] 25 (0, 0)) (PK BK457) hb); have n6_ := AQ (below_step (PX HB) hb); clear HO_3; clear HO_458001; clear HO_458002; clear BK457; clear HB; have HO_3 := n0_; have HO_458001 := n1_; have HO_458002 := n2_; have HO494 := n3_; have HO496 := n4_; have BK457 := n5_; have HB := n6_; clear n0_ n1_ n2_ n3_ n4_ n5_ n6_; (try clear hb); (try clear hb2); (try clear hk); (try clear hi); (try clear ho0); (try clear ho1)))); have n0_ := AQ (Kd.R_drew HO_3.out); have n1_ := AQ (Kd.S_drew HO_458001.out); have n2_ := AQ (Kd.R_drew HO_458002.out); have n3_ := AQ (Kd.S_drew HO494.out); have n4_ := AQ (Kd.R_drew HO496.out); have n5_ := AQ (blk_drew BK457.out); have n6_ := AQ (below_drew1 HB.out); clear HO_3; clear HO_458001; clear HO_458002; clear HO494; clear HO496; clear BK457; clear HB; have HO_3 := n0_; have HO_458001 := n1_; have HO_458002 := n2_; have HO494 := n3_; have HO496 := n4_; have BK457 := n5_; have HB := n6_; clear n0_ n1_ n2_ n3_ n4_ n5_ n6_; obtain ⟨Ao103, co103, eo103⟩ := Kd.R_slice HO496.out; (first | subst eo103 | (injection eo103 with f1_ f2_ f3_; have f4_ := f1_.symm; have f5_ := f3_.symm; clear f1_ f2_ f3_; subst f4_; subst f5_)); refine start_ (n := 24) (S := fun w' => True) (ds := []) #[false, false, false, false, false, false, false, false, false, false, false, false, false, false, false, false, false, false, false, false, false, false, false, false] (by kernel_rfl) rfl rfl trivial (fun hHeld => ?_); refine with_tabW geyserlaw05_ElimTrue.tab18 geyserlaw05_ElimTrue.bits18 (fun HT_ HW_ => ?_)
          generalize w101.drew = w102 at HO_3 HO_458001 HO_458002 HO494 HO496 BK457 HB hHeld ⊢; refine pure_ (i := 0) (N := some 96) (v := ?_) (a' := ?_) #[true, false, false, false, false, false, false, false, false, false, false, false, false, false, false, false, false, false, false, false, false, false, false, false] rfl rfl (any_of HT_.out (by kernel_rfl)) (fun _ _ _ h => h) (Or.inl ⟨by rfl, ?_⟩) ?_ ?_; rotate_left
          ·intro w'; go_simp
           with_reducible rfl
          rotate_left
          ·simp only [Act.put, qT, qZ, qS, i64_w, i32_w]; rfl
          refine pure_ (i := 2) (N := some 98) (v := ?_) (a' := ?_) #[true, false, true, false, false, false, false, false, false, false, false, false, false, false, false, false, false, false, false, false, false, false, false, false] rfl rfl (any_of HT_.out (by kernel_rfl)) (fun _ _ _ h => h) (Or.inl ⟨by rfl, ?_⟩) ?_ ?_; rotate_left
          ·intro w'; go_simp
           with_reducible rfl
          rotate_left
          ·simp only [Act.put, qT, qZ, qS, i64_w, i32_w]; rfl
          refine pure_ (i := 3) (N := some 99) (v := ?_) (a' := ?_) #[true, false, true, true, false, false, false, false, false, false, false, false, false, false, false, false, false, false, false, false, false, false, false, false] rfl rfl (any_of HT_.out (by kernel_rfl)) (fun _ _ _ h => h) (Or.inl ⟨by rfl, ?_⟩) ?_ ?_; rotate_left
          ·intro w'; go_simp
           with_reducible rfl
          rotate_left
          ·simp only [Act.put, qT, qZ, qS, i64_w, i32_w]; rfl
          refine one_ (i := 1) (N := some 97) #[true, true, true, true, false, false, false, false, false, false, false, false, false, false, false, false, false, false, false, false, false, false, false, false] rfl rfl (one_of HT_.out (by kernel_rfl)) (by decide) (fun K hK => ?_); refine goes_ Tryd.func18 (by kernel_rfl) rfl #[ptrOf (.slice Ao100 x3_2.length co100)] (by rfl) rfl rfl (by (try simp only [List.map_toArray, List.map_cons, List.map_nil]); first | done | rfl | (simp only [List.length_drop, List.length_take]; rfl)) ?_
          with_reducible refine (elim_System_Whole.calls _ _ x3_2 t497 _ ?side1 ?side2 A57.out).mono ?_
          (case side1 => exact QC HO_3); (case side2 => exact (Kd.R_reads' HO_3.out).2.1); rintro e w104 ⟨rfl, hb⟩; refine ⟨_, rfl, ?_⟩; have n0_ := AQ (Kd.R_below (PR HO_3) hb); have n1_ := AQ (Kd.S_below (PS HO_458001) hb); have n2_ := AQ (Kd.R_below (PR HO_458002) hb); have n3_ := AQ (Kd.S_below (PS HO494) hb); have n4_ := AQ (Kd.R_below (PR HO496) hb); have n5_ := AQ (blk_below (g := gb457) (o := .cells #[.int .i64 t458, .slice Ao9 t459.length co9, .slice Ao10 t462.length co10] 25 (0, 0)) (PK BK457) hb); have n6_ := AQ (below_step (PX HB) hb); clear HO_3; clear HO_458001; clear HO_458002; clear HO494; clear HO496; clear BK457; clear HB; have HO_3 := n0_; have HO_458001 := n1_; have HO_458002 := n2_; have HO494 := n3_; have HO496 := n4_; have BK457 := n5_; have HB := n6_; clear n0_ n1_ n2_ n3_ n4_ n5_ n6_; (try clear hb); (try clear hb2); (try clear hk); (try clear hi); refine hK.out _ _ trivial (fun hHeld => ?_); clear hK K; refine norm_ (a' := ?_) ?_ ?_; rotate_left
          ·show Act.put _ (some 97) _ = _
           simp only [Act.put, qT, qZ, qS, i64_w, i32_w]; rfl
          refine pure_ (i := 4) (N := some 100) (v := ?_) (a' := ?_) #[true, true, true, true, true, false, false, false, false, false, false, false, false, false, false, false, false, false, false, false, false, false, false, false] rfl rfl (any_of HT_.out (by kernel_rfl)) (fun _ _ _ h => h) (Or.inl ⟨by rfl, ?_⟩) ?_ ?_; rotate_left
          ·intro w'; go_simp
           with_reducible rfl
          rotate_left
          ·simp only [Act.put, qT, qZ, qS, i64_w, i32_w]; rfl
          refine pure_ (i := 5) (N := some 101) (v := ?_) (a' := ?_) #[true, true, true, true, true, true, false, false, false, false, false, false, false, false, false, false, false, false, false, false, false, false, false, false] rfl rfl (any_of HT_.out (by kernel_rfl)) (fun _ _ _ h => h) (Or.inl ⟨by rfl, ?_⟩) ?_ ?_; rotate_left
          ·intro w'; go_simp
           with_reducible rfl
          rotate_left
          ·simp only [Act.put, qT, qZ, qS, i64_w, i32_w]; rfl
          refine pure_ (i := 6) (N := some 102) (v := ?_) (a' := ?_) #[true, true, true, true, true, true, true, false, false, false, false, false, false, false, false, false, false, false, false, false, false, false, false, false] rfl rfl (any_of HT_.out (by kernel_rfl)) (fun _ _ _ h => h) (Or.inl ⟨by rfl, ?_⟩) ?_ ?_; rotate_left
          ·intro w'; go_simp
           with_reducible rfl
          rotate_left
          ·simp only [Act.put, qT, qZ, qS, i64_w, i32_w]; rfl
          refine pure_ (i := 7) (N := some 103) (v := ?_) (a' := ?_) #[true, true, true, true, true, true, true, true, false, false, false, false, false, false, false, false, false, false, false, false, false, false, false, false] rfl rfl (any_of HT_.out (by kernel_rfl)) (fun _ _ _ h => h) (Or.inl ⟨by rfl, ?_⟩) ?_ ?_; rotate_left
          ·intro w'; go_simp
           with_reducible rfl
          rotate_left
          ·simp only [Act.put, qT, qZ, qS, i64_w, i32_w]; rfl
          refine pure_ (i := 8) (N := some 104) (v := ?_) (a' := ?_) #[true, true, true, true, true, true, true, true, true, false, false, false, false, false, false, false, false, false, false, false, false, false, false, false] rfl rfl (any_of HT_.out (by kernel_rfl)) (fun _ _ _ h => h) (Or.inl ⟨by rfl, ?_⟩) ?_ ?_; rotate_left
          ·intro w'; go_simp
           with_reducible rfl
          rotate_left
          ·simp only [Act.put, qT, qZ, qS, i64_w, i32_w]; rfl
          refine pure_ (i := 9) (N := some 105) (v := undef) (a' := ?_) #[true, true, true, true, true, true, true, true, true, true, false, false, false, false, false, false, false, false, false, false, false, false, false, false] rfl rfl (any_of HT_.out (by kernel_rfl)) (fun _ _ _ h => h) (Or.inr ⟨by rfl, rfl⟩) ?_ ?_; rotate_left
          ·simp only [Act.put, qT, qZ, qS, i64_w, i32_w]; rfl
          refine pure_ (i := 10) (N := some 106) (v := undef) (a' := ?_) #[true, true, true, true, true, true, true, true, true, true, true, false, false, false, false, false, false, false, false, false, false, false, false, false] rfl rfl (any_of HT_.out (by kernel_rfl)) (fun _ _ _ h => h) (Or.inr ⟨by rfl, rfl⟩) ?_ ?_; rotate_left
          ·simp only [Act.put, qT, qZ, qS, i64_w, i32_w]; rfl
          refine pure_ (i := 11) (N := some 107) (v := undef) (a' := ?_) #[true, true, true, true, true, true, true, true, true, true, true, true, false, false, false, false, false, false, false, false, false, false, false, false] rfl rfl (any_of HT_.out (by kernel_rfl)) (fun _ _ _ h => h) (Or.inr ⟨by rfl, rfl⟩) ?_ ?_; rotate_left
          ·simp only [Act.put, qT, qZ, qS, i64_w, i32_w]; rfl
          refine pure_ (i := 12) (N := some 108) (v := undef) (a' := ?_) #[true, true, true, true, true, true, true, true, true, true, true, true, true, false, false, false, false, false, false, false, false, false, false, false] rfl rfl (any_of HT_.out (by kernel_rfl)) (fun _ _ _ h => h) (Or.inr ⟨by rfl, rfl⟩) ?_ ?_; rotate_left
          ·simp only [Act.put, qT, qZ, qS, i64_w, i32_w]; rfl
          refine pure_ (i := 13) (N := some 109) (v := ?_) (a' := ?_) #[true, true, true, true, true, true, true, true, true, true, true, true, true, true, false, false, false, false, false, false, false, false, false, false] rfl rfl (any_of HT_.out (by kernel_rfl)) (fun _ _ _ h => h) (Or.inl ⟨by rfl, ?_⟩) ?_ ?_; rotate_left
          ·intro w'; go_simp
           with_reducible rfl
          rotate_left
          ·simp only [Act.put, qT, qZ, qS, i64_w, i32_w]; rfl
          refine pure_ (i := 14) (N := some 110) (v := ?_) (a' := ?_) #[true, true, true, true, true, true, true, true, true, true, true, true, true, true, true, false, false, false, false, false, false, false, false, false] rfl rfl (any_of HT_.out (by kernel_rfl)) (fun _ _ _ h => h) (Or.inl ⟨by rfl, ?_⟩) ?_ ?_; rotate_left
          ·intro w'; go_simp
           with_reducible rfl
          rotate_left
          ·simp only [Act.put, qT, qZ, qS, i64_w, i32_w]; rfl
          refine pure_ (i := 15) (N := some 111) (v := ?_) (a' := ?_) #[true, true, true, true, true, true, true, true, true, true, true, true, true, true, true, true, false, false, false, false, false, false, false, false] rfl rfl (any_of HT_.out (by kernel_rfl)) (fun _ _ _ h => h) (Or.inl ⟨by rfl, ?_⟩) ?_ ?_; rotate_left
          ·intro w'; go_simp
           with_reducible rfl
          rotate_left
          ·simp only [Act.put, qT, qZ, qS, i64_w, i32_w]; rfl
          refine pure_ (i := 16) (N := some 112) (v := ?_) (a' := ?_) #[true, true, true, true, true, true, true, true, true, true, true, true, true, true, true, true, true, false, false, false, false, false, false, false] rfl rfl (any_of HT_.out (by kernel_rfl)) (fun _ _ _ h => h) (Or.inl ⟨by rfl, ?_⟩) ?_ ?_; rotate_left
          ·intro w'; go_simp
           with_reducible rfl
          rotate_left
          ·simp only [Act.put, qT, qZ, qS, i64_w, i32_w]; rfl
          refine one_ (i := 17) (N := some 113) #[true, true, true, true, true, true, true, true, true, true, true, true, true, true, true, true, true, true, false, false, false, false, false, false] rfl rfl (one_of HT_.out (by kernel_rfl)) (by decide) (fun K hK => ?_); refine goes_ Tryd.func20 (by kernel_rfl) rfl #[ptrOf (.slice Ao100 x3_2.length co100)] (by rfl) rfl rfl (by (try simp only [List.map_toArray, List.map_cons, List.map_nil]); first | done | rfl | (simp only [List.length_drop, List.length_take]; rfl)) ?_
          with_reducible refine (elim_System_Clashed.calls _ _ x3_2 false _ ?side1 ?side2 A89.out).mono ?_
          (case side1 => exact QC HO_3); (case side2 => exact (Kd.R_reads' HO_3.out).2.1); rintro e w105 ⟨rfl, hb⟩; refine ⟨_, rfl, ?_⟩; have n0_ := AQ (Kd.R_below (PR HO_3) hb); have n1_ := AQ (Kd.S_below (PS HO_458001) hb); have n2_ := AQ (Kd.R_below (PR HO_458002) hb); have n3_ := AQ (Kd.S_below (PS HO494) hb); have n4_ := AQ (Kd.R_below (PR HO496) hb); have n5_ := AQ (blk_below (g := gb457) (o := .cells #[.int .i64 t458, .slice Ao9 t459.length co9, .slice Ao10 t462.length co10] 25 (0, 0)) (PK BK457) hb); have n6_ := AQ (below_step (PX HB) hb); clear HO_3; clear HO_458001; clear HO_458002; clear HO494; clear HO496; clear BK457; clear HB; have HO_3 := n0_; have HO_458001 := n1_; have HO_458002 := n2_; have HO494 := n3_; have HO496 := n4_; have BK457 := n5_; have HB := n6_; clear n0_ n1_ n2_ n3_ n4_ n5_ n6_; (try clear hb); (try clear hb2); (try clear hk); (try clear hi); refine hK.out _ _ trivial (fun hHeld => ?_); clear hK K; refine norm_ (a' := ?_) ?_ ?_; rotate_left
          ·show Act.put _ (some 113) _ = _
           simp only [Act.put, qT, qZ, qS, i64_w, i32_w]; rfl
          refine pure_ (i := 18) (N := some 114) (v := ?_) (a' := ?_) #[true, true, true, true, true, true, true, true, true, true, true, true, true, true, true, true, true, true, true, false, false, false, false, false] rfl rfl (any_of HT_.out (by kernel_rfl)) (fun _ _ _ h => h) (Or.inl ⟨by rfl, ?_⟩) ?_ ?_; rotate_left
          ·intro w'; go_simp
           with_reducible rfl
          rotate_left
          ·simp only [Act.put, qT, qZ, qS, i64_w, i32_w]; rfl
          refine pure_ (i := 19) (N := some 115) (v := ?_) (a' := ?_) #[true, true, true, true, true, true, true, true, true, true, true, true, true, true, true, true, true, true, true, true, false, false, false, false] rfl rfl (any_of HT_.out (by kernel_rfl)) (fun _ _ _ h => h) (Or.inl ⟨by rfl, ?_⟩) ?_ ?_; rotate_left
          ·intro w'; go_simp
           with_reducible rfl
          rotate_left
          ·simp only [Act.put, qT, qZ, qS, i64_w, i32_w]; rfl
          refine pure_ (i := 20) (N := some 116) (v := ?_) (a' := ?_) #[true, true, true, true, true, true, true, true, true, true, true, true, true, true, true, true, true, true, true, true, true, false, false, false] rfl rfl (any_of HT_.out (by kernel_rfl)) (fun _ _ _ h => h) (Or.inl ⟨by rfl, ?_⟩) ?_ ?_; rotate_left
          ·intro w'; go_simp
           with_reducible rfl
          rotate_left
          ·simp only [Act.put, qT, qZ, qS, i64_w, i32_w]; rfl
          refine one_ (i := 21) (N := some 117) #[true, true, true, true, true, true, true, true, true, true, true, true, true, true, true, true, true, true, true, true, true, true, false, false] rfl rfl (one_of HT_.out (by kernel_rfl)) (by decide) (fun K hK => ?_); refine goes_ Tryd.func15 (by kernel_rfl) rfl #[] (by rfl) rfl rfl (by (try simp only [List.map_toArray, List.map_cons, List.map_nil]); first | done | rfl | (simp only [List.length_drop, List.length_take]; rfl)) ?_
          with_reducible refine (geyserlaw05_awake.calls k2  t502 _ ?side1 A98.out).mono ?_
          (case side1 => first | exact HT.out | exact TabIn.below HT.out (PX HB) | (repeat (first | apply TabIn.drewN | apply TabIn.drew | exact HT.out))); rintro e w106 ⟨rfl, hb⟩; refine ⟨_, rfl, ?_⟩; have n0_ := AQ (Kd.R_below (PR HO_3) hb); have n1_ := AQ (Kd.S_below (PS HO_458001) hb); have n2_ := AQ (Kd.R_below (PR HO_458002) hb); have n3_ := AQ (Kd.S_below (PS HO494) hb); have n4_ := AQ (Kd.R_below (PR HO496) hb); have n5_ := AQ (blk_below (g := gb457) (o := .cells #[.int .i64 t458, .slice Ao9 t459.length co9, .slice Ao10 t462.length co10] 25 (0, 0)) (PK BK457) hb); have n6_ := AQ (below_step (PX HB) hb); clear HO_3; clear HO_458001; clear HO_458002; clear HO494; clear HO496; clear BK457; clear HB; have HO_3 := n0_; have HO_458001 := n1_; have HO_458002 := n2_; have HO494 := n3_; have HO496 := n4_; have BK457 := n5_; have HB := n6_; clear n0_ n1_ n2_ n3_ n4_ n5_ n6_; (try clear hb); (try clear hb2); (try clear hk); (try clear hi); refine hK.out _ _ trivial (fun hHeld => ?_); clear hK K; refine norm_ (a' := ?_) ?_ ?_; rotate_left
          ·show Act.put _ (some 117) _ = _
           simp only [Act.put, qT, qZ, qS, i64_w, i32_w]; rfl
          refine pure_ (i := 22) (N := some 118) (v := ?_) (a' := ?_) #[true, true, true, true, true, true, true, true, true, true, true, true, true, true, true, true, true, true, true, true, true, true, true, false] rfl rfl (any_of HT_.out (by kernel_rfl)) (fun _ _ _ h => h) (Or.inl ⟨by rfl, ?_⟩) ?_ ?_; rotate_left
          ·intro w'; go_simp
           with_reducible rfl
          rotate_left
          ·simp only [Act.put, qT, qZ, qS, i64_w, i32_w]; rfl
          refine pure_ (i := 23) (N := some 2) (v := ?_) (a' := ?_) #[true, true, true, true, true, true, true, true, true, true, true, true, true, true, true, true, true, true, true, true, true, true, true, true] rfl rfl (any_of HT_.out (by kernel_rfl)) (fun _ _ _ h => h) (Or.inl ⟨by rfl, ?_⟩) ?_ ?_; rotate_left
          ·intro w'; go_simp
           with_reducible rfl
          rotate_left
          ·simp only [Act.put, qT, qZ, qS, i64_w, i32_w]; rfl
          refine done_ (done_of HT_.out (by kernel_rfl)) ?_; (try go_wp2); go_ret; exact ⟨by first | rfl | (simp [errW_none, errW_some] <;> rfl) | (simp [*, errW_none, errW_some] <;> rfl), PX HB⟩
       ·rw [if_neg c58] at H; have c58b0 : (t497 == ((t492.length : Int) == 0)) = false := (by simpa using c58); (try (have c58b1 : decide (t497 = ((t492.length : Int) == 0)) = false := by simpa using c58)); (try (have c58b2 : (t497 == ((t492.length : Int) == 0)) = false := by simpa using c58)); (try (have c58b3 : ¬ (t497 = ((t492.length : Int) == 0)) := by simpa using c58)); clear c58
        by_cases c58z : (t492.length : Int) = 0
        ·have c58zb0 : ((t492.length : Int) == 0) = true := beq_iff_eq.mpr c58z; have c58zb1 : ((t492.length : Int) != 0) = false := bne_eq_false_iff_eq.mpr c58z; have c58t : t497 = false := (by simpa [c58zb0] using c58b0); clear c58z; obtain rfl := Option.some.inj H; have hcz107_0 : wr.cell? ⟨gb457, 0, none⟩ = some (.int .i64 t458) := (blk_cell BK457.out 0).trans rfl; have hcz107_1 : wr.cell? ⟨gb457, 1, none⟩ = some (.slice Ao9 t459.length co9) := (blk_cell BK457.out 1).trans rfl; have hcz107_2 : wr.cell? ⟨gb457, 2, none⟩ = some (.slice Ao10 t462.length co10) := (blk_cell BK457.out 2).trans rfl; have hfz107_0 := blk_frozen BK457.out 0; have hfz107_1 := blk_frozen BK457.out 1; have hfz107_2 := blk_frozen BK457.out 2; obtain ⟨Ao108, co108, eo108⟩ := Kd.R_slice HO_3.out; subst eo108; (try go_wp2_with (first | ((with_reducible refine gate_callee (f := 17) rfl ?_); refine gL (some 93) rfl rfl Tryd.func17 #[ptrOf (.slice Ao108 x3_2.length co108)] rfl ?_; (with_reducible refine (elim_System_All.calls k2 _ _ x3_2 t491 t492 _ ?side1 ?side2 ?side3 A56.out).mono ?_); (case side1 => first | exact HT.out | exact TabIn.below HT.out (PX HB) | (repeat (first | apply TabIn.drewN | apply TabIn.drew | exact HT.out))); (case side2 => exact QC HO_3); (case side3 => exact (Kd.R_reads' HO_3.out).2.1); rintro e w109 ⟨v493, v495, rfl, ho0, ho1, hb⟩; refine ⟨_, rfl, ?_⟩; have n0_ := AQ (Kd.R_below (PR HO_3) hb); have n1_ := AQ (Kd.S_elder' (PS HO_458001) (Kd.S_base ho0) hb); have n2_ := AQ (Kd.R_below (PR HO_458002) hb); have n3_ := AQ (Kd.S_lower (Kd.S_new' ho0 (Kd.S_lt (PS HO_458001))) (below_size (PX HB))); have n4_ := AQ (Kd.R_lower ho1 (below_size (PX HB))); have n5_ := AQ (blk_below (g := gb457) (o := .cells #[.int .i64 t458, .slice Ao9 t459.length co9, .slice Ao10 t462.length co10] 25 (0, 0)) (PK BK457) hb); have n6_ := AQ (below_step (PX HB) hb); clear HO_3; clear HO_458001; clear HO_458002; clear BK457; clear HB; have HO_3 := n0_; have HO_458001 := n1_; have HO_458002 := n2_; have HO494 := n3_; have HO496 := n4_; have BK457 := n5_; have HB := n6_; clear n0_ n1_ n2_ n3_ n4_ n5_ n6_; (try clear hb); (try clear hb2); (try clear hk); (try clear hi); (try clear ho0); (try clear ho1)))); have n0_ := AQ (Kd.R_drew HO_3.out); have n1_ := AQ (Kd.S_drew HO_458001.out); have n2_ := AQ (Kd.R_drew HO_458002.out); have n3_ := AQ (Kd.S_drew HO494.out); have n4_ := AQ (Kd.R_drew HO496.out); have n5_ := AQ (blk_drew BK457.out); have n6_ := AQ (below_drew1 HB.out); clear HO_3; clear HO_458001; clear HO_458002; clear HO494; clear HO496; clear BK457; clear HB; have HO_3 := n0_; have HO_458001 := n1_; have HO_458002 := n2_; have HO494 := n3_; have HO496 := n4_; have BK457 := n5_; have HB := n6_; clear n0_ n1_ n2_ n3_ n4_ n5_ n6_; obtain ⟨Ao111, co111, eo111⟩ := Kd.R_slice HO496.out; (first | subst eo111 | (injection eo111 with f1_ f2_ f3_; have f4_ := f1_.symm; have f5_ := f3_.symm; clear f1_ f2_ f3_; subst f4_; subst f5_)); refine start_ (n := 24) (S := fun w' => True) (ds := []) #[false, false, false, false, false, false, false, false, false, false, false, false, false, false, false, false, false, false, false, false, false, false, false, false] (by kernel_rfl) rfl rfl trivial (fun hHeld => ?_); refine with_tabW geyserlaw05_ElimTrue.tab18 geyserlaw05_ElimTrue.bits18 (fun HT_ HW_ => ?_)
         generalize w109.drew = w110 at HO_3 HO_458001 HO_458002 HO494 HO496 BK457 HB hHeld ⊢; refine pure_ (i := 0) (N := some 96) (v := ?_) (a' := ?_) #[true, false, false, false, false, false, false, false, false, false, false, false, false, false, false, false, false, false, false, false, false, false, false, false] rfl rfl (any_of HT_.out (by kernel_rfl)) (fun _ _ _ h => h) (Or.inl ⟨by rfl, ?_⟩) ?_ ?_; rotate_left
         ·intro w'; go_simp
          with_reducible rfl
         rotate_left
         ·simp only [Act.put, qT, qZ, qS, i64_w, i32_w]; rfl
         refine pure_ (i := 2) (N := some 98) (v := ?_) (a' := ?_) #[true, false, true, false, false, false, false, false, false, false, false, false, false, false, false, false, false, false, false, false, false, false, false, false] rfl rfl (any_of HT_.out (by kernel_rfl)) (fun _ _ _ h => h) (Or.inl ⟨by rfl, ?_⟩) ?_ ?_; rotate_left
         ·intro w'; go_simp
          with_reducible rfl
         rotate_left
         ·simp only [Act.put, qT, qZ, qS, i64_w, i32_w]; rfl
         refine pure_ (i := 3) (N := some 99) (v := ?_) (a' := ?_) #[true, false, true, true, false, false, false, false, false, false, false, false, false, false, false, false, false, false, false, false, false, false, false, false] rfl rfl (any_of HT_.out (by kernel_rfl)) (fun _ _ _ h => h) (Or.inl ⟨by rfl, ?_⟩) ?_ ?_; rotate_left
         ·intro w'; go_simp
          with_reducible rfl
         rotate_left
         ·simp only [Act.put, qT, qZ, qS, i64_w, i32_w]; rfl
         refine one_ (i := 1) (N := some 97) #[true, true, true, true, false, false, false, false, false, false, false, false, false, false, false, false, false, false, false, false, false, false, false, false] rfl rfl (one_of HT_.out (by kernel_rfl)) (by decide) (fun K hK => ?_); refine goes_ Tryd.func18 (by kernel_rfl) rfl #[ptrOf (.slice Ao108 x3_2.length co108)] (by rfl) rfl rfl (by (try simp only [List.map_toArray, List.map_cons, List.map_nil]); first | done | rfl | (simp only [List.length_drop, List.length_take]; rfl)) ?_
         with_reducible refine (elim_System_Whole.calls _ _ x3_2 t497 _ ?side1 ?side2 A57.out).mono ?_
         (case side1 => exact QC HO_3); (case side2 => exact (Kd.R_reads' HO_3.out).2.1); rintro e w112 ⟨rfl, hb⟩; refine ⟨_, rfl, ?_⟩; have n0_ := AQ (Kd.R_below (PR HO_3) hb); have n1_ := AQ (Kd.S_below (PS HO_458001) hb); have n2_ := AQ (Kd.R_below (PR HO_458002) hb); have n3_ := AQ (Kd.S_below (PS HO494) hb); have n4_ := AQ (Kd.R_below (PR HO496) hb); have n5_ := AQ (blk_below (g := gb457) (o := .cells #[.int .i64 t458, .slice Ao9 t459.length co9, .slice Ao10 t462.length co10] 25 (0, 0)) (PK BK457) hb); have n6_ := AQ (below_step (PX HB) hb); clear HO_3; clear HO_458001; clear HO_458002; clear HO494; clear HO496; clear BK457; clear HB; have HO_3 := n0_; have HO_458001 := n1_; have HO_458002 := n2_; have HO494 := n3_; have HO496 := n4_; have BK457 := n5_; have HB := n6_; clear n0_ n1_ n2_ n3_ n4_ n5_ n6_; (try clear hb); (try clear hb2); (try clear hk); (try clear hi); refine hK.out _ _ trivial (fun hHeld => ?_); clear hK K; refine norm_ (a' := ?_) ?_ ?_; rotate_left
         ·show Act.put _ (some 97) _ = _
          simp only [Act.put, qT, qZ, qS, i64_w, i32_w]; rfl
         refine pure_ (i := 4) (N := some 100) (v := ?_) (a' := ?_) #[true, true, true, true, true, false, false, false, false, false, false, false, false, false, false, false, false, false, false, false, false, false, false, false] rfl rfl (any_of HT_.out (by kernel_rfl)) (fun _ _ _ h => h) (Or.inl ⟨by rfl, ?_⟩) ?_ ?_; rotate_left
         ·intro w'; go_simp
          with_reducible rfl
         rotate_left
         ·simp only [Act.put, qT, qZ, qS, i64_w, i32_w]; rfl
         refine pure_ (i := 5) (N := some 101) (v := ?_) (a' := ?_) #[true, true, true, true, true, true, false, false, false, false, false, false, false, false, false, false, false, false, false, false, false, false, false, false] rfl rfl (any_of HT_.out (by kernel_rfl)) (fun _ _ _ h => h) (Or.inl ⟨by rfl, ?_⟩) ?_ ?_; rotate_left
         ·intro w'; go_simp
          with_reducible rfl
         rotate_left
         ·simp only [Act.put, qT, qZ, qS, i64_w, i32_w]; rfl
         refine pure_ (i := 6) (N := some 102) (v := undef) (a' := ?_) #[true, true, true, true, true, true, true, false, false, false, false, false, false, false, false, false, false, false, false, false, false, false, false, false] rfl rfl (any_of HT_.out (by kernel_rfl)) (fun _ _ _ h => h) (Or.inr ⟨by rfl, rfl⟩) ?_ ?_; rotate_left
         ·simp only [Act.put, qT, qZ, qS, i64_w, i32_w]; rfl
         refine pure_ (i := 7) (N := some 103) (v := undef) (a' := ?_) #[true, true, true, true, true, true, true, true, false, false, false, false, false, false, false, false, false, false, false, false, false, false, false, false] rfl rfl (any_of HT_.out (by kernel_rfl)) (fun _ _ _ h => h) (Or.inr ⟨by rfl, rfl⟩) ?_ ?_; rotate_left
         ·simp only [Act.put, qT, qZ, qS, i64_w, i32_w]; rfl
         refine pure_ (i := 8) (N := some 104) (v := undef) (a' := ?_) #[true, true, true, true, true, true, true, true, true, false, false, false, false, false, false, false, false, false, false, false, false, false, false, false] rfl rfl (any_of HT_.out (by kernel_rfl)) (fun _ _ _ h => h) (Or.inr ⟨by rfl, rfl⟩) ?_ ?_; rotate_left
         ·simp only [Act.put, qT, qZ, qS, i64_w, i32_w]; rfl
         refine pure_ (i := 9) (N := some 105) (v := undef) (a' := ?_) #[true, true, true, true, true, true, true, true, true, true, false, false, false, false, false, false, false, false, false, false, false, false, false, false] rfl rfl (any_of HT_.out (by kernel_rfl)) (fun _ _ _ h => h) (Or.inr ⟨by rfl, rfl⟩) ?_ ?_; rotate_left
         ·simp only [Act.put, qT, qZ, qS, i64_w, i32_w]; rfl
         refine pure_ (i := 10) (N := some 106) (v := undef) (a' := ?_) #[true, true, true, true, true, true, true, true, true, true, true, false, false, false, false, false, false, false, false, false, false, false, false, false] rfl rfl (any_of HT_.out (by kernel_rfl)) (fun _ _ _ h => h) (Or.inr ⟨by rfl, rfl⟩) ?_ ?_; rotate_left
         ·simp only [Act.put, qT, qZ, qS, i64_w, i32_w]; rfl
         refine pure_ (i := 11) (N := some 107) (v := undef) (a' := ?_) #[true, true, true, true, true, true, true, true, true, true, true, true, false, false, false, false, false, false, false, false, false, false, false, false] rfl rfl (any_of HT_.out (by kernel_rfl)) (fun _ _ _ h => h) (Or.inr ⟨by rfl, rfl⟩) ?_ ?_; rotate_left
         ·simp only [Act.put, qT, qZ, qS, i64_w, i32_w]; rfl
         refine pure_ (i := 12) (N := some 108) (v := undef) (a' := ?_) #[true, true, true, true, true, true, true, true, true, true, true, true, true, false, false, false, false, false, false, false, false, false, false, false] rfl rfl (any_of HT_.out (by kernel_rfl)) (fun _ _ _ h => h) (Or.inr ⟨by rfl, rfl⟩) ?_ ?_; rotate_left
         ·simp only [Act.put, qT, qZ, qS, i64_w, i32_w]; rfl
         refine pure_ (i := 13) (N := some 109) (v := undef) (a' := ?_) #[true, true, true, true, true, true, true, true, true, true, true, true, true, true, false, false, false, false, false, false, false, false, false, false] rfl rfl (any_of HT_.out (by kernel_rfl)) (fun _ _ _ h => h) (Or.inr ⟨by rfl, rfl⟩) ?_ ?_; rotate_left
         ·simp only [Act.put, qT, qZ, qS, i64_w, i32_w]; rfl
         refine pure_ (i := 14) (N := some 110) (v := ?_) (a' := ?_) #[true, true, true, true, true, true, true, true, true, true, true, true, true, true, true, false, false, false, false, false, false, false, false, false] rfl rfl (any_of HT_.out (by kernel_rfl)) (fun _ _ _ h => h) (Or.inl ⟨by rfl, ?_⟩) ?_ ?_; rotate_left
         ·intro w'; go_simp
          with_reducible rfl
         rotate_left
         ·simp only [Act.put, qT, qZ, qS, i64_w, i32_w]; rfl
         refine pure_ (i := 15) (N := some 111) (v := ?_) (a' := ?_) #[true, true, true, true, true, true, true, true, true, true, true, true, true, true, true, true, false, false, false, false, false, false, false, false] rfl rfl (any_of HT_.out (by kernel_rfl)) (fun _ _ _ h => h) (Or.inl ⟨by rfl, ?_⟩) ?_ ?_; rotate_left
         ·intro w'; go_simp
          with_reducible rfl
         rotate_left
         ·simp only [Act.put, qT, qZ, qS, i64_w, i32_w]; rfl
         refine pure_ (i := 16) (N := some 112) (v := undef) (a' := ?_) #[true, true, true, true, true, true, true, true, true, true, true, true, true, true, true, true, true, false, false, false, false, false, false, false] rfl rfl (any_of HT_.out (by kernel_rfl)) (fun _ _ _ h => h) (Or.inr ⟨by rfl, rfl⟩) ?_ ?_; rotate_left
         ·simp only [Act.put, qT, qZ, qS, i64_w, i32_w]; rfl
         refine pure_ (i := 17) (N := some 113) (v := undef) (a' := ?_) #[true, true, true, true, true, true, true, true, true, true, true, true, true, true, true, true, true, true, false, false, false, false, false, false] rfl rfl (any_of HT_.out (by kernel_rfl)) (fun _ _ _ h => h) (Or.inr ⟨by rfl, rfl⟩) ?_ ?_; rotate_left
         ·simp only [Act.put, qT, qZ, qS, i64_w, i32_w]; rfl
         refine pure_ (i := 18) (N := some 114) (v := undef) (a' := ?_) #[true, true, true, true, true, true, true, true, true, true, true, true, true, true, true, true, true, true, true, false, false, false, false, false] rfl rfl (any_of HT_.out (by kernel_rfl)) (fun _ _ _ h => h) (Or.inr ⟨by rfl, rfl⟩) ?_ ?_; rotate_left
         ·simp only [Act.put, qT, qZ, qS, i64_w, i32_w]; rfl
         refine pure_ (i := 19) (N := some 115) (v := ?_) (a' := ?_) #[true, true, true, true, true, true, true, true, true, true, true, true, true, true, true, true, true, true, true, true, false, false, false, false] rfl rfl (any_of HT_.out (by kernel_rfl)) (fun _ _ _ h => h) (Or.inl ⟨by rfl, ?_⟩) ?_ ?_; rotate_left
         ·intro w'; go_simp
          with_reducible rfl
         rotate_left
         ·simp only [Act.put, qT, qZ, qS, i64_w, i32_w]; rfl
         refine pure_ (i := 20) (N := some 116) (v := ?_) (a' := ?_) #[true, true, true, true, true, true, true, true, true, true, true, true, true, true, true, true, true, true, true, true, true, false, false, false] rfl rfl (any_of HT_.out (by kernel_rfl)) (fun _ _ _ h => h) (Or.inl ⟨by rfl, ?_⟩) ?_ ?_; rotate_left
         ·intro w'; go_simp
          with_reducible rfl
         rotate_left
         ·simp only [Act.put, qT, qZ, qS, i64_w, i32_w]; rfl
         refine pure_ (i := 21) (N := some 117) (v := undef) (a' := ?_) #[true, true, true, true, true, true, true, true, true, true, true, true, true, true, true, true, true, true, true, true, true, true, false, false] rfl rfl (any_of HT_.out (by kernel_rfl)) (fun _ _ _ h => h) (Or.inr ⟨by rfl, rfl⟩) ?_ ?_; rotate_left
         ·simp only [Act.put, qT, qZ, qS, i64_w, i32_w]; rfl
         refine pure_ (i := 22) (N := some 118) (v := ?_) (a' := ?_) #[true, true, true, true, true, true, true, true, true, true, true, true, true, true, true, true, true, true, true, true, true, true, true, false] rfl rfl (any_of HT_.out (by kernel_rfl)) (fun _ _ _ h => h) (Or.inl ⟨by rfl, ?_⟩) ?_ ?_; rotate_left
         ·intro w'; go_simp
          with_reducible rfl
         rotate_left
         ·simp only [Act.put, qT, qZ, qS, i64_w, i32_w]; rfl
         refine pure_ (i := 23) (N := some 2) (v := ?_) (a' := ?_) #[true, true, true, true, true, true, true, true, true, true, true, true, true, true, true, true, true, true, true, true, true, true, true, true] rfl rfl (any_of HT_.out (by kernel_rfl)) (fun _ _ _ h => h) (Or.inl ⟨by rfl, ?_⟩) ?_ ?_; rotate_left
         ·intro w'; go_simp
          with_reducible rfl
         rotate_left
         ·simp only [Act.put, qT, qZ, qS, i64_w, i32_w]; rfl
         refine done_ (done_of HT_.out (by kernel_rfl)) ?_; (try go_wp2); go_ret; exact ⟨by first | rfl | (simp [errW_none, errW_some] <;> rfl) | (simp [*, errW_none, errW_some] <;> rfl), PX HB⟩
 
        ·have c58zb0 : ((t492.length : Int) == 0) = false := beq_eq_false_iff_ne.mpr c58z; have c58zb1 : ((t492.length : Int) != 0) = true := bne_iff_ne.mpr c58z; have c58zb2 : ¬ (t492 = []) := fun h_ => c58z (by rw [h_]; rfl)
         have c58t : t497 = true := (by simpa [c58zb0] using c58b0); clear c58z; obtain rfl := Option.some.inj H; have hcz107_0 : wr.cell? ⟨gb457, 0, none⟩ = some (.int .i64 t458) := (blk_cell BK457.out 0).trans rfl; have hcz107_1 : wr.cell? ⟨gb457, 1, none⟩ = some (.slice Ao9 t459.length co9) := (blk_cell BK457.out 1).trans rfl; have hcz107_2 : wr.cell? ⟨gb457, 2, none⟩ = some (.slice Ao10 t462.length co10) := (blk_cell BK457.out 2).trans rfl; have hfz107_0 := blk_frozen BK457.out 0; have hfz107_1 := blk_frozen BK457.out 1; have hfz107_2 := blk_frozen BK457.out 2; obtain ⟨Ao108, co108, eo108⟩ := Kd.R_slice HO_3.out; subst eo108; (try go_wp2_with (first | ((with_reducible refine gate_callee (f := 17) rfl ?_); refine gL (some 93) rfl rfl Tryd.func17 #[ptrOf (.slice Ao108 x3_2.length co108)] rfl ?_; (with_reducible refine (elim_System_All.calls k2 _ _ x3_2 t491 t492 _ ?side1 ?side2 ?side3 A56.out).mono ?_); (case side1 => first | exact HT.out | exact TabIn.below HT.out (PX HB) | (repeat (first | apply TabIn.drewN | apply TabIn.drew | exact HT.out))); (case side2 => exact QC HO_3); (case side3 => exact (Kd.R_reads' HO_3.out).2.1); rintro e w109 ⟨v493, v495, rfl, ho0, ho1, hb⟩; refine ⟨_, rfl, ?_⟩; have n0_ := AQ (Kd.R_below (PR HO_3) hb); have n1_ := AQ (Kd.S_elder' (PS HO_458001) (Kd.S_base ho0) hb); have n2_ := AQ (Kd.R_below (PR HO_458002) hb); have n3_ := AQ (Kd.S_lower (Kd.S_new' ho0 (Kd.S_lt (PS HO_458001))) (below_size (PX HB))); have n4_ := AQ (Kd.R_lower ho1 (below_size (PX HB))); have n5_ := AQ (blk_below (g := gb457) (o := .cells #[.int .i64 t458, .slice Ao9 t459.length co9, .slice Ao10 t462.length co10] 25 (0, 0)) (PK BK457) hb); have n6_ := AQ (below_step (PX HB) hb); clear HO_3; clear HO_458001; clear HO_458002; clear BK457; clear HB; have HO_3 := n0_; have HO_458001 := n1_; have HO_458002 := n2_; have HO494 := n3_; have HO496 := n4_; have BK457 := n5_; have HB := n6_; clear n0_ n1_ n2_ n3_ n4_ n5_ n6_; (try clear hb); (try clear hb2); (try clear hk); (try clear hi); (try clear ho0); (try clear ho1)))); have n0_ := AQ (Kd.R_drew HO_3.out); have n1_ := AQ (Kd.S_drew HO_458001.out); have n2_ := AQ (Kd.R_drew HO_458002.out); have n3_ := AQ (Kd.S_drew HO494.out); have n4_ := AQ (Kd.R_drew HO496.out); have n5_ := AQ (blk_drew BK457.out); have n6_ := AQ (below_drew1 HB.out); clear HO_3; clear HO_458001; clear HO_458002; clear HO494; clear HO496; clear BK457; clear HB; have HO_3 := n0_; have HO_458001 := n1_; have HO_458002 := n2_; have HO494 := n3_; have HO496 := n4_; have BK457 := n5_; have HB := n6_; clear n0_ n1_ n2_ n3_ n4_ n5_ n6_; obtain ⟨Ao111, co111, eo111⟩ := Kd.R_slice HO496.out; (first | subst eo111 | (injection eo111 with f1_ f2_ f3_; have f4_ := f1_.symm; have f5_ := f3_.symm; clear f1_ f2_ f3_; subst f4_; subst f5_)); refine start_ (n := 24) (S := fun w' => True) (ds := []) #[false, false, false, false, false, false, false, false, false, false, false, false, false, false, false, false, false, false, false, false, false, false, false, false] (by kernel_rfl) rfl rfl trivial (fun hHeld => ?_); refine with_tabW geyserlaw05_ElimTrue.tab18 geyserlaw05_ElimTrue.bits18 (fun HT_ HW_ => ?_)
         generalize w109.drew = w110 at HO_3 HO_458001 HO_458002 HO494 HO496 BK457 HB hHeld ⊢; refine pure_ (i := 0) (N := some 96) (v := ?_) (a' := ?_) #[true, false, false, false, false, false, false, false, false, false, false, false, false, false, false, false, false, false, false, false, false, false, false, false] rfl rfl (any_of HT_.out (by kernel_rfl)) (fun _ _ _ h => h) (Or.inl ⟨by rfl, ?_⟩) ?_ ?_; rotate_left
         ·intro w'; go_simp
          with_reducible rfl
         rotate_left
         ·simp only [Act.put, qT, qZ, qS, i64_w, i32_w]; rfl
         refine pure_ (i := 2) (N := some 98) (v := ?_) (a' := ?_) #[true, false, true, false, false, false, false, false, false, false, false, false, false, false, false, false, false, false, false, false, false, false, false, false] rfl rfl (any_of HT_.out (by kernel_rfl)) (fun _ _ _ h => h) (Or.inl ⟨by rfl, ?_⟩) ?_ ?_; rotate_left
         ·intro w'; go_simp
          with_reducible rfl
         rotate_left
         ·simp only [Act.put, qT, qZ, qS, i64_w, i32_w]; rfl
         refine pure_ (i := 3) (N := some 99) (v := ?_) (a' := ?_) #[true, false, true, true, false, false, false, false, false, false, false, false, false, false, false, false, false, false, false, false, false, false, false, false] rfl rfl (any_of HT_.out (by kernel_rfl)) (fun _ _ _ h => h) (Or.inl ⟨by rfl, ?_⟩) ?_ ?_; rotate_left
         ·intro w'; go_simp
          with_reducible rfl
         rotate_left
         ·simp only [Act.put, qT, qZ, qS, i64_w, i32_w]; rfl
         refine one_ (i := 1) (N := some 97) #[true, true, true, true, false, false, false, false, false, false, false, false, false, false, false, false, false, false, false, false, false, false, false, false] rfl rfl (one_of HT_.out (by kernel_rfl)) (by decide) (fun K hK => ?_); refine goes_ Tryd.func18 (by kernel_rfl) rfl #[ptrOf (.slice Ao108 x3_2.length co108)] (by rfl) rfl rfl (by (try simp only [List.map_toArray, List.map_cons, List.map_nil]); first | done | rfl | (simp only [List.length_drop, List.length_take]; rfl)) ?_
         with_reducible refine (elim_System_Whole.calls _ _ x3_2 t497 _ ?side1 ?side2 A57.out).mono ?_
         (case side1 => exact QC HO_3); (case side2 => exact (Kd.R_reads' HO_3.out).2.1); rintro e w112 ⟨rfl, hb⟩; refine ⟨_, rfl, ?_⟩; have n0_ := AQ (Kd.R_below (PR HO_3) hb); have n1_ := AQ (Kd.S_below (PS HO_458001) hb); have n2_ := AQ (Kd.R_below (PR HO_458002) hb); have n3_ := AQ (Kd.S_below (PS HO494) hb); have n4_ := AQ (Kd.R_below (PR HO496) hb); have n5_ := AQ (blk_below (g := gb457) (o := .cells #[.int .i64 t458, .slice Ao9 t459.length co9, .slice Ao10 t462.length co10] 25 (0, 0)) (PK BK457) hb); have n6_ := AQ (below_step (PX HB) hb); clear HO_3; clear HO_458001; clear HO_458002; clear HO494; clear HO496; clear BK457; clear HB; have HO_3 := n0_; have HO_458001 := n1_; have HO_458002 := n2_; have HO494 := n3_; have HO496 := n4_; have BK457 := n5_; have HB := n6_; clear n0_ n1_ n2_ n3_ n4_ n5_ n6_; (try clear hb); (try clear hb2); (try clear hk); (try clear hi); refine hK.out _ _ trivial (fun hHeld => ?_); clear hK K; refine norm_ (a' := ?_) ?_ ?_; rotate_left
         ·show Act.put _ (some 97) _ = _
          simp only [Act.put, qT, qZ, qS, i64_w, i32_w]; rfl
         refine pure_ (i := 4) (N := some 100) (v := ?_) (a' := ?_) #[true, true, true, true, true, false, false, false, false, false, false, false, false, false, false, false, false, false, false, false, false, false, false, false] rfl rfl (any_of HT_.out (by kernel_rfl)) (fun _ _ _ h => h) (Or.inl ⟨by rfl, ?_⟩) ?_ ?_; rotate_left
         ·intro w'; go_simp
          with_reducible rfl
         rotate_left
         ·simp only [Act.put, qT, qZ, qS, i64_w, i32_w]; rfl
         refine pure_ (i := 5) (N := some 101) (v := ?_) (a' := ?_) #[true, true, true, true, true, true, false, false, false, false, false, false, false, false, false, false, false, false, false, false, false, false, false, false] rfl rfl (any_of HT_.out (by kernel_rfl)) (fun _ _ _ h => h) (Or.inl ⟨by rfl, ?_⟩) ?_ ?_; rotate_left
         ·intro w'; go_simp
          with_reducible rfl
         rotate_left
         ·simp only [Act.put, qT, qZ, qS, i64_w, i32_w]; rfl
         refine pure_ (i := 6) (N := some 102) (v := undef) (a' := ?_) #[true, true, true, true, true, true, true, false, false, false, false, false, false, false, false, false, false, false, false, false, false, false, false, false] rfl rfl (any_of HT_.out (by kernel_rfl)) (fun _ _ _ h => h) (Or.inr ⟨by rfl, rfl⟩) ?_ ?_; rotate_left
         ·simp only [Act.put, qT, qZ, qS, i64_w, i32_w]; rfl
         refine pure_ (i := 7) (N := some 103) (v := undef) (a' := ?_) #[true, true, true, true, true, true, true, true, false, false, false, false, false, false, false, false, false, false, false, false, false, false, false, false] rfl rfl (any_of HT_.out (by kernel_rfl)) (fun _ _ _ h => h) (Or.inr ⟨by rfl, rfl⟩) ?_ ?_; rotate_left
         ·simp only [Act.put, qT, qZ, qS, i64_w, i32_w]; rfl
         refine pure_ (i := 8) (N := some 104) (v := undef) (a' := ?_) #[true, true, true, true, true, true, true, true, true, false, false, false, false, false, false, false, false, false, false, false, false, false, false, false] rfl rfl (any_of HT_.out (by kernel_rfl)) (fun _ _ _ h => h) (Or.inr ⟨by rfl, rfl⟩) ?_ ?_; rotate_left
         ·simp only [Act.put, qT, qZ, qS, i64_w, i32_w]; rfl
         refine pure_ (i := 9) (N := some 105) (v := undef) (a' := ?_) #[true, true, true, true, true, true, true, true, true, true, false, false, false, false, false, false, false, false, false, false, false, false, false, false] rfl rfl (any_of HT_.out (by kernel_rfl)) (fun _ _ _ h => h) (Or.inr ⟨by rfl, rfl⟩) ?_ ?_; rotate_left
         ·simp only [Act.put, qT, qZ, qS, i64_w, i32_w]; rfl
         refine pure_ (i := 10) (N := some 106) (v := undef) (a' := ?_) #[true, true, true, true, true, true, true, true, true, true, true, false, false, false, false, false, false, false, false, false, false, false, false, false] rfl rfl (any_of HT_.out (by kernel_rfl)) (fun _ _ _ h => h) (Or.inr ⟨by rfl, rfl⟩) ?_ ?_; rotate_left
         ·simp only [Act.put, qT, qZ, qS, i64_w, i32_w]; rfl
         refine pure_ (i := 11) (N := some 107) (v := undef) (a' := ?_) #[true, true, true, true, true, true, true, true, true, true, true, true, false, false, false, false, false, false, false, false, false, false, false, false] rfl rfl (any_of HT_.out (by kernel_rfl)) (fun _ _ _ h => h) (Or.inr ⟨by rfl, rfl⟩) ?_ ?_; rotate_left
         ·simp only [Act.put, qT, qZ, qS, i64_w, i32_w]; rfl
         refine pure_ (i := 12) (N := some 108) (v := undef) (a' := ?_) #[true, true, true, true, true, true, true, true, true, true, true, true, true, false, false, false, false, false, false, false, false, false, false, false] rfl rfl (any_of HT_.out (by kernel_rfl)) (fun _ _ _ h => h) (Or.inr ⟨by rfl, rfl⟩) ?_ ?_; rotate_left
         ·simp only [Act.put, qT, qZ, qS, i64_w, i32_w]; rfl
         refine pure_ (i := 13) (N := some 109) (v := undef) (a' := ?_) #[true, true, true, true, true, true, true, true, true, true, true, true, true, true, false, false, false, false, false, false, false, false, false, false] rfl rfl (any_of HT_.out (by kernel_rfl)) (fun _ _ _ h => h) (Or.inr ⟨by rfl, rfl⟩) ?_ ?_; rotate_left
         ·simp only [Act.put, qT, qZ, qS, i64_w, i32_w]; rfl
         refine pure_ (i := 14) (N := some 110) (v := ?_) (a' := ?_) #[true, true, true, true, true, true, true, true, true, true, true, true, true, true, true, false, false, false, false, false, false, false, false, false] rfl rfl (any_of HT_.out (by kernel_rfl)) (fun _ _ _ h => h) (Or.inl ⟨by rfl, ?_⟩) ?_ ?_; rotate_left
         ·intro w'; go_simp
          with_reducible rfl
         rotate_left
         ·simp only [Act.put, qT, qZ, qS, i64_w, i32_w]; rfl
         refine pure_ (i := 15) (N := some 111) (v := ?_) (a' := ?_) #[true, true, true, true, true, true, true, true, true, true, true, true, true, true, true, true, false, false, false, false, false, false, false, false] rfl rfl (any_of HT_.out (by kernel_rfl)) (fun _ _ _ h => h) (Or.inl ⟨by rfl, ?_⟩) ?_ ?_; rotate_left
         ·intro w'; go_simp
          with_reducible rfl
         rotate_left
         ·simp only [Act.put, qT, qZ, qS, i64_w, i32_w]; rfl
         refine pure_ (i := 16) (N := some 112) (v := undef) (a' := ?_) #[true, true, true, true, true, true, true, true, true, true, true, true, true, true, true, true, true, false, false, false, false, false, false, false] rfl rfl (any_of HT_.out (by kernel_rfl)) (fun _ _ _ h => h) (Or.inr ⟨by rfl, rfl⟩) ?_ ?_; rotate_left
         ·simp only [Act.put, qT, qZ, qS, i64_w, i32_w]; rfl
         refine pure_ (i := 17) (N := some 113) (v := undef) (a' := ?_) #[true, true, true, true, true, true, true, true, true, true, true, true, true, true, true, true, true, true, false, false, false, false, false, false] rfl rfl (any_of HT_.out (by kernel_rfl)) (fun _ _ _ h => h) (Or.inr ⟨by rfl, rfl⟩) ?_ ?_; rotate_left
         ·simp only [Act.put, qT, qZ, qS, i64_w, i32_w]; rfl
         refine pure_ (i := 18) (N := some 114) (v := undef) (a' := ?_) #[true, true, true, true, true, true, true, true, true, true, true, true, true, true, true, true, true, true, true, false, false, false, false, false] rfl rfl (any_of HT_.out (by kernel_rfl)) (fun _ _ _ h => h) (Or.inr ⟨by rfl, rfl⟩) ?_ ?_; rotate_left
         ·simp only [Act.put, qT, qZ, qS, i64_w, i32_w]; rfl
         refine pure_ (i := 19) (N := some 115) (v := ?_) (a' := ?_) #[true, true, true, true, true, true, true, true, true, true, true, true, true, true, true, true, true, true, true, true, false, false, false, false] rfl rfl (any_of HT_.out (by kernel_rfl)) (fun _ _ _ h => h) (Or.inl ⟨by rfl, ?_⟩) ?_ ?_; rotate_left
         ·intro w'; go_simp
          with_reducible rfl
         rotate_left
         ·simp only [Act.put, qT, qZ, qS, i64_w, i32_w]; rfl
         refine pure_ (i := 20) (N := some 116) (v := ?_) (a' := ?_) #[true, true, true, true, true, true, true, true, true, true, true, true, true, true, true, true, true, true, true, true, true, false, false, false] rfl rfl (any_of HT_.out (by kernel_rfl)) (fun _ _ _ h => h) (Or.inl ⟨by rfl, ?_⟩) ?_ ?_; rotate_left
         ·intro w'; go_simp
          with_reducible rfl
         rotate_left
         ·simp only [Act.put, qT, qZ, qS, i64_w, i32_w]; rfl
         refine pure_ (i := 21) (N := some 117) (v := undef) (a' := ?_) #[true, true, true, true, true, true, true, true, true, true, true, true, true, true, true, true, true, true, true, true, true, true, false, false] rfl rfl (any_of HT_.out (by kernel_rfl)) (fun _ _ _ h => h) (Or.inr ⟨by rfl, rfl⟩) ?_ ?_; rotate_left
         ·simp only [Act.put, qT, qZ, qS, i64_w, i32_w]; rfl
         refine pure_ (i := 22) (N := some 118) (v := ?_) (a' := ?_) #[true, true, true, true, true, true, true, true, true, true, true, true, true, true, true, true, true, true, true, true, true, true, true, false] rfl rfl (any_of HT_.out (by kernel_rfl)) (fun _ _ _ h => h) (Or.inl ⟨by rfl, ?_⟩) ?_ ?_; rotate_left
         ·intro w'; go_simp
          with_reducible rfl
         rotate_left
         ·simp only [Act.put, qT, qZ, qS, i64_w, i32_w]; rfl
         refine pure_ (i := 23) (N := some 2) (v := ?_) (a' := ?_) #[true, true, true, true, true, true, true, true, true, true, true, true, true, true, true, true, true, true, true, true, true, true, true, true] rfl rfl (any_of HT_.out (by kernel_rfl)) (fun _ _ _ h => h) (Or.inl ⟨by rfl, ?_⟩) ?_ ?_; rotate_left
         ·intro w'; go_simp
          with_reducible rfl
         rotate_left
         ·simp only [Act.put, qT, qZ, qS, i64_w, i32_w]; rfl
         refine done_ (done_of HT_.out (by kernel_rfl)) ?_; (try go_wp2); go_ret; exact ⟨by first | rfl | (simp [errW_none, errW_some] <;> rfl) | (simp [*, errW_none, errW_some] <;> rfl), PX HB⟩
end Go.Proofs.YtjmgkknbgffbjaaDoor.P
namespace Go.Proofs.YtjmgkknbgffbjaaDoor.Pure
open Go.RowKit Go.Proofs.YtjmgkknbgffbjaaDoor.P Go.Proofs.YtjmgkknbgffbjaaDoorW.PrintWords Go.Proofs.YtjmgkknbgffbjaaDoorW.PrintLast Go.Proofs.YtjmgkknbgffbjaaDoorW.PrintErr Go.Proofs.YtjmgkknbgffbjaaDoorW.PrintMore Go.Proofs.YtjmgkknbgffbjaaDoor.Lin
set_option linter.unusedVariables false
set_option linter.unusedSimpArgs false
theorem rdw_in {R : List Int} {i : Nat} (h : i < R.length) : rd R (i : Int) ∈ R := by unfold rd; rw [Int.toNat_natCast]; exact getD_mem h
theorem same_refl (S : List (List Int)) (hl : S.length ≤ 1000000) : Ev (fun k => geyserref04_Same.f k S S) true := by
  have hl0 : ∀ d c : Nat, c + d = S.length → Ev (fun k => geyserref04_Same.l0 k S S (c : Int)) true := by
    intro d
    induction d with
    | zero =>
      intro c hc
      refine Ev.step (f := fun _ => some true) (fun k => ?_) (Ev.now _)
      rw [geyserref04_Same.l0, if_neg (by omega)]
    | succ d ih =>
      intro c hc
      have hw : wrap64 ((c : Int) + 1) = ((c + 1 : Nat) : Int) := by rw [w64s (by omega) (by omega)]; rfl
      refine Ev.step (fun k => ?_) (ih (c + 1) (by omega))
      rw [geyserref04_Same.l0, if_pos (by omega), if_pos (by omega), if_pos (by omega), if_pos rfl, hw]
  refine Ev.congr (fun k => ?_) (hl0 S.length 0 (by omega))
  unfold geyserref04_Same.f
  rw [if_pos rfl]
  rfl
theorem true_l1 {m : Nat} {S : List (List Int)} (h2 : S.length ≤ 12) (hS : ∀ s ∈ S, SymOK m s) {R : List Int} {x : S74} {L : List V} (hT : TI x S.length m (DS S) L) (i : Int) {r : Bool} (hr : Ev (fun k => geyserlaw05_ElimTrue.l0 k [x] (wrap64 (i + 1)) (m : Int) S R) r) :
    ∀ d c : Nat, c + d = S.length → Ev (fun k => geyserlaw05_ElimTrue.l1 k [x] i (c : Int) (m : Int) S R) r := by
  intro d
  induction d with
  | zero =>
    intro c hc
    refine Ev.step (fun k => ?_) hr
    rw [geyserlaw05_ElimTrue.l1, if_neg (by omega)]
  | succ d ih =>
    intro c hc
    have hw : wrap64 ((c : Int) + 1) = ((c + 1 : Nat) : Int) := by rw [w64s (by omega) (by omega)]; rfl
    have er : rd_Lsu8 S (c : Int) = S.getD c [] := by unfold rd_Lsu8; rw [Int.toNat_natCast]
    have key : ∀ {v : List Int × List FE}, Ev (fun k => elim_System_Value.f k [x] (c : Int)) v → (v.2 = [] → v.1 = S.getD c []) → Ev (fun k => geyserlaw05_ElimTrue.l1 k [x] i (c : Int) (m : Int) S R) r := fun {v} he hv => by
      refine Ev.step (f := fun k => (elim_System_Value.f k [x] (c : Int)).bind fun bt484 => (if (bt484.2.length : Int) = 0 then (if 0 ≤ (c : Int) then (if (strOfNums bt484.1).toList = (strOfNums (rd_Lsu8 S (c : Int))).toList then (geyserlaw05_ElimTrue.l1 k [x] i ((c + 1 : Nat) : Int) (m : Int) S R) else (some false)) else (none)) else (geyserlaw05_ElimTrue.l1 k [x] i ((c + 1 : Nat) : Int) (m : Int) S R))) (fun k => ?_) (Ev.bind he (Ev.congr (fun k => ?_) (ih (c + 1) (by omega))))
      · rw [geyserlaw05_ElimTrue.l1, if_pos (by omega), hw]
      · obtain ⟨v1, v2⟩ := v
        cases v2 with
        | nil =>
          have := hv rfl
          refine (if_pos ?_).trans ((if_pos ?_).trans (if_pos ?_))
          · rfl
          · omega
          · rw [er]
            show (strOfNums v1).toList = _
            rw [show v1 = S.getD c [] from this]
        | cons a t =>
          refine if_neg ?_
          show ¬ (((a :: t).length : Nat) : Int) = 0
          rw [List.length_cons]; omega
    rcases val_ev hS hT (by omega : c < S.length) with ⟨he, _⟩ | ⟨he, _⟩
    · exact key he (fun _ => rfl)
    · exact key he (fun h => by cases h)
theorem true_l0 {m : Nat} (hm1 : 1 ≤ m) (hm2 : m ≤ 4) {S : List (List Int)} (h1 : 1 ≤ S.length) (h2 : S.length ≤ 12) (hS : ∀ s ∈ S, SymOK m s) {R : List Int} (hl : R.length ≤ 24) (hR : ∀ a ∈ R, RowOK S.length [a]) :
    ∀ (d i : Nat) (x : S74) (L : List V), i + d = R.length → TI x S.length m (DS S) L → L.length = i →
    Ev (fun k => geyserlaw05_ElimTrue.l0 k [x] (i : Int) (m : Int) S R) true := by
  intro d
  induction d with
  | zero =>
    intro i x L hi hT hn
    have aw : Ev (fun k => (geyserlaw05_awake.f k).bind fun t500 => some t500) true := Ev.bind awake05_ev (Ev.now _)
    have hcl : elim_System_Clashed.f [x] = some false := by rw [clashed_eq, hT.f4]
    have key : ∀ {v : List (List Int) × List FE}, Ev (fun k => elim_System_All.f k [x]) v → (v.2.length = 0 ↔ x.f2.length = S.length) → (v.2.length = 0 → v.1 = S) → Ev (fun k => geyserlaw05_ElimTrue.l0 k [x] (i : Int) (m : Int) S R) true := fun {v} he hv hv2 => by
      refine Ev.step (f := fun k => (elim_System_All.f k [x]).bind fun bt491 => ((elim_System_Whole.f [x]).bind fun t497 => (if (t497 == ((bt491.2.length : Int) == 0)) = true then (if (bt491.2.length : Int) = 0 then ((geyserref04_Same.f k bt491.1 S).bind fun t498 => (if t498 = true then ((elim_System_Clashed.f [x]).bind fun t499 => (if t499 = true then (some false) else ((geyserlaw05_awake.f k).bind fun t500 => (some t500)))) else (some false))) else ((elim_System_Clashed.f [x]).bind fun t501 => (if t501 = true then (some false) else ((geyserlaw05_awake.f k).bind fun t502 => (some t502))))) else (some false)))) (fun k => ?_) (Ev.bind he ?_)
      · rw [geyserlaw05_ElimTrue.l0, if_neg (by omega)]
      · have ew : (decide (x.f2.length = S.length) == ((v.2.length : Int) == 0)) = true := by
          by_cases h : v.2.length = 0
          · rw [h, decide_eq_true (hv.1 h)]; rfl
          · rw [decide_eq_false (fun e => h (hv.2 e)), show (((v.2.length : Nat) : Int) == 0) = false by simp; intro e; exact h (by rw [e]; rfl)]; rfl
        by_cases h : v.2.length = 0
        · refine Ev.congr (f := fun k => (geyserref04_Same.f k v.1 S).bind fun t498 => (if t498 = true then ((geyserlaw05_awake.f k).bind fun t500 => (some t500)) else (some false))) (fun k => ?_) ?_
          · rw [whole_eq hT, Option.bind_some, if_pos ew, if_pos (by omega), hcl]
            rfl
          · rw [hv2 h]
            exact Ev.bind (same_refl S (by omega)) (Ev.congr (fun k => if_pos rfl) aw)
        · refine Ev.congr (fun k => ?_) aw
          rw [whole_eq hT, Option.bind_some, if_pos ew, if_neg (by omega), hcl]
          rfl
    rcases all_ev5 hS hT with ⟨hw, he⟩ | ⟨hw, f, he⟩
    · exact key he ⟨fun _ => hw, fun _ => rfl⟩ (fun _ => rfl)
    · exact key he ⟨(fun h => by cases h), (fun h => absurd h hw)⟩ (fun h => by cases h)
  | succ d ih =>
    intro i x L hi hT hn
    have hlt : i < R.length := by omega
    have hr := hR _ (rdw_in hlt)
    have hw : wrap64 ((i : Int) + 1) = ((i + 1 : Nat) : Int) := by rw [w64s (by omega) (by omega)]; rfl
    obtain ⟨so, st⟩ := tsym_ok hS hr
    have es := sym_ev hm1 (by omega) hS hr R
    have hadd : ∃ kind x', Ev (fun k => elim_System_Add.f k [x] [rd R (i : Int)] (tsym m S [rd R (i : Int)])) (kind, [], [x']) ∧ (kind = 1 ∨ kind = 2) ∧ TI x' S.length m (DS S) (L ++ [J S.length [rd R (i : Int)] (tsym m S [rd R (i : Int)])]) := by
      rcases hT.add (by omega) hr so st with ⟨x', he, ht, _⟩ | ⟨he, ht, _⟩
      · exact ⟨1, x', he, .inl rfl, ht⟩
      · exact ⟨2, x, he, .inr rfl, ht⟩
    obtain ⟨kind, x', he, hk, ht⟩ := hadd
    have hl0 := ih (i + 1) x' _ (by omega) ht (by rw [List.length_append, hn]; rfl)
    rw [← hw] at hl0
    have hl1 := true_l1 h2 hS ht (i : Int) hl0 S.length 0 (by omega)
    have hj : Ev (fun k => geyserlaw05_ElimTrue.j2 k [x'] (i : Int) false (m : Int) S R) true := Ev.step (fun k => by rw [geyserlaw05_ElimTrue.j2, if_neg Bool.false_ne_true]; rfl) hl1
    refine Ev.step (f := fun k => (geyserlaw05_True_sym.f k (m : Int) S R (rd R (i : Int))).bind fun t476 => ((elim_System_Add.f k [x] [rd R (i : Int)] t476).bind fun bt479 => (if (bt479.2.1.length : Int) = 0 then (if bt479.1 = 1 then (geyserlaw05_ElimTrue.j2 k bt479.2.2 (i : Int) false (m : Int) S R) else (geyserlaw05_ElimTrue.j2 k bt479.2.2 (i : Int) (bt479.1 != 2) (m : Int) S R)) else (geyserlaw05_ElimTrue.j2 k bt479.2.2 (i : Int) true (m : Int) S R)))) (fun k => ?_) (Ev.bind es (Ev.bind he (Ev.congr (fun k => ?_) hj)))
    · rw [geyserlaw05_ElimTrue.l0, if_pos (by omega), if_pos (by omega)]
    · refine (if_pos ?_).trans ?_
      · rfl
      · rcases hk with rfl | rfl
        · exact if_pos rfl
        · refine (if_neg ?_).trans rfl
          show ¬ ((2 : Int) = 1)
          decide
theorem ElimTrue (a0 : Int) (L : List (List Int)) (R : List Int) (hL : ∀ s ∈ L, ∀ x ∈ s, 0 ≤ x ∧ x ≤ 255) (hR : ∀ x ∈ R, U64 x) : ∃ k, geyserlaw05_ElimTrue.f k a0 L R = some true := by
  refine Ev.rounds (g := fun k => geyserlaw05_ElimTrue.f k a0 L R) ?_
  obtain ⟨m, S, rows, he, ⟨m1, m2⟩, ⟨s1, s2⟩, hS, hr, hrow⟩ := fit_ev a0 L hL R hR
  have hT := TI.new (n := S.length) (m := m) s1 (by omega) m1 (by omega) (DS S)
  have hl := true_l0 m1 m2 s1 s2 hS hr hrow rows.length 0 (newS S.length m) [] (by omega) hT rfl
  unfold geyserlaw05_ElimTrue.f
  refine Ev.bind he ?_
  refine Ev.congr (f := fun k => geyserlaw05_ElimTrue.j0 k [newS S.length m] false (m : Int) S rows) (fun k => ?_) (Ev.step (fun k => ?_) hl)
  · show (elim_New.f (S.length : Int) (m : Int)).bind _ = _
    rw [new_eq s1 (by omega) m1 (by omega), Option.bind_some]
    rfl
  · rw [geyserlaw05_ElimTrue.j0, if_neg Bool.false_ne_true]
    rfl
end Go.Proofs.YtjmgkknbgffbjaaDoor.Pure
