-- joined by merge.py: Px37 Px38 PureRSame Px40 Px41 PureBlockingCuts
import Derived.Test.YtomeefngdnmdaaaDoorMBlockingCuts1
namespace Go.Proofs.YtomeefngdnmdaaaDoor.P
open Go.RowKit Go.Proofs.YtomeefngdnmdaaaDoorW.PrintWords Go.Proofs.YtomeefngdnmdaaaDoorW.PrintLast Go.Proofs.YtomeefngdnmdaaaDoorW.PrintErr Go.Proofs.YtomeefngdnmdaaaDoorW.PrintMore
attribute [local go_sem] max2_int min2_int max_two min_two max_three min_three max_four min_four run_eql_errOf run_neq_errOf eqGuard_errOf   -- for this text's walks alone
set_option linter.unusedVariables false
set_option linter.unusedSimpArgs false

/-! ### geyserref04_Same: function 33 -/
def geyserref04_Same.l0 : Nat → List (List Int) → List (List Int) → Int → Option (Bool)
  | 0, _, _, _ => none
  | k + 1, x0, x1, x5 => if x5 < (x0.length : Int) then (if 0 ≤ x5 then (if x5 < (x1.length : Int) then (if (strOfNums (rd_Lsu8 x0 x5)).toList = (strOfNums (rd_Lsu8 x1 x5)).toList then (geyserref04_Same.l0 k x0 x1 (wrap64 (x5 + 1))) else (some false)) else (none)) else (none)) else (some true)
def geyserref04_Same.f (k : Nat) (l0 : List (List Int)) (l1 : List (List Int)) : Option (Bool) := if (l0.length : Int) = (l1.length : Int) then (geyserref04_Same.l0 k l0 l1 0) else (some false)
theorem geyserref04_Same.mono_l : ∀ k, (∀ y0 y1 y2, LeO (geyserref04_Same.l0 k y0 y1 y2) (geyserref04_Same.l0 (k + 1) y0 y1 y2))
  | 0 => fun _ _ _ r h => by simp [geyserref04_Same.l0] at h
  | k + 1 => by
    have ih0 := geyserref04_Same.mono_l k
    · intro y0 y1 y2
      unfold geyserref04_Same.l0
      repeat' first
      | (with_reducible exact ih0 _ _ _)
      | (with_reducible exact LeO.refl _)
      | (with_reducible exact LeO.none _)
      | (with_reducible refine LeO.ite ?_ ?_)
      | (with_reducible refine LeO.bind ?_ (fun _ => ?_))
      | exact ih0 _ _ _
      | exact LeO.none _
      | refine LeO.ite ?_ ?_
      | refine LeO.bind ?_ (fun _ => ?_)
theorem geyserref04_Same.mono : ∀ a0 a1 k, LeO (geyserref04_Same.f k a0 a1) (geyserref04_Same.f (k + 1) a0 a1) := by
  intro a0 a1 k
  have ih0 := geyserref04_Same.mono_l k
  unfold geyserref04_Same.f
  repeat' first
      | (with_reducible exact ih0 _ _ _)
      | (with_reducible exact LeO.refl _)
      | (with_reducible exact LeO.none _)
      | (with_reducible refine LeO.ite ?_ ?_)
      | (with_reducible refine LeO.bind ?_ (fun _ => ?_))
      | exact ih0 _ _ _
      | exact LeO.none _
      | refine LeO.ite ?_ ?_
      | refine LeO.bind ?_ (fun _ => ?_)
set_option maxHeartbeats 8000000 in
set_option maxRecDepth 100000 in
theorem geyserref04_Same.calls (k : Nat) (A0 : Option Addr) (c0 : Nat) (l0 : List (List Int)) (A1 : Option Addr) (c1 : Nat) (l1 : List (List Int)) (r : Bool) (w : World) (hr0 : Kd.C (Kd.slice 5 (Kd.int .u8)) w A0 l0.length l0) (hc0 : l0.length ≤ c0) (hr1 : Kd.C (Kd.slice 5 (Kd.int .u8)) w A1 l1.length l1) (hc1 : l1.length ≤ c1) (h : geyserref04_Same.f k l0 l1 = some r) :
    Calls Tryd.prog 33 #[.slice A0 l0.length c0, .slice A1 l1.length c1] w fun e w' => e = .returned (.bool r) ∧ Drawn0 w w' := by
  have HR0 := Aside0.mk hr0
  have HC0 := Aside0.mk hc0
  clear hr0 hc0
  have HR1 := Aside0.mk hr1
  have HC1 := Aside0.mk hc1
  clear hr1 hc1
  have H : (if (l0.length : Int) = (l1.length : Int) then (geyserref04_Same.l0 k l0 l1 0) else (some false)) = some r := h
  clear h
  by_cases c3 : (l0.length : Int) = (l1.length : Int)
  · rw [if_pos c3] at H
    have c3b0 : ((l0.length : Int) == (l1.length : Int)) = true := beq_iff_eq.mpr c3
    have c3b1 : ((l0.length : Int) != (l1.length : Int)) = false := bne_eq_false_iff_eq.mpr c3
    have c3b2 : (l0.length == l1.length) = true := by first | simpa using c3 | (simp at c3 ⊢; omega)
    clear c3
    have H' := Aside0.mk H
    clear H
    go_enter Tryd.func33, Tryd.ntmps33
    go_wp2
    repeat (go_quiet (fail); try go_wp2)
    go_loopg [5] k (fun kq v5 w' => ∃ (x5_1 : Int), v5 = .int .i64 x5_1 ∧ Aside0 (geyserref04_Same.l0 kq l0 l1 x5_1 = some r) ∧ Aside0 (kq ≤ k) ∧ Drawn0 w w')
    case atStart => exact ⟨(0), (by first | rfl | (simp; done) | (simp [*]; done)), H', ⟨Nat.le_refl _⟩, by repeat (first | exact Drawn0.refl _ | apply Drawn0.step)⟩
    case round =>
      clear H'
      try clear c1
      try clear p2
      try clear c3
      try clear c3b0
      try clear c3b1
      try clear c3b2
      obtain ⟨x5_1, rfl, HA, HK1, ⟨m1, rfl⟩⟩ := hrel
      cases gk with
      | zero => exact absurd HA.out (by simp [geyserref04_Same.l0])
      | succ k1 =>
        have H := HA.out
        clear HA
        simp only [geyserref04_Same.l0] at H
        by_cases c4 : x5_1 < (l0.length : Int)
        · rw [if_pos c4] at H
          have c4b0 : decide (x5_1 < (l0.length : Int)) = true := decide_eq_true c4
          clear c4
          by_cases c5 : 0 ≤ x5_1
          · rw [if_pos c5] at H
            have c5b0 : decide (0 ≤ x5_1) = true := decide_eq_true c5
            clear c5
            by_cases c6 : x5_1 < (l1.length : Int)
            · rw [if_pos c6] at H
              have c6b0 : decide (x5_1 < (l1.length : Int)) = true := decide_eq_true c6
              clear c6
              by_cases c7 : (strOfNums (rd_Lsu8 l0 x5_1)).toList = (strOfNums (rd_Lsu8 l1 x5_1)).toList
              · rw [if_pos c7] at H
                have c7b0 : ((strOfNums (rd_Lsu8 l0 x5_1)).toList == (strOfNums (rd_Lsu8 l1 x5_1)).toList) = true := beq_iff_eq.mpr c7
                have c7b1 : ((strOfNums (rd_Lsu8 l0 x5_1)).toList != (strOfNums (rd_Lsu8 l1 x5_1)).toList) = false := bne_eq_false_iff_eq.mpr c7
                clear c7
                have H' := Aside0.mk H
                clear H
                have p344 : 0 ≤ (x5_1 : Int) := of_decide_eq_true (by first | (with_reducible assumption) | assumption)
                have q344 : x5_1 < (l0.length : Int) := of_decide_eq_true (by first | (with_reducible assumption) | assumption)
                obtain ⟨ad344, A344_0, c344_0, e344, hx344_0, hl344_0, hi344_0⟩ := at_Lsu8 HR0.out x5_1 p344 q344
                cases e344
                have HR344_0 := Aside0.mk hi344_0
                have HC344_0 := Aside0.mk hl344_0
                clear hi344_0 hl344_0
                replace p344 := eq_true p344
                replace q344 := eq_true q344
                have hcv8 := Kd.C_string (P := Tryd.prog) (A := A344_0) (c := c344_0) Tryd.underlying42 Tryd.underlying5 Tryd.underlying9 HR344_0.out
                have hcv9 := fun m_ : Nat => Kd.C_string (P := Tryd.prog) (A := A344_0) (c := c344_0) Tryd.underlying42 Tryd.underlying5 Tryd.underlying9 (Kd.C_drewN HR344_0.out m_)
                have p345 : 0 ≤ (x5_1 : Int) := of_decide_eq_true (by first | (with_reducible assumption) | assumption)
                have q345 : x5_1 < (l1.length : Int) := of_decide_eq_true (by first | (with_reducible assumption) | assumption)
                obtain ⟨ad345, A345_0, c345_0, e345, hx345_0, hl345_0, hi345_0⟩ := at_Lsu8 HR1.out x5_1 p345 q345
                cases e345
                have HR345_0 := Aside0.mk hi345_0
                have HC345_0 := Aside0.mk hl345_0
                clear hi345_0 hl345_0
                replace p345 := eq_true p345
                replace q345 := eq_true q345
                have hcv10 := Kd.C_string (P := Tryd.prog) (A := A345_0) (c := c345_0) Tryd.underlying42 Tryd.underlying5 Tryd.underlying9 HR345_0.out
                have hcv11 := fun m_ : Nat => Kd.C_string (P := Tryd.prog) (A := A345_0) (c := c345_0) Tryd.underlying42 Tryd.underlying5 Tryd.underlying9 (Kd.C_drewN HR345_0.out m_)
                go_wp2
                repeat (go_quiet (fail); try go_wp2)
                go_roundg k1
                case measure => have := HK1.out; omega
                case rel => exact ⟨(wrap64 (x5_1 + 1)), (by first | rfl | (simp; done) | (simp [*]; done)), H', ⟨by have := HK1.out; omega⟩, by repeat (first | exact Drawn0.refl _ | apply Drawn0.step)⟩
              · rw [if_neg c7] at H
                have c7b0 : ((strOfNums (rd_Lsu8 l0 x5_1)).toList == (strOfNums (rd_Lsu8 l1 x5_1)).toList) = false := beq_eq_false_iff_ne.mpr c7
                have c7b1 : ((strOfNums (rd_Lsu8 l0 x5_1)).toList != (strOfNums (rd_Lsu8 l1 x5_1)).toList) = true := bne_iff_ne.mpr c7
                obtain rfl := Option.some.inj H
                have p344 : 0 ≤ (x5_1 : Int) := of_decide_eq_true (by first | (with_reducible assumption) | assumption)
                have q344 : x5_1 < (l0.length : Int) := of_decide_eq_true (by first | (with_reducible assumption) | assumption)
                obtain ⟨ad344, A344_0, c344_0, e344, hx344_0, hl344_0, hi344_0⟩ := at_Lsu8 HR0.out x5_1 p344 q344
                cases e344
                have HR344_0 := Aside0.mk hi344_0
                have HC344_0 := Aside0.mk hl344_0
                clear hi344_0 hl344_0
                replace p344 := eq_true p344
                replace q344 := eq_true q344
                have hcv12 := Kd.C_string (P := Tryd.prog) (A := A344_0) (c := c344_0) Tryd.underlying42 Tryd.underlying5 Tryd.underlying9 HR344_0.out
                have hcv13 := fun m_ : Nat => Kd.C_string (P := Tryd.prog) (A := A344_0) (c := c344_0) Tryd.underlying42 Tryd.underlying5 Tryd.underlying9 (Kd.C_drewN HR344_0.out m_)
                have p345 : 0 ≤ (x5_1 : Int) := of_decide_eq_true (by first | (with_reducible assumption) | assumption)
                have q345 : x5_1 < (l1.length : Int) := of_decide_eq_true (by first | (with_reducible assumption) | assumption)
                obtain ⟨ad345, A345_0, c345_0, e345, hx345_0, hl345_0, hi345_0⟩ := at_Lsu8 HR1.out x5_1 p345 q345
                cases e345
                have HR345_0 := Aside0.mk hi345_0
                have HC345_0 := Aside0.mk hl345_0
                clear hi345_0 hl345_0
                replace p345 := eq_true p345
                replace q345 := eq_true q345
                have hcv14 := Kd.C_string (P := Tryd.prog) (A := A345_0) (c := c345_0) Tryd.underlying42 Tryd.underlying5 Tryd.underlying9 HR345_0.out
                have hcv15 := fun m_ : Nat => Kd.C_string (P := Tryd.prog) (A := A345_0) (c := c345_0) Tryd.underlying42 Tryd.underlying5 Tryd.underlying9 (Kd.C_drewN HR345_0.out m_)
                go_wp2
                repeat (go_quiet (fail); try go_wp2)
                go_ret
                exact ⟨by first | rfl | (simp; done) | (simp [*]; done), by repeat (first | exact Drawn0.refl _ | apply Drawn0.step)⟩
            · rw [if_neg c6] at H
              exact absurd H (by simp)
          · rw [if_neg c5] at H
            exact absurd H (by simp)
        · rw [if_neg c4] at H
          have c4b0 : decide (x5_1 < (l0.length : Int)) = false := decide_eq_false c4
          clear c4
          obtain rfl := Option.some.inj H
          go_wp2
          repeat (go_quiet (fail); try go_wp2)
          go_ret
          exact ⟨by first | rfl | (simp; done) | (simp [*]; done), by repeat (first | exact Drawn0.refl _ | apply Drawn0.step)⟩
  · rw [if_neg c3] at H
    have c3b0 : ((l0.length : Int) == (l1.length : Int)) = false := beq_eq_false_iff_ne.mpr c3
    have c3b1 : ((l0.length : Int) != (l1.length : Int)) = true := bne_iff_ne.mpr c3
    have c3b2 : (l0.length == l1.length) = false := by first | simpa using c3 | (simp at c3 ⊢; omega)
    obtain rfl := Option.some.inj H
    go_enter Tryd.func33, Tryd.ntmps33
    go_wp2
    repeat (go_quiet (fail); try go_wp2)
    go_ret
    exact ⟨by first | rfl | (simp; done) | (simp [*]; done), by repeat (first | exact Drawn0.refl _ | apply Drawn0.step)⟩


/-! ### geyserref14_Same: function 19 -/
def geyserref14_Same.l0 : Nat → List (List (List Int)) → List (List (List Int)) → Int → Option (Bool)
  | 0, _, _, _ => none
  | k + 1, x0, x1, x5 => if x5 < (x0.length : Int) then (if 0 ≤ x5 then (if x5 < (x1.length : Int) then ((geyserref04_Same.f k (rd_Lssu8 x0 x5) (rd_Lssu8 x1 x5)).bind fun t348 => (if t348 = true then (geyserref14_Same.l0 k x0 x1 (wrap64 (x5 + 1))) else (some false))) else (none)) else (none)) else (some true)
def geyserref14_Same.f (k : Nat) (l0 : List (List (List Int))) (l1 : List (List (List Int))) : Option (Bool) := if (l0.length : Int) = (l1.length : Int) then (geyserref14_Same.l0 k l0 l1 0) else (some false)
theorem geyserref14_Same.mono_l : ∀ k, (∀ y0 y1 y2, LeO (geyserref14_Same.l0 k y0 y1 y2) (geyserref14_Same.l0 (k + 1) y0 y1 y2))
  | 0 => fun _ _ _ r h => by simp [geyserref14_Same.l0] at h
  | k + 1 => by
    have ih0 := geyserref14_Same.mono_l k
    · intro y0 y1 y2
      unfold geyserref14_Same.l0
      repeat' first
      | (with_reducible exact ih0 _ _ _)
      | (with_reducible exact geyserref04_Same.mono _ _ _)
      | (with_reducible exact LeO.refl _)
      | (with_reducible exact LeO.none _)
      | (with_reducible refine LeO.ite ?_ ?_)
      | (with_reducible refine LeO.bind ?_ (fun _ => ?_))
      | exact ih0 _ _ _
      | exact geyserref04_Same.mono _ _ _
      | exact LeO.none _
      | refine LeO.ite ?_ ?_
      | refine LeO.bind ?_ (fun _ => ?_)
theorem geyserref14_Same.mono : ∀ a0 a1 k, LeO (geyserref14_Same.f k a0 a1) (geyserref14_Same.f (k + 1) a0 a1) := by
  intro a0 a1 k
  have ih0 := geyserref14_Same.mono_l k
  unfold geyserref14_Same.f
  repeat' first
      | (with_reducible exact ih0 _ _ _)
      | (with_reducible exact geyserref04_Same.mono _ _ _)
      | (with_reducible exact LeO.refl _)
      | (with_reducible exact LeO.none _)
      | (with_reducible refine LeO.ite ?_ ?_)
      | (with_reducible refine LeO.bind ?_ (fun _ => ?_))
      | exact ih0 _ _ _
      | exact geyserref04_Same.mono _ _ _
      | exact LeO.none _
      | refine LeO.ite ?_ ?_
      | refine LeO.bind ?_ (fun _ => ?_)
set_option maxHeartbeats 8000000 in
set_option maxRecDepth 100000 in
theorem geyserref14_Same.calls (k : Nat) (A0 : Option Addr) (c0 : Nat) (l0 : List (List (List Int))) (A1 : Option Addr) (c1 : Nat) (l1 : List (List (List Int))) (r : Bool) (w : World) (hr0 : Kd.C (Kd.slice 42 (Kd.slice 5 (Kd.int .u8))) w A0 l0.length l0) (hc0 : l0.length ≤ c0) (hr1 : Kd.C (Kd.slice 42 (Kd.slice 5 (Kd.int .u8))) w A1 l1.length l1) (hc1 : l1.length ≤ c1) (h : geyserref14_Same.f k l0 l1 = some r) :
    Calls Tryd.prog 19 #[.slice A0 l0.length c0, .slice A1 l1.length c1] w fun e w' => e = .returned (.bool r) ∧ Drawn0 w w' := by
  have HR0 := Aside0.mk hr0
  have HC0 := Aside0.mk hc0
  clear hr0 hc0
  have HR1 := Aside0.mk hr1
  have HC1 := Aside0.mk hc1
  clear hr1 hc1
  have H : (if (l0.length : Int) = (l1.length : Int) then (geyserref14_Same.l0 k l0 l1 0) else (some false)) = some r := h
  clear h
  by_cases c3 : (l0.length : Int) = (l1.length : Int)
  · rw [if_pos c3] at H
    have c3b0 : ((l0.length : Int) == (l1.length : Int)) = true := beq_iff_eq.mpr c3
    have c3b1 : ((l0.length : Int) != (l1.length : Int)) = false := bne_eq_false_iff_eq.mpr c3
    have c3b2 : (l0.length == l1.length) = true := by first | simpa using c3 | (simp at c3 ⊢; omega)
    clear c3
    have H' := Aside0.mk H
    clear H
    go_enter Tryd.func19, Tryd.ntmps19
    go_wp2
    repeat (go_quiet (fail); try go_wp2)
    go_loopg [5] k (fun kq v5 w' => ∃ (x5_1 : Int), v5 = .int .i64 x5_1 ∧ Aside0 (geyserref14_Same.l0 kq l0 l1 x5_1 = some r) ∧ Aside0 (kq ≤ k) ∧ Drawn0 w w')
    case atStart => exact ⟨(0), (by first | rfl | (simp; done) | (simp [*]; done)), H', ⟨Nat.le_refl _⟩, by repeat (first | exact Drawn0.refl _ | apply Drawn0.step)⟩
    case round =>
      clear H'
      try clear c1
      try clear p2
      try clear c3
      try clear c3b0
      try clear c3b1
      try clear c3b2
      obtain ⟨x5_1, rfl, HA, HK1, ⟨m1, rfl⟩⟩ := hrel
      cases gk with
      | zero => exact absurd HA.out (by simp [geyserref14_Same.l0])
      | succ k1 =>
        have H := HA.out
        clear HA
        simp only [geyserref14_Same.l0] at H
        by_cases c4 : x5_1 < (l0.length : Int)
        · rw [if_pos c4] at H
          have c4b0 : decide (x5_1 < (l0.length : Int)) = true := decide_eq_true c4
          clear c4
          by_cases c5 : 0 ≤ x5_1
          · rw [if_pos c5] at H
            have c5b0 : decide (0 ≤ x5_1) = true := decide_eq_true c5
            clear c5
            by_cases c6 : x5_1 < (l1.length : Int)
            · rw [if_pos c6] at H
              have c6b0 : decide (x5_1 < (l1.length : Int)) = true := decide_eq_true c6
              clear c6
              replace H := Option.bind_eq_some_iff.mp H
              obtain ⟨t348, A70, H⟩ := H
              replace H : (if t348 = true then (geyserref14_Same.l0 k1 l0 l1 (wrap64 (x5_1 + 1))) else (some false)) = some r := H
              have A7 := Aside0.mk A70
              clear A70
              by_cases c8 : t348 = true
              · subst c8
                have H1 : (geyserref14_Same.l0 k1 l0 l1 (wrap64 (x5_1 + 1))) = some r := by rw [if_pos rfl] at H; exact H
                clear H
                have H := H1
                clear H1
                have H' := Aside0.mk H
                clear H
                have p346 : 0 ≤ (x5_1 : Int) := of_decide_eq_true (by first | (with_reducible assumption) | assumption)
                have q346 : x5_1 < (l0.length : Int) := of_decide_eq_true (by first | (with_reducible assumption) | assumption)
                obtain ⟨ad346, A346_0, c346_0, e346, hx346_0, hl346_0, hi346_0⟩ := at_Lssu8 HR0.out x5_1 p346 q346
                cases e346
                have HR346_0 := Aside0.mk hi346_0
                have HC346_0 := Aside0.mk hl346_0
                clear hi346_0 hl346_0
                replace p346 := eq_true p346
                replace q346 := eq_true q346
                have p347 : 0 ≤ (x5_1 : Int) := of_decide_eq_true (by first | (with_reducible assumption) | assumption)
                have q347 : x5_1 < (l1.length : Int) := of_decide_eq_true (by first | (with_reducible assumption) | assumption)
                obtain ⟨ad347, A347_0, c347_0, e347, hx347_0, hl347_0, hi347_0⟩ := at_Lssu8 HR1.out x5_1 p347 q347
                cases e347
                have HR347_0 := Aside0.mk hi347_0
                have HC347_0 := Aside0.mk hl347_0
                clear hi347_0 hl347_0
                replace p347 := eq_true p347
                replace q347 := eq_true q347
                go_wp2_with (first | (go_at_call 33; (with_reducible refine (geyserref04_Same.calls k1 _ _ (rd_Lssu8 l0 x5_1) _ _ (rd_Lssu8 l1 x5_1) true _ ?side1 ?side2 ?side3 ?side4 A7.out).mono ?_); (case side1 => repeat (first | exact HR346_0.out | (with_reducible refine Kd.C_alloc ?_ _) | (with_reducible refine Kd.C_drewN ?_ _) | (with_reducible refine Kd.C_drew ?_))); (case side2 => exact HC346_0.out); (case side3 => repeat (first | exact HR347_0.out | (with_reducible refine Kd.C_alloc ?_ _) | (with_reducible refine Kd.C_drewN ?_ _) | (with_reducible refine Kd.C_drew ?_))); (case side4 => exact HC347_0.out); rintro e w' ⟨rfl, ⟨nd, rfl⟩⟩; (try first | exact ⟨rfl, _, World.drewN_drewN _ _ _⟩ | exact ⟨rfl, _, Eq.trans (World.drewN_drewN _ _ _) (congrArg (World.drewN _) (Nat.add_assoc _ _ _))⟩)))
                repeat (go_quiet (first | (go_at_call 33; (with_reducible refine (geyserref04_Same.calls k1 _ _ (rd_Lssu8 l0 x5_1) _ _ (rd_Lssu8 l1 x5_1) true _ ?side1 ?side2 ?side3 ?side4 A7.out).mono ?_); (case side1 => repeat (first | exact HR346_0.out | (with_reducible refine Kd.C_alloc ?_ _) | (with_reducible refine Kd.C_drewN ?_ _) | (with_reducible refine Kd.C_drew ?_))); (case side2 => exact HC346_0.out); (case side3 => repeat (first | exact HR347_0.out | (with_reducible refine Kd.C_alloc ?_ _) | (with_reducible refine Kd.C_drewN ?_ _) | (with_reducible refine Kd.C_drew ?_))); (case side4 => exact HC347_0.out); rintro e w' ⟨rfl, ⟨nd, rfl⟩⟩; (try first | exact ⟨rfl, _, World.drewN_drewN _ _ _⟩ | exact ⟨rfl, _, Eq.trans (World.drewN_drewN _ _ _) (congrArg (World.drewN _) (Nat.add_assoc _ _ _))⟩))); try go_wp2_with (first | (go_at_call 33; (with_reducible refine (geyserref04_Same.calls k1 _ _ (rd_Lssu8 l0 x5_1) _ _ (rd_Lssu8 l1 x5_1) true _ ?side1 ?side2 ?side3 ?side4 A7.out).mono ?_); (case side1 => repeat (first | exact HR346_0.out | (with_reducible refine Kd.C_alloc ?_ _) | (with_reducible refine Kd.C_drewN ?_ _) | (with_reducible refine Kd.C_drew ?_))); (case side2 => exact HC346_0.out); (case side3 => repeat (first | exact HR347_0.out | (with_reducible refine Kd.C_alloc ?_ _) | (with_reducible refine Kd.C_drewN ?_ _) | (with_reducible refine Kd.C_drew ?_))); (case side4 => exact HC347_0.out); rintro e w' ⟨rfl, ⟨nd, rfl⟩⟩; (try first | exact ⟨rfl, _, World.drewN_drewN _ _ _⟩ | exact ⟨rfl, _, Eq.trans (World.drewN_drewN _ _ _) (congrArg (World.drewN _) (Nat.add_assoc _ _ _))⟩))))
                go_roundg k1
                case measure => have := HK1.out; omega
                case rel => exact ⟨(wrap64 (x5_1 + 1)), (by first | rfl | (simp; done) | (simp [*]; done)), H', ⟨by have := HK1.out; omega⟩, by repeat (first | exact Drawn0.refl _ | apply Drawn0.step)⟩
              · replace c8 := Bool.eq_false_iff.mpr c8
                subst c8
                have H1 : (some false) = some r := by rw [if_neg (show ¬ (false = true) by decide)] at H; exact H
                clear H
                have H := H1
                clear H1
                obtain rfl := Option.some.inj H
                have p346 : 0 ≤ (x5_1 : Int) := of_decide_eq_true (by first | (with_reducible assumption) | assumption)
                have q346 : x5_1 < (l0.length : Int) := of_decide_eq_true (by first | (with_reducible assumption) | assumption)
                obtain ⟨ad346, A346_0, c346_0, e346, hx346_0, hl346_0, hi346_0⟩ := at_Lssu8 HR0.out x5_1 p346 q346
                cases e346
                have HR346_0 := Aside0.mk hi346_0
                have HC346_0 := Aside0.mk hl346_0
                clear hi346_0 hl346_0
                replace p346 := eq_true p346
                replace q346 := eq_true q346
                have p347 : 0 ≤ (x5_1 : Int) := of_decide_eq_true (by first | (with_reducible assumption) | assumption)
                have q347 : x5_1 < (l1.length : Int) := of_decide_eq_true (by first | (with_reducible assumption) | assumption)
                obtain ⟨ad347, A347_0, c347_0, e347, hx347_0, hl347_0, hi347_0⟩ := at_Lssu8 HR1.out x5_1 p347 q347
                cases e347
                have HR347_0 := Aside0.mk hi347_0
                have HC347_0 := Aside0.mk hl347_0
                clear hi347_0 hl347_0
                replace p347 := eq_true p347
                replace q347 := eq_true q347
                go_wp2_with (first | (go_at_call 33; (with_reducible refine (geyserref04_Same.calls k1 _ _ (rd_Lssu8 l0 x5_1) _ _ (rd_Lssu8 l1 x5_1) false _ ?side1 ?side2 ?side3 ?side4 A7.out).mono ?_); (case side1 => repeat (first | exact HR346_0.out | (with_reducible refine Kd.C_alloc ?_ _) | (with_reducible refine Kd.C_drewN ?_ _) | (with_reducible refine Kd.C_drew ?_))); (case side2 => exact HC346_0.out); (case side3 => repeat (first | exact HR347_0.out | (with_reducible refine Kd.C_alloc ?_ _) | (with_reducible refine Kd.C_drewN ?_ _) | (with_reducible refine Kd.C_drew ?_))); (case side4 => exact HC347_0.out); rintro e w' ⟨rfl, ⟨nd, rfl⟩⟩; (try first | exact ⟨rfl, _, World.drewN_drewN _ _ _⟩ | exact ⟨rfl, _, Eq.trans (World.drewN_drewN _ _ _) (congrArg (World.drewN _) (Nat.add_assoc _ _ _))⟩)))
                repeat (go_quiet (first | (go_at_call 33; (with_reducible refine (geyserref04_Same.calls k1 _ _ (rd_Lssu8 l0 x5_1) _ _ (rd_Lssu8 l1 x5_1) false _ ?side1 ?side2 ?side3 ?side4 A7.out).mono ?_); (case side1 => repeat (first | exact HR346_0.out | (with_reducible refine Kd.C_alloc ?_ _) | (with_reducible refine Kd.C_drewN ?_ _) | (with_reducible refine Kd.C_drew ?_))); (case side2 => exact HC346_0.out); (case side3 => repeat (first | exact HR347_0.out | (with_reducible refine Kd.C_alloc ?_ _) | (with_reducible refine Kd.C_drewN ?_ _) | (with_reducible refine Kd.C_drew ?_))); (case side4 => exact HC347_0.out); rintro e w' ⟨rfl, ⟨nd, rfl⟩⟩; (try first | exact ⟨rfl, _, World.drewN_drewN _ _ _⟩ | exact ⟨rfl, _, Eq.trans (World.drewN_drewN _ _ _) (congrArg (World.drewN _) (Nat.add_assoc _ _ _))⟩))); try go_wp2_with (first | (go_at_call 33; (with_reducible refine (geyserref04_Same.calls k1 _ _ (rd_Lssu8 l0 x5_1) _ _ (rd_Lssu8 l1 x5_1) false _ ?side1 ?side2 ?side3 ?side4 A7.out).mono ?_); (case side1 => repeat (first | exact HR346_0.out | (with_reducible refine Kd.C_alloc ?_ _) | (with_reducible refine Kd.C_drewN ?_ _) | (with_reducible refine Kd.C_drew ?_))); (case side2 => exact HC346_0.out); (case side3 => repeat (first | exact HR347_0.out | (with_reducible refine Kd.C_alloc ?_ _) | (with_reducible refine Kd.C_drewN ?_ _) | (with_reducible refine Kd.C_drew ?_))); (case side4 => exact HC347_0.out); rintro e w' ⟨rfl, ⟨nd, rfl⟩⟩; (try first | exact ⟨rfl, _, World.drewN_drewN _ _ _⟩ | exact ⟨rfl, _, Eq.trans (World.drewN_drewN _ _ _) (congrArg (World.drewN _) (Nat.add_assoc _ _ _))⟩))))
                go_ret
                exact ⟨by first | rfl | (simp; done) | (simp [*]; done), by repeat (first | exact Drawn0.refl _ | apply Drawn0.step)⟩
            · rw [if_neg c6] at H
              exact absurd H (by simp)
          · rw [if_neg c5] at H
            exact absurd H (by simp)
        · rw [if_neg c4] at H
          have c4b0 : decide (x5_1 < (l0.length : Int)) = false := decide_eq_false c4
          clear c4
          obtain rfl := Option.some.inj H
          go_wp2
          repeat (go_quiet (fail); try go_wp2)
          go_ret
          exact ⟨by first | rfl | (simp; done) | (simp [*]; done), by repeat (first | exact Drawn0.refl _ | apply Drawn0.step)⟩
  · rw [if_neg c3] at H
    have c3b0 : ((l0.length : Int) == (l1.length : Int)) = false := beq_eq_false_iff_ne.mpr c3
    have c3b1 : ((l0.length : Int) != (l1.length : Int)) = true := bne_iff_ne.mpr c3
    have c3b2 : (l0.length == l1.length) = false := by first | simpa using c3 | (simp at c3 ⊢; omega)
    obtain rfl := Option.some.inj H
    go_enter Tryd.func19, Tryd.ntmps19
    go_wp2
    repeat (go_quiet (fail); try go_wp2)
    go_ret
    exact ⟨by first | rfl | (simp; done) | (simp [*]; done), by repeat (first | exact Drawn0.refl _ | apply Drawn0.step)⟩

end Go.Proofs.YtomeefngdnmdaaaDoor.P

namespace Go.Proofs.YtomeefngdnmdaaaDoor.Pure
open Go.RowKit Go.Proofs.YtomeefngdnmdaaaDoor.P Go.Proofs.YtomeefngdnmdaaaDoorW.PrintWords Go.Proofs.YtomeefngdnmdaaaDoorW.PrintLast Go.Proofs.YtomeefngdnmdaaaDoorW.PrintErr Go.Proofs.YtomeefngdnmdaaaDoorW.PrintMore
set_option linter.unusedVariables false
set_option linter.unusedSimpArgs false
theorem rsame_l0 (S : List (List Int)) : ∀ P : List (List Int), (P ++ S).length < 9223372036854775807 → Ev (fun k => geyserref04_Same.l0 k (P ++ S) (P ++ S) (P.length : Int)) true := by
  induction S with
  | nil =>
    intro P hP
    refine Ev.step (f := fun _ => some true) (fun k => ?_) (Ev.now _)
    rw [geyserref04_Same.l0, if_neg (by simp)]
  | cons c S ih =>
    intro P hP
    have hlen : (P ++ c :: S).length = P.length + (S.length + 1) := by simp
    have h' := ih (P ++ [c]) (by simpa using hP)
    have e1 : P ++ [c] ++ S = P ++ c :: S := by simp
    have e2 : ((P ++ [c]).length : Int) = wrap64 ((P.length : Int) + 1) := by rw [w64s (by omega) (by omega)]; simp
    rw [e1, e2] at h'
    refine Ev.step (fun k => ?_) h'
    rw [geyserref04_Same.l0, if_pos (by omega), if_pos (by omega), if_pos (by omega), if_pos rfl]
theorem rsame_ev (a : List (List Int)) (h : a.length < 9223372036854775807) : Ev (fun k => geyserref04_Same.f k a a) true := by
  unfold geyserref04_Same.f
  simp only [if_true]
  exact rsame_l0 a [] (by simpa using h)
theorem rsame14_l0 (S : List (List (List Int))) : ∀ P : List (List (List Int)), (P ++ S).length < 9223372036854775807 → (∀ x ∈ S, x.length < 9223372036854775807) → Ev (fun k => geyserref14_Same.l0 k (P ++ S) (P ++ S) (P.length : Int)) true := by
  induction S with
  | nil =>
    intro P hP _
    refine Ev.step (f := fun _ => some true) (fun k => ?_) (Ev.now _)
    rw [geyserref14_Same.l0, if_neg (by simp)]
  | cons c S ih =>
    intro P hP hx
    have hlen : (P ++ c :: S).length = P.length + (S.length + 1) := by simp
    have h' := ih (P ++ [c]) (by simpa using hP) (fun x h => hx x (List.mem_cons_of_mem _ h))
    have e1 : P ++ [c] ++ S = P ++ c :: S := by simp
    have e2 : ((P ++ [c]).length : Int) = wrap64 ((P.length : Int) + 1) := by rw [w64s (by omega) (by omega)]; simp
    rw [e1, e2] at h'
    have hr : rd_Lssu8 (P ++ c :: S) (P.length : Int) = c := by
      unfold rd_Lssu8
      rw [Int.toNat_natCast, List.getD_eq_getElem?_getD, List.getElem?_append_right (Nat.le_refl _)]
      simp
    have hs := rsame_ev c (hx c (by simp))
    refine Ev.step (f := fun k => (geyserref04_Same.f k c c).bind fun t => (if t = true then (geyserref14_Same.l0 k (P ++ c :: S) (P ++ c :: S) (wrap64 ((P.length : Int) + 1))) else (some false))) (fun k => ?_) (Ev.bind hs (by simpa using h'))
    rw [geyserref14_Same.l0, if_pos (by omega), if_pos (by omega), if_pos (by omega), hr]
theorem rsame14_ev (a : List (List (List Int))) (h : a.length < 9223372036854775807) (hx : ∀ x ∈ a, x.length < 9223372036854775807) : Ev (fun k => geyserref14_Same.f k a a) true := by
  unfold geyserref14_Same.f
  simp only [if_true]
  exact rsame14_l0 a [] (by simpa using h) hx
end Go.Proofs.YtomeefngdnmdaaaDoor.Pure

namespace Go.Proofs.YtomeefngdnmdaaaDoor.P
open Go.RowKit Go.Proofs.YtomeefngdnmdaaaDoorW.PrintWords Go.Proofs.YtomeefngdnmdaaaDoorW.PrintLast Go.Proofs.YtomeefngdnmdaaaDoorW.PrintErr Go.Proofs.YtomeefngdnmdaaaDoorW.PrintMore
attribute [local go_sem] max2_int min2_int max_two min_two max_three min_three max_four min_four run_eql_errOf run_neq_errOf eqGuard_errOf   -- for this text's walks alone
set_option linter.unusedVariables false
set_option linter.unusedSimpArgs false

/-! ### geyserref14_Cut: function 20 -/
mutual
def geyserref14_Cut.j0 : Nat → List (List Int) → Int → Int → Int → Int → Int → Option ((List (List (List Int))))
  | 0, _, _, _, _, _, _ => none
  | k + 1, x5, x364000, x364001, x364002, x364003, x364004 => geyserref14_Cut.l0 k x5 (([] : List (List (List Int)))) 0 0 x364000 x364001 x364002 x364003 x364004
def geyserref14_Cut.l0 : Nat → List (List Int) → List (List (List Int)) → Int → Int → Int → Int → Int → Int → Int → Option ((List (List (List Int))))
  | 0, _, _, _, _, _, _, _, _, _ => none
  | k + 1, x5, x6, x7, x8, x364000, x364001, x364002, x364003, x364004 => if x8 < x364002 then ((geyserref14_Source.f x364000 x364001 x364002 x364003 x364004 x8).bind fun t376 => (if 0 ≤ x7 then (if x7 ≤ (wrap64 (x7 + t376)) then (if (wrap64 (x7 + t376)) ≤ (x5.length : Int) then (if x6.length < 5864062014805 then ((geyserref14_Source.f x364000 x364001 x364002 x364003 x364004 x8).bind fun t385 => (geyserref14_Cut.l0 k x5 (x6 ++ [((x5.take ((wrap64 (x7 + t376)) : Int).toNat).drop (x7 : Int).toNat)]) (wrap64 (x7 + t385)) (wrap64 (x8 + 1)) x364000 x364001 x364002 x364003 x364004)) else (none)) else (none)) else (none)) else (none))) else (some x6)
end
def geyserref14_Cut.f (k : Nat) (l0 : List Int) (a1_0 : Int) (a1_1 : Int) (a1_2 : Int) (a1_3 : Int) (a1_4 : Int) : Option ((List (List (List Int)))) := (geyserref04_Split.f k l0 a1_1).bind fun t364 => (if (t364.length : Int) = 0 then (if 0 ≤ a1_1 then (if (a1_1 : Int).toNat ≤ 281474976710656 then (geyserref14_Cut.j0 k (([(List.replicate (a1_1 : Int).toNat 0)] : List (List Int))) a1_0 a1_1 a1_2 a1_3 a1_4) else (none)) else (none)) else (geyserref14_Cut.j0 k t364 a1_0 a1_1 a1_2 a1_3 a1_4))
theorem geyserref14_Cut.mono_l : ∀ k, (∀ y0 y1 y2 y3 y4 y5, LeO (geyserref14_Cut.j0 k y0 y1 y2 y3 y4 y5) (geyserref14_Cut.j0 (k + 1) y0 y1 y2 y3 y4 y5)) ∧ (∀ y0 y1 y2 y3 y4 y5 y6 y7 y8, LeO (geyserref14_Cut.l0 k y0 y1 y2 y3 y4 y5 y6 y7 y8) (geyserref14_Cut.l0 (k + 1) y0 y1 y2 y3 y4 y5 y6 y7 y8))
  | 0 => ⟨fun _ _ _ _ _ _ r h => by simp [geyserref14_Cut.j0] at h, fun _ _ _ _ _ _ _ _ _ r h => by simp [geyserref14_Cut.l0] at h⟩
  | k + 1 => by
    obtain ⟨ih0, ih1⟩ := geyserref14_Cut.mono_l k
    refine ⟨?_, ?_⟩
    · intro y0 y1 y2 y3 y4 y5
      unfold geyserref14_Cut.j0
      repeat' first
      | (with_reducible exact ih0 _ _ _ _ _ _)
      | (with_reducible exact ih1 _ _ _ _ _ _ _ _ _)
      | (with_reducible exact geyserref04_Split.mono _ _ _)
      | (with_reducible exact LeO.refl _)
      | (with_reducible exact LeO.none _)
      | (with_reducible refine LeO.ite ?_ ?_)
      | (with_reducible refine LeO.bind ?_ (fun _ => ?_))
      | exact ih0 _ _ _ _ _ _
      | exact ih1 _ _ _ _ _ _ _ _ _
      | exact geyserref04_Split.mono _ _ _
      | exact LeO.none _
      | refine LeO.ite ?_ ?_
      | refine LeO.bind ?_ (fun _ => ?_)
    · intro y0 y1 y2 y3 y4 y5 y6 y7 y8
      unfold geyserref14_Cut.l0
      repeat' first
      | (with_reducible exact ih0 _ _ _ _ _ _)
      | (with_reducible exact ih1 _ _ _ _ _ _ _ _ _)
      | (with_reducible exact geyserref04_Split.mono _ _ _)
      | (with_reducible exact LeO.refl _)
      | (with_reducible exact LeO.none _)
      | (with_reducible refine LeO.ite ?_ ?_)
      | (with_reducible refine LeO.bind ?_ (fun _ => ?_))
      | exact ih0 _ _ _ _ _ _
      | exact ih1 _ _ _ _ _ _ _ _ _
      | exact geyserref04_Split.mono _ _ _
      | exact LeO.none _
      | refine LeO.ite ?_ ?_
      | refine LeO.bind ?_ (fun _ => ?_)
theorem geyserref14_Cut.mono : ∀ a0 a1 a2 a3 a4 a5 k, LeO (geyserref14_Cut.f k a0 a1 a2 a3 a4 a5) (geyserref14_Cut.f (k + 1) a0 a1 a2 a3 a4 a5) := by
  intro a0 a1 a2 a3 a4 a5 k
  obtain ⟨ih0, ih1⟩ := geyserref14_Cut.mono_l k
  unfold geyserref14_Cut.f
  repeat' first
      | (with_reducible exact ih0 _ _ _ _ _ _)
      | (with_reducible exact ih1 _ _ _ _ _ _ _ _ _)
      | (with_reducible exact geyserref04_Split.mono _ _ _)
      | (with_reducible exact LeO.refl _)
      | (with_reducible exact LeO.none _)
      | (with_reducible refine LeO.ite ?_ ?_)
      | (with_reducible refine LeO.bind ?_ (fun _ => ?_))
      | exact ih0 _ _ _ _ _ _
      | exact ih1 _ _ _ _ _ _ _ _ _
      | exact geyserref04_Split.mono _ _ _
      | exact LeO.none _
      | refine LeO.ite ?_ ?_
      | refine LeO.bind ?_ (fun _ => ?_)
set_option maxHeartbeats 8000000 in
set_option maxRecDepth 100000 in
theorem geyserref14_Cut.calls (k : Nat) (A0 : Option Addr) (c0 : Nat) (l0 : List Int) (a1_0 : Int) (a1_1 : Int) (a1_2 : Int) (a1_3 : Int) (a1_4 : Int) (r : List (List (List Int))) (w : World) (hr0 : Kd.C (Kd.int .u8) w A0 l0.length l0) (hc0 : l0.length ≤ c0) (h : geyserref14_Cut.f k l0 a1_0 a1_1 a1_2 a1_3 a1_4 = some r) :
    Calls Tryd.prog 20 #[.slice A0 l0.length c0, .agg #[.int .i64 a1_0, .int .i64 a1_1, .int .i64 a1_2, .int .i64 a1_3, .int .i64 a1_4]] w fun e w' => ∃ v0_ : Value, e = .returned (v0_) ∧ Kd.N (Kd.slice 42 (Kd.slice 5 (Kd.int .u8))) 40 w' w.heap.size (fun k_ => (w.heap.size ≤ k_)) v0_ r ∧ Below w.heap.size w w' := by
  have hu23 := Tryd.underlying23
  have HR0 := Aside0.mk hr0
  have HC0 := Aside0.mk hc0
  clear hr0 hc0
  have HB := Aside0.mk (Below.refl w.heap.size w)
  have H : ((geyserref04_Split.f k l0 a1_1).bind fun t364 => (if (t364.length : Int) = 0 then (if 0 ≤ a1_1 then (if (a1_1 : Int).toNat ≤ 281474976710656 then (geyserref14_Cut.j0 k (([(List.replicate (a1_1 : Int).toNat 0)] : List (List Int))) a1_0 a1_1 a1_2 a1_3 a1_4) else (none)) else (none)) else (geyserref14_Cut.j0 k t364 a1_0 a1_1 a1_2 a1_3 a1_4))) = some r := h
  clear h
  replace H := Option.bind_eq_some_iff.mp H
  obtain ⟨t364, A30, H⟩ := H
  replace H : (if (t364.length : Int) = 0 then (if 0 ≤ a1_1 then (if (a1_1 : Int).toNat ≤ 281474976710656 then (geyserref14_Cut.j0 k (([(List.replicate (a1_1 : Int).toNat 0)] : List (List Int))) a1_0 a1_1 a1_2 a1_3 a1_4) else (none)) else (none)) else (geyserref14_Cut.j0 k t364 a1_0 a1_1 a1_2 a1_3 a1_4)) = some r := H
  have A3 := Aside0.mk A30
  clear A30
  have HC4 := Aside0.mk H
  clear H
  go_enter Tryd.func20, Tryd.ntmps20
  go_upto_if 15 with (first | ((with_reducible refine gate_dst (N := 3) rfl ?_); refine box_event ?hg (N := 3) ?hd (cs := #[.int .i64 a1_0, .int .i64 a1_1, .int .i64 a1_2, .int .i64 a1_3, .int .i64 a1_4]) (t := 23) ?hr ?_; (case hd => rfl); (case hg => rfl); (case hr => first | (go_simp; done) | (go_simp; rfl)); intro gb363 hg w5 hbox hb; have n0_ := Aside0.mk (below_step (by repeat (first | (with_reducible first | exact HB.out | apply below_alloc | apply pw_below_drewN | apply below_drew1) | exact HB.out)) hb); have n1_ := Aside0.mk (hbox); have n2_ := Aside0.mk ((by rw [hg]; exact (below_size (by repeat (first | (with_reducible first | exact HB.out | apply below_alloc | apply pw_below_drewN | apply below_drew1) | exact HB.out))) : w.heap.size ≤ gb363)); have n3_ := Aside0.mk ((by rw [hg]; exact (below_size (by repeat (first | (with_reducible first | exact HB.out | apply below_alloc | apply pw_below_drewN | apply below_drew1) | exact HB.out))) : w.heap.size ≤ gb363)); clear HB; have HB := n0_; have BK363 := n1_; have GW363 := n2_; have GE363 := n3_; clear n0_ n1_ n2_ n3_; clear hb hbox hg; have hcz6_0 : w5.cell? ⟨gb363, 0, none⟩ = some (.int .i64 a1_0) := (blk_cell BK363.out 0).trans rfl; have hcz6_1 : w5.cell? ⟨gb363, 1, none⟩ = some (.int .i64 a1_1) := (blk_cell BK363.out 1).trans rfl; have hcz6_2 : w5.cell? ⟨gb363, 2, none⟩ = some (.int .i64 a1_2) := (blk_cell BK363.out 2).trans rfl; have hcz6_3 : w5.cell? ⟨gb363, 3, none⟩ = some (.int .i64 a1_3) := (blk_cell BK363.out 3).trans rfl; have hcz6_4 : w5.cell? ⟨gb363, 4, none⟩ = some (.int .i64 a1_4) := (blk_cell BK363.out 4).trans rfl; have hfz6_0 := blk_frozen BK363.out 0; have hfz6_1 := blk_frozen BK363.out 1; have hfz6_2 := blk_frozen BK363.out 2; have hfz6_3 := blk_frozen BK363.out 3; have hfz6_4 := blk_frozen BK363.out 4) | ((with_reducible refine gate_callee (f := 34) rfl ?_); refine goesL_ (some 12) rfl rfl Tryd.func34 (by kernel_rfl) rfl #[.slice A0 l0.length c0, .int .i64 a1_1] rfl (by (try simp only [List.map_toArray, List.map_cons, List.map_nil]); first | done | rfl | (simp only [List.length_drop, List.length_take]; rfl)) ?_; (with_reducible refine (geyserref04_Split.calls k _ _ l0 a1_1 t364 _ ?side1 ?side2 A3.out).mono ?_); (case side1 => repeat (first | exact (Kd.C_below HR0.out HB.out) | (with_reducible refine Kd.C_alloc ?_ _) | (with_reducible refine Kd.C_drewN ?_ _) | (with_reducible refine Kd.C_drew ?_))); (case side2 => exact HC0.out); rintro e w7 ⟨v365, rfl, ho0, hb⟩; refine ⟨_, rfl, ?_⟩; have n0_ := Aside0.mk (Kd.N_lower (Kd.N_mono (ok' := fun k_ => (w.heap.size ≤ k_) ∧ k_ ≠ gb363) (Kd.S_N (Kd.S_bound ho0)) (fun k_ hk_ => ⟨(Nat.le_trans (below_size (by repeat (first | (with_reducible first | exact HB.out | apply below_alloc | apply pw_below_drewN | apply below_drew1 | refine below_set ?_ GE363.out) | exact HB.out))) hk_.2.1), (Kd.freshB (g := gb363) (o := .cells #[.int .i64 a1_0, .int .i64 a1_1, .int .i64 a1_2, .int .i64 a1_3, .int .i64 a1_4] 23 (0, 0)) (by (with_reducible repeat (first | refine blk_drewN ?_ _ | refine blk_drew ?_ | refine blk_alloc ?_ _)); exact BK363.out) k_ hk_.2.1)⟩)) (below_size (by repeat (first | (with_reducible first | exact HB.out | apply below_alloc | apply pw_below_drewN | apply below_drew1 | refine below_set ?_ GE363.out) | exact HB.out)))); have n1_ := Aside0.mk (blk_below (g := gb363) (o := .cells #[.int .i64 a1_0, .int .i64 a1_1, .int .i64 a1_2, .int .i64 a1_3, .int .i64 a1_4] 23 (0, 0)) (by (with_reducible repeat (first | refine blk_drewN ?_ _ | refine blk_drew ?_ | refine blk_alloc ?_ _)); exact BK363.out) hb); have n2_ := Aside0.mk (below_step (by repeat (first | (with_reducible first | exact HB.out | apply below_alloc | apply pw_below_drewN | apply below_drew1 | refine below_set ?_ GE363.out) | exact HB.out)) hb); clear BK363; clear HB; have HO366 := n0_; have BK363 := n1_; have HB := n2_; clear n0_ n1_ n2_; (try clear hb); (try clear hb2); (try clear hk); (try clear hi); (try clear ho0); obtain ⟨Ao8, co8, eo8⟩ := Kd.N_slice HO366.out; subst eo8))
  (try simp only [Act.put, List.setIfInBounds_toArray, List.set_cons_zero, List.set_cons_succ])
  go_cut [5] (fun v5 wc => ∃ (kq : Nat) (x5_3 : List (List Int)), Aside0 (geyserref14_Cut.j0 kq x5_3 a1_0 a1_1 a1_2 a1_3 a1_4 = some r) ∧ Aside0 (kq ≤ k) ∧ Aside0 (Kd.N (Kd.slice 5 (Kd.int .u8)) 42 wc w.heap.size (fun k_ => (w.heap.size ≤ k_) ∧ k_ ≠ gb363) v5 x5_3) ∧ Aside0 (wc.heap[gb363]? = some (.cells #[.int .i64 a1_0, .int .i64 a1_1, .int .i64 a1_2, .int .i64 a1_3, .int .i64 a1_4] 23 (0, 0))) ∧ Aside0 (Below w.heap.size w wc))
  case first =>
    have H := HC4.out
    clear HC4
    by_cases c9 : (t364.length : Int) = 0
    · rw [if_pos c9] at H
      have c9b0 : ((t364.length : Int) == 0) = true := beq_iff_eq.mpr c9
      have c9b1 : ((t364.length : Int) != 0) = false := bne_eq_false_iff_eq.mpr c9
      clear c9
      (first | rw [c9b0] | rw [c9b1] | (simp only [i64_w, i32_w]; rw [c9b0]) | skip)
      by_cases c10 : 0 ≤ a1_1
      · rw [if_pos c10] at H
        have c10b0 := eq_true c10
        have c10b1 : decide (0 ≤ a1_1) = true := decide_eq_true c10
        clear c10
        by_cases c11 : (a1_1 : Int).toNat ≤ 281474976710656
        · rw [if_pos c11] at H
          have c11b0 := eq_true c11
          have c11b1 : decide ((a1_1 : Int).toNat ≤ 281474976710656) = true := decide_eq_true c11
          clear c11
          obtain ⟨y367, hy367⟩ : ∃ y_ : List Int, y_ = (List.replicate (a1_1 : Int).toNat 0) := ⟨_, rfl⟩
          replace H : (geyserref14_Cut.j0 k (([y367] : List (List Int))) a1_0 a1_1 a1_2 a1_3 a1_4) = some r := by first | (rw [hy367]; with_reducible exact H) | (have H2_ := (Option.bind_some _ _).symm.trans H; rw [hy367]; with_reducible exact H2_) | (have H2_ := (Option.bind_some _ _).symm.trans H; with_reducible exact H2_) | with_reducible exact H | (rw [hy367]; exact H) | exact H
          have Ny367 := Aside0.mk hy367
          clear hy367
          obtain ⟨y370, hy370⟩ : ∃ y_ : List (List Int), y_ = (([y367] : List (List Int))) := ⟨_, rfl⟩
          replace H : (geyserref14_Cut.j0 k y370 a1_0 a1_1 a1_2 a1_3 a1_4) = some r := by first | (rw [hy370]; with_reducible exact H) | (have H2_ := (Option.bind_some _ _).symm.trans H; rw [hy370]; with_reducible exact H2_) | (have H2_ := (Option.bind_some _ _).symm.trans H; with_reducible exact H2_) | with_reducible exact H | (rw [hy370]; exact H) | exact H
          have Ny370 := Aside0.mk hy370
          clear hy370
          have H' := Aside0.mk H
          clear H
          have hcz12_0 : w7.cell? ⟨gb363, 0, none⟩ = some (.int .i64 a1_0) := (blk_cell BK363.out 0).trans rfl
          have hcz12_1 : w7.cell? ⟨gb363, 1, none⟩ = some (.int .i64 a1_1) := (blk_cell BK363.out 1).trans rfl
          have hcz12_2 : w7.cell? ⟨gb363, 2, none⟩ = some (.int .i64 a1_2) := (blk_cell BK363.out 2).trans rfl
          have hcz12_3 : w7.cell? ⟨gb363, 3, none⟩ = some (.int .i64 a1_3) := (blk_cell BK363.out 3).trans rfl
          have hcz12_4 : w7.cell? ⟨gb363, 4, none⟩ = some (.int .i64 a1_4) := (blk_cell BK363.out 4).trans rfl
          have hfz12_0 := blk_frozen BK363.out 0
          have hfz12_1 := blk_frozen BK363.out 1
          have hfz12_2 := blk_frozen BK363.out 2
          have hfz12_3 := blk_frozen BK363.out 3
          have hfz12_4 := blk_frozen BK363.out 4
          go_wp2_with (first | ((with_reducible refine gate_dst (N := 18) rfl ?_); refine Kd.R_make (Kd.int .u8) _ 5 rfl (N := 18) rfl 42 _ _ rfl a1_1 rfl rfl Tryd.underlying42 (.int .u8 0) 1 info5 rfl (by decide) (by omega) 0 (ok := fun _ => True) (okp := fun _ => True) rfl (fun _ hk => hk) trivial (of_decide_eq_true (by first | (with_reducible assumption) | assumption)) (Nat.le_trans (Nat.mul_le_mul_right _ (of_decide_eq_true (by first | (with_reducible assumption) | assumption) : a1_1.toNat ≤ 281474976710656)) (by omega)) (Below.refl _ _) (Nat.le_refl _) ?_; intro v368 w13 ho14 hb hg_ hnew_; clear hg_ hnew_; (first | rw [← Ny367.out] at ho14 | (simp only [Int.reduceToNat] at ho14; rw [← Ny367.out] at ho14)); have n0_ := Aside0.mk (Kd.N_elder' (by (with_reducible repeat (first | apply Kd.N_alloc | apply Kd.N_drewN | apply Kd.N_drew)); exact HO366.out) (Kd.R_base ho14) hb); have n1_ := Aside0.mk (Kd.R_lower (Kd.R_newM (M := fun k_ => (w.heap.size ≤ k_)) ho14 (below_size (by repeat (first | (with_reducible first | exact HB.out | apply below_alloc | apply pw_below_drewN | apply below_drew1 | refine below_set ?_ GE363.out) | exact HB.out))) (fun k_ h_ => h_)) (below_size (by repeat (first | (with_reducible first | exact HB.out | apply below_alloc | apply pw_below_drewN | apply below_drew1 | refine below_set ?_ GE363.out) | exact HB.out)))); have n2_ := Aside0.mk (blk_below (g := gb363) (o := .cells #[.int .i64 a1_0, .int .i64 a1_1, .int .i64 a1_2, .int .i64 a1_3, .int .i64 a1_4] 23 (0, 0)) (by (with_reducible repeat (first | refine blk_drewN ?_ _ | refine blk_drew ?_ | refine blk_alloc ?_ _)); exact BK363.out) hb); have n3_ := Aside0.mk (below_step (by repeat (first | (with_reducible first | exact HB.out | apply below_alloc | apply pw_below_drewN | apply below_drew1 | refine below_set ?_ GE363.out) | exact HB.out)) hb); clear HO366; clear BK363; clear HB; have HO366 := n0_; have HO369 := n1_; have BK363 := n2_; have HB := n3_; clear n0_ n1_ n2_ n3_; clear hb ho14; obtain ⟨Ao15, co15, eo15⟩ := Kd.R_slice HO369.out; subst eo15) | ((with_reducible refine gate_dst (N := 19) rfl ?_); refine Kd.N_lit (Kd.slice 5 (Kd.int .u8)) _ 42 ?hg (N' := 19) ?hd (xs := ([y367] : List (List Int))) (inner := [.slice Ao15 y367.length co15]) (ok := (fun k_ => (w.heap.size ≤ k_) ∧ some k_ ≠ (.slice Ao8 t364.length co8 : Value).ownBlock ∧ k_ ≠ gb363)) (okp := (fun k_ => (w.heap.size ≤ k_) ∧ some k_ ≠ (.slice Ao8 t364.length co8 : Value).ownBlock ∧ k_ ≠ gb363)) ?hr ?hp (fun _ hk => hk) ((show ∀ k_, w13.heap.size ≤ k_ → (fun k_ => (w.heap.size ≤ k_) ∧ some k_ ≠ (.slice Ao8 t364.length co8 : Value).ownBlock ∧ k_ ≠ gb363) k_ from fun k_ hk => ⟨(Nat.le_trans (below_size (by repeat (first | (with_reducible first | exact HB.out | apply below_alloc | apply pw_below_drewN | apply below_drew1 | refine below_set ?_ GE363.out) | exact HB.out))) hk), Kd.fresh' (Kd.N_lt (by (with_reducible repeat (first | apply Kd.N_alloc | apply Kd.N_drewN | apply Kd.N_drew)); exact HO366.out)) k_ hk, Kd.freshB (g := gb363) (o := .cells #[.int .i64 a1_0, .int .i64 a1_1, .int .i64 a1_2, .int .i64 a1_3, .int .i64 a1_4] 23 (0, 0)) (by (with_reducible repeat (first | refine blk_drewN ?_ _ | refine blk_drew ?_ | refine blk_alloc ?_ _)); exact BK363.out) k_ hk⟩) _ (Nat.le_refl _)) (Below.refl _ _) (Nat.le_refl _) (by simp) ?_; (case hd => rfl); (case hg => rfl); (case hr => first | (go_simp; done) | (go_simp; rfl)); (case hp => exact (Reps.one (show Kd.FK (Kd.slice 5 (Kd.int .u8)) _ _ y367 [.slice Ao15 y367.length co15] from (Kd.FK_slice_mk (Kd.R_reads' (Kd.R_mono (ok' := (fun k_ => (w.heap.size ≤ k_) ∧ some k_ ≠ (.slice Ao8 t364.length co8 : Value).ownBlock ∧ k_ ≠ gb363)) (Kd.R_types (Kd.R_apart' (HO369.out) (Kd.N_typed HO366.out) (by decide)) BK363.out (by decide)) (fun k_ hk => ⟨hk.1.1.1, ⟨hk.1.2, hk.2⟩⟩))).2.1 (Kd.R_F (Kd.R_mono (ok' := (fun k_ => (w.heap.size ≤ k_) ∧ some k_ ≠ (.slice Ao8 t364.length co8 : Value).ownBlock ∧ k_ ≠ gb363)) (Kd.R_types (Kd.R_apart' (HO369.out) (Kd.N_typed HO366.out) (by decide)) BK363.out (by decide)) (fun k_ hk => ⟨hk.1.1.1, ⟨hk.1.2, hk.2⟩⟩))))) (Reps.none _ _))); intro v371 w16 ho17 hb hg_ hnew_; clear hg_ hnew_; (first | rw [← Ny370.out] at ho17 | (simp only [Int.reduceToNat] at ho17; rw [← Ny370.out] at ho17)); have n0_ := Aside0.mk (Kd.N_elder' (by (with_reducible repeat (first | apply Kd.N_alloc | apply Kd.N_drewN | apply Kd.N_drew)); exact HO366.out) (Kd.N_base ho17) hb); have n1_ := Aside0.mk (Kd.N_lower ho17 (below_size (by repeat (first | (with_reducible first | exact HB.out | apply below_alloc | apply pw_below_drewN | apply below_drew1 | refine below_set ?_ GE363.out) | exact HB.out)))); have n2_ := Aside0.mk (blk_below (g := gb363) (o := .cells #[.int .i64 a1_0, .int .i64 a1_1, .int .i64 a1_2, .int .i64 a1_3, .int .i64 a1_4] 23 (0, 0)) (by (with_reducible repeat (first | refine blk_drewN ?_ _ | refine blk_drew ?_ | refine blk_alloc ?_ _)); exact BK363.out) hb); have n3_ := Aside0.mk (below_step (by repeat (first | (with_reducible first | exact HB.out | apply below_alloc | apply pw_below_drewN | apply below_drew1 | refine below_set ?_ GE363.out) | exact HB.out)) hb); clear HO366; clear BK363; clear HB; clear HO369; have HO366 := n0_; have HO372 := n1_; have BK363 := n2_; have HB := n3_; clear n0_ n1_ n2_ n3_; clear hb ho17))
          go_meet
          case rel => exact ⟨_, (y370), H', ⟨by first | omega | exact Nat.le_refl _⟩, ⟨by (with_reducible repeat (first | apply Kd.N_alloc | apply Kd.N_drewN | apply Kd.N_drew)); exact Kd.N_mono HO372.out (fun _ hk => ⟨hk.1, hk.2.2⟩)⟩, ⟨by (with_reducible repeat (first | refine blk_drewN ?_ _ | refine blk_drew ?_ | refine blk_alloc ?_ _)); exact BK363.out⟩, ⟨by repeat (first | (with_reducible first | exact HB.out | apply below_alloc | apply pw_below_drewN | apply below_drew1 | refine below_set ?_ GE363.out) | exact HB.out)⟩⟩
        · rw [if_neg c11] at H
          exact absurd H (by simp)
      · rw [if_neg c10] at H
        exact absurd H (by simp)
    · rw [if_neg c9] at H
      have c9b0 : ((t364.length : Int) == 0) = false := beq_eq_false_iff_ne.mpr c9
      have c9b1 : ((t364.length : Int) != 0) = true := bne_iff_ne.mpr c9
      have c9b2 : ¬ (t364 = []) := fun h_ => c9 (by rw [h_]; rfl)
      (first | rw [c9b0] | rw [c9b1] | (simp only [i64_w, i32_w]; rw [c9b0]) | skip)
      have H' := Aside0.mk H
      clear H
      go_wp2
      go_meet
      case rel => exact ⟨_, (t364), H', ⟨by first | omega | exact Nat.le_refl _⟩, ⟨by (with_reducible repeat (first | apply Kd.N_alloc | apply Kd.N_drewN | apply Kd.N_drew)); exact HO366.out⟩, ⟨by (with_reducible repeat (first | refine blk_drewN ?_ _ | refine blk_drew ?_ | refine blk_alloc ?_ _)); exact BK363.out⟩, ⟨by repeat (first | (with_reducible first | exact HB.out | apply below_alloc | apply pw_below_drewN | apply below_drew1 | refine below_set ?_ GE363.out) | exact HB.out)⟩⟩
  case rest =>
    clear HC4
    try clear c1
    try clear c2
    try clear p2
    try clear c3
    try clear c9
    try clear c9b0
    try clear c9b1
    try clear c9b2
    try clear c10
    try clear c10b0
    try clear c10b1
    try clear c11
    try clear c11b0
    try clear c11b1
    try clear hcz12_0
    try clear hcz12_1
    try clear hcz12_2
    try clear hcz12_3
    try clear hcz12_4
    try clear hcz6_0
    try clear hcz6_1
    try clear hcz6_2
    try clear hcz6_3
    try clear hcz6_4
    try clear hfz12_0
    try clear hfz12_1
    try clear hfz12_2
    try clear hfz12_3
    try clear hfz12_4
    try clear hfz6_0
    try clear hfz6_1
    try clear hfz6_2
    try clear hfz6_3
    try clear hfz6_4
    obtain ⟨kq, x5_3, HA, HJ3, HO_5, BK363, HB⟩ := hcut
    cases kq with
    | zero => exact absurd HA.out (by simp [geyserref14_Cut.j0])
    | succ kj3 =>
      have H := HA.out
      clear HA
      simp only [geyserref14_Cut.j0] at H
      obtain ⟨y373, hy373⟩ : ∃ y_ : List (List (List Int)), y_ = (([] : List (List (List Int)))) := ⟨_, rfl⟩
      replace H : (geyserref14_Cut.l0 kj3 x5_3 y373 0 0 a1_0 a1_1 a1_2 a1_3 a1_4) = some r := by first | (rw [hy373]; with_reducible exact H) | (have H2_ := (Option.bind_some _ _).symm.trans H; rw [hy373]; with_reducible exact H2_) | (have H2_ := (Option.bind_some _ _).symm.trans H; with_reducible exact H2_) | with_reducible exact H | (rw [hy373]; exact H) | exact H
      have Ny373 := Aside0.mk hy373
      clear hy373
      have H' := Aside0.mk H
      clear H
      go_wp2_with (first | ((with_reducible refine gate_dst (N := 20) rfl ?_); refine Kd.N_lit (Kd.slice 42 (Kd.slice 5 (Kd.int .u8))) _ 40 ?hg (N' := 20) ?hd (xs := ([] : List (List (List Int)))) (inner := []) (ok := (fun k_ => (w.heap.size ≤ k_) ∧ some k_ ≠ (u5 : Value).ownBlock ∧ k_ ≠ gb363)) (okp := (fun k_ => (w.heap.size ≤ k_) ∧ some k_ ≠ (u5 : Value).ownBlock ∧ k_ ≠ gb363)) ?hr ?hp (fun _ hk => hk) ((show ∀ k_, wc.heap.size ≤ k_ → (fun k_ => (w.heap.size ≤ k_) ∧ some k_ ≠ (u5 : Value).ownBlock ∧ k_ ≠ gb363) k_ from fun k_ hk => ⟨(Nat.le_trans (below_size (by repeat (first | (with_reducible first | exact HB.out | apply below_alloc | apply pw_below_drewN | apply below_drew1 | refine below_set ?_ GE363.out) | exact HB.out))) hk), Kd.fresh' (Kd.N_lt (by (with_reducible repeat (first | apply Kd.N_alloc | apply Kd.N_drewN | apply Kd.N_drew)); exact HO_5.out)) k_ hk, Kd.freshB (g := gb363) (o := .cells #[.int .i64 a1_0, .int .i64 a1_1, .int .i64 a1_2, .int .i64 a1_3, .int .i64 a1_4] 23 (0, 0)) (by (with_reducible repeat (first | refine blk_drewN ?_ _ | refine blk_drew ?_ | refine blk_alloc ?_ _)); exact BK363.out) k_ hk⟩) _ (Nat.le_refl _)) (Below.refl _ _) (Nat.le_refl _) (by simp) ?_; (case hd => rfl); (case hg => rfl); (case hr => first | (go_simp; done) | (go_simp; rfl)); (case hp => exact (Reps.none _ _)); intro v374 w18 ho19 hb hg_ hnew_; clear hg_ hnew_; (first | rw [← Ny373.out] at ho19 | (simp only [Int.reduceToNat] at ho19; rw [← Ny373.out] at ho19)); have n0_ := Aside0.mk (Kd.N_elder' (by (with_reducible repeat (first | apply Kd.N_alloc | apply Kd.N_drewN | apply Kd.N_drew)); exact HO_5.out) (Kd.N_base ho19) hb); have n1_ := Aside0.mk (Kd.N_lower ho19 (below_size (by repeat (first | (with_reducible first | exact HB.out | apply below_alloc | apply pw_below_drewN | apply below_drew1 | refine below_set ?_ GE363.out) | exact HB.out)))); have n2_ := Aside0.mk (blk_below (g := gb363) (o := .cells #[.int .i64 a1_0, .int .i64 a1_1, .int .i64 a1_2, .int .i64 a1_3, .int .i64 a1_4] 23 (0, 0)) (by (with_reducible repeat (first | refine blk_drewN ?_ _ | refine blk_drew ?_ | refine blk_alloc ?_ _)); exact BK363.out) hb); have n3_ := Aside0.mk (below_step (by repeat (first | (with_reducible first | exact HB.out | apply below_alloc | apply pw_below_drewN | apply below_drew1 | refine below_set ?_ GE363.out) | exact HB.out)) hb); clear HO_5; clear BK363; clear HB; have HO_5 := n0_; have HO375 := n1_; have BK363 := n2_; have HB := n3_; clear n0_ n1_ n2_ n3_; clear hb ho19))
      go_loopg [6, 7, 8] kj3 (fun kq v6 v7 v8 w' => ∃ (x6_2 : List (List (List Int))) (x7_2 : Int) (x8_2 : Int), v7 = .int .i64 x7_2 ∧ v8 = .int .i64 x8_2 ∧ Aside0 (geyserref14_Cut.l0 kq x5_3 x6_2 x7_2 x8_2 a1_0 a1_1 a1_2 a1_3 a1_4 = some r) ∧ Aside0 (kq ≤ kj3) ∧ Aside0 (Kd.N (Kd.slice 5 (Kd.int .u8)) 42 w' w.heap.size (fun k_ => (w.heap.size ≤ k_) ∧ some k_ ≠ (v6 : Value).ownBlock ∧ k_ ≠ gb363) u5 x5_3) ∧ Aside0 (Kd.N (Kd.slice 42 (Kd.slice 5 (Kd.int .u8))) 40 w' w.heap.size (fun k_ => (w.heap.size ≤ k_) ∧ k_ ≠ gb363) v6 x6_2) ∧ Aside0 (w'.heap[gb363]? = some (.cells #[.int .i64 a1_0, .int .i64 a1_1, .int .i64 a1_2, .int .i64 a1_3, .int .i64 a1_4] 23 (0, 0))) ∧ Aside0 (Below w.heap.size w w'))
      case atStart => exact ⟨(y373), (0), (0), (by first | rfl | (simp; done) | (simp [*]; done)), (by first | rfl | (simp; done) | (simp [*]; done)), H', ⟨Nat.le_refl _⟩, ⟨by (with_reducible repeat (first | apply Kd.N_alloc | apply Kd.N_drewN | apply Kd.N_drew)); exact Kd.N_mono HO_5.out (fun _ hk => ⟨hk.1.1, ⟨hk.2, hk.1.2⟩⟩)⟩, ⟨by (with_reducible repeat (first | apply Kd.N_alloc | apply Kd.N_drewN | apply Kd.N_drew)); exact Kd.N_mono HO375.out (fun _ hk => ⟨hk.1, hk.2.2⟩)⟩, ⟨by (with_reducible repeat (first | refine blk_drewN ?_ _ | refine blk_drew ?_ | refine blk_alloc ?_ _)); exact BK363.out⟩, ⟨by repeat (first | (with_reducible first | exact HB.out | apply below_alloc | apply pw_below_drewN | apply below_drew1 | refine below_set ?_ GE363.out) | exact HB.out)⟩⟩
      case round =>
        clear H'
        try clear c1
        try clear c2
        try clear p2
        try clear c3
        try clear c9
        try clear c9b0
        try clear c9b1
        try clear c9b2
        try clear c10
        try clear c10b0
        try clear c10b1
        try clear c11
        try clear c11b0
        try clear c11b1
        try clear hcz12_0
        try clear hcz12_1
        try clear hcz12_2
        try clear hcz12_3
        try clear hcz12_4
        try clear hcz6_0
        try clear hcz6_1
        try clear hcz6_2
        try clear hcz6_3
        try clear hcz6_4
        try clear hfz12_0
        try clear hfz12_1
        try clear hfz12_2
        try clear hfz12_3
        try clear hfz12_4
        try clear hfz6_0
        try clear hfz6_1
        try clear hfz6_2
        try clear hfz6_3
        try clear hfz6_4
        try clear p2
        obtain ⟨x6_2, x7_2, x8_2, rfl, rfl, HA, HK2, HO_5, HO_6, BK363, HB⟩ := hrel
        cases gk with
        | zero => exact absurd HA.out (by simp [geyserref14_Cut.l0])
        | succ k2 =>
          have H := HA.out
          clear HA
          simp only [geyserref14_Cut.l0] at H
          by_cases c20 : x8_2 < a1_2
          · rw [if_pos c20] at H
            have c20b0 : decide (x8_2 < a1_2) = true := decide_eq_true c20
            clear c20
            replace H := Option.bind_eq_some_iff.mp H
            obtain ⟨t376, A210, H⟩ := H
            replace H : (if 0 ≤ x7_2 then (if x7_2 ≤ (wrap64 (x7_2 + t376)) then (if (wrap64 (x7_2 + t376)) ≤ (x5_3.length : Int) then (if x6_2.length < 5864062014805 then ((geyserref14_Source.f a1_0 a1_1 a1_2 a1_3 a1_4 x8_2).bind fun t385 => (geyserref14_Cut.l0 k2 x5_3 (x6_2 ++ [((x5_3.take ((wrap64 (x7_2 + t376)) : Int).toNat).drop (x7_2 : Int).toNat)]) (wrap64 (x7_2 + t385)) (wrap64 (x8_2 + 1)) a1_0 a1_1 a1_2 a1_3 a1_4)) else (none)) else (none)) else (none)) else (none)) = some r := H
            have A21 := Aside0.mk A210
            clear A210
            by_cases c22 : 0 ≤ x7_2
            · rw [if_pos c22] at H
              have c22b0 := eq_true c22
              have c22b1 : decide (0 ≤ x7_2) = true := decide_eq_true c22
              clear c22
              by_cases c23 : x7_2 ≤ (wrap64 (x7_2 + t376))
              · rw [if_pos c23] at H
                have c23b0 := eq_true c23
                have c23b1 : decide (x7_2 ≤ (wrap64 (x7_2 + t376))) = true := decide_eq_true c23
                by_cases c24 : (wrap64 (x7_2 + t376)) ≤ (x5_3.length : Int)
                · rw [if_pos c24] at H
                  have c24b0 := eq_true c24
                  have c24b1 : decide ((wrap64 (x7_2 + t376)) ≤ (x5_3.length : Int)) = true := decide_eq_true c24
                  obtain ⟨y377, hy377⟩ : ∃ y_ : List (List Int), y_ = ((x5_3.take ((wrap64 (x7_2 + t376)) : Int).toNat).drop (x7_2 : Int).toNat) := ⟨_, rfl⟩
                  replace H : (if x6_2.length < 5864062014805 then ((geyserref14_Source.f a1_0 a1_1 a1_2 a1_3 a1_4 x8_2).bind fun t385 => (geyserref14_Cut.l0 k2 x5_3 (x6_2 ++ [y377]) (wrap64 (x7_2 + t385)) (wrap64 (x8_2 + 1)) a1_0 a1_1 a1_2 a1_3 a1_4)) else (none)) = some r := by first | (rw [hy377]; with_reducible exact H) | (have H2_ := (Option.bind_some _ _).symm.trans H; rw [hy377]; with_reducible exact H2_) | (have H2_ := (Option.bind_some _ _).symm.trans H; with_reducible exact H2_) | with_reducible exact H | (rw [hy377]; exact H) | exact H
                  have Ny377 := Aside0.mk hy377
                  clear hy377
                  by_cases c25 : x6_2.length < 5864062014805
                  · rw [if_pos c25] at H
                    have LMc25 := Aside0.mk c25
                    clear c25
                    obtain ⟨y382, hy382⟩ : ∃ y_ : List (List (List Int)), y_ = (x6_2 ++ [y377]) := ⟨_, rfl⟩
                    replace H : ((geyserref14_Source.f a1_0 a1_1 a1_2 a1_3 a1_4 x8_2).bind fun t385 => (geyserref14_Cut.l0 k2 x5_3 y382 (wrap64 (x7_2 + t385)) (wrap64 (x8_2 + 1)) a1_0 a1_1 a1_2 a1_3 a1_4)) = some r := by first | (rw [hy382]; with_reducible exact H) | (have H2_ := (Option.bind_some _ _).symm.trans H; rw [hy382]; with_reducible exact H2_) | (have H2_ := (Option.bind_some _ _).symm.trans H; with_reducible exact H2_) | with_reducible exact H | (rw [hy382]; exact H) | exact H
                    have Ny382 := Aside0.mk hy382
                    clear hy382
                    replace H := Option.bind_eq_some_iff.mp H
                    obtain ⟨t385, A260, H⟩ := H
                    replace H : (geyserref14_Cut.l0 k2 x5_3 y382 (wrap64 (x7_2 + t385)) (wrap64 (x8_2 + 1)) a1_0 a1_1 a1_2 a1_3 a1_4) = some r := H
                    have A26 := Aside0.mk A260
                    clear A260
                    have H' := Aside0.mk H
                    clear H
                    have hcz27_0 : wr.cell? ⟨gb363, 0, none⟩ = some (.int .i64 a1_0) := (blk_cell BK363.out 0).trans rfl
                    have hcz27_1 : wr.cell? ⟨gb363, 1, none⟩ = some (.int .i64 a1_1) := (blk_cell BK363.out 1).trans rfl
                    have hcz27_2 : wr.cell? ⟨gb363, 2, none⟩ = some (.int .i64 a1_2) := (blk_cell BK363.out 2).trans rfl
                    have hcz27_3 : wr.cell? ⟨gb363, 3, none⟩ = some (.int .i64 a1_3) := (blk_cell BK363.out 3).trans rfl
                    have hcz27_4 : wr.cell? ⟨gb363, 4, none⟩ = some (.int .i64 a1_4) := (blk_cell BK363.out 4).trans rfl
                    have hfz27_0 := blk_frozen BK363.out 0
                    have hfz27_1 := blk_frozen BK363.out 1
                    have hfz27_2 := blk_frozen BK363.out 2
                    have hfz27_3 := blk_frozen BK363.out 3
                    have hfz27_4 := blk_frozen BK363.out 4
                    go_wp2_with (first | ((with_reducible refine gate_callee (f := 14) rfl ?_); refine goesL_ (some 33) rfl rfl Tryd.func14 (by kernel_rfl) rfl #[.agg #[.int .i64 a1_0, .int .i64 a1_1, .int .i64 a1_2, .int .i64 a1_3, .int .i64 a1_4], .int .i64 x8_2] rfl (by (try simp only [List.map_toArray, List.map_cons, List.map_nil]); first | done | rfl | (simp only [List.length_drop, List.length_take]; rfl)) ?_; (with_reducible refine (geyserref14_Source.calls a1_0 a1_1 a1_2 a1_3 a1_4 x8_2 t376 _ A21.out).mono ?_); rintro e w28 ⟨rfl, hb⟩; refine ⟨_, rfl, ?_⟩; have n0_ := Aside0.mk (Kd.N_below (by (with_reducible repeat (first | apply Kd.N_alloc | apply Kd.N_drewN | apply Kd.N_drew)); exact HO_5.out) hb); have n1_ := Aside0.mk (Kd.N_below (by (with_reducible repeat (first | apply Kd.N_alloc | apply Kd.N_drewN | apply Kd.N_drew)); exact HO_6.out) hb); have n2_ := Aside0.mk (blk_below (g := gb363) (o := .cells #[.int .i64 a1_0, .int .i64 a1_1, .int .i64 a1_2, .int .i64 a1_3, .int .i64 a1_4] 23 (0, 0)) (by (with_reducible repeat (first | refine blk_drewN ?_ _ | refine blk_drew ?_ | refine blk_alloc ?_ _)); exact BK363.out) hb); have n3_ := Aside0.mk (below_step (by repeat (first | (with_reducible first | exact HB.out | apply below_alloc | apply pw_below_drewN | apply below_drew1 | refine below_set ?_ GE363.out) | exact HB.out)) hb); clear HO_5; clear HO_6; clear BK363; clear HB; have HO_5 := n0_; have HO_6 := n1_; have BK363 := n2_; have HB := n3_; clear n0_ n1_ n2_ n3_; (try clear hb); (try clear hb2); (try clear hk); (try clear hi); obtain ⟨Ao30, co30, eo30⟩ := Kd.N_slice HO_5.out; subst eo30; have q29 : ((wrap64 (x7_2 + t376)) : Int) ≤ ((x5_3.length : Int) : Int) := of_decide_eq_true (by first | (with_reducible assumption) | assumption); obtain ⟨i029, hi029, _, hsz29, _⟩ := info_parts info42; have hroom29 : x5_3.length ≤ co30 := (Kd.N_reads' HO_5.out).2.1; have hC29 : Kd.F (Kd.slice 5 (Kd.int .u8)) _ _ Ao30 x5_3.length x5_3 := (Kd.V_at (base := w.heap.size) (Kd.N_V HO_5.out)).2.2; have ql29 : (x7_2 : Int) ≤ ((wrap64 (x7_2 + t376)) : Int) := of_decide_eq_true (by first | (with_reducible assumption) | assumption); have q029 : (0 : Int) ≤ (x7_2 : Int) := of_decide_eq_true (by first | (with_reducible assumption) | assumption); have hcut29 := cut_mid (P := Tryd.prog) 40 42 .i64 .i64 Tryd.underlying40 hi029 1 hsz29 Ao30 x5_3.length co30 x7_2 (wrap64 (x7_2 + t376)) q029 ql29 q29 hroom29; have hr29 := Kd.F_mid (lo := (x7_2 : Int).toNat) (hi := ((wrap64 (x7_2 + t376)) : Int).toNat) (c := co30) hC29 (by omega) (by omega) hroom29; obtain ⟨A29, hA29⟩ : ∃ A1, A1 = (if co30 = (x7_2 : Int).toNat then Ao30 else (Ao30 : Option Addr).map (·.add ((x7_2 : Int).toNat * 1))) := ⟨_, rfl⟩; obtain ⟨c29, hc29⟩ : ∃ c1, c1 = co30 - (x7_2 : Int).toNat := ⟨_, rfl⟩; have hy29 : y377.length = ((wrap64 (x7_2 + t376)) : Int).toNat - (x7_2 : Int).toNat := (by rw [Ny377.out, List.length_drop, List.length_take] <;> omega); rw [show ((x5_3).take ((wrap64 (x7_2 + t376)) : Int).toNat).drop (x7_2 : Int).toNat = y377 from Ny377.out.symm] at hr29; replace hr29 : Kd.F (Kd.slice 5 (Kd.int .u8)) _ _ A29 y377.length y377 := (by rw [hA29]; exact hr29); rw [← hy29, ← hA29, ← hc29] at hcut29; have HO381 := Aside0.mk (show Kd.V (Kd.slice 5 (Kd.int .u8)) 42 _ w.heap.size _ (.slice A29 y377.length c29) y377 from Kd.V_mk (by rw [hy29, hc29]; exact Nat.sub_le_sub_right (Nat.le_trans (by omega) hroom29) _) hr29); have HC381 := Aside0.mk (show y377.length ≤ c29 from by rw [hy29, hc29]; exact Nat.sub_le_sub_right (Nat.le_trans (by omega) hroom29) _); clear hr29 hC29 hroom29 hi029 hsz29 hc29; have KY29 := Aside0.mk hy29; have KA29 := Aside0.mk hA29; clear hy29 hA29; replace q29 := eq_true q29) | ((with_reducible refine gate_builtin (b := .append) (xs := #[.tmp 27, .tmp 36]) rfl ?_); at_builtin; refine Kd.N_append (Kd.slice 42 (Kd.slice 5 (Kd.int .u8))) (w0 := w) w.heap.size rfl (.tmp 27) (.tmp 36) 39 40 (.slice none 0 0) 24 rfl Tryd.underlying39 info40 rfl (by decide) (by omega) u6 x6_2 y377 [.slice A29 y377.length c29] (fun k_ => (w.heap.size ≤ k_) ∧ k_ ≠ gb363) (fun k_ => ((fun k_ => (w.heap.size ≤ k_) ∧ k_ ≠ gb363)) k_ ∧ some k_ ≠ (u6 : Value).ownBlock) rfl rfl ?aP (fun _ hk => hk) ?aF ?aO ?aB ?aS ?aL ?_; (case aP => exact (Kd.FK_slice_mk (Kd.V_reads' (Kd.V_mono (ok' := (fun k_ => ((fun k_ => (w.heap.size ≤ k_) ∧ k_ ≠ gb363)) k_ ∧ some k_ ≠ (u6 : Value).ownBlock)) (HO381.out) (fun k_ hk => ⟨⟨hk.1, hk.2.2⟩, hk.2.1⟩))).2.1 (Kd.V_F (Kd.V_mono (ok' := (fun k_ => ((fun k_ => (w.heap.size ≤ k_) ∧ k_ ≠ gb363)) k_ ∧ some k_ ≠ (u6 : Value).ownBlock)) (HO381.out) (fun k_ hk => ⟨⟨hk.1, hk.2.2⟩, hk.2.1⟩))))); (case aB => exact (by repeat (first | (with_reducible first | exact HB.out | apply below_alloc | apply pw_below_drewN | apply below_drew1 | refine below_set ?_ GE363.out) | exact HB.out))); (case aF => exact (fun k_ hk => ⟨(Nat.le_trans (below_size (by repeat (first | (with_reducible first | exact HB.out | apply below_alloc | apply pw_below_drewN | apply below_drew1 | refine below_set ?_ GE363.out) | exact HB.out))) hk), Kd.freshB (g := gb363) (o := .cells #[.int .i64 a1_0, .int .i64 a1_1, .int .i64 a1_2, .int .i64 a1_3, .int .i64 a1_4] 23 (0, 0)) (by (with_reducible repeat (first | refine blk_drewN ?_ _ | refine blk_drew ?_ | refine blk_alloc ?_ _)); exact BK363.out) k_ hk⟩)); (case aO => exact (by (with_reducible repeat (first | apply Kd.N_alloc | apply Kd.N_drewN | apply Kd.N_drew)); exact HO_6.out)); (case aS => exact (below_size (by repeat (first | (with_reducible first | exact HB.out | apply below_alloc | apply pw_below_drewN | apply below_drew1 | refine below_set ?_ GE363.out) | exact HB.out)))); (case aL => have := LMc25.out; omega); intro v383 w31 ho hb hg hat; rw [← Ny382.out] at ho; have n0_ := Aside0.mk (Kd.N_afterv (ok := (fun k_ => (w.heap.size ≤ k_) ∧ k_ ≠ gb363)) (by (with_reducible repeat (first | apply Kd.N_alloc | apply Kd.N_drewN | apply Kd.N_drew)); exact Kd.N_mono HO_5.out (fun _ hk => ⟨⟨hk.1, hk.2.2⟩, hk.2.1⟩)) hg hat); have n1_ := Aside0.mk (blk_grown (g := gb363) (o := .cells #[.int .i64 a1_0, .int .i64 a1_1, .int .i64 a1_2, .int .i64 a1_3, .int .i64 a1_4] 23 (0, 0)) (by (with_reducible repeat (first | refine blk_drewN ?_ _ | refine blk_drew ?_ | refine blk_alloc ?_ _)); exact BK363.out) hg (Kd.N_ne HO_6.out BK363.out (by decide))); have n2_ := Aside0.mk (Kd.V_afterv (ok := (fun k_ => (w.heap.size ≤ k_) ∧ k_ ≠ gb363)) (by (with_reducible repeat (first | apply Kd.V_alloc | apply Kd.V_drewN | apply Kd.V_drew)); exact Kd.V_mono HO381.out (fun _ hk => ⟨⟨hk.1, hk.2.2⟩, hk.2.1⟩)) hg hat); have n3_ := Aside0.mk (hb); have n4_ := Aside0.mk (ho); clear HO_5; clear BK363; clear HO381; clear HB; clear HO_6; have HO_5 := n0_; have BK363 := n1_; have HO381 := n2_; have HB := n3_; have HO384 := n4_; clear n0_ n1_ n2_ n3_ n4_; clear ho hb hg hat; have hcz32_0 : w31.cell? ⟨gb363, 0, none⟩ = some (.int .i64 a1_0) := (blk_cell BK363.out 0).trans rfl; have hcz32_1 : w31.cell? ⟨gb363, 1, none⟩ = some (.int .i64 a1_1) := (blk_cell BK363.out 1).trans rfl; have hcz32_2 : w31.cell? ⟨gb363, 2, none⟩ = some (.int .i64 a1_2) := (blk_cell BK363.out 2).trans rfl; have hcz32_3 : w31.cell? ⟨gb363, 3, none⟩ = some (.int .i64 a1_3) := (blk_cell BK363.out 3).trans rfl; have hcz32_4 : w31.cell? ⟨gb363, 4, none⟩ = some (.int .i64 a1_4) := (blk_cell BK363.out 4).trans rfl; have hfz32_0 := blk_frozen BK363.out 0; have hfz32_1 := blk_frozen BK363.out 1; have hfz32_2 := blk_frozen BK363.out 2; have hfz32_3 := blk_frozen BK363.out 3; have hfz32_4 := blk_frozen BK363.out 4) | ((with_reducible refine gate_callee (f := 14) rfl ?_); refine goesL_ (some 41) rfl rfl Tryd.func14 (by kernel_rfl) rfl #[.agg #[.int .i64 a1_0, .int .i64 a1_1, .int .i64 a1_2, .int .i64 a1_3, .int .i64 a1_4], .int .i64 x8_2] rfl (by (try simp only [List.map_toArray, List.map_cons, List.map_nil]); first | done | rfl | (simp only [List.length_drop, List.length_take]; rfl)) ?_; (with_reducible refine (geyserref14_Source.calls a1_0 a1_1 a1_2 a1_3 a1_4 x8_2 t385 _ A26.out).mono ?_); rintro e w33 ⟨rfl, hb⟩; refine ⟨_, rfl, ?_⟩; have n0_ := Aside0.mk (Kd.N_below (by (with_reducible repeat (first | apply Kd.N_alloc | apply Kd.N_drewN | apply Kd.N_drew)); exact HO_5.out) hb); have n1_ := Aside0.mk (Kd.V_below (by (with_reducible repeat (first | apply Kd.V_alloc | apply Kd.V_drewN | apply Kd.V_drew)); exact HO381.out) hb); have n2_ := Aside0.mk (Kd.N_below (by (with_reducible repeat (first | apply Kd.N_alloc | apply Kd.N_drewN | apply Kd.N_drew)); exact HO384.out) hb); have n3_ := Aside0.mk (blk_below (g := gb363) (o := .cells #[.int .i64 a1_0, .int .i64 a1_1, .int .i64 a1_2, .int .i64 a1_3, .int .i64 a1_4] 23 (0, 0)) (by (with_reducible repeat (first | refine blk_drewN ?_ _ | refine blk_drew ?_ | refine blk_alloc ?_ _)); exact BK363.out) hb); have n4_ := Aside0.mk (below_step (by repeat (first | (with_reducible first | exact HB.out | apply below_alloc | apply pw_below_drewN | apply below_drew1 | refine below_set ?_ GE363.out) | exact HB.out)) hb); clear HO_5; clear HO381; clear HO384; clear BK363; clear HB; have HO_5 := n0_; have HO381 := n1_; have HO384 := n2_; have BK363 := n3_; have HB := n4_; clear n0_ n1_ n2_ n3_ n4_; (try clear hb); (try clear hb2); (try clear hk); (try clear hi)))
                    go_roundg k2
                    case measure => have := HJ3.out; have := HK2.out; omega
                    case rel => exact ⟨(y382), (wrap64 (x7_2 + t385)), (wrap64 (x8_2 + 1)), (by first | rfl | (simp; done) | (simp [*]; done)), (by first | rfl | (simp; done) | (simp [*]; done)), H', ⟨by have := HJ3.out; have := HK2.out; omega⟩, ⟨by (with_reducible repeat (first | apply Kd.N_alloc | apply Kd.N_drewN | apply Kd.N_drew)); exact Kd.N_mono HO_5.out (fun _ hk => ⟨hk.1.1, ⟨hk.2, hk.1.2⟩⟩)⟩, ⟨by (with_reducible repeat (first | apply Kd.N_alloc | apply Kd.N_drewN | apply Kd.N_drew)); exact HO384.out⟩, ⟨by (with_reducible repeat (first | refine blk_drewN ?_ _ | refine blk_drew ?_ | refine blk_alloc ?_ _)); exact BK363.out⟩, ⟨by repeat (first | (with_reducible first | exact HB.out | apply below_alloc | apply pw_below_drewN | apply below_drew1 | refine below_set ?_ GE363.out) | exact HB.out)⟩⟩
                  · rw [if_neg c25] at H
                    exact absurd H (by simp)
                · rw [if_neg c24] at H
                  exact absurd H (by simp)
              · rw [if_neg c23] at H
                exact absurd H (by simp)
            · rw [if_neg c22] at H
              exact absurd H (by simp)
          · rw [if_neg c20] at H
            have c20b0 : decide (x8_2 < a1_2) = false := decide_eq_false c20
            clear c20
            obtain rfl := Option.some.inj H
            have hcz34_0 : wr.cell? ⟨gb363, 0, none⟩ = some (.int .i64 a1_0) := (blk_cell BK363.out 0).trans rfl
            have hcz34_1 : wr.cell? ⟨gb363, 1, none⟩ = some (.int .i64 a1_1) := (blk_cell BK363.out 1).trans rfl
            have hcz34_2 : wr.cell? ⟨gb363, 2, none⟩ = some (.int .i64 a1_2) := (blk_cell BK363.out 2).trans rfl
            have hcz34_3 : wr.cell? ⟨gb363, 3, none⟩ = some (.int .i64 a1_3) := (blk_cell BK363.out 3).trans rfl
            have hcz34_4 : wr.cell? ⟨gb363, 4, none⟩ = some (.int .i64 a1_4) := (blk_cell BK363.out 4).trans rfl
            have hfz34_0 := blk_frozen BK363.out 0
            have hfz34_1 := blk_frozen BK363.out 1
            have hfz34_2 := blk_frozen BK363.out 2
            have hfz34_3 := blk_frozen BK363.out 3
            have hfz34_4 := blk_frozen BK363.out 4
            go_wp2
            go_ret
            exact ⟨_, by first | rfl | (simp [errW_none, errW_some] <;> rfl) | (simp [*, errW_none, errW_some] <;> rfl), by (with_reducible repeat (first | apply Kd.N_alloc | apply Kd.N_drewN | apply Kd.N_drew)); exact Kd.N_mono HO_6.out (fun _ hk => hk.1), by repeat (first | (with_reducible first | exact HB.out | apply below_alloc | apply pw_below_drewN | apply below_drew1 | refine below_set ?_ GE363.out) | exact HB.out)⟩


/-- What is held while the object's copy is turned over: the copy lies below m, the blocks from m on. -/
def blocking_Cuts_loop.Inv (m base gb : Nat) (cs : Array Value) (v5 : Value) (n5 : Nat) (v6 : Value) (x6 : List (List (List Int))) (v7 : Value) (x7 : List FE) (W : World) : Prop :=
  base ≤ m ∧ gb < m ∧ (∃ xs : List Int, xs.length = n5 ∧ Kd.R (Kd.int .u8) 5 W base (fun k => k < m) v5 xs) ∧ Kd.N (Kd.slice 42 (Kd.slice 5 (Kd.int .u8))) 40 W base (fun k => m ≤ k) v6 x6 ∧ Kd.R kF 61 W base (fun _ => True) v7 x7 ∧ W.heap[gb]? = some (.cells cs 23 (0, 0))
section
variable {m base gb n5 : Nat} {cs : Array Value} {v5 v6 v7 : Value} {x6 : List (List (List Int))} {x7 : List FE} {W W' : World}
theorem blocking_Cuts_loop.Inv.below (h : blocking_Cuts_loop.Inv m base gb cs v5 n5 v6 x6 v7 x7 W) (hb : Below W.heap.size W W') : blocking_Cuts_loop.Inv m base gb cs v5 n5 v6 x6 v7 x7 W' := by
  obtain ⟨h0, h1, ⟨xs, h2, h3⟩, h4, h5, h6⟩ := h
  exact ⟨h0, h1, ⟨xs, h2, Kd.R_below h3 hb⟩, Kd.N_below h4 hb, Kd.R_below h5 hb, (hb.block gb (blk_lt h6)).trans h6⟩
theorem blocking_Cuts_loop.Inv.drewN (h : blocking_Cuts_loop.Inv m base gb cs v5 n5 v6 x6 v7 x7 W) (n : Nat) : blocking_Cuts_loop.Inv m base gb cs v5 n5 v6 x6 v7 x7 (W.drewN n) := h.below (pw_below_drewN (Below.refl _ _) n)
theorem blocking_Cuts_loop.Inv.drew (h : blocking_Cuts_loop.Inv m base gb cs v5 n5 v6 x6 v7 x7 W) : blocking_Cuts_loop.Inv m base gb cs v5 n5 v6 x6 v7 x7 W.drew := h.below (below_drew (Below.refl _ _))
theorem blocking_Cuts_loop.Inv.start {ok ok' : Nat → Prop} {xs : List Int} (h5 : Kd.R (Kd.int .u8) 5 W base ok v5 xs) (hg : W.heap[gb]? = some (.cells cs 23 (0, 0))) (hb : Below W.heap.size W W') (h6 : Kd.N (Kd.slice 42 (Kd.slice 5 (Kd.int .u8))) 40 W' W.heap.size (fun k_ => (blocking_Cut.Z0 k_ ∨ W.heap.size ≤ k_) ∧ some k_ ≠ (v7 : Value).ownBlock) v6 x6)
    (h7 : Kd.R kF 61 W' W.heap.size ok' v7 x7) (hB : base ≤ W.heap.size) : blocking_Cuts_loop.Inv W.heap.size base gb cs v5 xs.length v6 x6 v7 x7 W' :=
  ⟨hB, blk_lt hg, ⟨xs, rfl, Kd.R_mono (Kd.R_below (Kd.R_bound h5) hb) (fun _ h => h.2.2.1)⟩, Kd.N_lower (Kd.N_mono h6 (fun _ h => h.1.elim (fun z => z.elim) (fun h => h))) hB, Kd.R_lower (Kd.R_mono h7 (fun _ _ => trivial)) hB, (hb.block gb (blk_lt hg)).trans hg⟩
theorem blocking_Cuts_loop.Inv.at_ {A5 : Option Addr} {n c5 : Nat} (h : blocking_Cuts_loop.Inv m base gb cs (.slice A5 n c5) n5 v6 x6 v7 x7 W) (i : Nat) (hi : i < n5) :
    ∃ g z cells, A5 = some ⟨g, 0, none⟩ ∧ n5 ≤ 9223372036854775807 ∧ W.cell? ⟨g, i, none⟩ = some (.int .u8 z) ∧ W.frozen? ⟨g, i, none⟩ = false ∧ base ≤ g ∧ g < m ∧ W.heap[g]? = some (.cells cells 5 (0, 0)) := by
  obtain ⟨h0, h1, ⟨xs, h2, h3⟩, h4, h5, h6⟩ := h
  obtain ⟨hn, _, hC⟩ := Kd.R_reads' h3
  have hmax := hC.2.1
  have hok := h3.1
  obtain ⟨g, cap, he, hbase, hlt, cells, hcells⟩ := Kd.R_form h3 (by omega)
  injection he with ha hb hc
  subst ha
  obtain ⟨c, hcl, hM, hcc, hfr⟩ := Kd.R_elem h3 0 (i : Int) (by omega) (by omega)
  rw [Int.toNat_natCast] at hcc hM
  have hM3 : c = [.int .u8 (xs.getD i 0)] := hM
  have e2 : i * Kd.sz (Kd.int .u8) + 0 = i := by show i * 1 + 0 = i; omega
  have h7' := hcc 0 _ (by rw [hM3]; rfl)
  rw [e2] at h7'
  have h8 := hfr 0
  rw [Int.toNat_natCast, e2] at h8
  exact ⟨g, _, cells, rfl, by omega, h7', h8, hbase, hok g rfl, hcells⟩
theorem blocking_Cuts_loop.Inv.store {g n c5 j : Nat} {cells : Array Value} (h : blocking_Cuts_loop.Inv m base gb cs (.slice (some ⟨g, 0, none⟩) n c5) n5 v6 x6 v7 x7 W) (hg : W.heap[g]? = some (.cells cells 5 (0, 0))) (hm : g < m) (u : Int) :
    blocking_Cuts_loop.Inv m base gb cs (.slice (some ⟨g, 0, none⟩) n c5) n5 v6 x6 v7 x7 (W.setCell ⟨g, j, none⟩ (.int .u8 u)) := by
  obtain ⟨h0, h1, ⟨xs, h2, h3⟩, h4, h5, h6⟩ := h
  have hne : gb ≠ g := by
    intro e
    rw [e, hg] at h6
    injection h6 with h6
    injection h6 with _ h6 _
    exact absurd h6 (by decide)
  refine ⟨h0, h1, ⟨xs.set (j : Int).toNat u, by simp [h2], Kd.R_putn h3 (j : Int) u⟩, Kd.N_far (p := ⟨g, j, none⟩) h4 (fun k hk e => by have : k = g := e; omega) _, Kd.R_set h5 hg (by decide) j _, ?_⟩
  rw [Below.heap_setCell W ⟨g, j, none⟩ _ gb hne]
  exact h6
end

/-! ### geyserlaw14_BlockingCuts: function 6 -/
mutual
def geyserlaw14_BlockingCuts.j0 : Nat → List Int → List (List (List Int)) → List FE → Int → Bool → Int → Int → Int → Int → Int → Option (Bool)
  | 0, _, _, _, _, _, _, _, _, _, _ => none
  | k + 1, x0, x6, x7, x9, x43, x387000, x387001, x387002, x387003, x387004 => if x43 = true then (geyserlaw14_BlockingCuts.j1 k x0 x6 x7 2 x387000 x387001 x387002 x387003 x387004) else (geyserlaw14_BlockingCuts.j1 k x0 x6 x7 x9 x387000 x387001 x387002 x387003 x387004)
def geyserlaw14_BlockingCuts.j1 : Nat → List Int → List (List (List Int)) → List FE → Int → Int → Int → Int → Int → Int → Option (Bool)
  | 0, _, _, _, _, _, _, _, _, _ => none
  | k + 1, x0, x6, x7, x9, x387000, x387001, x387002, x387003, x387004 => (geyserlaw14_tells.f x7 x9 (⟨#[98, 108, 111, 99, 107, 105, 110, 103, 46, 67, 117, 116]⟩ : ByteArray)).bind fun t400 => (if t400 = true then (if x9 = 0 then ((geyserref14_Cut.f k x0 x387000 x387001 x387002 x387003 x387004).bind fun t401 => ((geyserref14_Same.f k x6 t401).bind fun t404 => (if t404 = true then ((geyserlaw14_awake.f k).bind fun t405 => (some t405)) else (some false)))) else (if (x6.length : Int) = 0 then ((geyserlaw14_awake.f k).bind fun t406 => (some t406)) else (some false))) else (some false))
end
def geyserlaw14_BlockingCuts.f (k : Nat) (l0 : List Int) (a1_0 : Int) (a1_1 : Int) (a1_2 : Int) (a1_3 : Int) (a1_4 : Int) : Option (Bool) := (some (([] : List Int) : List Int)).bind fun y387 => (if y387.length + l0.length < 140737488355328 then ((blocking_Cut.f k (y387 ++ l0) a1_0 a1_1 a1_2 a1_3 a1_4).bind fun bt393 => ((geyserref14_Check.f k a1_0 a1_1 a1_2 a1_3 a1_4).bind fun t399 => (if t399 = 0 then (geyserlaw14_BlockingCuts.j0 k l0 bt393.1 bt393.2 t399 ((l0.length : Int) != a1_0) a1_0 a1_1 a1_2 a1_3 a1_4) else (geyserlaw14_BlockingCuts.j0 k l0 bt393.1 bt393.2 t399 false a1_0 a1_1 a1_2 a1_3 a1_4)))) else (none))
theorem geyserlaw14_BlockingCuts.mono_l : ∀ k, (∀ y0 y1 y2 y3 y4 y5 y6 y7 y8 y9, LeO (geyserlaw14_BlockingCuts.j0 k y0 y1 y2 y3 y4 y5 y6 y7 y8 y9) (geyserlaw14_BlockingCuts.j0 (k + 1) y0 y1 y2 y3 y4 y5 y6 y7 y8 y9)) ∧ (∀ y0 y1 y2 y3 y4 y5 y6 y7 y8, LeO (geyserlaw14_BlockingCuts.j1 k y0 y1 y2 y3 y4 y5 y6 y7 y8) (geyserlaw14_BlockingCuts.j1 (k + 1) y0 y1 y2 y3 y4 y5 y6 y7 y8))
  | 0 => ⟨fun _ _ _ _ _ _ _ _ _ _ r h => by simp [geyserlaw14_BlockingCuts.j0] at h, fun _ _ _ _ _ _ _ _ _ r h => by simp [geyserlaw14_BlockingCuts.j1] at h⟩
  | k + 1 => by
    obtain ⟨ih0, ih1⟩ := geyserlaw14_BlockingCuts.mono_l k
    refine ⟨?_, ?_⟩
    · intro y0 y1 y2 y3 y4 y5 y6 y7 y8 y9
      unfold geyserlaw14_BlockingCuts.j0
      repeat' first
      | (with_reducible exact ih0 _ _ _ _ _ _ _ _ _ _)
      | (with_reducible exact ih1 _ _ _ _ _ _ _ _ _)
      | (with_reducible exact blocking_Cut.mono _ _ _ _ _ _ _)
      | (with_reducible exact geyserlaw14_awake.mono _)
      | (with_reducible exact geyserref14_Check.mono _ _ _ _ _ _)
      | (with_reducible exact geyserref14_Cut.mono _ _ _ _ _ _ _)
      | (with_reducible exact geyserref14_Same.mono _ _ _)
      | (with_reducible exact LeO.refl _)
      | (with_reducible exact LeO.none _)
      | (with_reducible refine LeO.ite ?_ ?_)
      | (with_reducible refine LeO.bind ?_ (fun _ => ?_))
      | exact ih0 _ _ _ _ _ _ _ _ _ _
      | exact ih1 _ _ _ _ _ _ _ _ _
      | exact blocking_Cut.mono _ _ _ _ _ _ _
      | exact geyserlaw14_awake.mono _
      | exact geyserref14_Check.mono _ _ _ _ _ _
      | exact geyserref14_Cut.mono _ _ _ _ _ _ _
      | exact geyserref14_Same.mono _ _ _
      | exact LeO.none _
      | refine LeO.ite ?_ ?_
      | refine LeO.bind ?_ (fun _ => ?_)
    · intro y0 y1 y2 y3 y4 y5 y6 y7 y8
      unfold geyserlaw14_BlockingCuts.j1
      repeat' first
      | (with_reducible exact ih0 _ _ _ _ _ _ _ _ _ _)
      | (with_reducible exact ih1 _ _ _ _ _ _ _ _ _)
      | (with_reducible exact blocking_Cut.mono _ _ _ _ _ _ _)
      | (with_reducible exact geyserlaw14_awake.mono _)
      | (with_reducible exact geyserref14_Check.mono _ _ _ _ _ _)
      | (with_reducible exact geyserref14_Cut.mono _ _ _ _ _ _ _)
      | (with_reducible exact geyserref14_Same.mono _ _ _)
      | (with_reducible exact LeO.refl _)
      | (with_reducible exact LeO.none _)
      | (with_reducible refine LeO.ite ?_ ?_)
      | (with_reducible refine LeO.bind ?_ (fun _ => ?_))
      | exact ih0 _ _ _ _ _ _ _ _ _ _
      | exact ih1 _ _ _ _ _ _ _ _ _
      | exact blocking_Cut.mono _ _ _ _ _ _ _
      | exact geyserlaw14_awake.mono _
      | exact geyserref14_Check.mono _ _ _ _ _ _
      | exact geyserref14_Cut.mono _ _ _ _ _ _ _
      | exact geyserref14_Same.mono _ _ _
      | exact LeO.none _
      | refine LeO.ite ?_ ?_
      | refine LeO.bind ?_ (fun _ => ?_)
theorem geyserlaw14_BlockingCuts.mono : ∀ a0 a1 a2 a3 a4 a5 k, LeO (geyserlaw14_BlockingCuts.f k a0 a1 a2 a3 a4 a5) (geyserlaw14_BlockingCuts.f (k + 1) a0 a1 a2 a3 a4 a5) := by
  intro a0 a1 a2 a3 a4 a5 k
  obtain ⟨ih0, ih1⟩ := geyserlaw14_BlockingCuts.mono_l k
  unfold geyserlaw14_BlockingCuts.f
  repeat' first
      | (with_reducible exact ih0 _ _ _ _ _ _ _ _ _ _)
      | (with_reducible exact ih1 _ _ _ _ _ _ _ _ _)
      | (with_reducible exact blocking_Cut.mono _ _ _ _ _ _ _)
      | (with_reducible exact geyserlaw14_awake.mono _)
      | (with_reducible exact geyserref14_Check.mono _ _ _ _ _ _)
      | (with_reducible exact geyserref14_Cut.mono _ _ _ _ _ _ _)
      | (with_reducible exact geyserref14_Same.mono _ _ _)
      | (with_reducible exact LeO.refl _)
      | (with_reducible exact LeO.none _)
      | (with_reducible refine LeO.ite ?_ ?_)
      | (with_reducible refine LeO.bind ?_ (fun _ => ?_))
      | exact ih0 _ _ _ _ _ _ _ _ _ _
      | exact ih1 _ _ _ _ _ _ _ _ _
      | exact blocking_Cut.mono _ _ _ _ _ _ _
      | exact geyserlaw14_awake.mono _
      | exact geyserref14_Check.mono _ _ _ _ _ _
      | exact geyserref14_Cut.mono _ _ _ _ _ _ _
      | exact geyserref14_Same.mono _ _ _
      | exact LeO.none _
      | refine LeO.ite ?_ ?_
      | refine LeO.bind ?_ (fun _ => ?_)
set_option maxHeartbeats 8000000 in
set_option maxRecDepth 100000 in
theorem geyserlaw14_BlockingCuts.calls (k : Nat) (A0 : Option Addr) (c0 : Nat) (l0 : List Int) (a1_0 : Int) (a1_1 : Int) (a1_2 : Int) (a1_3 : Int) (a1_4 : Int) (r : Bool) (w : World) (he : ErrIn w) (hr0 : Kd.C (Kd.int .u8) w A0 l0.length l0) (hc0 : l0.length ≤ c0) (h : geyserlaw14_BlockingCuts.f k l0 a1_0 a1_1 a1_2 a1_3 a1_4 = some r) :
    Calls Tryd.prog 6 #[.slice A0 l0.length c0, .agg #[.int .i64 a1_0, .int .i64 a1_1, .int .i64 a1_2, .int .i64 a1_3, .int .i64 a1_4]] w fun e w' => e = .returned (.bool r) ∧ Below w.heap.size w w' := by
  have hu23 := Tryd.underlying23
  have HR0 := Aside0.mk hr0
  have HC0 := Aside0.mk hc0
  clear hr0 hc0
  have HB := Aside0.mk (Below.refl w.heap.size w)
  have HEI := Aside0.mk he
  clear he
  have H : ((some (([] : List Int) : List Int)).bind fun y387 => (if y387.length + l0.length < 140737488355328 then ((blocking_Cut.f k (y387 ++ l0) a1_0 a1_1 a1_2 a1_3 a1_4).bind fun bt393 => ((geyserref14_Check.f k a1_0 a1_1 a1_2 a1_3 a1_4).bind fun t399 => (if t399 = 0 then (geyserlaw14_BlockingCuts.j0 k l0 bt393.1 bt393.2 t399 ((l0.length : Int) != a1_0) a1_0 a1_1 a1_2 a1_3 a1_4) else (geyserlaw14_BlockingCuts.j0 k l0 bt393.1 bt393.2 t399 false a1_0 a1_1 a1_2 a1_3 a1_4)))) else (none))) = some r := h
  clear h
  obtain ⟨y387, hy387⟩ : ∃ y_ : List Int, y_ = (([] : List Int)) := ⟨_, rfl⟩
  replace H : (if y387.length + l0.length < 140737488355328 then ((blocking_Cut.f k (y387 ++ l0) a1_0 a1_1 a1_2 a1_3 a1_4).bind fun bt393 => ((geyserref14_Check.f k a1_0 a1_1 a1_2 a1_3 a1_4).bind fun t399 => (if t399 = 0 then (geyserlaw14_BlockingCuts.j0 k l0 bt393.1 bt393.2 t399 ((l0.length : Int) != a1_0) a1_0 a1_1 a1_2 a1_3 a1_4) else (geyserlaw14_BlockingCuts.j0 k l0 bt393.1 bt393.2 t399 false a1_0 a1_1 a1_2 a1_3 a1_4)))) else (none)) = some r := by first | (rw [hy387]; with_reducible exact H) | (have H2_ := (Option.bind_some _ _).symm.trans H; rw [hy387]; with_reducible exact H2_) | (have H2_ := (Option.bind_some _ _).symm.trans H; with_reducible exact H2_) | with_reducible exact H | (rw [hy387]; exact H) | exact H
  have Ny387 := Aside0.mk hy387
  clear hy387
  by_cases c3 : y387.length + l0.length < 140737488355328
  · rw [if_pos c3] at H
    have LMc3 := Aside0.mk c3
    clear c3
    obtain ⟨y390, hy390⟩ : ∃ y_ : List Int, y_ = (y387 ++ l0) := ⟨_, rfl⟩
    replace H : ((blocking_Cut.f k y390 a1_0 a1_1 a1_2 a1_3 a1_4).bind fun bt393 => ((geyserref14_Check.f k a1_0 a1_1 a1_2 a1_3 a1_4).bind fun t399 => (if t399 = 0 then (geyserlaw14_BlockingCuts.j0 k l0 bt393.1 bt393.2 t399 ((l0.length : Int) != a1_0) a1_0 a1_1 a1_2 a1_3 a1_4) else (geyserlaw14_BlockingCuts.j0 k l0 bt393.1 bt393.2 t399 false a1_0 a1_1 a1_2 a1_3 a1_4)))) = some r := by first | (rw [hy390]; with_reducible exact H) | (have H2_ := (Option.bind_some _ _).symm.trans H; rw [hy390]; with_reducible exact H2_) | (have H2_ := (Option.bind_some _ _).symm.trans H; with_reducible exact H2_) | with_reducible exact H | (rw [hy390]; exact H) | exact H
    have Ny390 := Aside0.mk hy390
    clear hy390
    replace H := Option.bind_eq_some_iff.mp H
    obtain ⟨⟨t393, t396⟩, A40, H⟩ := H
    replace H : ((geyserref14_Check.f k a1_0 a1_1 a1_2 a1_3 a1_4).bind fun t399 => (if t399 = 0 then (geyserlaw14_BlockingCuts.j0 k l0 t393 t396 t399 ((l0.length : Int) != a1_0) a1_0 a1_1 a1_2 a1_3 a1_4) else (geyserlaw14_BlockingCuts.j0 k l0 t393 t396 t399 false a1_0 a1_1 a1_2 a1_3 a1_4))) = some r := H
    have A4 := Aside0.mk A40
    clear A40
    replace H := Option.bind_eq_some_iff.mp H
    obtain ⟨t399, A50, H⟩ := H
    replace H : (if t399 = 0 then (geyserlaw14_BlockingCuts.j0 k l0 t393 t396 t399 ((l0.length : Int) != a1_0) a1_0 a1_1 a1_2 a1_3 a1_4) else (geyserlaw14_BlockingCuts.j0 k l0 t393 t396 t399 false a1_0 a1_1 a1_2 a1_3 a1_4)) = some r := H
    have A5 := Aside0.mk A50
    clear A50
    have HC6 := Aside0.mk H
    clear H
    go_enter Tryd.func6, Tryd.ntmps6
    go_wp2_with (first | ((with_reducible refine gate_dst (N := 3) rfl ?_); (try (refine gate_guard (by rfl) ?_; dsimp only)); refine box_event ?hg (N := 3) ?hd (cs := #[.int .i64 a1_0, .int .i64 a1_1, .int .i64 a1_2, .int .i64 a1_3, .int .i64 a1_4]) (t := 23) ?hr ?_; (case hd => rfl); (case hg => rfl); (case hr => first | (go_simp; done) | (go_simp; rfl)); intro gb386 hg w7 hbox hb; have n0_ := Aside0.mk (below_step (by repeat (first | (with_reducible first | exact HB.out | apply below_alloc | apply pw_below_drewN | apply below_drew1) | exact HB.out)) hb); have n1_ := Aside0.mk (hbox); have n2_ := Aside0.mk ((by rw [hg]; exact (below_size (by repeat (first | (with_reducible first | exact HB.out | apply below_alloc | apply pw_below_drewN | apply below_drew1) | exact HB.out))) : w.heap.size ≤ gb386)); have n3_ := Aside0.mk ((by rw [hg]; exact (below_size (by repeat (first | (with_reducible first | exact HB.out | apply below_alloc | apply pw_below_drewN | apply below_drew1) | exact HB.out))) : w.heap.size ≤ gb386)); clear HB; have HB := n0_; have BK386 := n1_; have GW386 := n2_; have GE386 := n3_; clear n0_ n1_ n2_ n3_; clear hb hbox hg) | ((with_reducible refine gate_dst (N := 10) rfl ?_); (try (refine gate_guard (by rfl) ?_; dsimp only)); refine Kd.R_lit (Kd.int .u8) _ 5 ?hg (N := 10) ?hd (xs := ([] : List Int)) (inner := []) (ok := fun _ => True) (okp := fun _ => True) ?hr ?hp (fun _ hk => hk) trivial (Below.refl _ _) (Nat.le_refl _) (by simp) ?_; (case hd => rfl); (case hg => rfl); (case hr => first | (go_simp; done) | (go_simp; rfl)); (case hp => exact (Reps.none _ _)); intro v388 w8 ho9 hb hg_ hnew_; clear hg_ hnew_; (first | rw [← Ny387.out] at ho9 | (simp only [Int.reduceToNat] at ho9; rw [← Ny387.out] at ho9)); have n0_ := Aside0.mk (Kd.R_lower ho9 (below_size (by repeat (first | (with_reducible first | exact HB.out | apply below_alloc | apply pw_below_drewN | apply below_drew1 | refine below_set ?_ GE386.out) | exact HB.out)))); have n1_ := Aside0.mk (blk_below (g := gb386) (o := .cells #[.int .i64 a1_0, .int .i64 a1_1, .int .i64 a1_2, .int .i64 a1_3, .int .i64 a1_4] 23 (0, 0)) (by (with_reducible repeat (first | refine blk_drewN ?_ _ | refine blk_drew ?_ | refine blk_alloc ?_ _)); exact BK386.out) hb); have n2_ := Aside0.mk (below_step (by repeat (first | (with_reducible first | exact HB.out | apply below_alloc | apply pw_below_drewN | apply below_drew1 | refine below_set ?_ GE386.out) | exact HB.out)) hb); clear BK386; clear HB; have HO389 := n0_; have BK386 := n1_; have HB := n2_; clear n0_ n1_ n2_; clear hb ho9) | ((with_reducible refine gate_builtin (b := .append) (xs := #[.tmp 10, .tmp 11]) rfl ?_); (try (refine gate_guard (by rfl) ?_; dsimp only)); at_builtin; refine Kd.R_append_rows (Kd.int .u8) (w0 := w) w.heap.size rfl (.tmp 10) (.tmp 11) 42 5 (.int .u8 0) 1 rfl Tryd.underlying42 info5 rfl (by decide) (by omega) v388 y387 l0 _ _ _ (fun _ => True) (fun _ => False) rfl rfl ?aO ?aR (fun _ _ h => h) (fun _ h => h.elim) ?aF ?aB ?aS ?aL ?_; (case aR => repeat (first | exact (Kd.C_below HR0.out HB.out) | (with_reducible refine Kd.C_alloc ?_ _) | (with_reducible refine Kd.C_drewN ?_ _) | (with_reducible refine Kd.C_drew ?_))); (case aB => exact (by repeat (first | (with_reducible first | exact HB.out | apply below_alloc | apply pw_below_drewN | apply below_drew1 | refine below_set ?_ GE386.out) | exact HB.out))); (case aF => exact (fun _ _ => trivial)); (case aO => exact (by (with_reducible repeat (first | apply Kd.R_alloc | apply Kd.R_drewN | apply Kd.R_drew)); exact HO389.out)); (case aS => exact (below_size (by repeat (first | (with_reducible first | exact HB.out | apply below_alloc | apply pw_below_drewN | apply below_drew1 | refine below_set ?_ GE386.out) | exact HB.out)))); (case aL => have := LMc3.out; omega); intro v391 w10 ho hb hg hat; rw [← Ny390.out] at ho; have n0_ := Aside0.mk (blk_grown (g := gb386) (o := .cells #[.int .i64 a1_0, .int .i64 a1_1, .int .i64 a1_2, .int .i64 a1_3, .int .i64 a1_4] 23 (0, 0)) (by (with_reducible repeat (first | refine blk_drewN ?_ _ | refine blk_drew ?_ | refine blk_alloc ?_ _)); exact BK386.out) hg (Kd.R_ne HO389.out BK386.out (by decide))); have n1_ := Aside0.mk (hb); have n2_ := Aside0.mk (ho); clear BK386; clear HB; clear HO389; have BK386 := n0_; have HB := n1_; have HO392 := n2_; clear n0_ n1_ n2_; clear ho hb hg hat; have hcz11_0 : w10.cell? ⟨gb386, 0, none⟩ = some (.int .i64 a1_0) := (blk_cell BK386.out 0).trans rfl; have hcz11_1 : w10.cell? ⟨gb386, 1, none⟩ = some (.int .i64 a1_1) := (blk_cell BK386.out 1).trans rfl; have hcz11_2 : w10.cell? ⟨gb386, 2, none⟩ = some (.int .i64 a1_2) := (blk_cell BK386.out 2).trans rfl; have hcz11_3 : w10.cell? ⟨gb386, 3, none⟩ = some (.int .i64 a1_3) := (blk_cell BK386.out 3).trans rfl; have hcz11_4 : w10.cell? ⟨gb386, 4, none⟩ = some (.int .i64 a1_4) := (blk_cell BK386.out 4).trans rfl; have hfz11_0 := blk_frozen BK386.out 0; have hfz11_1 := blk_frozen BK386.out 1; have hfz11_2 := blk_frozen BK386.out 2; have hfz11_3 := blk_frozen BK386.out 3; have hfz11_4 := blk_frozen BK386.out 4; obtain ⟨Ao12, co12, eo12⟩ := Kd.R_slice HO392.out; subst eo12) | ((with_reducible refine gate_callee (f := 18) rfl ?_); refine goesL_ (some 16) rfl rfl Tryd.func18 (by kernel_rfl) rfl #[.slice Ao12 y390.length co12, .agg #[.int .i64 a1_0, .int .i64 a1_1, .int .i64 a1_2, .int .i64 a1_3, .int .i64 a1_4]] rfl (by (try simp only [List.map_toArray, List.map_cons, List.map_nil]); first | done | rfl | (simp only [List.length_drop, List.length_take]; rfl)) ?_; (with_reducible refine (blocking_Cut.callsZ k (fun k_ => some k_ = (.slice Ao12 y390.length co12 : Value).ownBlock) _ _ y390 a1_0 a1_1 a1_2 a1_3 a1_4 t393 t396 _ ?side1 A4.out).mono ?_); (case side1 => exact Kd.R_V (Kd.R_tight rfl (Kd.R_types (HO392.out) BK386.out (by decide)))); rintro e w13 ⟨v394, v397, rfl, ho0, ho1, hb⟩; refine ⟨_, rfl, ?_⟩; have HI := Aside0.mk (show ∃ m_, blocking_Cuts_loop.Inv m_ w.heap.size gb386 #[.int .i64 a1_0, .int .i64 a1_1, .int .i64 a1_2, .int .i64 a1_3, .int .i64 a1_4] (.slice Ao12 y390.length co12) y390.length v394 t393 v397 t396 _ from ⟨_, blocking_Cuts_loop.Inv.start (by (with_reducible repeat (first | apply Kd.R_alloc | apply Kd.R_drewN | apply Kd.R_drew)); exact HO392.out) (by (with_reducible repeat (first | refine blk_drewN ?_ _ | refine blk_drew ?_ | refine blk_alloc ?_ _)); exact BK386.out) hb ho0 ho1 (below_size (by repeat (first | (with_reducible first | exact HB.out | apply below_alloc | apply pw_below_drewN | apply below_drew1 | refine below_set ?_ GE386.out) | exact HB.out)))⟩); replace ho0 := Kd.N_mono (ok' := fun k_ => some k_ = (.slice Ao12 y390.length co12 : Value).ownBlock ∨ _ ≤ k_) ho0 (fun _ hk => hk.1.elim (fun z => z.elim) .inr); have n0_ := Aside0.mk (Kd.R_below (by (with_reducible repeat (first | apply Kd.R_alloc | apply Kd.R_drewN | apply Kd.R_drew)); exact HO392.out) hb); have n1_ := Aside0.mk (Kd.N_lower (Kd.N_mono (ok' := fun k_ => k_ ≠ gb386) ho0 (fun k_ hk_ => Or.elim hk_ (fun hs_ => ((Kd.R_types (HO392.out) BK386.out (by decide)).1 k_ hs_.symm).2) (fun hn_ => (Kd.freshB (g := gb386) (o := .cells #[.int .i64 a1_0, .int .i64 a1_1, .int .i64 a1_2, .int .i64 a1_3, .int .i64 a1_4] 23 (0, 0)) (by (with_reducible repeat (first | refine blk_drewN ?_ _ | refine blk_drew ?_ | refine blk_alloc ?_ _)); exact BK386.out) k_ hn_)))) (below_size (by repeat (first | (with_reducible first | exact HB.out | apply below_alloc | apply pw_below_drewN | apply below_drew1 | refine below_set ?_ GE386.out) | exact HB.out)))); have n2_ := Aside0.mk (Kd.R_lower (Kd.R_mono (ok' := fun k_ => True) ho1 (fun _ hk_ => trivial)) (below_size (by repeat (first | (with_reducible first | exact HB.out | apply below_alloc | apply pw_below_drewN | apply below_drew1 | refine below_set ?_ GE386.out) | exact HB.out)))); have n3_ := Aside0.mk (blk_below (g := gb386) (o := .cells #[.int .i64 a1_0, .int .i64 a1_1, .int .i64 a1_2, .int .i64 a1_3, .int .i64 a1_4] 23 (0, 0)) (by (with_reducible repeat (first | refine blk_drewN ?_ _ | refine blk_drew ?_ | refine blk_alloc ?_ _)); exact BK386.out) hb); have n4_ := Aside0.mk (below_step (by repeat (first | (with_reducible first | exact HB.out | apply below_alloc | apply pw_below_drewN | apply below_drew1 | refine below_set ?_ GE386.out) | exact HB.out)) hb); clear HO392; clear BK386; clear HB; have HO392 := n0_; have HO395 := n1_; have HO398 := n2_; have BK386 := n3_; have HB := n4_; clear n0_ n1_ n2_ n3_ n4_; (try clear hb); (try clear hb2); (try clear hk); (try clear hi); (try clear ho0); (try clear ho1); have hcz14_0 : w13.cell? ⟨gb386, 0, none⟩ = some (.int .i64 a1_0) := (blk_cell BK386.out 0).trans rfl; have hcz14_1 : w13.cell? ⟨gb386, 1, none⟩ = some (.int .i64 a1_1) := (blk_cell BK386.out 1).trans rfl; have hcz14_2 : w13.cell? ⟨gb386, 2, none⟩ = some (.int .i64 a1_2) := (blk_cell BK386.out 2).trans rfl; have hcz14_3 : w13.cell? ⟨gb386, 3, none⟩ = some (.int .i64 a1_3) := (blk_cell BK386.out 3).trans rfl; have hcz14_4 : w13.cell? ⟨gb386, 4, none⟩ = some (.int .i64 a1_4) := (blk_cell BK386.out 4).trans rfl; have hfz14_0 := blk_frozen BK386.out 0; have hfz14_1 := blk_frozen BK386.out 1; have hfz14_2 := blk_frozen BK386.out 2; have hfz14_3 := blk_frozen BK386.out 3; have hfz14_4 := blk_frozen BK386.out 4) | ((with_reducible refine gate_callee (f := 11) rfl ?_); refine goesL_ (some 34) rfl rfl Tryd.func11 (by kernel_rfl) rfl #[.agg #[.int .i64 a1_0, .int .i64 a1_1, .int .i64 a1_2, .int .i64 a1_3, .int .i64 a1_4]] rfl (by (try simp only [List.map_toArray, List.map_cons, List.map_nil]); first | done | rfl | (simp only [List.length_drop, List.length_take]; rfl)) ?_; (with_reducible refine (geyserref14_Check.calls k a1_0 a1_1 a1_2 a1_3 a1_4 t399 _ A5.out).mono ?_); rintro e w15 ⟨rfl, hb⟩; refine ⟨_, rfl, ?_⟩; have n0_ := Aside0.mk (Kd.R_below (by (with_reducible repeat (first | apply Kd.R_alloc | apply Kd.R_drewN | apply Kd.R_drew)); exact HO392.out) hb); have n1_ := Aside0.mk (Kd.N_below (by (with_reducible repeat (first | apply Kd.N_alloc | apply Kd.N_drewN | apply Kd.N_drew)); exact HO395.out) hb); have n2_ := Aside0.mk (Kd.R_below (by (with_reducible repeat (first | apply Kd.R_alloc | apply Kd.R_drewN | apply Kd.R_drew)); exact HO398.out) hb); have n3_ := Aside0.mk (blk_below (g := gb386) (o := .cells #[.int .i64 a1_0, .int .i64 a1_1, .int .i64 a1_2, .int .i64 a1_3, .int .i64 a1_4] 23 (0, 0)) (by (with_reducible repeat (first | refine blk_drewN ?_ _ | refine blk_drew ?_ | refine blk_alloc ?_ _)); exact BK386.out) hb); have n4_ := Aside0.mk (below_step (by repeat (first | (with_reducible first | exact HB.out | apply below_alloc | apply pw_below_drewN | apply below_drew1 | refine below_set ?_ GE386.out) | exact HB.out)) hb); clear HO392; clear HO395; clear HO398; clear BK386; clear HB; have HO392 := n0_; have HO395 := n1_; have HO398 := n2_; have BK386 := n3_; have HB := n4_; clear n0_ n1_ n2_ n3_ n4_; (try clear hb); (try clear hb2); (try clear hk); (try clear hi)))
    obtain ⟨mm, HM0⟩ := HI.out
    have HM := Aside0.mk HM0
    clear HM0 HI
    go_loopg [8] (y390.length + 1) (fun kq v8 w' => ∃ i : Nat, v8 = .int .i64 (i : Int) ∧ Aside0 (kq + i = y390.length + 1 ∧ i ≤ y390.length) ∧ Aside0 (blocking_Cuts_loop.Inv mm w.heap.size gb386 #[.int .i64 a1_0, .int .i64 a1_1, .int .i64 a1_2, .int .i64 a1_3, .int .i64 a1_4] (.slice Ao12 y390.length co12) y390.length v394 t393 v397 t396 w') ∧ Aside0 (Below w.heap.size w w'))
    case atStart => exact ⟨0, rfl, ⟨by omega, by omega⟩, ⟨by repeat (first | exact HM.out | apply blocking_Cuts_loop.Inv.drewN | apply blocking_Cuts_loop.Inv.drew)⟩, ⟨by repeat (first | (with_reducible first | exact HB.out | apply below_alloc | apply pw_below_drewN | apply below_drew1 | refine below_set ?_ GE386.out) | exact HB.out)⟩⟩
    case round =>
      clear HB HM HO392 HO395 HO398 BK386
      obtain ⟨i, rfl, HKi, HM, HB⟩ := hrel
      cases gk with
      | zero => exact absurd HKi.out.1 (by have := HKi.out.2; omega)
      | succ g1 =>
        by_cases hlt : i < y390.length
        · have hc1 : decide ((i : Int) < (y390.length : Int)) = true := decide_eq_true (by omega)
          have hp1 : (0 : Int) ≤ (i : Int) := by omega
          obtain ⟨g5, z5, cells5, hg5, hn63, hcell5, hfr5, hbase5, hm5, hblk5⟩ := HM.out.at_ i hlt
          subst hg5
          have HZ := Aside0.mk hblk5
          have HG := Aside0.mk hm5
          have HE := Aside0.mk hbase5
          clear hblk5 hm5 hbase5
          go_wp2
          go_roundg g1
          case measure => have := HKi.out.1; omega
          case rel =>
            refine ⟨i + 1, by go_num, ⟨by have := HKi.out; omega, by omega⟩, ⟨?_⟩, ⟨?_⟩⟩
            · first | exact HM.out.store HZ.out HG.out _ | exact (HM.out.store HZ.out HG.out _).drew
            · first | exact HB.out.setCell HE.out _ | exact below_drew (HB.out.setCell HE.out _)
        · have hc1 : decide ((i : Int) < (y390.length : Int)) = false := decide_eq_false (by omega)
          obtain ⟨xs5, hxs5, hR5⟩ := HM.out.2.2.1
          have HO392 := Aside0.mk (Kd.R_mono (ok' := fun _ => True) hR5 (fun _ _ => trivial))
          have hgm := HM.out.2.1
          have HO395 := Aside0.mk (Kd.N_mono (ok' := fun k_ => k_ ≠ gb386) HM.out.2.2.2.1 (fun k_ hk_ => by have : mm ≤ k_ := hk_; omega))
          have HO398 := Aside0.mk HM.out.2.2.2.2.1
          have BK386 := Aside0.mk HM.out.2.2.2.2.2
          clear hgm hR5 hxs5
          have hczL_0 : _ = some ((.int .i64 a1_0 : Value)) := (blk_cell BK386.out 0).trans rfl
          have hczL_1 : _ = some ((.int .i64 a1_1 : Value)) := (blk_cell BK386.out 1).trans rfl
          have hczL_2 : _ = some ((.int .i64 a1_2 : Value)) := (blk_cell BK386.out 2).trans rfl
          have hczL_3 : _ = some ((.int .i64 a1_3 : Value)) := (blk_cell BK386.out 3).trans rfl
          have hczL_4 : _ = some ((.int .i64 a1_4 : Value)) := (blk_cell BK386.out 4).trans rfl
          have hfzL_0 := blk_frozen BK386.out 0
          have hfzL_1 := blk_frozen BK386.out 1
          have hfzL_2 := blk_frozen BK386.out 2
          have hfzL_3 := blk_frozen BK386.out 3
          have hfzL_4 := blk_frozen BK386.out 4
          go_upto_region 8 with (first | ((with_reducible refine gate_dst (N := 3) rfl ?_); (try (refine gate_guard (by rfl) ?_; dsimp only)); refine box_event ?hg (N := 3) ?hd (cs := #[.int .i64 a1_0, .int .i64 a1_1, .int .i64 a1_2, .int .i64 a1_3, .int .i64 a1_4]) (t := 23) ?hr ?_; (case hd => rfl); (case hg => rfl); (case hr => first | (go_simp; done) | (go_simp; rfl)); intro gb386 hg w7 hbox hb; have n0_ := Aside0.mk (below_step (by repeat (first | (with_reducible first | exact HB.out | apply below_alloc | apply pw_below_drewN | apply below_drew1) | exact HB.out)) hb); have n1_ := Aside0.mk (hbox); have n2_ := Aside0.mk ((by rw [hg]; exact (below_size (by repeat (first | (with_reducible first | exact HB.out | apply below_alloc | apply pw_below_drewN | apply below_drew1) | exact HB.out))) : w.heap.size ≤ gb386)); have n3_ := Aside0.mk ((by rw [hg]; exact (below_size (by repeat (first | (with_reducible first | exact HB.out | apply below_alloc | apply pw_below_drewN | apply below_drew1) | exact HB.out))) : w.heap.size ≤ gb386)); clear HB; have HB := n0_; have BK386 := n1_; have GW386 := n2_; have GE386 := n3_; clear n0_ n1_ n2_ n3_; clear hb hbox hg) | ((with_reducible refine gate_dst (N := 10) rfl ?_); (try (refine gate_guard (by rfl) ?_; dsimp only)); refine Kd.R_lit (Kd.int .u8) _ 5 ?hg (N := 10) ?hd (xs := ([] : List Int)) (inner := []) (ok := fun _ => True) (okp := fun _ => True) ?hr ?hp (fun _ hk => hk) trivial (Below.refl _ _) (Nat.le_refl _) (by simp) ?_; (case hd => rfl); (case hg => rfl); (case hr => first | (go_simp; done) | (go_simp; rfl)); (case hp => exact (Reps.none _ _)); intro v388 w8 ho9 hb hg_ hnew_; clear hg_ hnew_; (first | rw [← Ny387.out] at ho9 | (simp only [Int.reduceToNat] at ho9; rw [← Ny387.out] at ho9)); have n0_ := Aside0.mk (Kd.R_lower ho9 (below_size (by repeat (first | (with_reducible first | exact HB.out | apply below_alloc | apply pw_below_drewN | apply below_drew1 | refine below_set ?_ GE386.out) | exact HB.out)))); have n1_ := Aside0.mk (blk_below (g := gb386) (o := .cells #[.int .i64 a1_0, .int .i64 a1_1, .int .i64 a1_2, .int .i64 a1_3, .int .i64 a1_4] 23 (0, 0)) (by (with_reducible repeat (first | refine blk_drewN ?_ _ | refine blk_drew ?_ | refine blk_alloc ?_ _)); exact BK386.out) hb); have n2_ := Aside0.mk (below_step (by repeat (first | (with_reducible first | exact HB.out | apply below_alloc | apply pw_below_drewN | apply below_drew1 | refine below_set ?_ GE386.out) | exact HB.out)) hb); clear BK386; clear HB; have HO389 := n0_; have BK386 := n1_; have HB := n2_; clear n0_ n1_ n2_; clear hb ho9) | ((with_reducible refine gate_builtin (b := .append) (xs := #[.tmp 10, .tmp 11]) rfl ?_); (try (refine gate_guard (by rfl) ?_; dsimp only)); at_builtin; refine Kd.R_append_rows (Kd.int .u8) (w0 := w) w.heap.size rfl (.tmp 10) (.tmp 11) 42 5 (.int .u8 0) 1 rfl Tryd.underlying42 info5 rfl (by decide) (by omega) v388 y387 l0 _ _ _ (fun _ => True) (fun _ => False) rfl rfl ?aO ?aR (fun _ _ h => h) (fun _ h => h.elim) ?aF ?aB ?aS ?aL ?_; (case aR => repeat (first | exact (Kd.C_below HR0.out HB.out) | (with_reducible refine Kd.C_alloc ?_ _) | (with_reducible refine Kd.C_drewN ?_ _) | (with_reducible refine Kd.C_drew ?_))); (case aB => exact (by repeat (first | (with_reducible first | exact HB.out | apply below_alloc | apply pw_below_drewN | apply below_drew1 | refine below_set ?_ GE386.out) | exact HB.out))); (case aF => exact (fun _ _ => trivial)); (case aO => exact (by (with_reducible repeat (first | apply Kd.R_alloc | apply Kd.R_drewN | apply Kd.R_drew)); exact HO389.out)); (case aS => exact (below_size (by repeat (first | (with_reducible first | exact HB.out | apply below_alloc | apply pw_below_drewN | apply below_drew1 | refine below_set ?_ GE386.out) | exact HB.out)))); (case aL => have := LMc3.out; omega); intro v391 w10 ho hb hg hat; rw [← Ny390.out] at ho; have n0_ := Aside0.mk (blk_grown (g := gb386) (o := .cells #[.int .i64 a1_0, .int .i64 a1_1, .int .i64 a1_2, .int .i64 a1_3, .int .i64 a1_4] 23 (0, 0)) (by (with_reducible repeat (first | refine blk_drewN ?_ _ | refine blk_drew ?_ | refine blk_alloc ?_ _)); exact BK386.out) hg (Kd.R_ne HO389.out BK386.out (by decide))); have n1_ := Aside0.mk (hb); have n2_ := Aside0.mk (ho); clear BK386; clear HB; clear HO389; have BK386 := n0_; have HB := n1_; have HO392 := n2_; clear n0_ n1_ n2_; clear ho hb hg hat; have hcz11_0 : w10.cell? ⟨gb386, 0, none⟩ = some (.int .i64 a1_0) := (blk_cell BK386.out 0).trans rfl; have hcz11_1 : w10.cell? ⟨gb386, 1, none⟩ = some (.int .i64 a1_1) := (blk_cell BK386.out 1).trans rfl; have hcz11_2 : w10.cell? ⟨gb386, 2, none⟩ = some (.int .i64 a1_2) := (blk_cell BK386.out 2).trans rfl; have hcz11_3 : w10.cell? ⟨gb386, 3, none⟩ = some (.int .i64 a1_3) := (blk_cell BK386.out 3).trans rfl; have hcz11_4 : w10.cell? ⟨gb386, 4, none⟩ = some (.int .i64 a1_4) := (blk_cell BK386.out 4).trans rfl; have hfz11_0 := blk_frozen BK386.out 0; have hfz11_1 := blk_frozen BK386.out 1; have hfz11_2 := blk_frozen BK386.out 2; have hfz11_3 := blk_frozen BK386.out 3; have hfz11_4 := blk_frozen BK386.out 4; obtain ⟨Ao12, co12, eo12⟩ := Kd.R_slice HO392.out; subst eo12) | ((with_reducible refine gate_callee (f := 18) rfl ?_); refine goesL_ (some 16) rfl rfl Tryd.func18 (by kernel_rfl) rfl #[.slice Ao12 y390.length co12, .agg #[.int .i64 a1_0, .int .i64 a1_1, .int .i64 a1_2, .int .i64 a1_3, .int .i64 a1_4]] rfl (by (try simp only [List.map_toArray, List.map_cons, List.map_nil]); first | done | rfl | (simp only [List.length_drop, List.length_take]; rfl)) ?_; (with_reducible refine (blocking_Cut.calls k (fun k_ => some k_ = (.slice Ao12 y390.length co12 : Value).ownBlock) _ _ y390 a1_0 a1_1 a1_2 a1_3 a1_4 t393 t396 _ ?side1 A4.out).mono ?_); (case side1 => exact Kd.R_V (Kd.R_tight rfl (Kd.R_types (HO392.out) BK386.out (by decide)))); rintro e w13 ⟨v394, v397, rfl, ho0, ho1, hb⟩; refine ⟨_, rfl, ?_⟩; have n0_ := Aside0.mk (Kd.R_below (by (with_reducible repeat (first | apply Kd.R_alloc | apply Kd.R_drewN | apply Kd.R_drew)); exact HO392.out) hb); have n1_ := Aside0.mk (Kd.N_lower (Kd.N_mono (ok' := fun k_ => k_ ≠ gb386) ho0 (fun k_ hk_ => Or.elim hk_ (fun hs_ => ((Kd.R_types (HO392.out) BK386.out (by decide)).1 k_ hs_.symm).2) (fun hn_ => (Kd.freshB (g := gb386) (o := .cells #[.int .i64 a1_0, .int .i64 a1_1, .int .i64 a1_2, .int .i64 a1_3, .int .i64 a1_4] 23 (0, 0)) (by (with_reducible repeat (first | refine blk_drewN ?_ _ | refine blk_drew ?_ | refine blk_alloc ?_ _)); exact BK386.out) k_ hn_)))) (below_size (by repeat (first | (with_reducible first | exact HB.out | apply below_alloc | apply pw_below_drewN | apply below_drew1 | refine below_set ?_ GE386.out) | exact HB.out)))); have n2_ := Aside0.mk (Kd.R_lower (Kd.R_mono (ok' := fun k_ => True) ho1 (fun _ hk_ => trivial)) (below_size (by repeat (first | (with_reducible first | exact HB.out | apply below_alloc | apply pw_below_drewN | apply below_drew1 | refine below_set ?_ GE386.out) | exact HB.out)))); have n3_ := Aside0.mk (blk_below (g := gb386) (o := .cells #[.int .i64 a1_0, .int .i64 a1_1, .int .i64 a1_2, .int .i64 a1_3, .int .i64 a1_4] 23 (0, 0)) (by (with_reducible repeat (first | refine blk_drewN ?_ _ | refine blk_drew ?_ | refine blk_alloc ?_ _)); exact BK386.out) hb); have n4_ := Aside0.mk (below_step (by repeat (first | (with_reducible first | exact HB.out | apply below_alloc | apply pw_below_drewN | apply below_drew1 | refine below_set ?_ GE386.out) | exact HB.out)) hb); clear HO392; clear BK386; clear HB; have HO392 := n0_; have HO395 := n1_; have HO398 := n2_; have BK386 := n3_; have HB := n4_; clear n0_ n1_ n2_ n3_ n4_; (try clear hb); (try clear hb2); (try clear hk); (try clear hi); (try clear ho0); (try clear ho1); have hcz14_0 : w13.cell? ⟨gb386, 0, none⟩ = some (.int .i64 a1_0) := (blk_cell BK386.out 0).trans rfl; have hcz14_1 : w13.cell? ⟨gb386, 1, none⟩ = some (.int .i64 a1_1) := (blk_cell BK386.out 1).trans rfl; have hcz14_2 : w13.cell? ⟨gb386, 2, none⟩ = some (.int .i64 a1_2) := (blk_cell BK386.out 2).trans rfl; have hcz14_3 : w13.cell? ⟨gb386, 3, none⟩ = some (.int .i64 a1_3) := (blk_cell BK386.out 3).trans rfl; have hcz14_4 : w13.cell? ⟨gb386, 4, none⟩ = some (.int .i64 a1_4) := (blk_cell BK386.out 4).trans rfl; have hfz14_0 := blk_frozen BK386.out 0; have hfz14_1 := blk_frozen BK386.out 1; have hfz14_2 := blk_frozen BK386.out 2; have hfz14_3 := blk_frozen BK386.out 3; have hfz14_4 := blk_frozen BK386.out 4) | ((with_reducible refine gate_callee (f := 11) rfl ?_); refine goesL_ (some 34) rfl rfl Tryd.func11 (by kernel_rfl) rfl #[.agg #[.int .i64 a1_0, .int .i64 a1_1, .int .i64 a1_2, .int .i64 a1_3, .int .i64 a1_4]] rfl (by (try simp only [List.map_toArray, List.map_cons, List.map_nil]); first | done | rfl | (simp only [List.length_drop, List.length_take]; rfl)) ?_; (with_reducible refine (geyserref14_Check.calls k a1_0 a1_1 a1_2 a1_3 a1_4 t399 _ A5.out).mono ?_); rintro e w15 ⟨rfl, hb⟩; refine ⟨_, rfl, ?_⟩; have n0_ := Aside0.mk (Kd.R_below (by (with_reducible repeat (first | apply Kd.R_alloc | apply Kd.R_drewN | apply Kd.R_drew)); exact HO392.out) hb); have n1_ := Aside0.mk (Kd.N_below (by (with_reducible repeat (first | apply Kd.N_alloc | apply Kd.N_drewN | apply Kd.N_drew)); exact HO395.out) hb); have n2_ := Aside0.mk (Kd.R_below (by (with_reducible repeat (first | apply Kd.R_alloc | apply Kd.R_drewN | apply Kd.R_drew)); exact HO398.out) hb); have n3_ := Aside0.mk (blk_below (g := gb386) (o := .cells #[.int .i64 a1_0, .int .i64 a1_1, .int .i64 a1_2, .int .i64 a1_3, .int .i64 a1_4] 23 (0, 0)) (by (with_reducible repeat (first | refine blk_drewN ?_ _ | refine blk_drew ?_ | refine blk_alloc ?_ _)); exact BK386.out) hb); have n4_ := Aside0.mk (below_step (by repeat (first | (with_reducible first | exact HB.out | apply below_alloc | apply pw_below_drewN | apply below_drew1 | refine below_set ?_ GE386.out) | exact HB.out)) hb); clear HO392; clear HO395; clear HO398; clear BK386; clear HB; have HO392 := n0_; have HO395 := n1_; have HO398 := n2_; have BK386 := n3_; have HB := n4_; clear n0_ n1_ n2_ n3_ n4_; (try clear hb); (try clear hb2); (try clear hk); (try clear hi)))
          (try simp only [Act.put, List.setIfInBounds_toArray, List.set_cons_zero, List.set_cons_succ])
          go_cut [43] (fun v43 wc => ∃ (kq : Nat) (x43_5 : Bool), v43 = .bool x43_5 ∧ Aside0 (geyserlaw14_BlockingCuts.j0 kq l0 t393 t396 t399 x43_5 a1_0 a1_1 a1_2 a1_3 a1_4 = some r) ∧ Aside0 (kq ≤ k) ∧ Aside0 (Kd.N (Kd.slice 42 (Kd.slice 5 (Kd.int .u8))) 40 wc w.heap.size (fun k_ => k_ ≠ gb386) v394 t393) ∧ Aside0 (Kd.R kF 61 wc w.heap.size (fun _ => True) v397 t396) ∧ Aside0 (wc.heap[gb386]? = some (.cells #[.int .i64 a1_0, .int .i64 a1_1, .int .i64 a1_2, .int .i64 a1_3, .int .i64 a1_4] 23 (0, 0))) ∧ Aside0 (Below w.heap.size w wc))
          case first =>
            have H := HC6.out
            clear HC6
            by_cases c16 : t399 = 0
            · rw [if_pos c16] at H
              have c16b0 : (t399 == 0) = true := beq_iff_eq.mpr c16
              have c16b1 : (t399 != 0) = false := bne_eq_false_iff_eq.mpr c16
              clear c16
              (first | rw [c16b0] | rw [c16b1] | (simp only [i64_w, i32_w]; rw [c16b0]) | skip)
              have H' := Aside0.mk H
              clear H
              have hcz17_0 : w15.cell? ⟨gb386, 0, none⟩ = some (.int .i64 a1_0) := (blk_cell BK386.out 0).trans rfl
              have hcz17_1 : w15.cell? ⟨gb386, 1, none⟩ = some (.int .i64 a1_1) := (blk_cell BK386.out 1).trans rfl
              have hcz17_2 : w15.cell? ⟨gb386, 2, none⟩ = some (.int .i64 a1_2) := (blk_cell BK386.out 2).trans rfl
              have hcz17_3 : w15.cell? ⟨gb386, 3, none⟩ = some (.int .i64 a1_3) := (blk_cell BK386.out 3).trans rfl
              have hcz17_4 : w15.cell? ⟨gb386, 4, none⟩ = some (.int .i64 a1_4) := (blk_cell BK386.out 4).trans rfl
              have hfz17_0 := blk_frozen BK386.out 0
              have hfz17_1 := blk_frozen BK386.out 1
              have hfz17_2 := blk_frozen BK386.out 2
              have hfz17_3 := blk_frozen BK386.out 3
              have hfz17_4 := blk_frozen BK386.out 4
              go_wp2
              go_meet
              case rel => exact ⟨_, (((l0.length : Int) != a1_0)), (by first | rfl | (simp; done) | (simp [*]; done)), H', ⟨by first | omega | exact Nat.le_refl _⟩, ⟨by (with_reducible repeat (first | apply Kd.N_alloc | apply Kd.N_drewN | apply Kd.N_drew)); exact HO395.out⟩, ⟨by (with_reducible repeat (first | apply Kd.R_alloc | apply Kd.R_drewN | apply Kd.R_drew)); exact HO398.out⟩, ⟨by (with_reducible repeat (first | refine blk_drewN ?_ _ | refine blk_drew ?_ | refine blk_alloc ?_ _)); exact BK386.out⟩, ⟨by repeat (first | (with_reducible first | exact HB.out | apply below_alloc | apply pw_below_drewN | apply below_drew1 | refine below_set ?_ GE386.out) | exact HB.out)⟩⟩
            · rw [if_neg c16] at H
              have c16b0 : (t399 == 0) = false := beq_eq_false_iff_ne.mpr c16
              have c16b1 : (t399 != 0) = true := bne_iff_ne.mpr c16
              (first | rw [c16b0] | rw [c16b1] | (simp only [i64_w, i32_w]; rw [c16b0]) | skip)
              have H' := Aside0.mk H
              clear H
              go_wp2
              go_meet
              case rel => exact ⟨_, (false), (by first | rfl | (simp; done) | (simp [*]; done)), H', ⟨by first | omega | exact Nat.le_refl _⟩, ⟨by (with_reducible repeat (first | apply Kd.N_alloc | apply Kd.N_drewN | apply Kd.N_drew)); exact HO395.out⟩, ⟨by (with_reducible repeat (first | apply Kd.R_alloc | apply Kd.R_drewN | apply Kd.R_drew)); exact HO398.out⟩, ⟨by (with_reducible repeat (first | refine blk_drewN ?_ _ | refine blk_drew ?_ | refine blk_alloc ?_ _)); exact BK386.out⟩, ⟨by repeat (first | (with_reducible first | exact HB.out | apply below_alloc | apply pw_below_drewN | apply below_drew1 | refine below_set ?_ GE386.out) | exact HB.out)⟩⟩
          case rest =>
            clear HC6
            try clear c1
            try clear p2
            try clear c3
            try clear c6
            try clear c11
            try clear c16
            try clear c16b0
            try clear c16b1
            try clear hcz11_0
            try clear hcz11_1
            try clear hcz11_2
            try clear hcz11_3
            try clear hcz11_4
            try clear hcz14_0
            try clear hcz14_1
            try clear hcz14_2
            try clear hcz14_3
            try clear hcz14_4
            try clear hcz17_0
            try clear hcz17_1
            try clear hcz17_2
            try clear hcz17_3
            try clear hcz17_4
            try clear hfz11_0
            try clear hfz11_1
            try clear hfz11_2
            try clear hfz11_3
            try clear hfz11_4
            try clear hfz14_0
            try clear hfz14_1
            try clear hfz14_2
            try clear hfz14_3
            try clear hfz14_4
            try clear hfz17_0
            try clear hfz17_1
            try clear hfz17_2
            try clear hfz17_3
            try clear hfz17_4
            obtain ⟨kq, x43_5, rfl, HA, HJ5, HO_6, HO_7, BK386, HB⟩ := hcut
            cases kq with
            | zero => exact absurd HA.out (by simp [geyserlaw14_BlockingCuts.j0])
            | succ kj5 =>
              have H := HA.out
              clear HA
              simp only [geyserlaw14_BlockingCuts.j0] at H
              have HC18 := Aside0.mk H
              clear H
              go_upto_if 43 with (fail)
              go_cut [9] (fun v9 wc => ∃ (kq : Nat) (x9_17 : Int), v9 = .int .i64 x9_17 ∧ Aside0 (geyserlaw14_BlockingCuts.j1 kq l0 t393 t396 x9_17 a1_0 a1_1 a1_2 a1_3 a1_4 = some r) ∧ Aside0 (kq ≤ kj5) ∧ Aside0 (Kd.N (Kd.slice 42 (Kd.slice 5 (Kd.int .u8))) 40 wc w.heap.size (fun k_ => k_ ≠ gb386) v394 t393) ∧ Aside0 (Kd.R kF 61 wc w.heap.size (fun _ => True) v397 t396) ∧ Aside0 (wc.heap[gb386]? = some (.cells #[.int .i64 a1_0, .int .i64 a1_1, .int .i64 a1_2, .int .i64 a1_3, .int .i64 a1_4] 23 (0, 0))) ∧ Aside0 (Below w.heap.size w wc))
              case first =>
                have H := HC18.out
                clear HC18
                by_cases c19 : x43_5 = true
                · subst c19
                  have H1 : (geyserlaw14_BlockingCuts.j1 kj5 l0 t393 t396 2 a1_0 a1_1 a1_2 a1_3 a1_4) = some r := by rw [if_pos rfl] at H; exact H
                  clear H
                  have H := H1
                  clear H1
                  have H' := Aside0.mk H
                  clear H
                  go_wp2
                  go_meet
                  case rel => exact ⟨_, (2), (by first | rfl | (simp; done) | (simp [*]; done)), H', ⟨by have := HJ5.out; first | omega | exact Nat.le_refl _⟩, ⟨by (with_reducible repeat (first | apply Kd.N_alloc | apply Kd.N_drewN | apply Kd.N_drew)); exact HO_6.out⟩, ⟨by (with_reducible repeat (first | apply Kd.R_alloc | apply Kd.R_drewN | apply Kd.R_drew)); exact HO_7.out⟩, ⟨by (with_reducible repeat (first | refine blk_drewN ?_ _ | refine blk_drew ?_ | refine blk_alloc ?_ _)); exact BK386.out⟩, ⟨by repeat (first | (with_reducible first | exact HB.out | apply below_alloc | apply pw_below_drewN | apply below_drew1 | refine below_set ?_ GE386.out) | exact HB.out)⟩⟩
                · replace c19 := Bool.eq_false_iff.mpr c19
                  subst c19
                  have H1 : (geyserlaw14_BlockingCuts.j1 kj5 l0 t393 t396 t399 a1_0 a1_1 a1_2 a1_3 a1_4) = some r := by rw [if_neg (show ¬ (false = true) by decide)] at H; exact H
                  clear H
                  have H := H1
                  clear H1
                  have H' := Aside0.mk H
                  clear H
                  go_wp2
                  go_meet
                  case rel => exact ⟨_, (t399), (by first | rfl | (simp; done) | (simp [*]; done)), H', ⟨by have := HJ5.out; first | omega | exact Nat.le_refl _⟩, ⟨by (with_reducible repeat (first | apply Kd.N_alloc | apply Kd.N_drewN | apply Kd.N_drew)); exact HO_6.out⟩, ⟨by (with_reducible repeat (first | apply Kd.R_alloc | apply Kd.R_drewN | apply Kd.R_drew)); exact HO_7.out⟩, ⟨by (with_reducible repeat (first | refine blk_drewN ?_ _ | refine blk_drew ?_ | refine blk_alloc ?_ _)); exact BK386.out⟩, ⟨by repeat (first | (with_reducible first | exact HB.out | apply below_alloc | apply pw_below_drewN | apply below_drew1 | refine below_set ?_ GE386.out) | exact HB.out)⟩⟩
              case rest =>
                clear HC18
                try clear c1
                try clear p2
                try clear c3
                try clear c6
                try clear c11
                try clear c16
                try clear c16b0
                try clear c16b1
                try clear c18
                try clear c19
                try clear hcz11_0
                try clear hcz11_1
                try clear hcz11_2
                try clear hcz11_3
                try clear hcz11_4
                try clear hcz14_0
                try clear hcz14_1
                try clear hcz14_2
                try clear hcz14_3
                try clear hcz14_4
                try clear hcz17_0
                try clear hcz17_1
                try clear hcz17_2
                try clear hcz17_3
                try clear hcz17_4
                try clear hfz11_0
                try clear hfz11_1
                try clear hfz11_2
                try clear hfz11_3
                try clear hfz11_4
                try clear hfz14_0
                try clear hfz14_1
                try clear hfz14_2
                try clear hfz14_3
                try clear hfz14_4
                try clear hfz17_0
                try clear hfz17_1
                try clear hfz17_2
                try clear hfz17_3
                try clear hfz17_4
                try clear p2
                obtain ⟨kq, x9_17, rfl, HA, HJ17, HO_6, HO_7, BK386, HB⟩ := hcut
                cases kq with
                | zero => exact absurd HA.out (by simp [geyserlaw14_BlockingCuts.j1])
                | succ kj17 =>
                  have H := HA.out
                  clear HA
                  simp only [geyserlaw14_BlockingCuts.j1] at H
                  replace H := Option.bind_eq_some_iff.mp H
                  obtain ⟨t400, A200, H⟩ := H
                  replace H : (if t400 = true then (if x9_17 = 0 then ((geyserref14_Cut.f kj17 l0 a1_0 a1_1 a1_2 a1_3 a1_4).bind fun t401 => ((geyserref14_Same.f kj17 t393 t401).bind fun t404 => (if t404 = true then ((geyserlaw14_awake.f kj17).bind fun t405 => (some t405)) else (some false)))) else (if (t393.length : Int) = 0 then ((geyserlaw14_awake.f kj17).bind fun t406 => (some t406)) else (some false))) else (some false)) = some r := H
                  have A20 := Aside0.mk A200
                  clear A200
                  by_cases c21 : t400 = true
                  · subst c21
                    have H1 : (if x9_17 = 0 then ((geyserref14_Cut.f kj17 l0 a1_0 a1_1 a1_2 a1_3 a1_4).bind fun t401 => ((geyserref14_Same.f kj17 t393 t401).bind fun t404 => (if t404 = true then ((geyserlaw14_awake.f kj17).bind fun t405 => (some t405)) else (some false)))) else (if (t393.length : Int) = 0 then ((geyserlaw14_awake.f kj17).bind fun t406 => (some t406)) else (some false))) = some r := by rw [if_pos rfl] at H; exact H
                    clear H
                    have H := H1
                    clear H1
                    by_cases c22 : x9_17 = 0
                    · rw [if_pos c22] at H
                      have c22b0 : (x9_17 == 0) = true := beq_iff_eq.mpr c22
                      have c22b1 : (x9_17 != 0) = false := bne_eq_false_iff_eq.mpr c22
                      clear c22
                      replace H := Option.bind_eq_some_iff.mp H
                      obtain ⟨t401, A230, H⟩ := H
                      replace H : ((geyserref14_Same.f kj17 t393 t401).bind fun t404 => (if t404 = true then ((geyserlaw14_awake.f kj17).bind fun t405 => (some t405)) else (some false))) = some r := H
                      have A23 := Aside0.mk A230
                      clear A230
                      replace H := Option.bind_eq_some_iff.mp H
                      obtain ⟨t404, A240, H⟩ := H
                      replace H : (if t404 = true then ((geyserlaw14_awake.f kj17).bind fun t405 => (some t405)) else (some false)) = some r := H
                      have A24 := Aside0.mk A240
                      clear A240
                      by_cases c25 : t404 = true
                      · subst c25
                        have H1 : ((geyserlaw14_awake.f kj17).bind fun t405 => (some t405)) = some r := by rw [if_pos rfl] at H; exact H
                        clear H
                        have H := H1
                        clear H1
                        replace H := Option.bind_eq_some_iff.mp H
                        obtain ⟨t405, A260, H⟩ := H
                        replace H : (some t405) = some r := H
                        have A26 := Aside0.mk A260
                        clear A260
                        obtain rfl := Option.some.inj H
                        obtain ⟨Ao27, co27, eo27⟩ := Kd.R_slice HO_7.out
                        subst eo27
                        go_wp2_with (first | ((with_reducible refine gate_callee (f := 9) rfl ?_); refine goesL_ (some 46) rfl rfl Tryd.func9 (by kernel_rfl) rfl #[errOf (.slice Ao27 t396.length co27), .int .i64 x9_17, .string (⟨#[98, 108, 111, 99, 107, 105, 110, 103, 46, 67, 117, 116]⟩ : ByteArray)] rfl (by (try simp only [List.map_toArray, List.map_cons, List.map_nil]); first | done | rfl | (simp only [List.length_drop, List.length_take]; rfl)) ?_; (with_reducible refine (geyserlaw14_tells.calls _ _ t396 x9_17 (⟨#[98, 108, 111, 99, 107, 105, 110, 103, 46, 67, 117, 116]⟩ : ByteArray) true _ ?side1 ?side2 ?side3 A20.out).mono ?_); (case side1 => first | exact HEI.out | exact ErrIn.below HEI.out (by repeat (first | (with_reducible first | exact HB.out | apply below_alloc | apply pw_below_drewN | apply below_drew1 | refine below_set ?_ GE386.out) | exact HB.out)) | (repeat (first | apply ErrIn.drewN | apply ErrIn.drew | exact HEI.out))); (case side2 => repeat (first | exact (Kd.R_reads' HO_7.out).2.2 | (with_reducible refine Kd.C_alloc ?_ _) | (with_reducible refine Kd.C_drewN ?_ _) | (with_reducible refine Kd.C_drew ?_))); (case side3 => exact (Kd.R_reads' HO_7.out).2.1); rintro e w28 ⟨rfl, hb⟩; refine ⟨_, rfl, ?_⟩; have n0_ := Aside0.mk (Kd.N_below (by (with_reducible repeat (first | apply Kd.N_alloc | apply Kd.N_drewN | apply Kd.N_drew)); exact HO_6.out) hb); have n1_ := Aside0.mk (Kd.R_below (by (with_reducible repeat (first | apply Kd.R_alloc | apply Kd.R_drewN | apply Kd.R_drew)); exact HO_7.out) hb); have n2_ := Aside0.mk (blk_below (g := gb386) (o := .cells #[.int .i64 a1_0, .int .i64 a1_1, .int .i64 a1_2, .int .i64 a1_3, .int .i64 a1_4] 23 (0, 0)) (by (with_reducible repeat (first | refine blk_drewN ?_ _ | refine blk_drew ?_ | refine blk_alloc ?_ _)); exact BK386.out) hb); have n3_ := Aside0.mk (below_step (by repeat (first | (with_reducible first | exact HB.out | apply below_alloc | apply pw_below_drewN | apply below_drew1 | refine below_set ?_ GE386.out) | exact HB.out)) hb); clear HO_6; clear HO_7; clear BK386; clear HB; have HO_6 := n0_; have HO_7 := n1_; have BK386 := n2_; have HB := n3_; clear n0_ n1_ n2_ n3_; (try clear hb); (try clear hb2); (try clear hk); (try clear hi); have hcz29_0 : w28.cell? ⟨gb386, 0, none⟩ = some (.int .i64 a1_0) := (blk_cell BK386.out 0).trans rfl; have hcz29_1 : w28.cell? ⟨gb386, 1, none⟩ = some (.int .i64 a1_1) := (blk_cell BK386.out 1).trans rfl; have hcz29_2 : w28.cell? ⟨gb386, 2, none⟩ = some (.int .i64 a1_2) := (blk_cell BK386.out 2).trans rfl; have hcz29_3 : w28.cell? ⟨gb386, 3, none⟩ = some (.int .i64 a1_3) := (blk_cell BK386.out 3).trans rfl; have hcz29_4 : w28.cell? ⟨gb386, 4, none⟩ = some (.int .i64 a1_4) := (blk_cell BK386.out 4).trans rfl; have hfz29_0 := blk_frozen BK386.out 0; have hfz29_1 := blk_frozen BK386.out 1; have hfz29_2 := blk_frozen BK386.out 2; have hfz29_3 := blk_frozen BK386.out 3; have hfz29_4 := blk_frozen BK386.out 4) | ((with_reducible refine gate_callee (f := 20) rfl ?_); refine goesL_ (some 59) rfl rfl Tryd.func20 (by kernel_rfl) rfl #[.slice A0 l0.length c0, .agg #[.int .i64 a1_0, .int .i64 a1_1, .int .i64 a1_2, .int .i64 a1_3, .int .i64 a1_4]] rfl (by (try simp only [List.map_toArray, List.map_cons, List.map_nil]); first | done | rfl | (simp only [List.length_drop, List.length_take]; rfl)) ?_; (with_reducible refine (geyserref14_Cut.calls kj17 _ _ l0 a1_0 a1_1 a1_2 a1_3 a1_4 t401 _ ?side1 ?side2 A23.out).mono ?_); (case side1 => repeat (first | exact (Kd.C_below HR0.out HB.out) | (with_reducible refine Kd.C_alloc ?_ _) | (with_reducible refine Kd.C_drewN ?_ _) | (with_reducible refine Kd.C_drew ?_))); (case side2 => exact HC0.out); rintro e w30 ⟨v402, rfl, ho0, hb⟩; refine ⟨_, rfl, ?_⟩; have n0_ := Aside0.mk (Kd.N_elder' (by (with_reducible repeat (first | apply Kd.N_alloc | apply Kd.N_drewN | apply Kd.N_drew)); exact HO_6.out) (Kd.N_base ho0) hb); have n1_ := Aside0.mk (Kd.R_below (by (with_reducible repeat (first | apply Kd.R_alloc | apply Kd.R_drewN | apply Kd.R_drew)); exact HO_7.out) hb); have n2_ := Aside0.mk (Kd.N_lower (Kd.N_mono (ok' := fun k_ => some k_ ≠ (v394 : Value).ownBlock ∧ k_ ≠ gb386) ho0 (fun k_ hk_ => ⟨(Kd.fresh' (Kd.N_lt (by (with_reducible repeat (first | apply Kd.N_alloc | apply Kd.N_drewN | apply Kd.N_drew)); exact HO_6.out)) k_ hk_), (Kd.freshB (g := gb386) (o := .cells #[.int .i64 a1_0, .int .i64 a1_1, .int .i64 a1_2, .int .i64 a1_3, .int .i64 a1_4] 23 (0, 0)) (by (with_reducible repeat (first | refine blk_drewN ?_ _ | refine blk_drew ?_ | refine blk_alloc ?_ _)); exact BK386.out) k_ hk_)⟩)) (below_size (by repeat (first | (with_reducible first | exact HB.out | apply below_alloc | apply pw_below_drewN | apply below_drew1 | refine below_set ?_ GE386.out) | exact HB.out)))); have n3_ := Aside0.mk (blk_below (g := gb386) (o := .cells #[.int .i64 a1_0, .int .i64 a1_1, .int .i64 a1_2, .int .i64 a1_3, .int .i64 a1_4] 23 (0, 0)) (by (with_reducible repeat (first | refine blk_drewN ?_ _ | refine blk_drew ?_ | refine blk_alloc ?_ _)); exact BK386.out) hb); have n4_ := Aside0.mk (below_step (by repeat (first | (with_reducible first | exact HB.out | apply below_alloc | apply pw_below_drewN | apply below_drew1 | refine below_set ?_ GE386.out) | exact HB.out)) hb); clear HO_6; clear HO_7; clear BK386; clear HB; have HO_6 := n0_; have HO_7 := n1_; have HO403 := n2_; have BK386 := n3_; have HB := n4_; clear n0_ n1_ n2_ n3_ n4_; (try clear hb); (try clear hb2); (try clear hk); (try clear hi); (try clear ho0); obtain ⟨Ao31, co31, eo31⟩ := Kd.N_slice HO_6.out; subst eo31; obtain ⟨Ao32, co32, eo32⟩ := Kd.N_slice HO403.out; subst eo32) | ((with_reducible refine gate_callee (f := 19) rfl ?_); refine goesL_ (some 60) rfl rfl Tryd.func19 (by kernel_rfl) rfl #[.slice Ao31 t393.length co31, .slice Ao32 t401.length co32] rfl (by (try simp only [List.map_toArray, List.map_cons, List.map_nil]); first | done | rfl | (simp only [List.length_drop, List.length_take]; rfl)) ?_; (with_reducible refine (geyserref14_Same.calls kj17 _ _ t393 _ _ t401 true _ ?side1 ?side2 ?side3 ?side4 A24.out).mono ?_); (case side1 => repeat (first | exact (Kd.N_reads' HO_6.out).2.2 | (with_reducible refine Kd.C_alloc ?_ _) | (with_reducible refine Kd.C_drewN ?_ _) | (with_reducible refine Kd.C_drew ?_))); (case side2 => exact (Kd.N_reads' HO_6.out).2.1); (case side3 => repeat (first | exact (Kd.N_reads' HO403.out).2.2 | (with_reducible refine Kd.C_alloc ?_ _) | (with_reducible refine Kd.C_drewN ?_ _) | (with_reducible refine Kd.C_drew ?_))); (case side4 => exact (Kd.N_reads' HO403.out).2.1); rintro e w' ⟨rfl, ⟨nd, rfl⟩⟩; refine ⟨_, rfl, ?_⟩) | (go_at_call 10; (with_reducible refine (geyserlaw14_awake.calls kj17  t405 _ A26.out).mono ?_); rintro e w33 ⟨rfl, hb⟩; have n0_ := Aside0.mk (Kd.N_below (by (with_reducible repeat (first | apply Kd.N_alloc | apply Kd.N_drewN | apply Kd.N_drew)); exact HO_6.out) hb); have n1_ := Aside0.mk (Kd.R_below (by (with_reducible repeat (first | apply Kd.R_alloc | apply Kd.R_drewN | apply Kd.R_drew)); exact HO_7.out) hb); have n2_ := Aside0.mk (Kd.N_below (by (with_reducible repeat (first | apply Kd.N_alloc | apply Kd.N_drewN | apply Kd.N_drew)); exact HO403.out) hb); have n3_ := Aside0.mk (blk_below (g := gb386) (o := .cells #[.int .i64 a1_0, .int .i64 a1_1, .int .i64 a1_2, .int .i64 a1_3, .int .i64 a1_4] 23 (0, 0)) (by (with_reducible repeat (first | refine blk_drewN ?_ _ | refine blk_drew ?_ | refine blk_alloc ?_ _)); exact BK386.out) hb); have n4_ := Aside0.mk (below_step (by repeat (first | (with_reducible first | exact HB.out | apply below_alloc | apply pw_below_drewN | apply below_drew1 | refine below_set ?_ GE386.out) | exact HB.out)) hb); clear HO_6; clear HO_7; clear HO403; clear BK386; clear HB; have HO_6 := n0_; have HO_7 := n1_; have HO403 := n2_; have BK386 := n3_; have HB := n4_; clear n0_ n1_ n2_ n3_ n4_; (try clear hb); (try clear hb2); (try clear hk); (try clear hi)))
                        go_ret
                        exact ⟨by first | rfl | (simp [errW_none, errW_some] <;> rfl) | (simp [*, errW_none, errW_some] <;> rfl), by repeat (first | (with_reducible first | exact HB.out | apply below_alloc | apply pw_below_drewN | apply below_drew1 | refine below_set ?_ GE386.out) | exact HB.out)⟩
                      · replace c25 := Bool.eq_false_iff.mpr c25
                        subst c25
                        have H1 : (some false) = some r := by rw [if_neg (show ¬ (false = true) by decide)] at H; exact H
                        clear H
                        have H := H1
                        clear H1
                        obtain rfl := Option.some.inj H
                        obtain ⟨Ao34, co34, eo34⟩ := Kd.R_slice HO_7.out
                        subst eo34
                        go_wp2_with (first | ((with_reducible refine gate_callee (f := 9) rfl ?_); refine goesL_ (some 46) rfl rfl Tryd.func9 (by kernel_rfl) rfl #[errOf (.slice Ao34 t396.length co34), .int .i64 x9_17, .string (⟨#[98, 108, 111, 99, 107, 105, 110, 103, 46, 67, 117, 116]⟩ : ByteArray)] rfl (by (try simp only [List.map_toArray, List.map_cons, List.map_nil]); first | done | rfl | (simp only [List.length_drop, List.length_take]; rfl)) ?_; (with_reducible refine (geyserlaw14_tells.calls _ _ t396 x9_17 (⟨#[98, 108, 111, 99, 107, 105, 110, 103, 46, 67, 117, 116]⟩ : ByteArray) true _ ?side1 ?side2 ?side3 A20.out).mono ?_); (case side1 => first | exact HEI.out | exact ErrIn.below HEI.out (by repeat (first | (with_reducible first | exact HB.out | apply below_alloc | apply pw_below_drewN | apply below_drew1 | refine below_set ?_ GE386.out) | exact HB.out)) | (repeat (first | apply ErrIn.drewN | apply ErrIn.drew | exact HEI.out))); (case side2 => repeat (first | exact (Kd.R_reads' HO_7.out).2.2 | (with_reducible refine Kd.C_alloc ?_ _) | (with_reducible refine Kd.C_drewN ?_ _) | (with_reducible refine Kd.C_drew ?_))); (case side3 => exact (Kd.R_reads' HO_7.out).2.1); rintro e w35 ⟨rfl, hb⟩; refine ⟨_, rfl, ?_⟩; have n0_ := Aside0.mk (Kd.N_below (by (with_reducible repeat (first | apply Kd.N_alloc | apply Kd.N_drewN | apply Kd.N_drew)); exact HO_6.out) hb); have n1_ := Aside0.mk (Kd.R_below (by (with_reducible repeat (first | apply Kd.R_alloc | apply Kd.R_drewN | apply Kd.R_drew)); exact HO_7.out) hb); have n2_ := Aside0.mk (blk_below (g := gb386) (o := .cells #[.int .i64 a1_0, .int .i64 a1_1, .int .i64 a1_2, .int .i64 a1_3, .int .i64 a1_4] 23 (0, 0)) (by (with_reducible repeat (first | refine blk_drewN ?_ _ | refine blk_drew ?_ | refine blk_alloc ?_ _)); exact BK386.out) hb); have n3_ := Aside0.mk (below_step (by repeat (first | (with_reducible first | exact HB.out | apply below_alloc | apply pw_below_drewN | apply below_drew1 | refine below_set ?_ GE386.out) | exact HB.out)) hb); clear HO_6; clear HO_7; clear BK386; clear HB; have HO_6 := n0_; have HO_7 := n1_; have BK386 := n2_; have HB := n3_; clear n0_ n1_ n2_ n3_; (try clear hb); (try clear hb2); (try clear hk); (try clear hi); have hcz36_0 : w35.cell? ⟨gb386, 0, none⟩ = some (.int .i64 a1_0) := (blk_cell BK386.out 0).trans rfl; have hcz36_1 : w35.cell? ⟨gb386, 1, none⟩ = some (.int .i64 a1_1) := (blk_cell BK386.out 1).trans rfl; have hcz36_2 : w35.cell? ⟨gb386, 2, none⟩ = some (.int .i64 a1_2) := (blk_cell BK386.out 2).trans rfl; have hcz36_3 : w35.cell? ⟨gb386, 3, none⟩ = some (.int .i64 a1_3) := (blk_cell BK386.out 3).trans rfl; have hcz36_4 : w35.cell? ⟨gb386, 4, none⟩ = some (.int .i64 a1_4) := (blk_cell BK386.out 4).trans rfl; have hfz36_0 := blk_frozen BK386.out 0; have hfz36_1 := blk_frozen BK386.out 1; have hfz36_2 := blk_frozen BK386.out 2; have hfz36_3 := blk_frozen BK386.out 3; have hfz36_4 := blk_frozen BK386.out 4) | ((with_reducible refine gate_callee (f := 20) rfl ?_); refine goesL_ (some 59) rfl rfl Tryd.func20 (by kernel_rfl) rfl #[.slice A0 l0.length c0, .agg #[.int .i64 a1_0, .int .i64 a1_1, .int .i64 a1_2, .int .i64 a1_3, .int .i64 a1_4]] rfl (by (try simp only [List.map_toArray, List.map_cons, List.map_nil]); first | done | rfl | (simp only [List.length_drop, List.length_take]; rfl)) ?_; (with_reducible refine (geyserref14_Cut.calls kj17 _ _ l0 a1_0 a1_1 a1_2 a1_3 a1_4 t401 _ ?side1 ?side2 A23.out).mono ?_); (case side1 => repeat (first | exact (Kd.C_below HR0.out HB.out) | (with_reducible refine Kd.C_alloc ?_ _) | (with_reducible refine Kd.C_drewN ?_ _) | (with_reducible refine Kd.C_drew ?_))); (case side2 => exact HC0.out); rintro e w37 ⟨v402, rfl, ho0, hb⟩; refine ⟨_, rfl, ?_⟩; have n0_ := Aside0.mk (Kd.N_elder' (by (with_reducible repeat (first | apply Kd.N_alloc | apply Kd.N_drewN | apply Kd.N_drew)); exact HO_6.out) (Kd.N_base ho0) hb); have n1_ := Aside0.mk (Kd.R_below (by (with_reducible repeat (first | apply Kd.R_alloc | apply Kd.R_drewN | apply Kd.R_drew)); exact HO_7.out) hb); have n2_ := Aside0.mk (Kd.N_lower (Kd.N_mono (ok' := fun k_ => some k_ ≠ (v394 : Value).ownBlock ∧ k_ ≠ gb386) ho0 (fun k_ hk_ => ⟨(Kd.fresh' (Kd.N_lt (by (with_reducible repeat (first | apply Kd.N_alloc | apply Kd.N_drewN | apply Kd.N_drew)); exact HO_6.out)) k_ hk_), (Kd.freshB (g := gb386) (o := .cells #[.int .i64 a1_0, .int .i64 a1_1, .int .i64 a1_2, .int .i64 a1_3, .int .i64 a1_4] 23 (0, 0)) (by (with_reducible repeat (first | refine blk_drewN ?_ _ | refine blk_drew ?_ | refine blk_alloc ?_ _)); exact BK386.out) k_ hk_)⟩)) (below_size (by repeat (first | (with_reducible first | exact HB.out | apply below_alloc | apply pw_below_drewN | apply below_drew1 | refine below_set ?_ GE386.out) | exact HB.out)))); have n3_ := Aside0.mk (blk_below (g := gb386) (o := .cells #[.int .i64 a1_0, .int .i64 a1_1, .int .i64 a1_2, .int .i64 a1_3, .int .i64 a1_4] 23 (0, 0)) (by (with_reducible repeat (first | refine blk_drewN ?_ _ | refine blk_drew ?_ | refine blk_alloc ?_ _)); exact BK386.out) hb); have n4_ := Aside0.mk (below_step (by repeat (first | (with_reducible first | exact HB.out | apply below_alloc | apply pw_below_drewN | apply below_drew1 | refine below_set ?_ GE386.out) | exact HB.out)) hb); clear HO_6; clear HO_7; clear BK386; clear HB; have HO_6 := n0_; have HO_7 := n1_; have HO403 := n2_; have BK386 := n3_; have HB := n4_; clear n0_ n1_ n2_ n3_ n4_; (try clear hb); (try clear hb2); (try clear hk); (try clear hi); (try clear ho0); obtain ⟨Ao38, co38, eo38⟩ := Kd.N_slice HO_6.out; subst eo38; obtain ⟨Ao39, co39, eo39⟩ := Kd.N_slice HO403.out; subst eo39) | ((with_reducible refine gate_callee (f := 19) rfl ?_); refine goesL_ (some 60) rfl rfl Tryd.func19 (by kernel_rfl) rfl #[.slice Ao38 t393.length co38, .slice Ao39 t401.length co39] rfl (by (try simp only [List.map_toArray, List.map_cons, List.map_nil]); first | done | rfl | (simp only [List.length_drop, List.length_take]; rfl)) ?_; (with_reducible refine (geyserref14_Same.calls kj17 _ _ t393 _ _ t401 false _ ?side1 ?side2 ?side3 ?side4 A24.out).mono ?_); (case side1 => repeat (first | exact (Kd.N_reads' HO_6.out).2.2 | (with_reducible refine Kd.C_alloc ?_ _) | (with_reducible refine Kd.C_drewN ?_ _) | (with_reducible refine Kd.C_drew ?_))); (case side2 => exact (Kd.N_reads' HO_6.out).2.1); (case side3 => repeat (first | exact (Kd.N_reads' HO403.out).2.2 | (with_reducible refine Kd.C_alloc ?_ _) | (with_reducible refine Kd.C_drewN ?_ _) | (with_reducible refine Kd.C_drew ?_))); (case side4 => exact (Kd.N_reads' HO403.out).2.1); rintro e w' ⟨rfl, ⟨nd, rfl⟩⟩; refine ⟨_, rfl, ?_⟩))
                        go_ret
                        exact ⟨by first | rfl | (simp [errW_none, errW_some] <;> rfl) | (simp [*, errW_none, errW_some] <;> rfl), by repeat (first | (with_reducible first | exact HB.out | apply below_alloc | apply pw_below_drewN | apply below_drew1 | refine below_set ?_ GE386.out) | exact HB.out)⟩
                    · rw [if_neg c22] at H
                      have c22b0 : (x9_17 == 0) = false := beq_eq_false_iff_ne.mpr c22
                      have c22b1 : (x9_17 != 0) = true := bne_iff_ne.mpr c22
                      by_cases c40 : (t393.length : Int) = 0
                      · rw [if_pos c40] at H
                        have c40b0 : ((t393.length : Int) == 0) = true := beq_iff_eq.mpr c40
                        have c40b1 : ((t393.length : Int) != 0) = false := bne_eq_false_iff_eq.mpr c40
                        clear c40
                        replace H := Option.bind_eq_some_iff.mp H
                        obtain ⟨t406, A410, H⟩ := H
                        replace H : (some t406) = some r := H
                        have A41 := Aside0.mk A410
                        clear A410
                        obtain rfl := Option.some.inj H
                        obtain ⟨Ao42, co42, eo42⟩ := Kd.R_slice HO_7.out
                        subst eo42
                        go_wp2_with (first | ((with_reducible refine gate_callee (f := 9) rfl ?_); refine goesL_ (some 46) rfl rfl Tryd.func9 (by kernel_rfl) rfl #[errOf (.slice Ao42 t396.length co42), .int .i64 x9_17, .string (⟨#[98, 108, 111, 99, 107, 105, 110, 103, 46, 67, 117, 116]⟩ : ByteArray)] rfl (by (try simp only [List.map_toArray, List.map_cons, List.map_nil]); first | done | rfl | (simp only [List.length_drop, List.length_take]; rfl)) ?_; (with_reducible refine (geyserlaw14_tells.calls _ _ t396 x9_17 (⟨#[98, 108, 111, 99, 107, 105, 110, 103, 46, 67, 117, 116]⟩ : ByteArray) true _ ?side1 ?side2 ?side3 A20.out).mono ?_); (case side1 => first | exact HEI.out | exact ErrIn.below HEI.out (by repeat (first | (with_reducible first | exact HB.out | apply below_alloc | apply pw_below_drewN | apply below_drew1 | refine below_set ?_ GE386.out) | exact HB.out)) | (repeat (first | apply ErrIn.drewN | apply ErrIn.drew | exact HEI.out))); (case side2 => repeat (first | exact (Kd.R_reads' HO_7.out).2.2 | (with_reducible refine Kd.C_alloc ?_ _) | (with_reducible refine Kd.C_drewN ?_ _) | (with_reducible refine Kd.C_drew ?_))); (case side3 => exact (Kd.R_reads' HO_7.out).2.1); rintro e w43 ⟨rfl, hb⟩; refine ⟨_, rfl, ?_⟩; have n0_ := Aside0.mk (Kd.N_below (by (with_reducible repeat (first | apply Kd.N_alloc | apply Kd.N_drewN | apply Kd.N_drew)); exact HO_6.out) hb); have n1_ := Aside0.mk (Kd.R_below (by (with_reducible repeat (first | apply Kd.R_alloc | apply Kd.R_drewN | apply Kd.R_drew)); exact HO_7.out) hb); have n2_ := Aside0.mk (blk_below (g := gb386) (o := .cells #[.int .i64 a1_0, .int .i64 a1_1, .int .i64 a1_2, .int .i64 a1_3, .int .i64 a1_4] 23 (0, 0)) (by (with_reducible repeat (first | refine blk_drewN ?_ _ | refine blk_drew ?_ | refine blk_alloc ?_ _)); exact BK386.out) hb); have n3_ := Aside0.mk (below_step (by repeat (first | (with_reducible first | exact HB.out | apply below_alloc | apply pw_below_drewN | apply below_drew1 | refine below_set ?_ GE386.out) | exact HB.out)) hb); clear HO_6; clear HO_7; clear BK386; clear HB; have HO_6 := n0_; have HO_7 := n1_; have BK386 := n2_; have HB := n3_; clear n0_ n1_ n2_ n3_; (try clear hb); (try clear hb2); (try clear hk); (try clear hi); obtain ⟨Ao44, co44, eo44⟩ := Kd.N_slice HO_6.out; subst eo44) | (go_at_call 10; (with_reducible refine (geyserlaw14_awake.calls kj17  t406 _ A41.out).mono ?_); rintro e w45 ⟨rfl, hb⟩; have n0_ := Aside0.mk (Kd.N_below (by (with_reducible repeat (first | apply Kd.N_alloc | apply Kd.N_drewN | apply Kd.N_drew)); exact HO_6.out) hb); have n1_ := Aside0.mk (Kd.R_below (by (with_reducible repeat (first | apply Kd.R_alloc | apply Kd.R_drewN | apply Kd.R_drew)); exact HO_7.out) hb); have n2_ := Aside0.mk (blk_below (g := gb386) (o := .cells #[.int .i64 a1_0, .int .i64 a1_1, .int .i64 a1_2, .int .i64 a1_3, .int .i64 a1_4] 23 (0, 0)) (by (with_reducible repeat (first | refine blk_drewN ?_ _ | refine blk_drew ?_ | refine blk_alloc ?_ _)); exact BK386.out) hb); have n3_ := Aside0.mk (below_step (by repeat (first | (with_reducible first | exact HB.out | apply below_alloc | apply pw_below_drewN | apply below_drew1 | refine below_set ?_ GE386.out) | exact HB.out)) hb); clear HO_6; clear HO_7; clear BK386; clear HB; have HO_6 := n0_; have HO_7 := n1_; have BK386 := n2_; have HB := n3_; clear n0_ n1_ n2_ n3_; (try clear hb); (try clear hb2); (try clear hk); (try clear hi)))
                        go_ret
                        exact ⟨by first | rfl | (simp [errW_none, errW_some] <;> rfl) | (simp [*, errW_none, errW_some] <;> rfl), by repeat (first | (with_reducible first | exact HB.out | apply below_alloc | apply pw_below_drewN | apply below_drew1 | refine below_set ?_ GE386.out) | exact HB.out)⟩
                      · rw [if_neg c40] at H
                        have c40b0 : ((t393.length : Int) == 0) = false := beq_eq_false_iff_ne.mpr c40
                        have c40b1 : ((t393.length : Int) != 0) = true := bne_iff_ne.mpr c40
                        have c40b2 : ¬ (t393 = []) := fun h_ => c40 (by rw [h_]; rfl)
                        obtain rfl := Option.some.inj H
                        obtain ⟨Ao46, co46, eo46⟩ := Kd.R_slice HO_7.out
                        subst eo46
                        go_wp2_with (first | ((with_reducible refine gate_callee (f := 9) rfl ?_); refine goesL_ (some 46) rfl rfl Tryd.func9 (by kernel_rfl) rfl #[errOf (.slice Ao46 t396.length co46), .int .i64 x9_17, .string (⟨#[98, 108, 111, 99, 107, 105, 110, 103, 46, 67, 117, 116]⟩ : ByteArray)] rfl (by (try simp only [List.map_toArray, List.map_cons, List.map_nil]); first | done | rfl | (simp only [List.length_drop, List.length_take]; rfl)) ?_; (with_reducible refine (geyserlaw14_tells.calls _ _ t396 x9_17 (⟨#[98, 108, 111, 99, 107, 105, 110, 103, 46, 67, 117, 116]⟩ : ByteArray) true _ ?side1 ?side2 ?side3 A20.out).mono ?_); (case side1 => first | exact HEI.out | exact ErrIn.below HEI.out (by repeat (first | (with_reducible first | exact HB.out | apply below_alloc | apply pw_below_drewN | apply below_drew1 | refine below_set ?_ GE386.out) | exact HB.out)) | (repeat (first | apply ErrIn.drewN | apply ErrIn.drew | exact HEI.out))); (case side2 => repeat (first | exact (Kd.R_reads' HO_7.out).2.2 | (with_reducible refine Kd.C_alloc ?_ _) | (with_reducible refine Kd.C_drewN ?_ _) | (with_reducible refine Kd.C_drew ?_))); (case side3 => exact (Kd.R_reads' HO_7.out).2.1); rintro e w47 ⟨rfl, hb⟩; refine ⟨_, rfl, ?_⟩; have n0_ := Aside0.mk (Kd.N_below (by (with_reducible repeat (first | apply Kd.N_alloc | apply Kd.N_drewN | apply Kd.N_drew)); exact HO_6.out) hb); have n1_ := Aside0.mk (Kd.R_below (by (with_reducible repeat (first | apply Kd.R_alloc | apply Kd.R_drewN | apply Kd.R_drew)); exact HO_7.out) hb); have n2_ := Aside0.mk (blk_below (g := gb386) (o := .cells #[.int .i64 a1_0, .int .i64 a1_1, .int .i64 a1_2, .int .i64 a1_3, .int .i64 a1_4] 23 (0, 0)) (by (with_reducible repeat (first | refine blk_drewN ?_ _ | refine blk_drew ?_ | refine blk_alloc ?_ _)); exact BK386.out) hb); have n3_ := Aside0.mk (below_step (by repeat (first | (with_reducible first | exact HB.out | apply below_alloc | apply pw_below_drewN | apply below_drew1 | refine below_set ?_ GE386.out) | exact HB.out)) hb); clear HO_6; clear HO_7; clear BK386; clear HB; have HO_6 := n0_; have HO_7 := n1_; have BK386 := n2_; have HB := n3_; clear n0_ n1_ n2_ n3_; (try clear hb); (try clear hb2); (try clear hk); (try clear hi); obtain ⟨Ao48, co48, eo48⟩ := Kd.N_slice HO_6.out; subst eo48))
                        go_ret
                        exact ⟨by first | rfl | (simp [errW_none, errW_some] <;> rfl) | (simp [*, errW_none, errW_some] <;> rfl), by repeat (first | (with_reducible first | exact HB.out | apply below_alloc | apply pw_below_drewN | apply below_drew1 | refine below_set ?_ GE386.out) | exact HB.out)⟩
                  · replace c21 := Bool.eq_false_iff.mpr c21
                    subst c21
                    have H1 : (some false) = some r := by rw [if_neg (show ¬ (false = true) by decide)] at H; exact H
                    clear H
                    have H := H1
                    clear H1
                    obtain rfl := Option.some.inj H
                    obtain ⟨Ao49, co49, eo49⟩ := Kd.R_slice HO_7.out
                    subst eo49
                    go_wp2_with (first | ((with_reducible refine gate_callee (f := 9) rfl ?_); refine goesL_ (some 46) rfl rfl Tryd.func9 (by kernel_rfl) rfl #[errOf (.slice Ao49 t396.length co49), .int .i64 x9_17, .string (⟨#[98, 108, 111, 99, 107, 105, 110, 103, 46, 67, 117, 116]⟩ : ByteArray)] rfl (by (try simp only [List.map_toArray, List.map_cons, List.map_nil]); first | done | rfl | (simp only [List.length_drop, List.length_take]; rfl)) ?_; (with_reducible refine (geyserlaw14_tells.calls _ _ t396 x9_17 (⟨#[98, 108, 111, 99, 107, 105, 110, 103, 46, 67, 117, 116]⟩ : ByteArray) false _ ?side1 ?side2 ?side3 A20.out).mono ?_); (case side1 => first | exact HEI.out | exact ErrIn.below HEI.out (by repeat (first | (with_reducible first | exact HB.out | apply below_alloc | apply pw_below_drewN | apply below_drew1 | refine below_set ?_ GE386.out) | exact HB.out)) | (repeat (first | apply ErrIn.drewN | apply ErrIn.drew | exact HEI.out))); (case side2 => repeat (first | exact (Kd.R_reads' HO_7.out).2.2 | (with_reducible refine Kd.C_alloc ?_ _) | (with_reducible refine Kd.C_drewN ?_ _) | (with_reducible refine Kd.C_drew ?_))); (case side3 => exact (Kd.R_reads' HO_7.out).2.1); rintro e w50 ⟨rfl, hb⟩; refine ⟨_, rfl, ?_⟩; have n0_ := Aside0.mk (Kd.N_below (by (with_reducible repeat (first | apply Kd.N_alloc | apply Kd.N_drewN | apply Kd.N_drew)); exact HO_6.out) hb); have n1_ := Aside0.mk (Kd.R_below (by (with_reducible repeat (first | apply Kd.R_alloc | apply Kd.R_drewN | apply Kd.R_drew)); exact HO_7.out) hb); have n2_ := Aside0.mk (blk_below (g := gb386) (o := .cells #[.int .i64 a1_0, .int .i64 a1_1, .int .i64 a1_2, .int .i64 a1_3, .int .i64 a1_4] 23 (0, 0)) (by (with_reducible repeat (first | refine blk_drewN ?_ _ | refine blk_drew ?_ | refine blk_alloc ?_ _)); exact BK386.out) hb); have n3_ := Aside0.mk (below_step (by repeat (first | (with_reducible first | exact HB.out | apply below_alloc | apply pw_below_drewN | apply below_drew1 | refine below_set ?_ GE386.out) | exact HB.out)) hb); clear HO_6; clear HO_7; clear BK386; clear HB; have HO_6 := n0_; have HO_7 := n1_; have BK386 := n2_; have HB := n3_; clear n0_ n1_ n2_ n3_; (try clear hb); (try clear hb2); (try clear hk); (try clear hi)))
                    go_ret
                    exact ⟨by first | rfl | (simp [errW_none, errW_some] <;> rfl) | (simp [*, errW_none, errW_some] <;> rfl), by repeat (first | (with_reducible first | exact HB.out | apply below_alloc | apply pw_below_drewN | apply below_drew1 | refine below_set ?_ GE386.out) | exact HB.out)⟩
  · rw [if_neg c3] at H
    exact absurd H (by simp)

end Go.Proofs.YtomeefngdnmdaaaDoor.P

namespace Go.Proofs.YtomeefngdnmdaaaDoor.Pure
open Go.RowKit Go.Proofs.YtomeefngdnmdaaaDoor.P Go.Proofs.YtomeefngdnmdaaaDoorW.PrintWords Go.Proofs.YtomeefngdnmdaaaDoorW.PrintLast Go.Proofs.YtomeefngdnmdaaaDoorW.PrintErr Go.Proofs.YtomeefngdnmdaaaDoorW.PrintMore
set_option linter.unusedVariables false
set_option linter.unusedSimpArgs false
def cutName : ByteArray := ⟨#[98, 108, 111, 99, 107, 105, 110, 103, 46, 67, 117, 116]⟩
theorem rsrc_eq (s b n r q i : Int) (h0 : 0 ≤ q) (h1 : q ≤ 128) : geyserref14_Source.f s b n r q i = some (src r q i) := by
  unfold geyserref14_Source.f src
  by_cases h : i < r
  · rw [if_pos h, if_pos h, w64s (by omega) (by omega)]
  · rw [if_neg h, if_neg h]
theorem rcut_step (k : Nat) (L : List (List Int)) (acc : List (List (List Int))) (a i s b B r q n : Int) (c0 : i < B) (hs : geyserref14_Source.f s b B r q i = some n) (c1 : 0 ≤ a) (c2 : a ≤ wrap64 (a + n)) (c3 : wrap64 (a + n) ≤ (L.length : Int)) (c4 : acc.length < 5864062014805) :
    geyserref14_Cut.l0 (k + 1) L acc a i s b B r q = geyserref14_Cut.l0 k L (acc ++ [(L.take (wrap64 (a + n)).toNat).drop a.toNat]) (wrap64 (a + n)) (wrap64 (i + 1)) s b B r q := by
  rw [geyserref14_Cut.l0, if_pos c0, hs]
  simp only [Option.bind_some]
  rw [if_pos c1, if_pos c2, if_pos c3, if_pos c4]
theorem rcut_l0 (s b B r q : Int) (hq0 : 0 ≤ q) (hq : q ≤ 128) (hB : B ≤ 16) (L : List (List Int)) (hLb : L.length < 5864062014805) : ∀ (d : Nat) (i : Int) (at_ : Nat) (acc : List (List (List Int))), 0 ≤ i → i + d = B → at_ + tot r q d i = L.length → acc.length ≤ i →
    Ev (fun k => geyserref14_Cut.l0 k L acc (at_ : Int) i s b B r q) (acc ++ cutL r q d i (L.drop at_))
  | 0, i, at_, acc, h0, hd, hL, ha => by
    refine Ev.step (f := fun _ => some (acc ++ cutL r q 0 i (L.drop at_))) (fun k => ?_) (Ev.now _)
    rw [geyserref14_Cut.l0, if_neg (by omega)]
    simp [cutL]
  | d + 1, i, at_, acc, h0, hd, hL, ha => by
    have hp := src_pos r q i hq0
    rw [tot] at hL
    obtain ⟨n, en⟩ : ∃ n, n = (src r q i).toNat := ⟨_, rfl⟩
    have enI : src r q i = (n : Int) := by omega
    rw [← en] at hL
    have hn : at_ + n ≤ L.length := by rw [← hL, ← Nat.add_assoc]; exact Nat.le_add_right _ _
    have c2 : (at_ : Int) ≤ ((at_ + n : Nat) : Int) := Int.ofNat_le.2 (Nat.le_add_right _ _)
    have c3 : ((at_ + n : Nat) : Int) ≤ (L.length : Int) := Int.ofNat_le.2 hn
    have c4 : acc.length < 5864062014805 := by clear hL hn c2 c3 en enI; omega
    have hnL : (L.length : Int) < 5864062014805 := by clear hL hn c2 c3 c4 en enI; omega
    have h' := rcut_l0 s b B r q hq0 hq hB L hLb d (i + 1) (at_ + n) (acc ++ [(L.drop at_).take n]) (by omega) (by omega) (by omega) (by simp; omega)
    have e1 : wrap64 ((at_ : Int) + (n : Int)) = ((at_ + n : Nat) : Int) := by
      show wrap64 (((at_ + n : Nat) : Int)) = _
      have : (0 : Int) ≤ ((at_ + n : Nat) : Int) := Int.natCast_nonneg _
      clear h' hL en enI
      exact w64s (by omega) (by omega)
    have e2 : wrap64 (i + 1) = i + 1 := w64s (by omega) (by omega)
    have e3 : (L.take (at_ + n)).drop at_ = (L.drop at_).take n := by rw [List.drop_take, Nat.add_sub_cancel_left]
    have e4 : acc ++ cutL r q (d + 1) i (L.drop at_) = acc ++ [(L.drop at_).take n] ++ cutL r q d (i + 1) (L.drop (at_ + n)) := by
      rw [cutL, ← en, List.drop_drop, List.append_assoc]; rfl
    rw [e4]
    have c0 : i < B := by clear h' hL hn c2 c3 c4 e1 e2 en enI e3 e4 hnL; omega
    refine Ev.step (fun k => ?_) h'
    have hst := rcut_step k L acc (at_ : Int) i s b B r q (n : Int) c0 ((rsrc_eq s b B r q i hq0 hq).trans (congrArg some enI)) (Int.natCast_nonneg _) (by rw [e1]; exact c2) (by rw [e1]; exact c3) c4
    rw [e1, e2, Int.toNat_natCast, Int.toNat_natCast, e3] at hst
    exact hst
theorem rcut_ev (u : List Int) (s b B r q : Int) (hq0 : 0 ≤ q) (hq : q ≤ 128) (hB0 : 0 ≤ B) (hB : B ≤ 16) (hb1 : 1 ≤ b) (hb2 : b ≤ 64) (hu : u.length ≤ 5864062014804) (hc : (splitL (one0 u).length b.toNat (one0 u)).length = tot r q B.toNat 0) :
    Ev (fun k => geyserref14_Cut.f k u s b B r q) (cutL r q B.toNat 0 (splitL (one0 u).length b.toNat (one0 u))) := by
  have hl := splitL_length b.toNat (by omega) (one0 u).length (one0 u)
  have hol := one0_len u
  have hsp := rsp_ev u b.toNat (by omega) (by omega) hu
  rw [Int.toNat_of_nonneg (by omega)] at hsp
  have h := rcut_l0 s b B r q hq0 hq hB (splitL (one0 u).length b.toNat (one0 u)) (by omega) B.toNat 0 0 [] (by omega) (by omega) (by omega) (by simp)
  rw [List.nil_append, List.drop_zero] at h
  unfold geyserref14_Cut.f
  refine Ev.bind hsp ?_
  by_cases h0 : u.length = 0
  · obtain rfl : u = [] := List.eq_nil_of_length_eq_zero h0
    have e : splitL (one0 []).length b.toNat (one0 []) = [List.replicate b.toNat 0] := by
      show splitL 1 b.toNat [0] = _
      have e2 : ([0] : List Int).drop b.toNat = [] := List.drop_eq_nil_of_le (by simp; omega)
      have e3 : padS b.toNat [0] = List.replicate b.toNat (0 : Int) := by
        obtain ⟨m, hm⟩ : ∃ m, b.toNat = m + 1 := ⟨b.toNat - 1, by omega⟩
        rw [hm]; unfold padS; simp [List.replicate_succ]
      rw [splitL, if_neg (by simp), e3]; rfl
    rw [e] at h ⊢
    refine Ev.congr (fun k => ?_) (Ev.step (g := fun k => geyserref14_Cut.j0 k [List.replicate b.toNat 0] s b B r q) (fun k => by rw [geyserref14_Cut.j0]; rfl) h)
    rw [if_pos (by rfl), if_pos (by omega), if_pos (by omega)]
  · have e : one0 u = u := if_neg h0
    rw [e] at h ⊢
    have hne : ¬ (((splitL u.length b.toNat u).length : Int) = 0) := by
      obtain ⟨m, hm⟩ : ∃ m, u.length = m + 1 := ⟨u.length - 1, by omega⟩
      rw [hm, splitL, if_neg h0, List.length_cons]
      omega
    refine Ev.congr (fun k => ?_) (Ev.step (g := fun k => geyserref14_Cut.j0 k (splitL u.length b.toNat u) s b B r q) (fun k => by rw [geyserref14_Cut.j0]; rfl) h)
    rw [if_neg hne]
theorem cutL_mem (r q : Int) : ∀ (d : Nat) (i : Int) (L : List (List Int)), ∀ x ∈ cutL r q d i L, x.length ≤ L.length
  | 0, _, _, x, h => by simp [cutL] at h
  | d + 1, i, L, x, h => by
    rcases List.mem_cons.1 h with rfl | h
    · rw [List.length_take]; omega
    · have := cutL_mem r q d (i + 1) _ x h
      rw [List.length_drop] at this
      omega
theorem cuts_j1_bad (u : List Int) (s b B r q : Int) (f : Bool) (x : Int) (hx : x ≠ 0) : Ev (fun k => geyserlaw14_BlockingCuts.j1 k u [] [⟨cutName, f, x⟩] x s b B r q) true := by
  refine Ev.step (f := fun k => (geyserlaw14_awake.f k).bind fun t => some t) (fun k => ?_) (Ev.bind awake14_ev (Ev.now _))
  rw [geyserlaw14_BlockingCuts.j1, show (⟨#[98, 108, 111, 99, 107, 105, 110, 103, 46, 67, 117, 116]⟩ : ByteArray) = cutName from rfl]
  cases f
  · rw [tells14_deep cutName x hx]; simp [hx]
  · rw [tells14_flat cutName x hx]; simp [hx]
theorem cuts_bad_plan (u : List Int) (s b B r q : Int) (h : whyR s b B r q ≠ 0) (h2 : s ≤ 9223372036854775807) (hq : q ≤ 9223372036854775807) (hq0 : -9223372036854775808 ≤ q) :
    Ev (fun k => blocking_Cut.f k u s b B r q) ([], [⟨cutName, false, whyR s b B r q⟩]) := by
  unfold blocking_Cut.f
  refine Ev.bind (check14_ev s b B r q h2 hq hq0) ?_
  have e : checkR s b B r q = [⟨checkName, true, whyR s b B r q⟩] := if_neg h
  rw [e]
  exact Ev.now _
theorem cuts_bad_size (u : List Int) (s b B r q : Int) (h : whyR s b B r q = 0) (hs : (u.length : Int) ≠ s) (h2 : s ≤ 9223372036854775807) (hq : q ≤ 9223372036854775807) (hq0 : -9223372036854775808 ≤ q) :
    Ev (fun k => blocking_Cut.f k u s b B r q) ([], [⟨cutName, true, 2⟩]) := by
  unfold blocking_Cut.f
  refine Ev.bind (check14_ev s b B r q h2 hq hq0) ?_
  have e : checkR s b B r q = [] := if_pos h
  rw [e]
  simp only [List.length_nil, Int.natCast_zero, if_true, if_neg hs]
  exact Ev.now _
theorem whyR_good {s b n l q : Int} (h : whyR s b n l q = 0) : 0 ≤ s ∧ 1 ≤ b ∧ b ≤ 64 ∧ 1 ≤ n ∧ n ≤ 16 ∧ 0 ≤ l ∧ l < n ∧ 1 ≤ q ∧ q ≤ 128 ∧ n * q + l = T s b := by
  unfold whyR at h
  split at h
  · cases h
  · split at h
    · cases h
    · omega
theorem BlockingCuts (u : List Int) (s b B r q : Int) (hu : u.length ≤ 140737488351232) (h2 : s ≤ 9223372036854775807) (hq : q ≤ 9223372036854775807) (hq0 : -9223372036854775808 ≤ q) : ∃ k, geyserlaw14_BlockingCuts.f k u s b B r q = some true := by
  refine Ev.rounds (g := fun k => geyserlaw14_BlockingCuts.f k u s b B r q) ?_
  unfold geyserlaw14_BlockingCuts.f
  simp only [Option.bind_some, List.nil_append, List.length_nil, Nat.zero_add, if_pos (show u.length < 140737488355328 by omega)]
  by_cases h : whyR s b B r q = 0
  · by_cases hs : (u.length : Int) = s
    · subst hs
      obtain ⟨g1, g2, g3, g4, g5, g6, g7, g8, g9, g10⟩ := whyR_good h
      have hcount := back_count u b g2
      have hT : T (u.length : Int) b ≤ 16 * 128 + 16 := by
        have : B * q ≤ 16 * 128 := Int.mul_le_mul (by omega) (by omega) (by omega) (by omega)
        omega
      have hUb := U_bounds (u.length : Int) b g1 g2
      have hUt : U (u.length : Int) b ≤ T (u.length : Int) b := by unfold T mx; split <;> omega
      have hsz : (u.length : Int) ≤ 2064 * 64 := by
        have h6 : U (u.length : Int) b * b ≤ 2064 * 64 := Int.mul_le_mul (by omega) (by omega) (by omega) (by omega)
        omega
      have htot : ((tot r q B.toNat 0 : Nat) : Int) = T (u.length : Int) b := by
        rw [tot_eq r q B (by omega) (by omega) B.toNat 0 (by omega), ← g10]
        obtain ⟨B', rfl⟩ := Int.eq_ofNat_of_zero_le (show 0 ≤ B by omega)
        obtain ⟨q', rfl⟩ := Int.eq_ofNat_of_zero_le (show 0 ≤ q by omega)
        obtain ⟨r', rfl⟩ := Int.eq_ofNat_of_zero_le (show 0 ≤ r by omega)
        simp
      have hc : (splitL (one0 u).length b.toNat (one0 u)).length = tot r q B.toNat 0 := by omega
      have hcl := cutL_len r q B.toNat 0 (splitL (one0 u).length b.toNat (one0 u))
      have hmem := cutL_mem r q B.toNat 0 (splitL (one0 u).length b.toNat (one0 u))
      refine Ev.bind (cut_ev u b B r q (by omega) (by omega) (by omega) (by omega) g2 g3 h (by omega) hc) ?_
      refine Ev.bind (rcheck14_ev _ b B r q h2) ?_
      rw [h]
      simp only [if_true, bne_self_eq_false]
      refine Ev.step (f := fun k => geyserlaw14_BlockingCuts.j1 k u (cutL r q B.toNat 0 (splitL (one0 u).length b.toNat (one0 u))) [] 0 (u.length : Int) b B r q) (fun k => by rw [geyserlaw14_BlockingCuts.j0, if_neg (by decide)]) ?_
      have hfin : Ev (fun k => (geyserref14_Cut.f k u (u.length : Int) b B r q).bind fun t401 => ((geyserref14_Same.f k (cutL r q B.toNat 0 (splitL (one0 u).length b.toNat (one0 u))) t401).bind fun t404 => (if t404 = true then ((geyserlaw14_awake.f k).bind fun t405 => (some t405)) else (some false)))) true := by
        refine Ev.bind (rcut_ev u _ b B r q (by omega) (by omega) (by omega) (by omega) g2 g3 (by omega) hc) ?_
        refine Ev.bind (rsame14_ev _ (by omega) (fun x hx => by have := hmem x hx; omega)) ?_
        simp only [if_true]
        exact Ev.bind awake14_ev (Ev.now _)
      refine Ev.step (fun k => ?_) hfin
      rw [geyserlaw14_BlockingCuts.j1, tells14_none]
      simp only [Option.bind_some, if_true]
    · refine Ev.bind (cuts_bad_size u s b B r q h hs h2 hq hq0) ?_
      refine Ev.bind (rcheck14_ev s b B r q h2) ?_
      rw [h]
      have : ((u.length : Int) != s) = true := bne_iff_ne.mpr hs
      simp only [if_true, this]
      refine Ev.step (f := fun k => geyserlaw14_BlockingCuts.j1 k u [] [⟨cutName, true, 2⟩] 2 s b B r q) (fun k => by rw [geyserlaw14_BlockingCuts.j0, if_pos rfl]) ?_
      exact cuts_j1_bad u s b B r q true 2 (by decide)
  · refine Ev.bind (cuts_bad_plan u s b B r q h h2 hq hq0) ?_
    refine Ev.bind (rcheck14_ev s b B r q h2) ?_
    simp only [if_neg h]
    refine Ev.step (f := fun k => geyserlaw14_BlockingCuts.j1 k u [] [⟨cutName, false, whyR s b B r q⟩] (whyR s b B r q) s b B r q) (fun k => by rw [geyserlaw14_BlockingCuts.j0, if_neg (by decide)]) ?_
    exact cuts_j1_bad u s b B r q false _ h
end Go.Proofs.YtomeefngdnmdaaaDoor.Pure
