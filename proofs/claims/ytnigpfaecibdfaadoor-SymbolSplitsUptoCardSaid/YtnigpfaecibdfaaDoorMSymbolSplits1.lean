-- joined by merge.py: Px25 Px39 Px52 Px38 PureRef04 Px49 PureSplit Px47 Px50 PureSymbolSplits
import Derived.Test.YtnigpfaecibdfaaDoorMSymbolSplits0
namespace Go.Proofs.YtnigpfaecibdfaaDoor.P
open Go.RowKit Go.Proofs.YtnigpfaecibdfaaDoorW.PrintWords Go.Proofs.YtnigpfaecibdfaaDoorW.PrintLast Go.Proofs.YtnigpfaecibdfaaDoorW.PrintErr Go.Proofs.YtnigpfaecibdfaaDoorW.PrintMore
attribute [local go_sem] max2_int min2_int max_two min_two max_three min_three max_four min_four run_eql_errOf run_neq_errOf eqGuard_errOf   -- for this text's walks alone
set_option linter.unusedVariables false
set_option linter.unusedSimpArgs false

/-! ### geyserref04_Copy: function 27 -/
def geyserref04_Copy.l0 : Nat → List (List Int) → List (List Int) → Int → Option ((List (List Int)))
  | 0, _, _, _ => none
  | k + 1, x0, x3, x4 => if x4 < (x0.length : Int) then ((some (([] : List Int) : List Int)).bind fun y277 => (if 0 ≤ x4 then (if y277.length + (rd_Lsu8 x0 x4).length < 140737488355328 then (if x3.length < 5864062014805 then (geyserref04_Copy.l0 k x0 (x3 ++ [(y277 ++ (rd_Lsu8 x0 x4))]) (wrap64 (x4 + 1))) else (none)) else (none)) else (none))) else (some x3)
def geyserref04_Copy.f (k : Nat) (l0 : List (List Int)) : Option ((List (List Int))) := geyserref04_Copy.l0 k l0 (([] : List (List Int))) 0
theorem geyserref04_Copy.mono_l : ∀ k, (∀ y0 y1 y2, LeO (geyserref04_Copy.l0 k y0 y1 y2) (geyserref04_Copy.l0 (k + 1) y0 y1 y2))
  | 0 => fun _ _ _ r h => by simp [geyserref04_Copy.l0] at h
  | k + 1 => by
    have ih0 := geyserref04_Copy.mono_l k
    · intro y0 y1 y2
      unfold geyserref04_Copy.l0
      repeat' first
      | (with_reducible exact ih0 _ _ _)
      | (with_reducible exact LeO.refl _)
      | (with_reducible exact LeO.none _)
      | (with_reducible refine LeO.ite ?_ ?_)
      | (with_reducible refine LeO.bind ?_ (fun _ => ?_))
      | exact ih0 _ _ _
      | exact LeO.none _
      | refine LeO.ite ?_ ?_
      | refine LeO.bind ?_ (fun _ => ?_)
theorem geyserref04_Copy.mono : ∀ a0 k, LeO (geyserref04_Copy.f k a0) (geyserref04_Copy.f (k + 1) a0) := by
  intro a0 k
  have ih0 := geyserref04_Copy.mono_l k
  unfold geyserref04_Copy.f
  repeat' first
      | (with_reducible exact ih0 _ _ _)
      | (with_reducible exact LeO.refl _)
      | (with_reducible exact LeO.none _)
      | (with_reducible refine LeO.ite ?_ ?_)
      | (with_reducible refine LeO.bind ?_ (fun _ => ?_))
      | exact ih0 _ _ _
      | exact LeO.none _
      | refine LeO.ite ?_ ?_
      | refine LeO.bind ?_ (fun _ => ?_)
set_option maxHeartbeats 8000000 in
set_option maxRecDepth 100000 in
theorem geyserref04_Copy.calls (k : Nat) (A0 : Option Addr) (c0 : Nat) (l0 : List (List Int)) (r : List (List Int)) (w : World) (hr0 : Kd.C (Kd.slice 5 (Kd.int .u8)) w A0 l0.length l0) (hc0 : l0.length ≤ c0) (h : geyserref04_Copy.f k l0 = some r) :
    Calls Tryd.prog 27 #[.slice A0 l0.length c0] w fun e w' => ∃ v0_ : Value, e = .returned (v0_) ∧ Kd.S (Kd.slice 5 (Kd.int .u8)) 42 w' w.heap.size (fun _ => True) v0_ r ∧ Below w.heap.size w w' := by
  have HR0 := Aside0.mk hr0
  have HC0 := Aside0.mk hc0
  clear hr0 hc0
  have HB := Aside0.mk (Below.refl w.heap.size w)
  have H : (geyserref04_Copy.l0 k l0 (([] : List (List Int))) 0) = some r := h
  clear h
  obtain ⟨y274, hy274⟩ : ∃ y_ : List (List Int), y_ = (([] : List (List Int))) := ⟨_, rfl⟩
  replace H : (geyserref04_Copy.l0 k l0 y274 0) = some r := by first | (rw [hy274]; with_reducible exact H) | (have H2_ := (Option.bind_some _ _).symm.trans H; rw [hy274]; with_reducible exact H2_) | (have H2_ := (Option.bind_some _ _).symm.trans H; with_reducible exact H2_) | with_reducible exact H | (rw [hy274]; exact H) | exact H
  have Ny274 := Aside0.mk hy274
  clear hy274
  have H' := Aside0.mk H
  clear H
  go_enter Tryd.func27, Tryd.ntmps27
  go_wp2_with (first | ((with_reducible refine gate_dst (N := 5) rfl ?_); refine Kd.S_lit (Kd.slice 5 (Kd.int .u8)) _ 42 ?hg (N := 5) ?hd (xs := ([] : List (List Int))) (inner := []) (ok := fun _ => True) (okp := fun _ => True) ?hr ?hp (fun _ hk => hk) trivial (Below.refl _ _) (Nat.le_refl _) (by simp) ?_; (case hd => rfl); (case hg => rfl); (case hr => first | (go_simp; done) | (go_simp; rfl)); (case hp => exact (Reps.none _ _)); intro v275 w2 ho3 hb hg_ hnew_; clear hg_ hnew_; (first | rw [← Ny274.out] at ho3 | (simp only [Int.reduceToNat] at ho3; rw [← Ny274.out] at ho3)); have n0_ := Aside0.mk (Kd.S_lower ho3 (below_size (by repeat (first | (with_reducible first | exact HB.out | apply below_alloc | apply pw_below_drewN | apply below_drew1) | exact HB.out)))); have n1_ := Aside0.mk (below_step (by repeat (first | (with_reducible first | exact HB.out | apply below_alloc | apply pw_below_drewN | apply below_drew1) | exact HB.out)) hb); clear HB; have HO276 := n0_; have HB := n1_; clear n0_ n1_; clear hb ho3))
  go_loopg [3, 4] k (fun kq v3 v4 w' => ∃ (x3_1 : List (List Int)) (x4_1 : Int), v4 = .int .i64 x4_1 ∧ Aside0 (geyserref04_Copy.l0 kq l0 x3_1 x4_1 = some r) ∧ Aside0 (kq ≤ k) ∧ Aside0 (Kd.S (Kd.slice 5 (Kd.int .u8)) 42 w' w.heap.size (fun _ => True) v3 x3_1) ∧ Aside0 (Below w.heap.size w w'))
  case atStart => exact ⟨(y274), (0), (by first | rfl | (simp; done) | (simp [*]; done)), H', ⟨Nat.le_refl _⟩, ⟨by (with_reducible repeat (first | apply Kd.S_alloc | apply Kd.S_drewN | apply Kd.S_drew)); exact HO276.out⟩, ⟨by repeat (first | (with_reducible first | exact HB.out | apply below_alloc | apply pw_below_drewN | apply below_drew1) | exact HB.out)⟩⟩
  case round =>
    clear H'
    try clear c2
    try clear p2
    obtain ⟨x3_1, x4_1, rfl, HA, HK1, HO_3, HB⟩ := hrel
    cases gk with
    | zero => exact absurd HA.out (by simp [geyserref04_Copy.l0])
    | succ k1 =>
      have H := HA.out
      clear HA
      simp only [geyserref04_Copy.l0] at H
      by_cases c4 : x4_1 < (l0.length : Int)
      · rw [if_pos c4] at H
        have c4b0 : decide (x4_1 < (l0.length : Int)) = true := decide_eq_true c4
        clear c4
        obtain ⟨y277, hy277⟩ : ∃ y_ : List Int, y_ = (([] : List Int)) := ⟨_, rfl⟩
        replace H : (if 0 ≤ x4_1 then (if y277.length + (rd_Lsu8 l0 x4_1).length < 140737488355328 then (if x3_1.length < 5864062014805 then (geyserref04_Copy.l0 k1 l0 (x3_1 ++ [(y277 ++ (rd_Lsu8 l0 x4_1))]) (wrap64 (x4_1 + 1))) else (none)) else (none)) else (none)) = some r := by first | (rw [hy277]; with_reducible exact H) | (have H2_ := (Option.bind_some _ _).symm.trans H; rw [hy277]; with_reducible exact H2_) | (have H2_ := (Option.bind_some _ _).symm.trans H; with_reducible exact H2_) | with_reducible exact H | (rw [hy277]; exact H) | exact H
        have Ny277 := Aside0.mk hy277
        clear hy277
        by_cases c5 : 0 ≤ x4_1
        · rw [if_pos c5] at H
          have c5b0 : decide (0 ≤ x4_1) = true := decide_eq_true c5
          clear c5
          by_cases c6 : y277.length + (rd_Lsu8 l0 x4_1).length < 140737488355328
          · rw [if_pos c6] at H
            have LMc6 := Aside0.mk c6
            clear c6
            obtain ⟨y281, hy281⟩ : ∃ y_ : List Int, y_ = (y277 ++ (rd_Lsu8 l0 x4_1)) := ⟨_, rfl⟩
            replace H : (if x3_1.length < 5864062014805 then (geyserref04_Copy.l0 k1 l0 (x3_1 ++ [y281]) (wrap64 (x4_1 + 1))) else (none)) = some r := by first | (rw [hy281]; with_reducible exact H) | (have H2_ := (Option.bind_some _ _).symm.trans H; rw [hy281]; with_reducible exact H2_) | (have H2_ := (Option.bind_some _ _).symm.trans H; with_reducible exact H2_) | with_reducible exact H | (rw [hy281]; exact H) | exact H
            have Ny281 := Aside0.mk hy281
            clear hy281
            by_cases c7 : x3_1.length < 5864062014805
            · rw [if_pos c7] at H
              have LMc7 := Aside0.mk c7
              clear c7
              obtain ⟨y284, hy284⟩ : ∃ y_ : List (List Int), y_ = (x3_1 ++ [y281]) := ⟨_, rfl⟩
              replace H : (geyserref04_Copy.l0 k1 l0 y284 (wrap64 (x4_1 + 1))) = some r := by first | (rw [hy284]; with_reducible exact H) | (have H2_ := (Option.bind_some _ _).symm.trans H; rw [hy284]; with_reducible exact H2_) | (have H2_ := (Option.bind_some _ _).symm.trans H; with_reducible exact H2_) | with_reducible exact H | (rw [hy284]; exact H) | exact H
              have Ny284 := Aside0.mk hy284
              clear hy284
              have H' := Aside0.mk H
              clear H
              go_wp2_with (first | ((with_reducible refine gate_dst (N := 13) rfl ?_); refine Kd.R_lit (Kd.int .u8) _ 5 ?hg (N := 13) ?hd (xs := ([] : List Int)) (inner := []) (ok := fun _ => True) (okp := fun _ => True) ?hr ?hp (fun _ hk => hk) trivial (Below.refl _ _) (Nat.le_refl _) (by simp) ?_; (case hd => rfl); (case hg => rfl); (case hr => first | (go_simp; done) | (go_simp; rfl)); (case hp => exact (Reps.none _ _)); intro v278 w8 ho9 hb hg_ hnew_; clear hg_ hnew_; (first | rw [← Ny277.out] at ho9 | (simp only [Int.reduceToNat] at ho9; rw [← Ny277.out] at ho9)); have n0_ := Aside0.mk (Kd.S_elder' (by (with_reducible repeat (first | apply Kd.S_alloc | apply Kd.S_drewN | apply Kd.S_drew)); exact HO_3.out) (Kd.R_base ho9) hb); have n1_ := Aside0.mk (Kd.R_lower ho9 (below_size (by repeat (first | (with_reducible first | exact HB.out | apply below_alloc | apply pw_below_drewN | apply below_drew1) | exact HB.out)))); have n2_ := Aside0.mk (below_step (by repeat (first | (with_reducible first | exact HB.out | apply below_alloc | apply pw_below_drewN | apply below_drew1) | exact HB.out)) hb); clear HO_3; clear HB; have HO_3 := n0_; have HO279 := n1_; have HB := n2_; clear n0_ n1_ n2_; clear hb ho9; have p280 : 0 ≤ (x4_1 : Int) := of_decide_eq_true (by first | (with_reducible assumption) | assumption); have q280 : x4_1 < (l0.length : Int) := of_decide_eq_true (by first | (with_reducible assumption) | assumption); obtain ⟨ad280, A280_0, c280_0, e280, hx280_0, hl280_0, hi280_0⟩ := at_Lsu8 HR0.out x4_1 p280 q280; cases e280; (first | replace hx280_0 := (HB.out.cell (World.block_lt_of_cell? w _ hx280_0)).trans hx280_0 | skip); have HR280_0 := Aside0.mk hi280_0; have HC280_0 := Aside0.mk hl280_0; clear hi280_0 hl280_0; replace p280 := eq_true p280; replace q280 := eq_true q280) | ((with_reducible refine gate_builtin (b := .append) (xs := #[.tmp 13, .tmp 17]) rfl ?_); at_builtin; refine Kd.R_append_rows (Kd.int .u8) (w0 := w) w.heap.size rfl (.tmp 13) (.tmp 17) 42 5 (.int .u8 0) 1 rfl Tryd.underlying42 info5 rfl (by decide) (by omega) v278 y277 (rd_Lsu8 l0 x4_1) _ _ _ (fun _ => True) (fun _ => False) rfl rfl ?aO ?aR (fun _ _ h => h) (fun _ h => h.elim) ?aF ?aB ?aS ?aL ?_; (case aR => repeat (first | exact (Kd.C_below HR280_0.out HB.out) | (with_reducible refine Kd.C_alloc ?_ _) | (with_reducible refine Kd.C_drewN ?_ _) | (with_reducible refine Kd.C_drew ?_))); (case aB => exact (by repeat (first | (with_reducible first | exact HB.out | apply below_alloc | apply pw_below_drewN | apply below_drew1) | exact HB.out))); (case aF => exact (fun _ _ => trivial)); (case aO => exact (by (with_reducible repeat (first | apply Kd.R_alloc | apply Kd.R_drewN | apply Kd.R_drew)); exact HO279.out)); (case aS => exact (below_size (by repeat (first | (with_reducible first | exact HB.out | apply below_alloc | apply pw_below_drewN | apply below_drew1) | exact HB.out)))); (case aL => have := LMc6.out; omega); intro v282 w10 ho hb hg hat; rw [← Ny281.out] at ho; have n0_ := Aside0.mk (Kd.S_after (ok := (fun _ => True)) (by (with_reducible repeat (first | apply Kd.S_alloc | apply Kd.S_drewN | apply Kd.S_drew)); exact HO_3.out) hg hat); have n1_ := Aside0.mk (hb); have n2_ := Aside0.mk (ho); clear HO_3; clear HB; clear HO279; have HO_3 := n0_; have HB := n1_; have HO283 := n2_; clear n0_ n1_ n2_; clear ho hb hg hat; obtain ⟨Ao12, co12, eo12⟩ := Kd.R_slice HO283.out; subst eo12) | ((with_reducible refine gate_builtin (b := .append) (xs := #[.tmp 12, .tmp 19]) rfl ?_); at_builtin; refine Kd.S_append (Kd.slice 5 (Kd.int .u8)) (w0 := w) w.heap.size rfl (.tmp 12) (.tmp 19) 40 42 (.slice none 0 0) 24 rfl Tryd.underlying40 info42 rfl (by decide) (by omega) u3 x3_1 y281 [.slice Ao12 y281.length co12] (fun _ => True) (fun k_ => some k_ = (.slice Ao12 y281.length co12 : Value).ownBlock) rfl rfl ?aP (fun k_ hk_ => ((Kd.R_mono (ok' := fun k_ => ((fun _ => True)) k_ ∧ some k_ ≠ (u3 : Value).ownBlock) (Kd.R_apart' (HO283.out) (Kd.S_typed HO_3.out) (by decide)) (fun k_ hk => ⟨trivial, hk.2⟩))).1 k_ hk_.symm) ?aF ?aO ?aB ?aS ?aL ?_; (case aP => exact Kd.M_row (Kd.R_mono (Kd.R_tight rfl (Kd.R_mono (ok' := fun k_ => ((fun _ => True)) k_ ∧ some k_ ≠ (u3 : Value).ownBlock) (Kd.R_apart' (HO283.out) (Kd.S_typed HO_3.out) (by decide)) (fun k_ hk => ⟨trivial, hk.2⟩))) (fun _ h_ => h_))); (case aB => exact (by repeat (first | (with_reducible first | exact HB.out | apply below_alloc | apply pw_below_drewN | apply below_drew1) | exact HB.out))); (case aF => exact (fun _ _ => trivial)); (case aO => exact (by (with_reducible repeat (first | apply Kd.S_alloc | apply Kd.S_drewN | apply Kd.S_drew)); exact Kd.S_mono HO_3.out (fun k_ hk => ⟨trivial, fun e_ => hk.2 e_⟩))); (case aS => exact (below_size (by repeat (first | (with_reducible first | exact HB.out | apply below_alloc | apply pw_below_drewN | apply below_drew1) | exact HB.out)))); (case aL => have := LMc7.out; omega); intro v285 w11 ho hb hg hat; rw [← Ny284.out] at ho; have n0_ := Aside0.mk (hb); have n1_ := Aside0.mk (ho); clear HB; clear HO_3; clear HO283; have HB := n0_; have HO286 := n1_; clear n0_ n1_; clear ho hb hg hat))
              go_roundg k1
              case measure => have := HK1.out; omega
              case rel => exact ⟨(y284), (wrap64 (x4_1 + 1)), (by first | rfl | (simp; done) | (simp [*]; done)), H', ⟨by have := HK1.out; omega⟩, ⟨by (with_reducible repeat (first | apply Kd.S_alloc | apply Kd.S_drewN | apply Kd.S_drew)); exact HO286.out⟩, ⟨by repeat (first | (with_reducible first | exact HB.out | apply below_alloc | apply pw_below_drewN | apply below_drew1) | exact HB.out)⟩⟩
            · rw [if_neg c7] at H
              exact absurd H (by simp)
          · rw [if_neg c6] at H
            exact absurd H (by simp)
        · rw [if_neg c5] at H
          exact absurd H (by simp)
      · rw [if_neg c4] at H
        have c4b0 : decide (x4_1 < (l0.length : Int)) = false := decide_eq_false c4
        clear c4
        obtain rfl := Option.some.inj H
        go_wp2
        go_ret
        exact ⟨_, by first | rfl | (simp [errW_none, errW_some] <;> rfl) | (simp [*, errW_none, errW_some] <;> rfl), by (with_reducible repeat (first | apply Kd.S_alloc | apply Kd.S_drewN | apply Kd.S_drew)); exact HO_3.out, by repeat (first | (with_reducible first | exact HB.out | apply below_alloc | apply pw_below_drewN | apply below_drew1) | exact HB.out)⟩

end Go.Proofs.YtnigpfaecibdfaaDoor.P

namespace Go.Proofs.YtnigpfaecibdfaaDoor.P
open Go.RowKit Go.Proofs.YtnigpfaecibdfaaDoorW.PrintWords Go.Proofs.YtnigpfaecibdfaaDoorW.PrintLast Go.Proofs.YtnigpfaecibdfaaDoorW.PrintErr Go.Proofs.YtnigpfaecibdfaaDoorW.PrintMore
attribute [local go_sem] max2_int min2_int max_two min_two max_three min_three max_four min_four run_eql_errOf run_neq_errOf eqGuard_errOf   -- for this text's walks alone
set_option linter.unusedVariables false
set_option linter.unusedSimpArgs false

/-! ### geyserref04_Same: function 31 -/
def geyserref04_Same.l0 : Nat → List (List Int) → List (List Int) → Int → Option (Bool)
  | 0, _, _, _ => none
  | k + 1, x0, x1, x5 => if x5 < (x0.length : Int) then (if 0 ≤ x5 then (if x5 < (x1.length : Int) then (if (strOfNums (rd_Lsu8 x0 x5)).toList = (strOfNums (rd_Lsu8 x1 x5)).toList then (geyserref04_Same.l0 k x0 x1 (wrap64 (x5 + 1))) else (some false)) else (none)) else (none)) else (some true)
def geyserref04_Same.f (k : Nat) (l0 : List (List Int)) (l1 : List (List Int)) : Option (Bool) := if (l0.length : Int) = (l1.length : Int) then (geyserref04_Same.l0 k l0 l1 0) else (some false)
theorem geyserref04_Same.mono_l : ∀ k, (∀ y0 y1 y2, LeO (geyserref04_Same.l0 k y0 y1 y2) (geyserref04_Same.l0 (k + 1) y0 y1 y2))
  | 0 => fun _ _ _ r h => by simp [geyserref04_Same.l0] at h
  | k + 1 => by
    have ih0 := geyserref04_Same.mono_l k
    · intro y0 y1 y2
      unfold geyserref04_Same.l0
      repeat' first
      | (with_reducible exact ih0 _ _ _)
      | (with_reducible exact LeO.refl _)
      | (with_reducible exact LeO.none _)
      | (with_reducible refine LeO.ite ?_ ?_)
      | (with_reducible refine LeO.bind ?_ (fun _ => ?_))
      | exact ih0 _ _ _
      | exact LeO.none _
      | refine LeO.ite ?_ ?_
      | refine LeO.bind ?_ (fun _ => ?_)
theorem geyserref04_Same.mono : ∀ a0 a1 k, LeO (geyserref04_Same.f k a0 a1) (geyserref04_Same.f (k + 1) a0 a1) := by
  intro a0 a1 k
  have ih0 := geyserref04_Same.mono_l k
  unfold geyserref04_Same.f
  repeat' first
      | (with_reducible exact ih0 _ _ _)
      | (with_reducible exact LeO.refl _)
      | (with_reducible exact LeO.none _)
      | (with_reducible refine LeO.ite ?_ ?_)
      | (with_reducible refine LeO.bind ?_ (fun _ => ?_))
      | exact ih0 _ _ _
      | exact LeO.none _
      | refine LeO.ite ?_ ?_
      | refine LeO.bind ?_ (fun _ => ?_)
set_option maxHeartbeats 8000000 in
set_option maxRecDepth 100000 in
theorem geyserref04_Same.calls (k : Nat) (A0 : Option Addr) (c0 : Nat) (l0 : List (List Int)) (A1 : Option Addr) (c1 : Nat) (l1 : List (List Int)) (r : Bool) (w : World) (hr0 : Kd.C (Kd.slice 5 (Kd.int .u8)) w A0 l0.length l0) (hc0 : l0.length ≤ c0) (hr1 : Kd.C (Kd.slice 5 (Kd.int .u8)) w A1 l1.length l1) (hc1 : l1.length ≤ c1) (h : geyserref04_Same.f k l0 l1 = some r) :
    Calls Tryd.prog 31 #[.slice A0 l0.length c0, .slice A1 l1.length c1] w fun e w' => e = .returned (.bool r) ∧ Drawn0 w w' := by
  have HR0 := Aside0.mk hr0
  have HC0 := Aside0.mk hc0
  clear hr0 hc0
  have HR1 := Aside0.mk hr1
  have HC1 := Aside0.mk hc1
  clear hr1 hc1
  have H : (if (l0.length : Int) = (l1.length : Int) then (geyserref04_Same.l0 k l0 l1 0) else (some false)) = some r := h
  clear h
  by_cases c3 : (l0.length : Int) = (l1.length : Int)
  · rw [if_pos c3] at H
    have c3b0 : ((l0.length : Int) == (l1.length : Int)) = true := beq_iff_eq.mpr c3
    have c3b1 : ((l0.length : Int) != (l1.length : Int)) = false := bne_eq_false_iff_eq.mpr c3
    have c3b2 : (l0.length == l1.length) = true := by first | simpa using c3 | (simp at c3 ⊢; omega)
    clear c3
    have H' := Aside0.mk H
    clear H
    go_enter Tryd.func31, Tryd.ntmps31
    go_wp2
    repeat (go_quiet (fail); try go_wp2)
    go_loopg [5] k (fun kq v5 w' => ∃ (x5_1 : Int), v5 = .int .i64 x5_1 ∧ Aside0 (geyserref04_Same.l0 kq l0 l1 x5_1 = some r) ∧ Aside0 (kq ≤ k) ∧ Drawn0 w w')
    case atStart => exact ⟨(0), (by first | rfl | (simp; done) | (simp [*]; done)), H', ⟨Nat.le_refl _⟩, by repeat (first | exact Drawn0.refl _ | apply Drawn0.step)⟩
    case round =>
      clear H'
      try clear c1
      try clear p2
      try clear c3
      try clear c3b0
      try clear c3b1
      try clear c3b2
      obtain ⟨x5_1, rfl, HA, HK1, ⟨m1, rfl⟩⟩ := hrel
      cases gk with
      | zero => exact absurd HA.out (by simp [geyserref04_Same.l0])
      | succ k1 =>
        have H := HA.out
        clear HA
        simp only [geyserref04_Same.l0] at H
        by_cases c4 : x5_1 < (l0.length : Int)
        · rw [if_pos c4] at H
          have c4b0 : decide (x5_1 < (l0.length : Int)) = true := decide_eq_true c4
          clear c4
          by_cases c5 : 0 ≤ x5_1
          · rw [if_pos c5] at H
            have c5b0 : decide (0 ≤ x5_1) = true := decide_eq_true c5
            clear c5
            by_cases c6 : x5_1 < (l1.length : Int)
            · rw [if_pos c6] at H
              have c6b0 : decide (x5_1 < (l1.length : Int)) = true := decide_eq_true c6
              clear c6
              by_cases c7 : (strOfNums (rd_Lsu8 l0 x5_1)).toList = (strOfNums (rd_Lsu8 l1 x5_1)).toList
              · rw [if_pos c7] at H
                have c7b0 : ((strOfNums (rd_Lsu8 l0 x5_1)).toList == (strOfNums (rd_Lsu8 l1 x5_1)).toList) = true := beq_iff_eq.mpr c7
                have c7b1 : ((strOfNums (rd_Lsu8 l0 x5_1)).toList != (strOfNums (rd_Lsu8 l1 x5_1)).toList) = false := bne_eq_false_iff_eq.mpr c7
                clear c7
                have H' := Aside0.mk H
                clear H
                have p297 : 0 ≤ (x5_1 : Int) := of_decide_eq_true (by first | (with_reducible assumption) | assumption)
                have q297 : x5_1 < (l0.length : Int) := of_decide_eq_true (by first | (with_reducible assumption) | assumption)
                obtain ⟨ad297, A297_0, c297_0, e297, hx297_0, hl297_0, hi297_0⟩ := at_Lsu8 HR0.out x5_1 p297 q297
                cases e297
                have HR297_0 := Aside0.mk hi297_0
                have HC297_0 := Aside0.mk hl297_0
                clear hi297_0 hl297_0
                replace p297 := eq_true p297
                replace q297 := eq_true q297
                have hcv8 := Kd.C_string (P := Tryd.prog) (A := A297_0) (c := c297_0) Tryd.underlying42 Tryd.underlying5 Tryd.underlying9 HR297_0.out
                have hcv9 := fun m_ : Nat => Kd.C_string (P := Tryd.prog) (A := A297_0) (c := c297_0) Tryd.underlying42 Tryd.underlying5 Tryd.underlying9 (Kd.C_drewN HR297_0.out m_)
                have p298 : 0 ≤ (x5_1 : Int) := of_decide_eq_true (by first | (with_reducible assumption) | assumption)
                have q298 : x5_1 < (l1.length : Int) := of_decide_eq_true (by first | (with_reducible assumption) | assumption)
                obtain ⟨ad298, A298_0, c298_0, e298, hx298_0, hl298_0, hi298_0⟩ := at_Lsu8 HR1.out x5_1 p298 q298
                cases e298
                have HR298_0 := Aside0.mk hi298_0
                have HC298_0 := Aside0.mk hl298_0
                clear hi298_0 hl298_0
                replace p298 := eq_true p298
                replace q298 := eq_true q298
                have hcv10 := Kd.C_string (P := Tryd.prog) (A := A298_0) (c := c298_0) Tryd.underlying42 Tryd.underlying5 Tryd.underlying9 HR298_0.out
                have hcv11 := fun m_ : Nat => Kd.C_string (P := Tryd.prog) (A := A298_0) (c := c298_0) Tryd.underlying42 Tryd.underlying5 Tryd.underlying9 (Kd.C_drewN HR298_0.out m_)
                go_wp2
                repeat (go_quiet (fail); try go_wp2)
                go_roundg k1
                case measure => have := HK1.out; omega
                case rel => exact ⟨(wrap64 (x5_1 + 1)), (by first | rfl | (simp; done) | (simp [*]; done)), H', ⟨by have := HK1.out; omega⟩, by repeat (first | exact Drawn0.refl _ | apply Drawn0.step)⟩
              · rw [if_neg c7] at H
                have c7b0 : ((strOfNums (rd_Lsu8 l0 x5_1)).toList == (strOfNums (rd_Lsu8 l1 x5_1)).toList) = false := beq_eq_false_iff_ne.mpr c7
                have c7b1 : ((strOfNums (rd_Lsu8 l0 x5_1)).toList != (strOfNums (rd_Lsu8 l1 x5_1)).toList) = true := bne_iff_ne.mpr c7
                obtain rfl := Option.some.inj H
                have p297 : 0 ≤ (x5_1 : Int) := of_decide_eq_true (by first | (with_reducible assumption) | assumption)
                have q297 : x5_1 < (l0.length : Int) := of_decide_eq_true (by first | (with_reducible assumption) | assumption)
                obtain ⟨ad297, A297_0, c297_0, e297, hx297_0, hl297_0, hi297_0⟩ := at_Lsu8 HR0.out x5_1 p297 q297
                cases e297
                have HR297_0 := Aside0.mk hi297_0
                have HC297_0 := Aside0.mk hl297_0
                clear hi297_0 hl297_0
                replace p297 := eq_true p297
                replace q297 := eq_true q297
                have hcv12 := Kd.C_string (P := Tryd.prog) (A := A297_0) (c := c297_0) Tryd.underlying42 Tryd.underlying5 Tryd.underlying9 HR297_0.out
                have hcv13 := fun m_ : Nat => Kd.C_string (P := Tryd.prog) (A := A297_0) (c := c297_0) Tryd.underlying42 Tryd.underlying5 Tryd.underlying9 (Kd.C_drewN HR297_0.out m_)
                have p298 : 0 ≤ (x5_1 : Int) := of_decide_eq_true (by first | (with_reducible assumption) | assumption)
                have q298 : x5_1 < (l1.length : Int) := of_decide_eq_true (by first | (with_reducible assumption) | assumption)
                obtain ⟨ad298, A298_0, c298_0, e298, hx298_0, hl298_0, hi298_0⟩ := at_Lsu8 HR1.out x5_1 p298 q298
                cases e298
                have HR298_0 := Aside0.mk hi298_0
                have HC298_0 := Aside0.mk hl298_0
                clear hi298_0 hl298_0
                replace p298 := eq_true p298
                replace q298 := eq_true q298
                have hcv14 := Kd.C_string (P := Tryd.prog) (A := A298_0) (c := c298_0) Tryd.underlying42 Tryd.underlying5 Tryd.underlying9 HR298_0.out
                have hcv15 := fun m_ : Nat => Kd.C_string (P := Tryd.prog) (A := A298_0) (c := c298_0) Tryd.underlying42 Tryd.underlying5 Tryd.underlying9 (Kd.C_drewN HR298_0.out m_)
                go_wp2
                repeat (go_quiet (fail); try go_wp2)
                go_ret
                exact ⟨by first | rfl | (simp; done) | (simp [*]; done), by repeat (first | exact Drawn0.refl _ | apply Drawn0.step)⟩
            · rw [if_neg c6] at H
              exact absurd H (by simp)
          · rw [if_neg c5] at H
            exact absurd H (by simp)
        · rw [if_neg c4] at H
          have c4b0 : decide (x5_1 < (l0.length : Int)) = false := decide_eq_false c4
          clear c4
          obtain rfl := Option.some.inj H
          go_wp2
          repeat (go_quiet (fail); try go_wp2)
          go_ret
          exact ⟨by first | rfl | (simp; done) | (simp [*]; done), by repeat (first | exact Drawn0.refl _ | apply Drawn0.step)⟩
  · rw [if_neg c3] at H
    have c3b0 : ((l0.length : Int) == (l1.length : Int)) = false := beq_eq_false_iff_ne.mpr c3
    have c3b1 : ((l0.length : Int) != (l1.length : Int)) = true := bne_iff_ne.mpr c3
    have c3b2 : (l0.length == l1.length) = false := by first | simpa using c3 | (simp at c3 ⊢; omega)
    obtain rfl := Option.some.inj H
    go_enter Tryd.func31, Tryd.ntmps31
    go_wp2
    repeat (go_quiet (fail); try go_wp2)
    go_ret
    exact ⟨by first | rfl | (simp; done) | (simp [*]; done), by repeat (first | exact Drawn0.refl _ | apply Drawn0.step)⟩

end Go.Proofs.YtnigpfaecibdfaaDoor.P

namespace Go.Proofs.YtnigpfaecibdfaaDoor.P
open Go.RowKit Go.Proofs.YtnigpfaecibdfaaDoorW.PrintWords Go.Proofs.YtnigpfaecibdfaaDoorW.PrintLast Go.Proofs.YtnigpfaecibdfaaDoorW.PrintErr Go.Proofs.YtnigpfaecibdfaaDoorW.PrintMore
attribute [local go_sem] max2_int min2_int max_two min_two max_three min_three max_four min_four run_eql_errOf run_neq_errOf eqGuard_errOf   -- for this text's walks alone
set_option linter.unusedVariables false
set_option linter.unusedSimpArgs false

/-! ### geyserref04_Picked: function 41 -/
def geyserref04_Picked.l0 : Nat → List Int → List (List Int) → List (List Int) → Int → Option ((List (List Int)))
  | 0, _, _, _, _ => none
  | k + 1, x0, x1, x5, x6 => if x6 < (x0.length : Int) then (if 0 ≤ x6 then (if 0 ≤ (rd x0 x6) then (if (rd x0 x6) < (x1.length : Int) then (if x5.length < 5864062014805 then (geyserref04_Picked.l0 k x0 x1 (x5 ++ [rd_Lsu8 x1 (rd x0 x6)]) (wrap64 (x6 + 1))) else (none)) else (none)) else (none)) else (none)) else (some x5)
def geyserref04_Picked.f (k : Nat) (l0 : List Int) (l1 : List (List Int)) : Option ((List (List Int))) := geyserref04_Picked.l0 k l0 l1 (([] : List (List Int))) 0
theorem geyserref04_Picked.mono_l : ∀ k, (∀ y0 y1 y2 y3, LeO (geyserref04_Picked.l0 k y0 y1 y2 y3) (geyserref04_Picked.l0 (k + 1) y0 y1 y2 y3))
  | 0 => fun _ _ _ _ r h => by simp [geyserref04_Picked.l0] at h
  | k + 1 => by
    have ih0 := geyserref04_Picked.mono_l k
    · intro y0 y1 y2 y3
      unfold geyserref04_Picked.l0
      repeat' first
      | (with_reducible exact ih0 _ _ _ _)
      | (with_reducible exact LeO.refl _)
      | (with_reducible exact LeO.none _)
      | (with_reducible refine LeO.ite ?_ ?_)
      | (with_reducible refine LeO.bind ?_ (fun _ => ?_))
      | exact ih0 _ _ _ _
      | exact LeO.none _
      | refine LeO.ite ?_ ?_
      | refine LeO.bind ?_ (fun _ => ?_)
theorem geyserref04_Picked.mono : ∀ a0 a1 k, LeO (geyserref04_Picked.f k a0 a1) (geyserref04_Picked.f (k + 1) a0 a1) := by
  intro a0 a1 k
  have ih0 := geyserref04_Picked.mono_l k
  unfold geyserref04_Picked.f
  repeat' first
      | (with_reducible exact ih0 _ _ _ _)
      | (with_reducible exact LeO.refl _)
      | (with_reducible exact LeO.none _)
      | (with_reducible refine LeO.ite ?_ ?_)
      | (with_reducible refine LeO.bind ?_ (fun _ => ?_))
      | exact ih0 _ _ _ _
      | exact LeO.none _
      | refine LeO.ite ?_ ?_
      | refine LeO.bind ?_ (fun _ => ?_)
set_option maxHeartbeats 8000000 in
set_option maxRecDepth 100000 in
theorem geyserref04_Picked.calls (k : Nat) (A0 : Option Addr) (c0 : Nat) (l0 : List Int) (P1_ : Nat → Prop) (A1 : Option Addr) (c1 : Nat) (l1 : List (List Int)) (r : List (List Int)) (w : World) (hr0 : Kd.C (Kd.int .i64) w A0 l0.length l0) (hc0 : l0.length ≤ c0) (hs1 : Kd.V (Kd.slice 5 (Kd.int .u8)) 42 w w.heap.size (fun k_ => P1_ k_) (.slice A1 l1.length c1) l1) (h : geyserref04_Picked.f k l0 l1 = some r) :
    Calls Tryd.prog 41 #[.slice A0 l0.length c0, .slice A1 l1.length c1] w fun e w' => ∃ v0_ : Value, e = .returned (v0_) ∧ Kd.N (Kd.slice 5 (Kd.int .u8)) 42 w' w.heap.size (fun k_ => (P1_ k_ ∨ w.heap.size ≤ k_)) v0_ r ∧ Below w.heap.size w w' := by
  have HR0 := Aside0.mk hr0
  have HC0 := Aside0.mk hc0
  clear hr0 hc0
  have HO1 := Aside0.mk (show Kd.V (Kd.slice 5 (Kd.int .u8)) 42 w w.heap.size (fun k_ => (P1_ k_ ∨ w.heap.size ≤ k_)) (.slice A1 l1.length c1) l1 from Kd.V_mono hs1 (fun k_ hk => .inl hk))
  have HB := Aside0.mk (Below.refl w.heap.size w)
  have H : (geyserref04_Picked.l0 k l0 l1 (([] : List (List Int))) 0) = some r := h
  clear h
  obtain ⟨y461, hy461⟩ : ∃ y_ : List (List Int), y_ = (([] : List (List Int))) := ⟨_, rfl⟩
  replace H : (geyserref04_Picked.l0 k l0 l1 y461 0) = some r := by first | (rw [hy461]; with_reducible exact H) | (have H2_ := (Option.bind_some _ _).symm.trans H; rw [hy461]; with_reducible exact H2_) | (have H2_ := (Option.bind_some _ _).symm.trans H; with_reducible exact H2_) | with_reducible exact H | (rw [hy461]; exact H) | exact H
  have Ny461 := Aside0.mk hy461
  clear hy461
  have H' := Aside0.mk H
  clear H
  go_enter Tryd.func41, Tryd.ntmps41
  go_wp2_with (first | ((with_reducible refine gate_dst (N := 7) rfl ?_); refine Kd.N_lit (Kd.slice 5 (Kd.int .u8)) _ 42 ?hg (N' := 7) ?hd (xs := ([] : List (List Int))) (inner := []) (ok := (fun k_ => (P1_ k_ ∨ w.heap.size ≤ k_))) (okp := (fun k_ => (P1_ k_ ∨ w.heap.size ≤ k_))) ?hr ?hp (fun _ hk => hk) ((show ∀ k_, w.heap.size ≤ k_ → (fun k_ => (P1_ k_ ∨ w.heap.size ≤ k_)) k_ from fun k_ hk => (.inr (Nat.le_trans (below_size (by repeat (first | (with_reducible first | exact HB.out | apply below_alloc | apply pw_below_drewN | apply below_drew1) | exact HB.out))) hk))) _ (Nat.le_refl _)) (Below.refl _ _) (Nat.le_refl _) (by simp) ?_; (case hd => rfl); (case hg => rfl); (case hr => first | (go_simp; done) | (go_simp; rfl)); (case hp => exact (Reps.none _ _)); intro v462 w3 ho4 hb hg_ hnew_; clear hg_ hnew_; (first | rw [← Ny461.out] at ho4 | (simp only [Int.reduceToNat] at ho4; rw [← Ny461.out] at ho4)); have n0_ := Aside0.mk (Kd.V_elder' (by (with_reducible repeat (first | apply Kd.V_alloc | apply Kd.V_drewN | apply Kd.V_drew)); exact HO1.out) (Kd.N_base ho4) hb); have n1_ := Aside0.mk (Kd.N_lower ho4 (below_size (by repeat (first | (with_reducible first | exact HB.out | apply below_alloc | apply pw_below_drewN | apply below_drew1) | exact HB.out)))); have n2_ := Aside0.mk (below_step (by repeat (first | (with_reducible first | exact HB.out | apply below_alloc | apply pw_below_drewN | apply below_drew1) | exact HB.out)) hb); clear HO1; clear HB; have HO1 := n0_; have HO463 := n1_; have HB := n2_; clear n0_ n1_ n2_; clear hb ho4))
  go_loopg [5, 6] k (fun kq v5 v6 w' => ∃ (x5_1 : List (List Int)) (x6_1 : Int), v6 = .int .i64 x6_1 ∧ Aside0 (geyserref04_Picked.l0 kq l0 l1 x5_1 x6_1 = some r) ∧ Aside0 (kq ≤ k) ∧ Aside0 (Kd.V (Kd.slice 5 (Kd.int .u8)) 42 w' w.heap.size (fun k_ => (P1_ k_ ∨ w.heap.size ≤ k_) ∧ some k_ ≠ (v5 : Value).ownBlock) (.slice A1 l1.length c1) l1) ∧ Aside0 (Kd.N (Kd.slice 5 (Kd.int .u8)) 42 w' w.heap.size (fun k_ => (P1_ k_ ∨ w.heap.size ≤ k_)) v5 x5_1) ∧ Aside0 (Below w.heap.size w w'))
  case atStart => exact ⟨(y461), (0), (by first | rfl | (simp; done) | (simp [*]; done)), H', ⟨Nat.le_refl _⟩, ⟨by (with_reducible repeat (first | apply Kd.V_alloc | apply Kd.V_drewN | apply Kd.V_drew)); exact HO1.out⟩, ⟨by (with_reducible repeat (first | apply Kd.N_alloc | apply Kd.N_drewN | apply Kd.N_drew)); exact HO463.out⟩, ⟨by repeat (first | (with_reducible first | exact HB.out | apply below_alloc | apply pw_below_drewN | apply below_drew1) | exact HB.out)⟩⟩
  case round =>
    clear H'
    try clear c1
    try clear p2
    try clear c4
    obtain ⟨x5_1, x6_1, rfl, HA, HK1, HO_1, HO_5, HB⟩ := hrel
    cases gk with
    | zero => exact absurd HA.out (by simp [geyserref04_Picked.l0])
    | succ k1 =>
      have H := HA.out
      clear HA
      simp only [geyserref04_Picked.l0] at H
      by_cases c5 : x6_1 < (l0.length : Int)
      · rw [if_pos c5] at H
        have c5b0 : decide (x6_1 < (l0.length : Int)) = true := decide_eq_true c5
        clear c5
        by_cases c6 : 0 ≤ x6_1
        · rw [if_pos c6] at H
          have c6b0 : decide (0 ≤ x6_1) = true := decide_eq_true c6
          clear c6
          by_cases c7 : 0 ≤ (rd l0 x6_1)
          · rw [if_pos c7] at H
            have c7b0 : decide (0 ≤ (rd l0 x6_1)) = true := decide_eq_true c7
            clear c7
            by_cases c8 : (rd l0 x6_1) < (l1.length : Int)
            · rw [if_pos c8] at H
              have c8b0 : decide ((rd l0 x6_1) < (l1.length : Int)) = true := decide_eq_true c8
              clear c8
              by_cases c9 : x5_1.length < 5864062014805
              · rw [if_pos c9] at H
                have LMc9 := Aside0.mk c9
                clear c9
                obtain ⟨y466, hy466⟩ : ∃ y_ : List (List Int), y_ = (x5_1 ++ [rd_Lsu8 l1 (rd l0 x6_1)]) := ⟨_, rfl⟩
                replace H : (geyserref04_Picked.l0 k1 l0 l1 y466 (wrap64 (x6_1 + 1))) = some r := by first | (rw [hy466]; with_reducible exact H) | (have H2_ := (Option.bind_some _ _).symm.trans H; rw [hy466]; with_reducible exact H2_) | (have H2_ := (Option.bind_some _ _).symm.trans H; with_reducible exact H2_) | with_reducible exact H | (rw [hy466]; exact H) | exact H
                have Ny466 := Aside0.mk hy466
                clear hy466
                have H' := Aside0.mk H
                clear H
                have p464 : 0 ≤ (x6_1 : Int) := of_decide_eq_true (by first | (with_reducible assumption) | assumption)
                have q464 : x6_1 < (l0.length : Int) := of_decide_eq_true (by first | (with_reducible assumption) | assumption)
                obtain ⟨ad464, e464, hx464_0⟩ := Kd.at_int HR0.out x6_1 p464 q464
                cases e464
                (first | replace hx464_0 := (HB.out.cell (World.block_lt_of_cell? w _ hx464_0)).trans hx464_0 | skip)
                replace p464 := eq_true p464
                replace q464 := eq_true q464
                have p465 : 0 ≤ ((rd l0 x6_1) : Int) := of_decide_eq_true (by first | (with_reducible assumption) | assumption)
                have q465 : (rd l0 x6_1) < (l1.length : Int) := of_decide_eq_true (by first | (with_reducible assumption) | assumption)
                obtain ⟨ad465, A465_0, c465_0, e465, hx465_0, hl465_0, hi465_0⟩ := at_Lsu8 (Kd.V_reads' HO_1.out).2.2 (rd l0 x6_1) p465 q465
                cases e465
                obtain ⟨ce465, hce465, hMe465, hcc465⟩ := Kd.V_get HO_1.out [] (rd l0 x6_1) p465 (by first | exact q465 | exact of_decide_eq_true (by first | (with_reducible assumption) | assumption) | (have e_ := (Kd.V_reads' HO_1.out).1; omega))
                obtain ⟨ua465_0, uc465_0, rfl, ul465_0, ge465_0⟩ := Kd.FK_slice_open hMe465
                have hv465_0 := hcc465 0 _ rfl
                rw [Nat.add_zero, show ((Kd.slice 5 (Kd.int .u8))).sz = 1 from rfl, Nat.mul_one] at hv465_0
                replace hv465_0 := Option.some.inj (hv465_0.symm.trans hx465_0)
                injection hv465_0 with hva_ hvn_ hvc_
                rw [hva_] at ge465_0
                rw [hvc_] at ul465_0
                have HL465_0 := Aside0.mk (show Kd.V (Kd.int .u8) 5 _ w.heap.size _ _ (rd_Lsu8 l1 (rd l0 x6_1)) from Kd.V_mk ul465_0 ge465_0)
                clear hva_ hvn_ hvc_ ge465_0 ul465_0
                clear hcc465 hce465
                have HR465_0 := Aside0.mk hi465_0
                have HC465_0 := Aside0.mk hl465_0
                clear hi465_0 hl465_0
                replace p465 := eq_true p465
                replace q465 := eq_true q465
                go_wp2_with (first | ((with_reducible refine gate_builtin (b := .append) (xs := #[.tmp 14, .tmp 22]) rfl ?_); at_builtin; refine Kd.N_append (Kd.slice 5 (Kd.int .u8)) (w0 := w) w.heap.size rfl (.tmp 14) (.tmp 22) 40 42 (.slice none 0 0) 24 rfl Tryd.underlying40 info42 rfl (by decide) (by omega) u5 x5_1 (rd_Lsu8 l1 (rd l0 x6_1)) [.slice A465_0 (rd_Lsu8 l1 (rd l0 x6_1)).length c465_0] (fun k_ => (P1_ k_ ∨ w.heap.size ≤ k_)) (fun k_ => ((fun k_ => (P1_ k_ ∨ w.heap.size ≤ k_))) k_ ∧ some k_ ≠ (u5 : Value).ownBlock) rfl rfl ?aP (fun _ hk => hk) ?aF ?aO ?aB ?aS ?aL ?_; (case aP => exact (Kd.FK_slice_mk (Kd.V_reads' (Kd.V_mono (ok' := (fun k_ => ((fun k_ => (P1_ k_ ∨ w.heap.size ≤ k_))) k_ ∧ some k_ ≠ (u5 : Value).ownBlock)) (HL465_0.out) (fun k_ hk => ⟨hk.1, hk.2⟩))).2.1 (Kd.V_F (Kd.V_mono (ok' := (fun k_ => ((fun k_ => (P1_ k_ ∨ w.heap.size ≤ k_))) k_ ∧ some k_ ≠ (u5 : Value).ownBlock)) (HL465_0.out) (fun k_ hk => ⟨hk.1, hk.2⟩))))); (case aB => exact (by repeat (first | (with_reducible first | exact HB.out | apply below_alloc | apply pw_below_drewN | apply below_drew1) | exact HB.out))); (case aF => exact (fun k_ hk => (.inr (Nat.le_trans (below_size (by repeat (first | (with_reducible first | exact HB.out | apply below_alloc | apply pw_below_drewN | apply below_drew1) | exact HB.out))) hk)))); (case aO => exact (by (with_reducible repeat (first | apply Kd.N_alloc | apply Kd.N_drewN | apply Kd.N_drew)); exact HO_5.out)); (case aS => exact (below_size (by repeat (first | (with_reducible first | exact HB.out | apply below_alloc | apply pw_below_drewN | apply below_drew1) | exact HB.out)))); (case aL => have := LMc9.out; omega); intro v467 w10 ho hb hg hat; rw [← Ny466.out] at ho; have n0_ := Aside0.mk (Kd.V_afterv (ok := (fun k_ => (P1_ k_ ∨ w.heap.size ≤ k_))) (by (with_reducible repeat (first | apply Kd.V_alloc | apply Kd.V_drewN | apply Kd.V_drew)); exact HO_1.out) hg hat); have n1_ := Aside0.mk (Kd.V_afterv (ok := (fun k_ => (P1_ k_ ∨ w.heap.size ≤ k_))) (by (with_reducible repeat (first | apply Kd.V_alloc | apply Kd.V_drewN | apply Kd.V_drew)); exact HL465_0.out) hg hat); have n2_ := Aside0.mk (hb); have n3_ := Aside0.mk (ho); clear HO_1; clear HL465_0; clear HB; clear HO_5; have HO_1 := n0_; have HL465_0 := n1_; have HB := n2_; have HO468 := n3_; clear n0_ n1_ n2_ n3_; clear ho hb hg hat))
                go_roundg k1
                case measure => have := HK1.out; omega
                case rel => exact ⟨(y466), (wrap64 (x6_1 + 1)), (by first | rfl | (simp; done) | (simp [*]; done)), H', ⟨by have := HK1.out; omega⟩, ⟨by (with_reducible repeat (first | apply Kd.V_alloc | apply Kd.V_drewN | apply Kd.V_drew)); exact HO_1.out⟩, ⟨by (with_reducible repeat (first | apply Kd.N_alloc | apply Kd.N_drewN | apply Kd.N_drew)); exact HO468.out⟩, ⟨by repeat (first | (with_reducible first | exact HB.out | apply below_alloc | apply pw_below_drewN | apply below_drew1) | exact HB.out)⟩⟩
              · rw [if_neg c9] at H
                exact absurd H (by simp)
            · rw [if_neg c8] at H
              exact absurd H (by simp)
          · rw [if_neg c7] at H
            exact absurd H (by simp)
        · rw [if_neg c6] at H
          exact absurd H (by simp)
      · rw [if_neg c5] at H
        have c5b0 : decide (x6_1 < (l0.length : Int)) = false := decide_eq_false c5
        clear c5
        obtain rfl := Option.some.inj H
        go_wp2
        go_ret
        exact ⟨_, by first | rfl | (simp [errW_none, errW_some] <;> rfl) | (simp [*, errW_none, errW_some] <;> rfl), by (with_reducible repeat (first | apply Kd.N_alloc | apply Kd.N_drewN | apply Kd.N_drew)); exact HO_5.out, by repeat (first | (with_reducible first | exact HB.out | apply below_alloc | apply pw_below_drewN | apply below_drew1) | exact HB.out)⟩

end Go.Proofs.YtnigpfaecibdfaaDoor.P

namespace Go.Proofs.YtnigpfaecibdfaaDoor.P
open Go.RowKit Go.Proofs.YtnigpfaecibdfaaDoorW.PrintWords Go.Proofs.YtnigpfaecibdfaaDoorW.PrintLast Go.Proofs.YtnigpfaecibdfaaDoorW.PrintErr Go.Proofs.YtnigpfaecibdfaaDoorW.PrintMore
attribute [local go_sem] max2_int min2_int max_two min_two max_three min_three max_four min_four run_eql_errOf run_neq_errOf eqGuard_errOf   -- for this text's walks alone
set_option linter.unusedVariables false
set_option linter.unusedSimpArgs false

/-! ### geyserlaw04_tells: function 30 -/
theorem geyserlaw04_tells.bytes_beq (s c : ByteArray) : (s.toList == c.toList) = decide (s = c) := by
  rw [Bool.eq_iff_iff]
  simp only [beq_iff_eq, decide_eq_true_iff]
  rw [ByteArray.toList_eq, ByteArray.toList_eq]
  constructor
  · intro h
    cases s
    cases c
    congr 1
    exact Array.toList_inj.1 h
  · rintro rfl; rfl
set_option maxHeartbeats 8000000 in
set_option maxRecDepth 100000 in
theorem geyserlaw04_tells.flat (e : Addr) (n m : Int) (s call : ByteArray) (w : World) (hg : w.cell? ⟨1, 0, none⟩ = some (.iface 95 (.agg #[.pointer (some ⟨2, 31, none⟩)]))) (he0 : w.cell? e = some (.string s)) (he1 : w.cell? (e.add 1) = some (.iface 69 (.int .i64 m))) (hn : n ≠ 0) :
    Calls Tryd.prog 30 #[.iface 74 (.pointer (some e)), .int .i64 n, .string call] w fun ev w' => ev = .returned (.bool (decide (m = n) && decide (s = call))) ∧ Below w.heap.size w w' := by
  have hn1 : (n == 0) = false := by simpa using hn
  have hl1 : 1 < w.heap.size := cell_old hg
  have hl2 := cell_old he0
  have hl3 := cell_old he1
  obtain ⟨w1, hw1⟩ : ∃ w1, w1 = (w.alloc (.cells #[.int .i64 0] 69)).alloc (.cells #[.pointer none] 74) := ⟨_, rfl⟩
  have hk : ∀ a : Addr, a.block < w.heap.size → w1.cell? a = w.cell? a := by
    intro a h
    rw [hw1, World.cell?_alloc_lt _ _ a (by simp only [World.size_alloc]; omega), World.cell?_alloc_lt _ _ a h]
  have hs1 : w1.heap.size = w.heap.size + 1 + 1 := by rw [hw1, World.size_alloc, World.size_alloc]
  have hb1 : Below w.heap.size w w1 := by rw [hw1]; exact Below.alloc (Below.alloc (Below.refl _ _) (Nat.le_refl _) _) (by simp only [World.size_alloc]; omega) _
  have ht1 : w1.cell? ⟨w.heap.size, 0, none⟩ = some (.int .i64 0) := by rw [hw1, World.cell?_alloc_lt _ _ ⟨w.heap.size, 0, none⟩ (by simp only [World.size_alloc]; omega)]; simp
  have hf1 : w1.frozen? ⟨w.heap.size, 0, none⟩ = false := by rw [hw1, World.frozen?_alloc_old _ _ ⟨w.heap.size, 0, none⟩ (by simp only [World.size_alloc]; omega)]; simp
  have ht2 : w1.cell? ⟨w.heap.size + 1, 0, none⟩ = some (.pointer none) := by rw [hw1, World.cell?_alloc_at _ _ _ _ (by simp only [World.size_alloc])]; rfl
  have hf2 : w1.frozen? ⟨w.heap.size + 1, 0, none⟩ = false := by rw [hw1]; exact World.frozen?_alloc_at _ _ _ _ (by simp only [World.size_alloc])
  have c1 := as_num_k e ⟨w.heap.size, 0, none⟩ m (.int .i64 0) w1 ((hk _ hl1).trans hg) ((hk _ hl3).trans he1) ht1 hf1
  have c2 : ∀ w2, AsKept w1 w2 ⟨w.heap.size, 0, none⟩ (.int .i64 m) → Calls Tryd.prog 56 #[.iface 74 (.pointer (some e)), .iface 77 (.pointer (some ⟨w.heap.size + 1, 0, none⟩))] w2 fun ev w' => ev = .returned (.bool true) ∧ AsKept w2 w' ⟨w.heap.size + 1, 0, none⟩ (.pointer (some e)) := by
    intro w2 hA
    refine as_hit_k e ⟨w.heap.size + 1, 0, none⟩ (.pointer none) w2 ?_ ?_ ?_
    · rw [hA.old _ (fun h_ => by injection h_; omega) (by show 1 < _; omega)]; exact (hk _ hl1).trans hg
    · rw [hA.old _ (by simp) (by simp only []; omega)]; exact ht2
    · rw [hA.froz _ (by simp only []; omega)]; exact hf2
  go_enter Tryd.func30, Tryd.ntmps30
  go_wp2_with (first | (go_at_call 56; (first | (rw [← hw1]; refine c1.mono ?_; rintro ev w2 ⟨rfl, hA⟩; have hc2 := c2 w2 hA; clear c1 c2) | (refine hc2.mono ?_; rintro ev w3 ⟨rfl, hA2⟩; have k1 : w3.cell? ⟨w.heap.size, 0, none⟩ = some (.int .i64 m) := (hA2.old _ (fun h_ => by injection h_; omega) (by have := hA.size; show w.heap.size < _; omega)).trans hA.got; have k2 := hA2.got; have k3 : w3.cell? e = some (.string s) := (hA2.old _ (fun h_ => by rw [h_] at hl2; exact absurd hl2 (by show ¬ w.heap.size + 1 < w.heap.size; omega)) (by have := hA.size; omega)).trans ((hA.old _ (fun h_ => by rw [h_] at hl2; exact absurd hl2 (by show ¬ w.heap.size < w.heap.size; omega)) (by omega)).trans ((hk _ hl2).trans he0))))))
  all_goals go_ret
  all_goals refine ⟨?_, hA2.below _ _ (by show w.heap.size ≤ w.heap.size + 1; omega) (hA.below _ _ (Nat.le_refl _) hb1)⟩
  all_goals simp_all [geyserlaw04_tells.bytes_beq]
def geyserlaw04_tells.f (l : List FE) (n : Int) (call : ByteArray) : Option Bool :=
  if n = 0 then some ((l.length : Int) == 0) else match l with
    | [] => some false
    | [x] => if x.flat = true then some (decide (x.num = n) && decide (x.call = call)) else none
    | _ :: _ :: _ => none
set_option maxHeartbeats 8000000 in
set_option maxRecDepth 100000 in
theorem geyserlaw04_tells.calls (A0 : Option Addr) (c0 : Nat) (l0 : List FE) (a1 : Int) (a2 : ByteArray) (r : Bool) (w : World) (he : ErrIn w) (hr0 : Kd.C kF w A0 l0.length l0) (hc0 : l0.length ≤ c0) (h : geyserlaw04_tells.f l0 a1 a2 = some r) :
    Calls Tryd.prog 30 #[errOf (.slice A0 l0.length c0), .int .i64 a1, .string a2] w fun e w' => e = .returned (.bool r) ∧ Below w.heap.size w w' := by
  unfold geyserlaw04_tells.f at h
  by_cases h0 : a1 = 0
  · subst h0
    rw [if_pos rfl] at h
    obtain rfl := Option.some.inj h
    clear hr0 he
    go_enter Tryd.func30, Tryd.ntmps30
    go_wp2
    go_ret
    exact ⟨by first | rfl | simp, Below.refl _ _⟩
  · rw [if_neg h0] at h
    have hn1 : (a1 == 0) = false := by simpa using h0
    match l0, hr0, hc0, h with
    | [], _, _, h =>
      obtain rfl := Option.some.inj h
      rw [show errOf (.slice A0 ([] : List FE).length c0) = .nilIface from rfl]
      go_enter Tryd.func30, Tryd.ntmps30
      go_wp2
      go_ret
      exact ⟨by first | rfl | simp, Below.refl _ _⟩
    | [x], hr0, _, h =>
      by_cases hf : x.flat = true
      · simp only [if_pos hf] at h
        obtain rfl := Option.some.inj h
        obtain ⟨ad, cs, e1, _, hK, hc⟩ := Kd.C_get hr0 zFE 0 (by omega) (by simp)
        obtain ⟨u, y, hcs, hu⟩ := hK
        have hx : ([x] : List FE).getD (0 : Int).toNat zFE = x := rfl
        rw [hx] at hcs hu
        obtain ⟨rfl, rfl⟩ := hu hf
        subst hcs
        have k0 := hc 0 _ rfl
        have k1 := hc 1 _ rfl
        rw [e1]
        refine geyserlaw04_tells.flat ad a1 x.num x.call a2 w he ?_ ?_ h0
        · exact k0
        · exact k1
      · simp [hf] at h
    | _ :: _ :: _, _, _, h => simp at h

end Go.Proofs.YtnigpfaecibdfaaDoor.P

namespace Go.Proofs.YtnigpfaecibdfaaDoor.Pure
open Go.RowKit Go.Proofs.YtnigpfaecibdfaaDoor.P Go.Proofs.YtnigpfaecibdfaaDoorW.PrintWords Go.Proofs.YtnigpfaecibdfaaDoorW.PrintLast Go.Proofs.YtnigpfaecibdfaaDoorW.PrintErr Go.Proofs.YtnigpfaecibdfaaDoorW.PrintMore
set_option linter.unusedVariables false
set_option linter.unusedSimpArgs false
theorem add_l0 (S : List Int) : ∀ (P Q T X Y : List Int), P.length = Q.length → X.length = P.length → T.length = S.length → Y.length = S.length → (P ++ S).length < 9223372036854775807 →
    Ev (fun k => geyserref04_Add.l0 k (P ++ S) (Q ++ T) (X ++ Y) (P.length : Int)) (X ++ addB S T) := by
  induction S with
  | nil =>
    intro P Q T X Y hPQ hX hT hY hP
    obtain rfl : T = [] := List.eq_nil_of_length_eq_zero (by simpa using hT)
    obtain rfl : Y = [] := List.eq_nil_of_length_eq_zero (by simpa using hY)
    have e : addB [] [] = [] := rfl
    rw [e]
    refine Ev.step (f := fun _ => some (X ++ [])) (fun k => ?_) (Ev.now _)
    rw [geyserref04_Add.l0, if_neg (by simp)]
  | cons s S ih =>
    intro P Q T X Y hPQ hX hT hY hP
    obtain ⟨t, T, rfl⟩ : ∃ t T', T = t :: T' := by cases T with | nil => simp at hT | cons t T => exact ⟨t, T, rfl⟩
    obtain ⟨y, Y, rfl⟩ : ∃ t T', Y = t :: T' := by cases Y with | nil => simp at hY | cons t T => exact ⟨t, T, rfl⟩
    have h1 : (P ++ s :: S).length = P.length + (S.length + 1) := by simp
    have h2 : (Q ++ t :: T).length = P.length + (S.length + 1) := by simp at hT ⊢; omega
    have h3 : (X ++ y :: Y).length = P.length + (S.length + 1) := by simp at hY ⊢; omega
    have h' := ih (P ++ [s]) (Q ++ [t]) T (X ++ [bxor s t]) Y (by simp [hPQ]) (by simp [hX]) (by simpa using hT) (by simpa using hY) (by simpa using hP)
    have e1 : P ++ [s] ++ S = P ++ s :: S := by simp
    have e2 : Q ++ [t] ++ T = Q ++ t :: T := by simp
    have e3 : X ++ [bxor s t] ++ Y = X ++ bxor s t :: Y := by simp
    have e4 : X ++ [bxor s t] ++ addB S T = X ++ addB (s :: S) (t :: T) := by simp [addB]
    have e5 : ((P ++ [s]).length : Int) = wrap64 ((P.length : Int) + 1) := by rw [w64s (by omega) (by omega)]; simp
    rw [e1, e2, e3, e4, e5] at h'
    refine Ev.step (fun k => ?_) h'
    have r1 : rd (P ++ s :: S) (P.length : Int) = s := rd_mid P S s
    have r2 : rd (Q ++ t :: T) (P.length : Int) = t := by rw [hPQ]; exact rd_mid Q T t
    have r3 : (X ++ y :: Y).set (P.length : Int).toNat (Go.bits .xor .u8 s t) = X ++ bxor s t :: Y := by
      rw [Int.toNat_natCast, ← hX, List.set_append_right _ _ (Nat.le_refl _), Nat.sub_self]; rfl
    rw [geyserref04_Add.l0, if_pos (by omega), if_pos (by omega), if_pos (by omega), if_pos (by omega), r1, r2, r3]
theorem add_ev (a b : List Int) (h : a.length = b.length) (ha : a.length ≤ 281474976710656) : Ev (fun k => geyserref04_Add.f k a b) (addB a b) := by
  unfold geyserref04_Add.f
  have hx := add_l0 a [] [] b [] (List.replicate a.length 0) rfl rfl h.symm (by simp) (by simp; omega)
  refine Ev.congr (fun k => ?_) hx
  rw [if_pos (by omega), if_pos (by omega), Int.toNat_natCast]
  rfl
theorem rsum_l0 (S : List (List Int)) : ∀ (P : List (List Int)) (x : List Int), (P ++ S).length < 9223372036854775807 → (∀ s ∈ S, s.length = x.length) → x.length ≤ 281474976710656 →
    Ev (fun k => geyserref04_Sum.l0 k (P ++ S) x (P.length : Int)) (sumB x S) := by
  induction S with
  | nil =>
    intro P x hP _ _
    refine Ev.step (f := fun _ => some x) (fun k => ?_) (Ev.now x)
    rw [geyserref04_Sum.l0, if_neg (by simp)]
  | cons s S ih =>
    intro P x hP hS hx
    have hs : s.length = x.length := hS s (by simp)
    have h1 := addB_length x s hs
    have h' := ih (P ++ [s]) (addB x s) (by simpa using hP) (fun t ht => by rw [h1]; exact hS t (by simp [ht])) (by rw [h1]; exact hx)
    have hl : (P ++ s :: S).length = P.length + (S.length + 1) := by simp
    have e1 : P ++ [s] ++ S = P ++ s :: S := by simp
    have e2 : ((P ++ [s]).length : Int) = wrap64 ((P.length : Int) + 1) := by rw [w64s (by omega) (by omega)]; simp
    rw [e1, e2] at h'
    refine Ev.step (fun k => ?_) (Ev.bind (f := fun k t => geyserref04_Sum.l0 k (P ++ s :: S) t (wrap64 ((P.length : Int) + 1))) (add_ev x s hs.symm hx) h')
    rw [geyserref04_Sum.l0, if_pos (by omega), if_pos (by omega), rd_row]
theorem rsum_ev (l : List (List Int)) (n : Int) (hl : l.length < 9223372036854775807) (h1 : 1 ≤ n) (h2 : n ≤ 64) (h : ∀ s ∈ l, (s.length : Int) = n) : Ev (fun k => geyserref04_Sum.f k l n) (sumB (zeros n) l) := by
  unfold geyserref04_Sum.f
  have hx := rsum_l0 l [] (zeros n) (by simpa using hl) (fun s hs => by have := h s hs; simp [zeros]; omega) (by simp [zeros]; omega)
  refine Ev.congr (fun k => ?_) hx
  rw [if_pos (by omega), if_pos (by omega)]
  rfl
theorem rcheck_l0 (n : Int) (S : List (List Int)) : ∀ P : List (List Int), (P ++ S).length < 9223372036854775807 →
    Ev (fun k => geyserref04_Check.l0 k (P ++ S) n (P.length : Int)) (if ∀ s ∈ S, (s.length : Int) = n then 0 else 2) := by
  induction S with
  | nil =>
    intro P hP
    refine Ev.step (f := fun _ => some 0) (fun k => ?_) (Ev.now _)
    rw [geyserref04_Check.l0, if_neg (by simp)]
  | cons s S ih =>
    intro P hP
    have hl : (P ++ s :: S).length = P.length + (S.length + 1) := by simp
    by_cases hs : (s.length : Int) = n
    · have h' := ih (P ++ [s]) (by simpa using hP)
      have e1 : P ++ [s] ++ S = P ++ s :: S := by simp
      have e2 : ((P ++ [s]).length : Int) = wrap64 ((P.length : Int) + 1) := by rw [w64s (by omega) (by omega)]; simp
      have e3 : (if ∀ t ∈ s :: S, (t.length : Int) = n then (0 : Int) else 2) = (if ∀ t ∈ S, (t.length : Int) = n then 0 else 2) := by
        simp [hs]
      rw [e1, e2] at h'
      rw [e3]
      refine Ev.step (fun k => ?_) h'
      rw [geyserref04_Check.l0, if_pos (by omega), if_pos (by omega), rd_row, if_pos hs]
    · have e3 : (if ∀ t ∈ s :: S, (t.length : Int) = n then (0 : Int) else 2) = 2 := if_neg (fun h => hs (h s (by simp)))
      rw [e3]
      refine Ev.step (f := fun _ => some 2) (fun k => ?_) (Ev.now _)
      rw [geyserref04_Check.l0, if_pos (by omega), if_pos (by omega), rd_row, if_neg hs]
theorem rcheck_ev (l : List (List Int)) (n : Int) (hl : l.length < 9223372036854775807) : Ev (fun k => geyserref04_Check.f k l n) (sizeBad l n) := by
  unfold geyserref04_Check.f sizeBad
  by_cases h1 : n < 1
  · rw [if_pos (.inl h1)]
    refine Ev.step (f := fun _ => some 1) (fun k => ?_) (Ev.now _)
    rw [if_pos h1, geyserref04_Check.j0, if_pos rfl]
  · by_cases h2 : n > 64
    · rw [if_pos (.inr h2)]
      refine Ev.step (f := fun _ => some 1) (fun k => ?_) (Ev.now _)
      rw [if_neg h1, decide_eq_true h2, geyserref04_Check.j0, if_pos rfl]
    · rw [if_neg (by omega)]
      have := rcheck_l0 n l [] (by simpa using hl)
      refine Ev.step (fun k => ?_) this
      rw [if_neg h1, decide_eq_false h2, geyserref04_Check.j0, if_neg (by simp)]
      rfl
theorem rzero_l0 (S : List Int) : ∀ P : List Int, (P ++ S).length < 9223372036854775807 → Ev (fun k => geyserref04_Zero.l0 k (P ++ S) (P.length : Int)) (allZero S) := by
  induction S with
  | nil =>
    intro P hP
    refine Ev.step (f := fun _ => some true) (fun k => ?_) (Ev.now _)
    rw [geyserref04_Zero.l0, if_neg (by simp)]
  | cons s S ih =>
    intro P hP
    have hl : (P ++ s :: S).length = P.length + (S.length + 1) := by simp
    by_cases hs : s = 0
    · have h' := ih (P ++ [s]) (by simpa using hP)
      have e1 : P ++ [s] ++ S = P ++ s :: S := by simp
      have e2 : ((P ++ [s]).length : Int) = wrap64 ((P.length : Int) + 1) := by rw [w64s (by omega) (by omega)]; simp
      have e3 : allZero (s :: S) = allZero S := by simp [allZero, hs]
      rw [e1, e2] at h'
      rw [e3]
      refine Ev.step (fun k => ?_) h'
      rw [geyserref04_Zero.l0, if_pos (by omega), if_pos (by omega), rd_mid, if_pos hs]
    · have e3 : allZero (s :: S) = false := by simp [allZero, hs]
      rw [e3]
      refine Ev.step (f := fun _ => some false) (fun k => ?_) (Ev.now _)
      rw [geyserref04_Zero.l0, if_pos (by omega), if_pos (by omega), rd_mid, if_neg hs]
theorem rzero_ev (l : List Int) (hl : l.length < 9223372036854775807) : Ev (fun k => geyserref04_Zero.f k l) (allZero l) := by
  have := rzero_l0 l [] (by simpa using hl)
  exact this
theorem rcopy_l0 (S : List (List Int)) : ∀ P : List (List Int), (P ++ S).length < 5864062014805 → (∀ s ∈ S, s.length < 140737488355328) →
    Ev (fun k => geyserref04_Copy.l0 k (P ++ S) P (P.length : Int)) (P ++ S) := by
  induction S with
  | nil =>
    intro P hP _
    rw [List.append_nil]
    refine Ev.step (f := fun _ => some P) (fun k => ?_) (Ev.now _)
    rw [geyserref04_Copy.l0, if_neg (by simp)]
  | cons s S ih =>
    intro P hP hS
    have hl : (P ++ s :: S).length = P.length + (S.length + 1) := by simp
    have h' := ih (P ++ [s]) (by simpa using hP) (fun t ht => hS t (by simp [ht]))
    have e1 : P ++ [s] ++ S = P ++ s :: S := by simp
    have e2 : ((P ++ [s]).length : Int) = wrap64 ((P.length : Int) + 1) := by rw [w64s (by omega) (by omega)]; simp
    rw [e1, e2] at h'
    have hs := hS s (by simp)
    refine Ev.step (fun k => ?_) h'
    rw [geyserref04_Copy.l0, if_pos (by omega)]
    simp only [Option.bind_some, List.nil_append, List.length_nil]
    rw [if_pos (by omega), rd_row, if_pos (by omega), if_pos (by omega)]
theorem rcopy_ev (l : List (List Int)) (hl : l.length < 5864062014805) (h : ∀ s ∈ l, s.length < 140737488355328) : Ev (fun k => geyserref04_Copy.f k l) l := by
  have := rcopy_l0 l [] (by simpa using hl) h
  exact this
theorem rsame_l0 (S : List (List Int)) : ∀ P : List (List Int), (P ++ S).length < 9223372036854775807 → Ev (fun k => geyserref04_Same.l0 k (P ++ S) (P ++ S) (P.length : Int)) true := by
  induction S with
  | nil =>
    intro P hP
    refine Ev.step (f := fun _ => some true) (fun k => ?_) (Ev.now _)
    rw [geyserref04_Same.l0, if_neg (by simp)]
  | cons c S ih =>
    intro P hP
    have hlen : (P ++ c :: S).length = P.length + (S.length + 1) := by simp
    have h' := ih (P ++ [c]) (by simpa using hP)
    have e1 : P ++ [c] ++ S = P ++ c :: S := by simp
    have e2 : ((P ++ [c]).length : Int) = wrap64 ((P.length : Int) + 1) := by rw [w64s (by omega) (by omega)]; simp
    rw [e1, e2] at h'
    refine Ev.step (fun k => ?_) h'
    rw [geyserref04_Same.l0, if_pos (by omega), if_pos (by omega), if_pos (by omega), if_pos rfl]
theorem rsame_ev (a : List (List Int)) (h : a.length < 9223372036854775807) : Ev (fun k => geyserref04_Same.f k a a) true := by
  unfold geyserref04_Same.f
  simp only [if_true]
  exact rsame_l0 a [] (by simpa using h)
theorem picked_l0 (l : List (List Int)) (S : List Int) : ∀ (P : List Int) (acc : List (List Int)), (P ++ S).length < 5864062014805 → acc.length = P.length → (∀ c ∈ S, 0 ≤ c ∧ c < (l.length : Int)) →
    Ev (fun k => geyserref04_Picked.l0 k (P ++ S) l acc (P.length : Int)) (acc ++ S.map (rd_Lsu8 l)) := by
  induction S with
  | nil =>
    intro P acc hP _ _
    have e : acc ++ ([] : List Int).map (rd_Lsu8 l) = acc := by simp
    rw [e]
    refine Ev.step (f := fun _ => some acc) (fun k => ?_) (Ev.now _)
    rw [geyserref04_Picked.l0, if_neg (by simp)]
  | cons c S ih =>
    intro P acc hP hacc hS
    have hlen : (P ++ c :: S).length = P.length + (S.length + 1) := by simp
    obtain ⟨hc0, hc1⟩ := hS c (by simp)
    have h' := ih (P ++ [c]) (acc ++ [rd_Lsu8 l c]) (by simpa using hP) (by simp [hacc]) (fun t ht => hS t (by simp [ht]))
    have e1 : P ++ [c] ++ S = P ++ c :: S := by simp
    have e2 : ((P ++ [c]).length : Int) = wrap64 ((P.length : Int) + 1) := by rw [w64s (by omega) (by omega)]; simp
    have e3 : acc ++ [rd_Lsu8 l c] ++ S.map (rd_Lsu8 l) = acc ++ (c :: S).map (rd_Lsu8 l) := by simp
    rw [e1, e2, e3] at h'
    refine Ev.step (fun k => ?_) h'
    rw [geyserref04_Picked.l0, if_pos (by omega), if_pos (by omega), rd_mid, if_pos hc0, if_pos hc1, if_pos (by omega)]
theorem picked_ev (at_ : List Int) (l : List (List Int)) (h : at_.length < 5864062014805) (hc : ∀ c ∈ at_, 0 ≤ c ∧ c < (l.length : Int)) : Ev (fun k => geyserref04_Picked.f k at_ l) (at_.map (rd_Lsu8 l)) := by
  have := picked_l0 l at_ [] [] (by simpa using h) rfl hc
  rw [List.nil_append, List.nil_append] at this
  exact this
theorem tells04_none (c : ByteArray) : geyserlaw04_tells.f [] 0 c = some true := rfl
theorem tells04_flat (c : ByteArray) (n : Int) (h : n ≠ 0) : geyserlaw04_tells.f [⟨c, true, n⟩] n c = some true := by
  unfold geyserlaw04_tells.f
  rw [if_neg h]
  simp
theorem sizeBad_ne {l : List (List Int)} {n : Int} : sizeBad l n = 0 ∨ sizeBad l n ≠ 0 := by omega
end Go.Proofs.YtnigpfaecibdfaaDoor.Pure

namespace Go.Proofs.YtnigpfaecibdfaaDoor.P
open Go.RowKit Go.Proofs.YtnigpfaecibdfaaDoorW.PrintWords Go.Proofs.YtnigpfaecibdfaaDoorW.PrintLast Go.Proofs.YtnigpfaecibdfaaDoorW.PrintErr Go.Proofs.YtnigpfaecibdfaaDoorW.PrintMore
attribute [local go_sem] max2_int min2_int max_two min_two max_three min_three max_four min_four run_eql_errOf run_neq_errOf eqGuard_errOf   -- for this text's walks alone
set_option linter.unusedVariables false
set_option linter.unusedSimpArgs false

/-! ### geyserref04_Split: function 39 -/
mutual
def geyserref04_Split.l0 : Nat → List Int → Int → List (List Int) → Int → Option ((List (List Int)))
  | 0, _, _, _, _ => none
  | k + 1, x0, x1, x5, x6 => if x6 < (x0.length : Int) then (if 0 ≤ x1 then (if (x1 : Int).toNat ≤ 281474976710656 then (geyserref04_Split.l1 k x0 x1 x5 x6 (List.replicate (x1 : Int).toNat 0) 0) else (none)) else (none)) else (some x5)
def geyserref04_Split.l1 : Nat → List Int → Int → List (List Int) → Int → List Int → Int → Option ((List (List Int)))
  | 0, _, _, _, _, _, _ => none
  | k + 1, x0, x1, x5, x6, x7, x8 => if x8 < x1 then (if (wrap64 (x6 + x8)) < (x0.length : Int) then (if 0 ≤ (wrap64 (x6 + x8)) then (if 0 ≤ x8 then (if x8 < (x7.length : Int) then (geyserref04_Split.l1 k x0 x1 x5 x6 (x7.set (x8 : Int).toNat (rd x0 (wrap64 (x6 + x8)))) (wrap64 (x8 + 1))) else (none)) else (none)) else (none)) else (if x5.length < 5864062014805 then (geyserref04_Split.l0 k x0 x1 (x5 ++ [x7]) (wrap64 (x6 + x1))) else (none))) else (if x5.length < 5864062014805 then (geyserref04_Split.l0 k x0 x1 (x5 ++ [x7]) (wrap64 (x6 + x1))) else (none))
end
def geyserref04_Split.f (k : Nat) (l0 : List Int) (a1 : Int) : Option ((List (List Int))) := geyserref04_Split.l0 k l0 a1 (([] : List (List Int))) 0
theorem geyserref04_Split.mono_l : ∀ k, (∀ y0 y1 y2 y3, LeO (geyserref04_Split.l0 k y0 y1 y2 y3) (geyserref04_Split.l0 (k + 1) y0 y1 y2 y3)) ∧ (∀ y0 y1 y2 y3 y4 y5, LeO (geyserref04_Split.l1 k y0 y1 y2 y3 y4 y5) (geyserref04_Split.l1 (k + 1) y0 y1 y2 y3 y4 y5))
  | 0 => ⟨fun _ _ _ _ r h => by simp [geyserref04_Split.l0] at h, fun _ _ _ _ _ _ r h => by simp [geyserref04_Split.l1] at h⟩
  | k + 1 => by
    obtain ⟨ih0, ih1⟩ := geyserref04_Split.mono_l k
    refine ⟨?_, ?_⟩
    · intro y0 y1 y2 y3
      unfold geyserref04_Split.l0
      repeat' first
      | (with_reducible exact ih0 _ _ _ _)
      | (with_reducible exact ih1 _ _ _ _ _ _)
      | (with_reducible exact LeO.refl _)
      | (with_reducible exact LeO.none _)
      | (with_reducible refine LeO.ite ?_ ?_)
      | (with_reducible refine LeO.bind ?_ (fun _ => ?_))
      | exact ih0 _ _ _ _
      | exact ih1 _ _ _ _ _ _
      | exact LeO.none _
      | refine LeO.ite ?_ ?_
      | refine LeO.bind ?_ (fun _ => ?_)
    · intro y0 y1 y2 y3 y4 y5
      unfold geyserref04_Split.l1
      repeat' first
      | (with_reducible exact ih0 _ _ _ _)
      | (with_reducible exact ih1 _ _ _ _ _ _)
      | (with_reducible exact LeO.refl _)
      | (with_reducible exact LeO.none _)
      | (with_reducible refine LeO.ite ?_ ?_)
      | (with_reducible refine LeO.bind ?_ (fun _ => ?_))
      | exact ih0 _ _ _ _
      | exact ih1 _ _ _ _ _ _
      | exact LeO.none _
      | refine LeO.ite ?_ ?_
      | refine LeO.bind ?_ (fun _ => ?_)
theorem geyserref04_Split.mono : ∀ a0 a1 k, LeO (geyserref04_Split.f k a0 a1) (geyserref04_Split.f (k + 1) a0 a1) := by
  intro a0 a1 k
  obtain ⟨ih0, ih1⟩ := geyserref04_Split.mono_l k
  unfold geyserref04_Split.f
  repeat' first
      | (with_reducible exact ih0 _ _ _ _)
      | (with_reducible exact ih1 _ _ _ _ _ _)
      | (with_reducible exact LeO.refl _)
      | (with_reducible exact LeO.none _)
      | (with_reducible refine LeO.ite ?_ ?_)
      | (with_reducible refine LeO.bind ?_ (fun _ => ?_))
      | exact ih0 _ _ _ _
      | exact ih1 _ _ _ _ _ _
      | exact LeO.none _
      | refine LeO.ite ?_ ?_
      | refine LeO.bind ?_ (fun _ => ?_)
set_option maxHeartbeats 8000000 in
set_option maxRecDepth 100000 in
theorem geyserref04_Split.calls (k : Nat) (A0 : Option Addr) (c0 : Nat) (l0 : List Int) (a1 : Int) (r : List (List Int)) (w : World) (hr0 : Kd.C (Kd.int .u8) w A0 l0.length l0) (hc0 : l0.length ≤ c0) (h : geyserref04_Split.f k l0 a1 = some r) :
    Calls Tryd.prog 39 #[.slice A0 l0.length c0, .int .i64 a1] w fun e w' => ∃ v0_ : Value, e = .returned (v0_) ∧ Kd.S (Kd.slice 5 (Kd.int .u8)) 42 w' w.heap.size (fun _ => True) v0_ r ∧ Below w.heap.size w w' := by
  have HR0 := Aside0.mk hr0
  have HC0 := Aside0.mk hc0
  clear hr0 hc0
  have HB := Aside0.mk (Below.refl w.heap.size w)
  have H : (geyserref04_Split.l0 k l0 a1 (([] : List (List Int))) 0) = some r := h
  clear h
  obtain ⟨y404, hy404⟩ : ∃ y_ : List (List Int), y_ = (([] : List (List Int))) := ⟨_, rfl⟩
  replace H : (geyserref04_Split.l0 k l0 a1 y404 0) = some r := by first | (rw [hy404]; with_reducible exact H) | (have H2_ := (Option.bind_some _ _).symm.trans H; rw [hy404]; with_reducible exact H2_) | (have H2_ := (Option.bind_some _ _).symm.trans H; with_reducible exact H2_) | with_reducible exact H | (rw [hy404]; exact H) | exact H
  have Ny404 := Aside0.mk hy404
  clear hy404
  have H' := Aside0.mk H
  clear H
  go_enter Tryd.func39, Tryd.ntmps39
  go_wp2_with (first | ((with_reducible refine gate_dst (N := 9) rfl ?_); (try (refine gate_guard (by rfl) ?_; dsimp only)); refine Kd.S_lit (Kd.slice 5 (Kd.int .u8)) _ 42 ?hg (N := 9) ?hd (xs := ([] : List (List Int))) (inner := []) (ok := fun _ => True) (okp := fun _ => True) ?hr ?hp (fun _ hk => hk) trivial (Below.refl _ _) (Nat.le_refl _) (by simp) ?_; (case hd => rfl); (case hg => rfl); (case hr => first | (go_simp; done) | (go_simp; rfl)); (case hp => exact (Reps.none _ _)); intro v405 w3 ho4 hb hg_ hnew_; clear hg_ hnew_; (first | rw [← Ny404.out] at ho4 | (simp only [Int.reduceToNat] at ho4; rw [← Ny404.out] at ho4)); have n0_ := Aside0.mk (Kd.S_lower ho4 (below_size (by repeat (first | (with_reducible first | exact HB.out | apply below_alloc | apply pw_below_drewN | apply below_drew1) | exact HB.out)))); have n1_ := Aside0.mk (below_step (by repeat (first | (with_reducible first | exact HB.out | apply below_alloc | apply pw_below_drewN | apply below_drew1) | exact HB.out)) hb); clear HB; have HO406 := n0_; have HB := n1_; clear n0_ n1_; clear hb ho4))
  go_loopg [5, 6] k (fun kq v5 v6 w' => ∃ (x5_1 : List (List Int)) (x6_1 : Int), v6 = .int .i64 x6_1 ∧ Aside0 (geyserref04_Split.l0 kq l0 a1 x5_1 x6_1 = some r) ∧ Aside0 (kq ≤ k) ∧ Aside0 (Kd.S (Kd.slice 5 (Kd.int .u8)) 42 w' w.heap.size (fun _ => True) v5 x5_1) ∧ Aside0 (Below w.heap.size w w'))
  case atStart => exact ⟨(y404), (0), (by first | rfl | (simp; done) | (simp [*]; done)), H', ⟨Nat.le_refl _⟩, ⟨by (with_reducible repeat (first | apply Kd.S_alloc | apply Kd.S_drewN | apply Kd.S_drew)); exact HO406.out⟩, ⟨by repeat (first | (with_reducible first | exact HB.out | apply below_alloc | apply pw_below_drewN | apply below_drew1) | exact HB.out)⟩⟩
  case round =>
    clear H'
    try clear p2
    try clear c3
    obtain ⟨x5_1, x6_1, rfl, HA, HK1, HO_5, HB⟩ := hrel
    cases gk with
    | zero => exact absurd HA.out (by simp [geyserref04_Split.l0])
    | succ k1 =>
      have H := HA.out
      clear HA
      simp only [geyserref04_Split.l0] at H
      by_cases c5 : x6_1 < (l0.length : Int)
      · rw [if_pos c5] at H
        have c5b0 : decide (x6_1 < (l0.length : Int)) = true := decide_eq_true c5
        clear c5
        by_cases c6 : 0 ≤ a1
        · rw [if_pos c6] at H
          have c6b0 := eq_true c6
          have c6b1 : decide (0 ≤ a1) = true := decide_eq_true c6
          clear c6
          by_cases c7 : (a1 : Int).toNat ≤ 281474976710656
          · rw [if_pos c7] at H
            have c7b0 := eq_true c7
            have c7b1 : decide ((a1 : Int).toNat ≤ 281474976710656) = true := decide_eq_true c7
            clear c7
            obtain ⟨y407, hy407⟩ : ∃ y_ : List Int, y_ = (List.replicate (a1 : Int).toNat 0) := ⟨_, rfl⟩
            replace H : (geyserref04_Split.l1 k1 l0 a1 x5_1 x6_1 y407 0) = some r := by first | (rw [hy407]; with_reducible exact H) | (have H2_ := (Option.bind_some _ _).symm.trans H; rw [hy407]; with_reducible exact H2_) | (have H2_ := (Option.bind_some _ _).symm.trans H; with_reducible exact H2_) | with_reducible exact H | (rw [hy407]; exact H) | exact H
            have Ny407 := Aside0.mk hy407
            clear hy407
            have H' := Aside0.mk H
            clear H
            go_wp2_with (first | ((with_reducible refine gate_dst (N := 18) rfl ?_); (try (refine gate_guard (by rfl) ?_; dsimp only)); refine Kd.R_make (Kd.int .u8) _ 5 rfl (N := 18) rfl 42 _ _ rfl a1 rfl rfl Tryd.underlying42 (.int .u8 0) 1 info5 rfl (by decide) (by omega) 0 (ok := fun _ => True) (okp := fun _ => True) rfl (fun _ hk => hk) trivial (of_decide_eq_true (by first | (with_reducible assumption) | assumption)) (Nat.le_trans (Nat.mul_le_mul_right _ (of_decide_eq_true (by first | (with_reducible assumption) | assumption) : a1.toNat ≤ 281474976710656)) (by omega)) (Below.refl _ _) (Nat.le_refl _) ?_; intro v408 w8 ho9 hb hg_ hnew_; clear hg_ hnew_; (first | rw [← Ny407.out] at ho9 | (simp only [Int.reduceToNat] at ho9; rw [← Ny407.out] at ho9)); have n0_ := Aside0.mk (Kd.S_elder' (by (with_reducible repeat (first | apply Kd.S_alloc | apply Kd.S_drewN | apply Kd.S_drew)); exact HO_5.out) (Kd.R_base ho9) hb); have n1_ := Aside0.mk (Kd.R_lower ho9 (below_size (by repeat (first | (with_reducible first | exact HB.out | apply below_alloc | apply pw_below_drewN | apply below_drew1) | exact HB.out)))); have n2_ := Aside0.mk (below_step (by repeat (first | (with_reducible first | exact HB.out | apply below_alloc | apply pw_below_drewN | apply below_drew1) | exact HB.out)) hb); clear HO_5; clear HB; have HO_5 := n0_; have HO409 := n1_; have HB := n2_; clear n0_ n1_ n2_; clear hb ho9))
            go_loopg [8] k1 (fun kq v8 w' => ∃ (x7_2 : List Int) (x8_2 : Int), v8 = .int .i64 x8_2 ∧ Aside0 (geyserref04_Split.l1 kq l0 a1 x5_1 x6_1 x7_2 x8_2 = some r) ∧ Aside0 (kq ≤ k1) ∧ Aside0 (Kd.S (Kd.slice 5 (Kd.int .u8)) 42 w' w.heap.size (fun k_ => some k_ ≠ (v408 : Value).ownBlock) u5 x5_1) ∧ Aside0 (Kd.R (Kd.int .u8) 5 w' w.heap.size (fun _ => True) v408 x7_2) ∧ Aside0 (Below w.heap.size w w'))
            case atStart => exact ⟨(y407), (0), (by first | rfl | (simp; done) | (simp [*]; done)), H', ⟨Nat.le_refl _⟩, ⟨by (with_reducible repeat (first | apply Kd.S_alloc | apply Kd.S_drewN | apply Kd.S_drew)); exact Kd.S_mono HO_5.out (fun _ hk => hk.2)⟩, ⟨by (with_reducible repeat (first | apply Kd.R_alloc | apply Kd.R_drewN | apply Kd.R_drew)); exact HO409.out⟩, ⟨by repeat (first | (with_reducible first | exact HB.out | apply below_alloc | apply pw_below_drewN | apply below_drew1) | exact HB.out)⟩⟩
            case round =>
              clear H'
              try clear p2
              try clear c3
              try clear c5
              try clear c5b0
              try clear c6
              try clear c6b0
              try clear c6b1
              try clear c7
              try clear c7b0
              try clear c7b1
              try clear p2
              obtain ⟨x7_2, x8_2, rfl, HA, HK2, HO_5, HO_7, HB⟩ := hrel
              cases gk with
              | zero => exact absurd HA.out (by simp [geyserref04_Split.l1])
              | succ k2 =>
                have H := HA.out
                clear HA
                simp only [geyserref04_Split.l1] at H
                by_cases c10 : x8_2 < a1
                · rw [if_pos c10] at H
                  have c10b0 : decide (x8_2 < a1) = true := decide_eq_true c10
                  clear c10
                  by_cases c11 : (wrap64 (x6_1 + x8_2)) < (l0.length : Int)
                  · rw [if_pos c11] at H
                    have c11b0 : decide ((wrap64 (x6_1 + x8_2)) < (l0.length : Int)) = true := decide_eq_true c11
                    clear c11
                    obtain ⟨ji12, hji12⟩ : ∃ j_ : Int, (wrap64 (x6_1 + x8_2)) = j_ := ⟨_, rfl⟩
                    replace H : (if 0 ≤ (ji12) then (if 0 ≤ x8_2 then (if x8_2 < (x7_2.length : Int) then (geyserref04_Split.l1 k2 l0 a1 x5_1 x6_1 (x7_2.set (x8_2 : Int).toNat (rd l0 (ji12))) (wrap64 (x8_2 + 1))) else (none)) else (none)) else (none)) = some r := by first | (rw [hji12] at H; exact H) | (simp only [hji12] at H ⊢; exact H)
                    (try rw [hji12] at c11b0)
                    have hji12w : (IntKind.i64.wrap (x6_1 + x8_2)) = ji12 := (i64_w _).trans hji12
                    by_cases c13 : 0 ≤ (ji12)
                    · rw [if_pos c13] at H
                      have c13b0 : decide (0 ≤ (ji12)) = true := decide_eq_true c13
                      clear c13
                      by_cases c14 : 0 ≤ x8_2
                      · rw [if_pos c14] at H
                        have c14b0 : decide (0 ≤ x8_2) = true := decide_eq_true c14
                        clear c14
                        by_cases c15 : x8_2 < (x7_2.length : Int)
                        · rw [if_pos c15] at H
                          have c15b0 : decide (x8_2 < (x7_2.length : Int)) = true := decide_eq_true c15
                          clear c15
                          obtain ⟨y411, hy411⟩ : ∃ y_ : List Int, y_ = (x7_2.set (x8_2 : Int).toNat (rd l0 (ji12))) := ⟨_, rfl⟩
                          replace H : (geyserref04_Split.l1 k2 l0 a1 x5_1 x6_1 y411 (wrap64 (x8_2 + 1))) = some r := by first | (rw [hy411]; with_reducible exact H) | (have H2_ := (Option.bind_some _ _).symm.trans H; rw [hy411]; with_reducible exact H2_) | (have H2_ := (Option.bind_some _ _).symm.trans H; with_reducible exact H2_) | with_reducible exact H | (rw [hy411]; exact H) | exact H
                          have Ny411 := Aside0.mk hy411
                          clear hy411
                          have H' := Aside0.mk H
                          clear H
                          have p410 : 0 ≤ ((ji12) : Int) := of_decide_eq_true (by first | (with_reducible assumption) | assumption)
                          have q410 : (ji12) < (l0.length : Int) := of_decide_eq_true (by first | (with_reducible assumption) | assumption)
                          obtain ⟨ad410, e410, hx410_0⟩ := Kd.at_int HR0.out (ji12) p410 q410
                          cases e410
                          (first | replace hx410_0 := (HB.out.cell (World.block_lt_of_cell? w _ hx410_0)).trans hx410_0 | skip)
                          replace p410 := eq_true p410
                          replace q410 := eq_true q410
                          have p16 : 0 ≤ (x8_2 : Int) := of_decide_eq_true (by first | (with_reducible assumption) | assumption)
                          have q16 : (x8_2 : Int) < ((x7_2.length : Int) : Int) := of_decide_eq_true (by first | (with_reducible assumption) | assumption)
                          obtain ⟨go16, co16, eo16, gb16, gl16, cl16, HG16⟩ := Kd.R_form HO_7.out (by omega)
                          (first | cases eo16 | (injection eo16 with ea_ en_ ec_; (first | subst ea_ | (injection ea_ with ea_; subst ea_)); subst ec_; clear en_))
                          have GB16 := Aside0.mk gb16
                          have GG16 := Aside0.mk HG16
                          clear gb16 gl16 HG16
                          obtain ⟨hx16_0, hf16_0⟩ := Kd.R_celln 0 HO_7.out (x8_2 : Int) p16 q16
                          replace p16 := eq_true p16
                          replace q16 := eq_true q16
                          have HP17 := Kd.R_putg HO_7.out (x8_2 : Int) (rd l0 (ji12))
                          go_wp2_with (first | ((with_reducible refine gate_store (t := 5) (p := 40) rfl ?_); refine store_event (t := 5) (p := 40) (v := ?vo_w18) (w1 := (wr.setCell ⟨go16, (x8_2 : Int).toNat, none⟩ (.int .u8 (rd l0 (ji12))))) ?hg ?ho ?hn ?hr ?_; (case ho => rfl); (case hg => rfl); (case hn => rfl); (case hr => first | (go_simp; done) | (go_simp; rfl)); intro w18 hw; have hg : wr.grownBy w18 (some go16) := (by rw [hw]; exact HP17.2); have hp_ : Kd.R (Kd.int .u8) 5 w18 w.heap.size (fun _ => True) (.slice (some ⟨go16, 0, none⟩) x7_2.length co16) y411 := (by rw [hw, Ny411.out]; exact HP17.1); clear HP17; have n0_ := Aside0.mk (Kd.S_after (v := (.slice (some ⟨go16, 0, none⟩) x7_2.length co16)) (v1 := (.slice (some ⟨go16, 0, none⟩) x7_2.length co16)) (ok := (fun _ => True)) (by (with_reducible repeat (first | apply Kd.S_alloc | apply Kd.S_drewN | apply Kd.S_drew)); exact Kd.S_mono HO_5.out (fun _ hk => ⟨trivial, hk⟩)) hg (.inl rfl)); have n1_ := Aside0.mk (hp_); have n2_ := Aside0.mk ((by rw [hw]; exact below_set (HB.out) GB16.out : Below w.heap.size w w18)); clear HO_5; clear HO_7; clear HB; have HO_5 := n0_; have HO_7 := n1_; have HB := n2_; clear n0_ n1_ n2_; clear hg hw hp_))
                          go_roundg k2
                          case measure => have := HK1.out; have := HK2.out; omega
                          case rel => exact ⟨(y411), (wrap64 (x8_2 + 1)), (by first | rfl | (simp; done) | (simp [*]; done)), H', ⟨by have := HK1.out; have := HK2.out; omega⟩, ⟨by (with_reducible repeat (first | apply Kd.S_alloc | apply Kd.S_drewN | apply Kd.S_drew)); exact Kd.S_mono HO_5.out (fun _ hk => hk.2)⟩, ⟨by (with_reducible repeat (first | apply Kd.R_alloc | apply Kd.R_drewN | apply Kd.R_drew)); exact HO_7.out⟩, ⟨by repeat (first | (with_reducible first | exact HB.out | apply below_alloc | apply pw_below_drewN | apply below_drew1) | exact HB.out)⟩⟩
                        · rw [if_neg c15] at H
                          exact absurd H (by simp)
                      · rw [if_neg c14] at H
                        exact absurd H (by simp)
                    · rw [if_neg c13] at H
                      exact absurd H (by simp)
                  · rw [if_neg c11] at H
                    have c11b0 : decide ((wrap64 (x6_1 + x8_2)) < (l0.length : Int)) = false := decide_eq_false c11
                    clear c11
                    by_cases c19 : x5_1.length < 5864062014805
                    · rw [if_pos c19] at H
                      have LMc19 := Aside0.mk c19
                      clear c19
                      obtain ⟨y412, hy412⟩ : ∃ y_ : List (List Int), y_ = (x5_1 ++ [x7_2]) := ⟨_, rfl⟩
                      replace H : (geyserref04_Split.l0 k2 l0 a1 y412 (wrap64 (x6_1 + a1))) = some r := by first | (rw [hy412]; with_reducible exact H) | (have H2_ := (Option.bind_some _ _).symm.trans H; rw [hy412]; with_reducible exact H2_) | (have H2_ := (Option.bind_some _ _).symm.trans H; with_reducible exact H2_) | with_reducible exact H | (rw [hy412]; exact H) | exact H
                      have Ny412 := Aside0.mk hy412
                      clear hy412
                      have H' := Aside0.mk H
                      clear H
                      obtain ⟨Ao21, co21, eo21⟩ := Kd.R_slice HO_7.out
                      subst eo21
                      go_wp2_with (first | ((with_reducible refine gate_builtin (b := .append) (xs := #[.tmp 41, .tmp 43]) rfl ?_); (try (refine gate_guard (by rfl) ?_; dsimp only)); at_builtin; refine Kd.S_append (Kd.slice 5 (Kd.int .u8)) (w0 := w) w.heap.size rfl (.tmp 41) (.tmp 43) 40 42 (.slice none 0 0) 24 rfl Tryd.underlying40 info42 rfl (by decide) (by omega) u5 x5_1 x7_2 [.slice Ao21 x7_2.length co21] (fun _ => True) (fun k_ => some k_ = (.slice Ao21 x7_2.length co21 : Value).ownBlock) rfl rfl ?aP (fun k_ hk_ => ((Kd.R_mono (ok' := fun k_ => ((fun _ => True)) k_ ∧ some k_ ≠ (u5 : Value).ownBlock) (Kd.R_apart' (HO_7.out) (Kd.S_typed HO_5.out) (by decide)) (fun k_ hk => ⟨trivial, hk.2⟩))).1 k_ hk_.symm) ?aF ?aO ?aB ?aS ?aL ?_; (case aP => exact Kd.M_row (Kd.R_mono (Kd.R_tight rfl (Kd.R_mono (ok' := fun k_ => ((fun _ => True)) k_ ∧ some k_ ≠ (u5 : Value).ownBlock) (Kd.R_apart' (HO_7.out) (Kd.S_typed HO_5.out) (by decide)) (fun k_ hk => ⟨trivial, hk.2⟩))) (fun _ h_ => h_))); (case aB => exact (by repeat (first | (with_reducible first | exact HB.out | apply below_alloc | apply pw_below_drewN | apply below_drew1) | exact HB.out))); (case aF => exact (fun _ _ => trivial)); (case aO => exact (by (with_reducible repeat (first | apply Kd.S_alloc | apply Kd.S_drewN | apply Kd.S_drew)); exact Kd.S_mono HO_5.out (fun k_ hk => ⟨trivial, fun e_ => hk e_⟩))); (case aS => exact (below_size (by repeat (first | (with_reducible first | exact HB.out | apply below_alloc | apply pw_below_drewN | apply below_drew1) | exact HB.out)))); (case aL => have := LMc19.out; omega); intro v413 w20 ho hb hg hat; rw [← Ny412.out] at ho; have n0_ := Aside0.mk (hb); have n1_ := Aside0.mk (ho); clear HB; clear HO_5; clear HO_7; have HB := n0_; have HO414 := n1_; clear n0_ n1_; clear ho hb hg hat))
                      go_roundg k2
                      case measure => have := HK1.out; have := HK2.out; omega
                      case rel => exact ⟨(y412), (wrap64 (x6_1 + a1)), (by first | rfl | (simp; done) | (simp [*]; done)), H', ⟨by have := HK1.out; have := HK2.out; omega⟩, ⟨by (with_reducible repeat (first | apply Kd.S_alloc | apply Kd.S_drewN | apply Kd.S_drew)); exact HO414.out⟩, ⟨by repeat (first | (with_reducible first | exact HB.out | apply below_alloc | apply pw_below_drewN | apply below_drew1) | exact HB.out)⟩⟩
                    · rw [if_neg c19] at H
                      exact absurd H (by simp)
                · rw [if_neg c10] at H
                  have c10b0 : decide (x8_2 < a1) = false := decide_eq_false c10
                  clear c10
                  by_cases c22 : x5_1.length < 5864062014805
                  · rw [if_pos c22] at H
                    have LMc22 := Aside0.mk c22
                    clear c22
                    obtain ⟨y415, hy415⟩ : ∃ y_ : List (List Int), y_ = (x5_1 ++ [x7_2]) := ⟨_, rfl⟩
                    replace H : (geyserref04_Split.l0 k2 l0 a1 y415 (wrap64 (x6_1 + a1))) = some r := by first | (rw [hy415]; with_reducible exact H) | (have H2_ := (Option.bind_some _ _).symm.trans H; rw [hy415]; with_reducible exact H2_) | (have H2_ := (Option.bind_some _ _).symm.trans H; with_reducible exact H2_) | with_reducible exact H | (rw [hy415]; exact H) | exact H
                    have Ny415 := Aside0.mk hy415
                    clear hy415
                    have H' := Aside0.mk H
                    clear H
                    obtain ⟨Ao24, co24, eo24⟩ := Kd.R_slice HO_7.out
                    subst eo24
                    go_wp2_with (first | ((with_reducible refine gate_builtin (b := .append) (xs := #[.tmp 41, .tmp 43]) rfl ?_); (try (refine gate_guard (by rfl) ?_; dsimp only)); at_builtin; refine Kd.S_append (Kd.slice 5 (Kd.int .u8)) (w0 := w) w.heap.size rfl (.tmp 41) (.tmp 43) 40 42 (.slice none 0 0) 24 rfl Tryd.underlying40 info42 rfl (by decide) (by omega) u5 x5_1 x7_2 [.slice Ao24 x7_2.length co24] (fun _ => True) (fun k_ => some k_ = (.slice Ao24 x7_2.length co24 : Value).ownBlock) rfl rfl ?aP (fun k_ hk_ => ((Kd.R_mono (ok' := fun k_ => ((fun _ => True)) k_ ∧ some k_ ≠ (u5 : Value).ownBlock) (Kd.R_apart' (HO_7.out) (Kd.S_typed HO_5.out) (by decide)) (fun k_ hk => ⟨trivial, hk.2⟩))).1 k_ hk_.symm) ?aF ?aO ?aB ?aS ?aL ?_; (case aP => exact Kd.M_row (Kd.R_mono (Kd.R_tight rfl (Kd.R_mono (ok' := fun k_ => ((fun _ => True)) k_ ∧ some k_ ≠ (u5 : Value).ownBlock) (Kd.R_apart' (HO_7.out) (Kd.S_typed HO_5.out) (by decide)) (fun k_ hk => ⟨trivial, hk.2⟩))) (fun _ h_ => h_))); (case aB => exact (by repeat (first | (with_reducible first | exact HB.out | apply below_alloc | apply pw_below_drewN | apply below_drew1) | exact HB.out))); (case aF => exact (fun _ _ => trivial)); (case aO => exact (by (with_reducible repeat (first | apply Kd.S_alloc | apply Kd.S_drewN | apply Kd.S_drew)); exact Kd.S_mono HO_5.out (fun k_ hk => ⟨trivial, fun e_ => hk e_⟩))); (case aS => exact (below_size (by repeat (first | (with_reducible first | exact HB.out | apply below_alloc | apply pw_below_drewN | apply below_drew1) | exact HB.out)))); (case aL => have := LMc22.out; omega); intro v416 w23 ho hb hg hat; rw [← Ny415.out] at ho; have n0_ := Aside0.mk (hb); have n1_ := Aside0.mk (ho); clear HB; clear HO_5; clear HO_7; have HB := n0_; have HO417 := n1_; clear n0_ n1_; clear ho hb hg hat))
                    go_roundg k2
                    case measure => have := HK1.out; have := HK2.out; omega
                    case rel => exact ⟨(y415), (wrap64 (x6_1 + a1)), (by first | rfl | (simp; done) | (simp [*]; done)), H', ⟨by have := HK1.out; have := HK2.out; omega⟩, ⟨by (with_reducible repeat (first | apply Kd.S_alloc | apply Kd.S_drewN | apply Kd.S_drew)); exact HO417.out⟩, ⟨by repeat (first | (with_reducible first | exact HB.out | apply below_alloc | apply pw_below_drewN | apply below_drew1) | exact HB.out)⟩⟩
                  · rw [if_neg c22] at H
                    exact absurd H (by simp)
          · rw [if_neg c7] at H
            exact absurd H (by simp)
        · rw [if_neg c6] at H
          exact absurd H (by simp)
      · rw [if_neg c5] at H
        have c5b0 : decide (x6_1 < (l0.length : Int)) = false := decide_eq_false c5
        clear c5
        obtain rfl := Option.some.inj H
        go_wp2
        go_ret
        exact ⟨_, by first | rfl | (simp [errW_none, errW_some] <;> rfl) | (simp [*, errW_none, errW_some] <;> rfl), by (with_reducible repeat (first | apply Kd.S_alloc | apply Kd.S_drewN | apply Kd.S_drew)); exact HO_5.out, by repeat (first | (with_reducible first | exact HB.out | apply below_alloc | apply pw_below_drewN | apply below_drew1) | exact HB.out)⟩

end Go.Proofs.YtnigpfaecibdfaaDoor.P

namespace Go.Proofs.YtnigpfaecibdfaaDoor.Pure
open Go.RowKit Go.Proofs.YtnigpfaecibdfaaDoor.P Go.Proofs.YtnigpfaecibdfaaDoorW.PrintWords Go.Proofs.YtnigpfaecibdfaaDoorW.PrintLast Go.Proofs.YtnigpfaecibdfaaDoorW.PrintErr Go.Proofs.YtnigpfaecibdfaaDoorW.PrintMore
set_option linter.unusedVariables false
set_option linter.unusedSimpArgs false

/-- A symbol: the first bytes, filled up with bytes 0. -/
def padS (n : Nat) (u : List Int) : List Int := u.take n ++ List.replicate (n - u.length) 0
theorem padS_length (n : Nat) (u : List Int) : (padS n u).length = n := by simp [padS]; omega
def splitL : Nat → Nat → List Int → List (List Int)
  | 0, _, _ => []
  | f + 1, n, u => if u.length = 0 then [] else padS n u :: splitL f n (u.drop n)
theorem splitL_length (n : Nat) (hn : 1 ≤ n) : ∀ (f : Nat) (u : List Int), (splitL f n u).length ≤ u.length := by
  intro f
  induction f with
  | zero => intro u; simp [splitL]
  | succ f ih =>
    intro u
    unfold splitL
    split
    · simp
    · have := ih (u.drop n)
      simp only [List.length_cons, List.length_drop] at this ⊢
      omega
theorem splitL_mem (n : Nat) : ∀ (f : Nat) (u : List Int), ∀ s ∈ splitL f n u, s.length = n := by
  intro f
  induction f with
  | zero => intro u s hs; simp [splitL] at hs
  | succ f ih =>
    intro u s hs
    unfold splitL at hs
    split at hs
    · simp at hs
    · rcases List.mem_cons.1 hs with rfl | hs
      · exact padS_length n u
      · exact ih _ s hs
theorem rsp_inner (t : List Int) (n : Nat) (acc : List (List Int)) (pos : Nat) (r : List (List Int)) (hn : n ≤ 64) (hp : pos < t.length) (ht : t.length ≤ 5864062014804) (hacc : acc.length < 5864062014805)
    (h : Ev (fun k => geyserref04_Split.l0 k t (n : Int) (acc ++ [padS n (t.drop pos)]) (wrap64 ((pos : Int) + (n : Int)))) r) :
    ∀ (d i : Nat), i + d = n → pos + i ≤ t.length → Ev (fun k => geyserref04_Split.l1 k t (n : Int) acc (pos : Int) ((t.drop pos).take i ++ List.replicate d 0) (i : Int)) r := by
  intro d
  induction d with
  | zero =>
    intro i hi hb
    refine Ev.step (fun k => ?_) h
    rw [geyserref04_Split.l1, if_neg (by omega), if_pos hacc]
    have e : padS n (t.drop pos) = (t.drop pos).take i ++ List.replicate 0 0 := by
      unfold padS
      rw [show i = n by omega, show n - (t.drop pos).length = 0 by rw [List.length_drop]; omega]
    rw [e]
  | succ d ih =>
    intro i hi hb
    have hlen : ((t.drop pos).take i).length = i := by rw [List.length_take, List.length_drop]; omega
    have e1 : wrap64 ((pos : Int) + (i : Int)) = ((pos + i : Nat) : Int) := by rw [w64s (by omega) (by omega)]; rfl
    have e2 : wrap64 ((i : Int) + 1) = ((i + 1 : Nat) : Int) := by rw [w64s (by omega) (by omega)]; rfl
    by_cases hb2 : pos + i < t.length
    · have h' := ih (i + 1) (by omega) (by omega)
      refine Ev.step (fun k => ?_) h'
      rw [geyserref04_Split.l1, if_pos (by omega), e1, if_pos (by omega), if_pos (by omega), if_pos (by omega), if_pos (by rw [List.length_append, List.length_replicate, hlen]; omega), e2]
      have e3 : rd t ((pos + i : Nat) : Int) = t.getD (pos + i) 0 := by unfold rd; rw [Int.toNat_natCast]
      have e4 : (t.drop pos).take (i + 1) = (t.drop pos).take i ++ [t.getD (pos + i) 0] := by
        rw [List.take_succ_eq_append_getElem (by rw [List.length_drop]; omega), List.getElem_drop, List.getD_eq_getElem?_getD, List.getElem?_eq_getElem hb2]
        rfl
      have e5 : List.replicate (d + 1) (0 : Int) = 0 :: List.replicate d 0 := rfl
      have e6 := set_mid ((t.drop pos).take i) (List.replicate d 0) 0 (t.getD (pos + i) 0)
      rw [hlen] at e6
      rw [e3, Int.toNat_natCast, e5, e6, e4]
    · refine Ev.step (fun k => ?_) h
      rw [geyserref04_Split.l1, if_pos (by omega), e1, if_neg (by omega), if_pos hacc]
      have e : padS n (t.drop pos) = (t.drop pos).take i ++ List.replicate (d + 1) 0 := by
        unfold padS
        rw [List.length_drop, List.take_of_length_le (show (t.drop pos).length ≤ n by rw [List.length_drop]; omega), List.take_of_length_le (show (t.drop pos).length ≤ i by rw [List.length_drop]; omega), show n - (t.length - pos) = d + 1 by omega]
      rw [e]
theorem rsp_outer (t : List Int) (n : Nat) (hn0 : 1 ≤ n) (hn : n ≤ 64) (ht : t.length ≤ 5864062014804) : ∀ (f pos : Nat) (acc : List (List Int)), t.length ≤ pos + f → acc.length + (t.length - pos) ≤ 5864062014804 → pos ≤ t.length + 64 →
    Ev (fun k => geyserref04_Split.l0 k t (n : Int) acc (pos : Int)) (acc ++ splitL f n (t.drop pos)) := by
  intro f
  induction f with
  | zero =>
    intro pos acc hf hacc hpos
    have e : splitL 0 n (t.drop pos) = [] := rfl
    rw [e, List.append_nil]
    refine Ev.step (f := fun _ => some acc) (fun k => ?_) (Ev.now _)
    rw [geyserref04_Split.l0, if_neg (by omega)]
  | succ f ih =>
    intro pos acc hf hacc hpos
    by_cases hp : pos < t.length
    · have h' := ih (pos + n) (acc ++ [padS n (t.drop pos)]) (by omega) (by simp; omega) (by omega)
      have e1 : ((pos + n : Nat) : Int) = wrap64 ((pos : Int) + (n : Int)) := by rw [w64s (by omega) (by omega)]; rfl
      have e2 : acc ++ splitL (f + 1) n (t.drop pos) = acc ++ [padS n (t.drop pos)] ++ splitL f n (t.drop (pos + n)) := by
        have hl : ¬ (t.drop pos).length = 0 := by rw [List.length_drop]; omega
        rw [splitL, if_neg hl, List.drop_drop, List.append_assoc]
        rfl
      rw [e1] at h'
      rw [e2]
      have hi := rsp_inner t n acc pos _ hn hp ht (by omega) h' n 0 (by omega) (by omega)
      refine Ev.step (fun k => ?_) hi
      rw [geyserref04_Split.l0, if_pos (by omega), if_pos (by omega), if_pos (by omega), Int.toNat_natCast, List.take_zero, List.nil_append]
      rfl
    · have e : splitL (f + 1) n (t.drop pos) = [] := by
        rw [splitL, if_pos (by rw [List.length_drop]; omega)]
      rw [e, List.append_nil]
      refine Ev.step (f := fun _ => some acc) (fun k => ?_) (Ev.now _)
      rw [geyserref04_Split.l0, if_neg (by omega)]
theorem rsp_ev (t : List Int) (n : Nat) (hn0 : 1 ≤ n) (hn : n ≤ 64) (ht : t.length ≤ 5864062014804) : Ev (fun k => geyserref04_Split.f k t (n : Int)) (splitL t.length n t) := by
  have h := rsp_outer t n hn0 hn ht t.length 0 [] (by omega) (by simp; omega) (by omega)
  rw [List.nil_append, List.drop_zero] at h
  exact h
end Go.Proofs.YtnigpfaecibdfaaDoor.Pure

namespace Go.Proofs.YtnigpfaecibdfaaDoor.P
open Go.RowKit Go.Proofs.YtnigpfaecibdfaaDoorW.PrintWords Go.Proofs.YtnigpfaecibdfaaDoorW.PrintLast Go.Proofs.YtnigpfaecibdfaaDoorW.PrintErr Go.Proofs.YtnigpfaecibdfaaDoorW.PrintMore
attribute [local go_sem] max2_int min2_int max_two min_two max_three min_three max_four min_four run_eql_errOf run_neq_errOf eqGuard_errOf   -- for this text's walks alone
set_option linter.unusedVariables false
set_option linter.unusedSimpArgs false

/-! ### symbol_Split: function 36 -/
def symbol_Split.l0 : Nat → List Int → Int → List (List Int) → Option ((List (List Int)) × List FE)
  | 0, _, _, _ => none
  | k + 1, x0, x1, x7 => if (x0.length : Int) > 0 then (if 0 ≤ x1 then (if (x1 : Int).toNat ≤ 281474976710656 then ((some (List.replicate (x1 : Int).toNat 0 : List Int)).bind fun y391 => (if 0 ≤ (copyN y391 x0 : Int) then (if (copyN y391 x0 : Int) ≤ (x0.length : Int) then (if x7.length < 5864062014805 then (symbol_Split.l0 k (x0.drop ((copyN y391 x0 : Int) : Int).toNat) x1 (x7 ++ [(copyL y391 x0)])) else (none)) else (none)) else (none))) else (none)) else (none)) else (some (x7, ([] : List FE)))
def symbol_Split.f (k : Nat) (l0 : List Int) (a1 : Int) : Option ((List (List Int)) × List FE) := (symbol_check.f k ([] : List (List Int)) a1).bind fun t387 => (if t387 = 0 then (symbol_Split.l0 k l0 a1 ([] : List (List Int))) else ((fault_New.f (⟨#[115, 121, 109, 98, 111, 108, 46, 83, 112, 108, 105, 116]⟩ : ByteArray) t387).bind fun t388 => (some (([] : List (List Int)), t388))))
theorem symbol_Split.mono_l : ∀ k, (∀ y0 y1 y2, LeO (symbol_Split.l0 k y0 y1 y2) (symbol_Split.l0 (k + 1) y0 y1 y2))
  | 0 => fun _ _ _ r h => by simp [symbol_Split.l0] at h
  | k + 1 => by
    have ih0 := symbol_Split.mono_l k
    · intro y0 y1 y2
      unfold symbol_Split.l0
      repeat' first
      | (with_reducible exact ih0 _ _ _)
      | (with_reducible exact symbol_check.mono _ _ _)
      | (with_reducible exact LeO.refl _)
      | (with_reducible exact LeO.none _)
      | (with_reducible refine LeO.ite ?_ ?_)
      | (with_reducible refine LeO.bind ?_ (fun _ => ?_))
      | exact ih0 _ _ _
      | exact symbol_check.mono _ _ _
      | exact LeO.none _
      | refine LeO.ite ?_ ?_
      | refine LeO.bind ?_ (fun _ => ?_)
theorem symbol_Split.mono : ∀ a0 a1 k, LeO (symbol_Split.f k a0 a1) (symbol_Split.f (k + 1) a0 a1) := by
  intro a0 a1 k
  have ih0 := symbol_Split.mono_l k
  unfold symbol_Split.f
  repeat' first
      | (with_reducible exact ih0 _ _ _)
      | (with_reducible exact symbol_check.mono _ _ _)
      | (with_reducible exact LeO.refl _)
      | (with_reducible exact LeO.none _)
      | (with_reducible refine LeO.ite ?_ ?_)
      | (with_reducible refine LeO.bind ?_ (fun _ => ?_))
      | exact ih0 _ _ _
      | exact symbol_check.mono _ _ _
      | exact LeO.none _
      | refine LeO.ite ?_ ?_
      | refine LeO.bind ?_ (fun _ => ?_)
set_option maxHeartbeats 8000000 in
set_option maxRecDepth 100000 in
theorem symbol_Split.calls (k : Nat) (P0_ : Nat → Prop) (A0 : Option Addr) (c0 : Nat) (l0 : List Int) (a1 : Int) (r1 : List (List Int)) (r2 : List FE) (w : World) (hs0 : Kd.V (Kd.int .u8) 5 w w.heap.size (fun k_ => P0_ k_) (.slice A0 l0.length c0) l0) (h : symbol_Split.f k l0 a1 = some (r1, r2)) :
    Calls Tryd.prog 36 #[.slice A0 l0.length c0, .int .i64 a1] w fun e w' => ∃ v0_ v1_ : Value, e = .returned (.tuple #[v0_, (errOf v1_)]) ∧ Kd.S (Kd.slice 5 (Kd.int .u8)) 42 w' w.heap.size (fun k_ => (w.heap.size ≤ k_)) v0_ r1 ∧ Kd.R kF 79 w' w.heap.size (fun k_ => (w.heap.size ≤ k_)) v1_ r2 ∧ Below w.heap.size w w' := by
  have HO0 := Aside0.mk (show Kd.V (Kd.int .u8) 5 w w.heap.size (fun k_ => (P0_ k_ ∨ w.heap.size ≤ k_)) (.slice A0 l0.length c0) l0 from Kd.V_mono hs0 (fun k_ hk => .inl hk))
  have HB := Aside0.mk (Below.refl w.heap.size w)
  have H : ((symbol_check.f k ([] : List (List Int)) a1).bind fun t387 => (if t387 = 0 then (symbol_Split.l0 k l0 a1 ([] : List (List Int))) else ((fault_New.f (⟨#[115, 121, 109, 98, 111, 108, 46, 83, 112, 108, 105, 116]⟩ : ByteArray) t387).bind fun t388 => (some (([] : List (List Int)), t388))))) = some (r1, r2) := h
  clear h
  replace H := Option.bind_eq_some_iff.mp H
  obtain ⟨t387, A30, H⟩ := H
  replace H : (if t387 = 0 then (symbol_Split.l0 k l0 a1 ([] : List (List Int))) else ((fault_New.f (⟨#[115, 121, 109, 98, 111, 108, 46, 83, 112, 108, 105, 116]⟩ : ByteArray) t387).bind fun t388 => (some (([] : List (List Int)), t388)))) = some (r1, r2) := H
  have A3 := Aside0.mk A30
  clear A30
  by_cases c4 : t387 = 0
  · rw [if_pos c4] at H
    have c4b0 : (t387 == 0) = true := beq_iff_eq.mpr c4
    have c4b1 : (t387 != 0) = false := bne_eq_false_iff_eq.mpr c4
    clear c4
    have H' := Aside0.mk H
    clear H
    go_enter Tryd.func36, Tryd.ntmps36
    go_wp2_with (first | ((with_reducible refine gate_callee (f := 54) rfl ?_); refine goesL_ (some 11) rfl rfl Tryd.func54 (by kernel_rfl) rfl #[.slice none 0 0, .int .i64 a1] rfl (by (try simp only [List.map_toArray, List.map_cons, List.map_nil]); first | done | rfl | (simp only [List.length_drop, List.length_take]; rfl)) ?_; (refine (symbol_check.calls k _ _ ([] : List (List Int)) a1 t387 _ ?side1 ?side2 A3.out).mono ?_); (case side1 => exact Kd.C_nil _ _); (case side2 => exact Nat.le_refl _); rintro e w' ⟨rfl, ⟨nd, rfl⟩⟩; refine ⟨_, rfl, ?_⟩))
    go_loopg [0, 7] k (fun kq v0 v7 w' => ∃ (x0_1 : List Int) (x7_1 : List (List Int)), Aside0 (symbol_Split.l0 kq x0_1 a1 x7_1 = some (r1, r2)) ∧ Aside0 (kq ≤ k) ∧ Aside0 (Kd.V (Kd.int .u8) 5 w' w.heap.size (fun k_ => (P0_ k_ ∨ w.heap.size ≤ k_) ∧ some k_ ≠ (v7 : Value).ownBlock) v0 x0_1) ∧ Aside0 (Kd.S (Kd.slice 5 (Kd.int .u8)) 42 w' w.heap.size (fun k_ => (w.heap.size ≤ k_)) v7 x7_1) ∧ Aside0 (Below w.heap.size w w'))
    case atStart => exact ⟨(l0), (([] : List (List Int))), H', ⟨Nat.le_refl _⟩, ⟨by (with_reducible repeat (first | apply Kd.V_alloc | apply Kd.V_drewN | apply Kd.V_drew)); exact Kd.V_mono HO0.out (fun _ hk => ⟨hk, (by simp [Value.ownBlock])⟩)⟩, ⟨by first | exact Kd.S_nil _ _ _ _ _ | exact Kd.N_nil _ _ _ _ _ | exact Kd.V_nil _ _ _ _ _ | exact Kd.Q_nil _ _ _ _ _ | exact Kd.R_nil _ _ _ _ _⟩, ⟨by repeat (first | (with_reducible first | exact HB.out | apply below_alloc | apply pw_below_drewN | apply below_drew1) | exact HB.out)⟩⟩
    case round =>
      clear H'
      try clear p2
      try clear c3
      try clear c4
      try clear c4b0
      try clear c4b1
      obtain ⟨x0_1, x7_1, HA, HK1, HO_0, HO_7, HB⟩ := hrel
      cases gk with
      | zero => exact absurd HA.out (by simp [symbol_Split.l0])
      | succ k1 =>
        have H := HA.out
        clear HA
        simp only [symbol_Split.l0] at H
        by_cases c5 : (x0_1.length : Int) > 0
        · rw [if_pos c5] at H
          have c5b0 : decide (0 < (x0_1.length : Int)) = true := decide_eq_true c5
          have c5b1 : decide (0 < x0_1.length) = true := decide_eq_true (by omega)
          clear c5
          by_cases c6 : 0 ≤ a1
          · rw [if_pos c6] at H
            have c6b0 := eq_true c6
            have c6b1 : decide (0 ≤ a1) = true := decide_eq_true c6
            clear c6
            by_cases c7 : (a1 : Int).toNat ≤ 281474976710656
            · rw [if_pos c7] at H
              have c7b0 := eq_true c7
              have c7b1 : decide ((a1 : Int).toNat ≤ 281474976710656) = true := decide_eq_true c7
              clear c7
              obtain ⟨y391, hy391⟩ : ∃ y_ : List Int, y_ = (List.replicate (a1 : Int).toNat 0) := ⟨_, rfl⟩
              replace H : (if 0 ≤ (copyN y391 x0_1 : Int) then (if (copyN y391 x0_1 : Int) ≤ (x0_1.length : Int) then (if x7_1.length < 5864062014805 then (symbol_Split.l0 k1 (x0_1.drop ((copyN y391 x0_1 : Int) : Int).toNat) a1 (x7_1 ++ [(copyL y391 x0_1)])) else (none)) else (none)) else (none)) = some (r1, r2) := by first | (rw [hy391]; with_reducible exact H) | (have H2_ := (Option.bind_some _ _).symm.trans H; rw [hy391]; with_reducible exact H2_) | (have H2_ := (Option.bind_some _ _).symm.trans H; with_reducible exact H2_) | with_reducible exact H | (rw [hy391]; exact H) | exact H
              have Ny391 := Aside0.mk hy391
              clear hy391
              obtain ⟨y394, hy394⟩ : ∃ y_ : List Int, y_ = (copyL y391 x0_1) := ⟨_, rfl⟩
              replace H : (if 0 ≤ (copyN y391 x0_1 : Int) then (if (copyN y391 x0_1 : Int) ≤ (x0_1.length : Int) then (if x7_1.length < 5864062014805 then (symbol_Split.l0 k1 (x0_1.drop ((copyN y391 x0_1 : Int) : Int).toNat) a1 (x7_1 ++ [y394])) else (none)) else (none)) else (none)) = some (r1, r2) := by first | (rw [hy394]; with_reducible exact H) | (have H2_ := (Option.bind_some _ _).symm.trans H; rw [hy394]; with_reducible exact H2_) | (have H2_ := (Option.bind_some _ _).symm.trans H; with_reducible exact H2_) | with_reducible exact H | (rw [hy394]; exact H) | exact H
              have Ny394 := Aside0.mk hy394
              clear hy394
              by_cases c8 : 0 ≤ (copyN y391 x0_1 : Int)
              · rw [if_pos c8] at H
                have c8b0 := eq_true c8
                have c8b1 : decide (0 ≤ (copyN y391 x0_1 : Int)) = true := decide_eq_true c8
                clear c8
                by_cases c9 : (copyN y391 x0_1 : Int) ≤ (x0_1.length : Int)
                · rw [if_pos c9] at H
                  have c9b0 := eq_true c9
                  have c9b1 : decide ((copyN y391 x0_1 : Int) ≤ (x0_1.length : Int)) = true := decide_eq_true c9
                  clear c9
                  obtain ⟨y395, hy395⟩ : ∃ y_ : List Int, y_ = (x0_1.drop ((copyN y391 x0_1 : Int) : Int).toNat) := ⟨_, rfl⟩
                  replace H : (if x7_1.length < 5864062014805 then (symbol_Split.l0 k1 y395 a1 (x7_1 ++ [y394])) else (none)) = some (r1, r2) := by first | (rw [hy395]; with_reducible exact H) | (have H2_ := (Option.bind_some _ _).symm.trans H; rw [hy395]; with_reducible exact H2_) | (have H2_ := (Option.bind_some _ _).symm.trans H; with_reducible exact H2_) | with_reducible exact H | (rw [hy395]; exact H) | exact H
                  have Ny395 := Aside0.mk hy395
                  clear hy395
                  by_cases c10 : x7_1.length < 5864062014805
                  · rw [if_pos c10] at H
                    have LMc10 := Aside0.mk c10
                    clear c10
                    obtain ⟨y400, hy400⟩ : ∃ y_ : List (List Int), y_ = (x7_1 ++ [y394]) := ⟨_, rfl⟩
                    replace H : (symbol_Split.l0 k1 y395 a1 y400) = some (r1, r2) := by first | (rw [hy400]; with_reducible exact H) | (have H2_ := (Option.bind_some _ _).symm.trans H; rw [hy400]; with_reducible exact H2_) | (have H2_ := (Option.bind_some _ _).symm.trans H; with_reducible exact H2_) | with_reducible exact H | (rw [hy400]; exact H) | exact H
                    have Ny400 := Aside0.mk hy400
                    clear hy400
                    have H' := Aside0.mk H
                    clear H
                    obtain ⟨Ao11, co11, eo11⟩ := Kd.V_slice HO_0.out
                    subst eo11
                    go_wp2_with (first | ((with_reducible refine gate_dst (N := 20) rfl ?_); refine Kd.R_make (Kd.int .u8) _ 5 rfl (N := 20) rfl 42 _ _ rfl a1 rfl rfl Tryd.underlying42 (.int .u8 0) 1 info5 rfl (by decide) (by omega) 0 (ok := fun _ => True) (okp := fun _ => True) rfl (fun _ hk => hk) trivial (of_decide_eq_true (by first | (with_reducible assumption) | assumption)) (Nat.le_trans (Nat.mul_le_mul_right _ (of_decide_eq_true (by first | (with_reducible assumption) | assumption) : a1.toNat ≤ 281474976710656)) (by omega)) (Below.refl _ _) (Nat.le_refl _) ?_; intro v392 w12 ho13 hb hg_ hnew_; clear hg_ hnew_; (first | rw [← Ny391.out] at ho13 | (simp only [Int.reduceToNat] at ho13; rw [← Ny391.out] at ho13)); have n0_ := Aside0.mk (Kd.V_elder' (by (with_reducible repeat (first | apply Kd.V_alloc | apply Kd.V_drewN | apply Kd.V_drew)); exact HO_0.out) (Kd.R_base ho13) hb); have n1_ := Aside0.mk (Kd.S_elder' (by (with_reducible repeat (first | apply Kd.S_alloc | apply Kd.S_drewN | apply Kd.S_drew)); exact HO_7.out) (Kd.R_base ho13) hb); have n2_ := Aside0.mk (Kd.R_lower (Kd.R_newM (M := fun k_ => (w.heap.size ≤ k_)) ho13 (below_size (by repeat (first | (with_reducible first | exact HB.out | apply below_alloc | apply pw_below_drewN | apply below_drew1) | exact HB.out))) (fun k_ h_ => h_)) (below_size (by repeat (first | (with_reducible first | exact HB.out | apply below_alloc | apply pw_below_drewN | apply below_drew1) | exact HB.out)))); have n3_ := Aside0.mk (below_step (by repeat (first | (with_reducible first | exact HB.out | apply below_alloc | apply pw_below_drewN | apply below_drew1) | exact HB.out)) hb); clear HO_0; clear HO_7; clear HB; have HO_0 := n0_; have HO_7 := n1_; have HO393 := n2_; have HB := n3_; clear n0_ n1_ n2_ n3_; clear hb ho13; obtain ⟨Ao14, co14, eo14⟩ := Kd.R_slice HO393.out; subst eo14; have n_ := Aside0.mk (Kd.R_mono (ok' := (fun k_ => (w.heap.size ≤ k_))) HO393.out (fun k_ hk => hk.1)); clear HO393; have HO393 := n_; clear n_) | ((with_reducible refine gate_builtin (b := .copy) (xs := #[.tmp 21, .tmp 22]) rfl ?_); refine R_copy_event (w0 := w) w.heap.size rfl (.tmp 21) (.tmp 22) 42 42 rfl 5 Tryd.underlying42 (by kernel_rfl) (.slice Ao14 y391.length co14) y391 Ao11 _ co11 x0_1 (fun k_ => (w.heap.size ≤ k_)) rfl rfl (by (with_reducible repeat (first | apply Kd.R_alloc | apply Kd.R_drewN | apply Kd.R_drew)); exact HO393.out) ?cS (by repeat (first | (with_reducible first | exact HB.out | apply below_alloc | apply pw_below_drewN | apply below_drew1) | exact HB.out)) ?_; (case cS => repeat (first | exact (Kd.V_reads' HO_0.out).2.2 | (with_reducible refine Kd.C_alloc ?_ _) | (with_reducible refine Kd.C_drewN ?_ _) | (with_reducible refine Kd.C_drew ?_))); intro w16 hp_ hb_ hg; rw [← Ny394.out] at hp_; have hw := True.intro; have n0_ := Aside0.mk (Kd.V_afterv (v := (.slice Ao14 y391.length co14)) (v1 := (.slice Ao14 y391.length co14)) (ok := (fun k_ => (P0_ k_ ∨ w.heap.size ≤ k_) ∧ some k_ ≠ (u7 : Value).ownBlock)) (by (with_reducible repeat (first | apply Kd.V_alloc | apply Kd.V_drewN | apply Kd.V_drew)); exact HO_0.out) hg (.inl rfl)); have n1_ := Aside0.mk (Kd.S_after (v := (.slice Ao14 y391.length co14)) (v1 := (.slice Ao14 y391.length co14)) (ok := (fun k_ => (w.heap.size ≤ k_))) (by (with_reducible repeat (first | apply Kd.S_alloc | apply Kd.S_drewN | apply Kd.S_drew)); exact HO_7.out) hg (.inl rfl)); have n2_ := Aside0.mk (hp_); have n3_ := Aside0.mk (hb_); clear HO_0; clear HO_7; clear HO393; clear HB; have HO_0 := n0_; have HO_7 := n1_; have HO393 := n2_; have HB := n3_; clear n0_ n1_ n2_ n3_; clear hg hw hp_ hb_; have q17 : ((copyN y391 x0_1 : Int) : Int) ≤ ((x0_1.length : Int) : Int) := of_decide_eq_true (by first | (with_reducible assumption) | assumption); obtain ⟨i017, hi017, _, hsz17, _⟩ := info_parts info5; have hroom17 : x0_1.length ≤ co11 := (Kd.V_reads' HO_0.out).2.1; have hC17 : Kd.F (Kd.int .u8) _ _ Ao11 x0_1.length x0_1 := (Kd.V_at (base := w.heap.size) HO_0.out).2.2; have q017 : (0 : Int) ≤ ((copyN y391 x0_1 : Int) : Int) := of_decide_eq_true (by first | (with_reducible assumption) | assumption); have hcut17 := cut_from (P := Tryd.prog) 42 5 .i64 Tryd.underlying42 hi017 1 hsz17 Ao11 x0_1.length co11 (copyN y391 x0_1 : Int) q017 q17; have hr17 := Kd.F_cut (m := ((copyN y391 x0_1 : Int) : Int).toNat) (c := co11) hC17 (by omega) hroom17; obtain ⟨A17, hA17⟩ : ∃ A1, A1 = (if co11 = ((copyN y391 x0_1 : Int) : Int).toNat then Ao11 else (Ao11 : Option Addr).map (·.add (((copyN y391 x0_1 : Int) : Int).toNat * 1))) := ⟨_, rfl⟩; obtain ⟨c17, hc17⟩ : ∃ c1, c1 = co11 - ((copyN y391 x0_1 : Int) : Int).toNat := ⟨_, rfl⟩; have hy17 : y395.length = x0_1.length - ((copyN y391 x0_1 : Int) : Int).toNat := (by rw [Ny395.out, List.length_drop] <;> omega); rw [show (x0_1).drop ((copyN y391 x0_1 : Int) : Int).toNat = y395 from Ny395.out.symm] at hr17; replace hr17 : Kd.F (Kd.int .u8) _ _ A17 y395.length y395 := (by rw [hA17]; exact hr17); rw [← hy17, ← hA17, ← hc17] at hcut17; have HO399 := Aside0.mk (show Kd.V (Kd.int .u8) 5 _ w.heap.size _ (.slice A17 y395.length c17) y395 from Kd.V_mk (by rw [hy17, hc17]; exact Nat.sub_le_sub_right hroom17 _) hr17); have HC399 := Aside0.mk (show y395.length ≤ c17 from by rw [hy17, hc17]; exact Nat.sub_le_sub_right hroom17 _); clear hr17 hC17 hroom17 hi017 hsz17 hc17; have KY17 := Aside0.mk hy17; have KA17 := Aside0.mk hA17; clear hy17 hA17; replace q17 := eq_true q17) | ((with_reducible refine gate_builtin (b := .append) (xs := #[.tmp 27, .tmp 29]) rfl ?_); at_builtin; refine Kd.S_append (Kd.slice 5 (Kd.int .u8)) (w0 := w) w.heap.size rfl (.tmp 27) (.tmp 29) 40 42 (.slice none 0 0) 24 rfl Tryd.underlying40 info42 rfl (by decide) (by omega) u7 x7_1 y394 [.slice Ao14 y391.length co14] (fun k_ => (w.heap.size ≤ k_)) (fun k_ => some k_ = (.slice Ao14 y391.length co14 : Value).ownBlock) rfl rfl ?aP (fun k_ hk_ => ((Kd.R_mono (ok' := fun k_ => ((fun k_ => (w.heap.size ≤ k_))) k_ ∧ some k_ ≠ (u7 : Value).ownBlock) (Kd.R_apart' (HO393.out) (Kd.S_typed HO_7.out) (by decide)) (fun k_ hk => ⟨hk.1, hk.2⟩))).1 k_ hk_.symm) ?aF ?aO ?aB ?aS ?aL ?_; (case aP => exact Kd.M_row (Kd.R_mono (Kd.R_tight rfl (Kd.R_mono (ok' := fun k_ => ((fun k_ => (w.heap.size ≤ k_))) k_ ∧ some k_ ≠ (u7 : Value).ownBlock) (Kd.R_apart' (HO393.out) (Kd.S_typed HO_7.out) (by decide)) (fun k_ hk => ⟨hk.1, hk.2⟩))) (fun _ h_ => h_))); (case aB => exact (by repeat (first | (with_reducible first | exact HB.out | apply below_alloc | apply pw_below_drewN | apply below_drew1) | exact HB.out))); (case aF => exact (fun k_ hk => (Nat.le_trans (below_size (by repeat (first | (with_reducible first | exact HB.out | apply below_alloc | apply pw_below_drewN | apply below_drew1) | exact HB.out))) hk))); (case aO => exact (by (with_reducible repeat (first | apply Kd.S_alloc | apply Kd.S_drewN | apply Kd.S_drew)); exact Kd.S_mono HO_7.out (fun k_ hk => ⟨hk.1, fun e_ => hk.2 e_⟩))); (case aS => exact (below_size (by repeat (first | (with_reducible first | exact HB.out | apply below_alloc | apply pw_below_drewN | apply below_drew1) | exact HB.out)))); (case aL => have := LMc10.out; omega); intro v401 w18 ho hb hg hat; rw [← Ny400.out] at ho; have n0_ := Aside0.mk (Kd.V_afterv (ok := (fun k_ => (P0_ k_ ∨ w.heap.size ≤ k_) ∧ some k_ ≠ (.slice Ao14 y391.length co14 : Value).ownBlock)) (by (with_reducible repeat (first | apply Kd.V_alloc | apply Kd.V_drewN | apply Kd.V_drew)); exact Kd.V_mono HO_0.out (fun _ hk => ⟨⟨hk.1.1, hk.2⟩, hk.1.2⟩)) hg hat); have n1_ := Aside0.mk (Kd.V_afterv (ok := (fun k_ => (P0_ k_ ∨ w.heap.size ≤ k_) ∧ some k_ ≠ (.slice Ao14 y391.length co14 : Value).ownBlock)) (by (with_reducible repeat (first | apply Kd.V_alloc | apply Kd.V_drewN | apply Kd.V_drew)); exact Kd.V_mono HO399.out (fun _ hk => ⟨⟨hk.1.1, hk.2⟩, hk.1.2⟩)) hg hat); have n2_ := Aside0.mk (hb); have n3_ := Aside0.mk (ho); clear HO_0; clear HO399; clear HB; clear HO_7; clear HO393; have HO_0 := n0_; have HO399 := n1_; have HB := n2_; have HO402 := n3_; clear n0_ n1_ n2_ n3_; clear ho hb hg hat))
                    go_roundg k1
                    case measure => have := HK1.out; omega
                    case rel => exact ⟨(y395), (y400), H', ⟨by have := HK1.out; omega⟩, ⟨by (with_reducible repeat (first | apply Kd.V_alloc | apply Kd.V_drewN | apply Kd.V_drew)); exact Kd.V_mono HO399.out (fun _ hk => ⟨hk.1.1, hk.2⟩)⟩, ⟨by (with_reducible repeat (first | apply Kd.S_alloc | apply Kd.S_drewN | apply Kd.S_drew)); exact HO402.out⟩, ⟨by repeat (first | (with_reducible first | exact HB.out | apply below_alloc | apply pw_below_drewN | apply below_drew1) | exact HB.out)⟩⟩
                  · rw [if_neg c10] at H
                    exact absurd H (by simp)
                · rw [if_neg c9] at H
                  exact absurd H (by simp)
              · rw [if_neg c8] at H
                exact absurd H (by simp)
            · rw [if_neg c7] at H
              exact absurd H (by simp)
          · rw [if_neg c6] at H
            exact absurd H (by simp)
        · rw [if_neg c5] at H
          have c5b0 : decide (0 < (x0_1.length : Int)) = false := decide_eq_false c5
          have c5b1 : decide (0 < x0_1.length) = false := decide_eq_false (by omega)
          clear c5
          simp only [Option.some.injEq, Prod.mk.injEq] at H
          obtain ⟨rfl, rfl⟩ := H
          obtain ⟨Ao19, co19, eo19⟩ := Kd.V_slice HO_0.out
          subst eo19
          go_wp2
          go_ret2
          exact ⟨_, (.slice none 0 0), by first | rfl | (simp [errW_none, errW_some] <;> rfl) | (simp [*, errW_none, errW_some] <;> rfl), by (with_reducible repeat (first | apply Kd.S_alloc | apply Kd.S_drewN | apply Kd.S_drew)); exact HO_7.out, by first | exact Kd.R_nil _ _ _ _ _ | exact Kd.N_nil _ _ _ _ _ | exact Kd.V_nil _ _ _ _ _ | exact Kd.Q_nil _ _ _ _ _ | exact Kd.S_nil _ _ _ _ _, by repeat (first | (with_reducible first | exact HB.out | apply below_alloc | apply pw_below_drewN | apply below_drew1) | exact HB.out)⟩
  · rw [if_neg c4] at H
    have c4b0 : (t387 == 0) = false := beq_eq_false_iff_ne.mpr c4
    have c4b1 : (t387 != 0) = true := bne_iff_ne.mpr c4
    replace H := Option.bind_eq_some_iff.mp H
    obtain ⟨t388, A200, H⟩ := H
    replace H : (some (([] : List (List Int)), t388)) = some (r1, r2) := H
    have A20 := Aside0.mk A200
    clear A200
    simp only [Option.some.injEq, Prod.mk.injEq] at H
    obtain ⟨rfl, rfl⟩ := H
    go_enter Tryd.func36, Tryd.ntmps36
    go_wp2_with (first | ((with_reducible refine gate_callee (f := 54) rfl ?_); refine goesL_ (some 11) rfl rfl Tryd.func54 (by kernel_rfl) rfl #[.slice none 0 0, .int .i64 a1] rfl (by (try simp only [List.map_toArray, List.map_cons, List.map_nil]); first | done | rfl | (simp only [List.length_drop, List.length_take]; rfl)) ?_; (refine (symbol_check.calls k _ _ ([] : List (List Int)) a1 t387 _ ?side1 ?side2 A3.out).mono ?_); (case side1 => exact Kd.C_nil _ _); (case side2 => exact Nat.le_refl _); rintro e w' ⟨rfl, ⟨nd, rfl⟩⟩; refine ⟨_, rfl, ?_⟩) | ((with_reducible refine gate_callee (f := 53) rfl ?_); refine goesL_ (some 15) rfl rfl Tryd.func53 (by kernel_rfl) rfl #[.string (⟨#[115, 121, 109, 98, 111, 108, 46, 83, 112, 108, 105, 116]⟩ : ByteArray), .int .i64 t387] rfl (by (try simp only [List.map_toArray, List.map_cons, List.map_nil]); first | done | rfl | (simp only [List.length_drop, List.length_take]; rfl)) ?_; (with_reducible refine (fault_New.calls (⟨#[115, 121, 109, 98, 111, 108, 46, 83, 112, 108, 105, 116]⟩ : ByteArray) t387 t388 _ A20.out).mono ?_); rintro e w21 ⟨v389, rfl, ho0, hb⟩; refine ⟨_, rfl, ?_⟩; have n0_ := Aside0.mk (Kd.V_below (by (with_reducible repeat (first | apply Kd.V_alloc | apply Kd.V_drewN | apply Kd.V_drew)); exact HO0.out) hb); have n1_ := Aside0.mk (Kd.R_lower (Kd.R_newM (M := fun k_ => (w.heap.size ≤ k_)) ho0 (below_size (by repeat (first | (with_reducible first | exact HB.out | apply below_alloc | apply pw_below_drewN | apply below_drew1) | exact HB.out))) (fun k_ h_ => h_)) (below_size (by repeat (first | (with_reducible first | exact HB.out | apply below_alloc | apply pw_below_drewN | apply below_drew1) | exact HB.out)))); have n2_ := Aside0.mk (below_step (by repeat (first | (with_reducible first | exact HB.out | apply below_alloc | apply pw_below_drewN | apply below_drew1) | exact HB.out)) hb); clear HO0; clear HB; have HO0 := n0_; have HO390 := n1_; have HB := n2_; clear n0_ n1_ n2_; (try clear hb); (try clear hb2); (try clear hk); (try clear hi); (try clear ho0)))
    go_ret2
    exact ⟨_, _, by first | rfl | (simp [errW_none, errW_some] <;> rfl) | (simp [*, errW_none, errW_some] <;> rfl), by first | exact Kd.S_nil _ _ _ _ _ | exact Kd.N_nil _ _ _ _ _ | exact Kd.V_nil _ _ _ _ _ | exact Kd.Q_nil _ _ _ _ _ | exact Kd.R_nil _ _ _ _ _, by (with_reducible repeat (first | apply Kd.R_alloc | apply Kd.R_drewN | apply Kd.R_drew)); exact Kd.R_mono HO390.out (fun _ hk => hk.1), by repeat (first | (with_reducible first | exact HB.out | apply below_alloc | apply pw_below_drewN | apply below_drew1) | exact HB.out)⟩

end Go.Proofs.YtnigpfaecibdfaaDoor.P

namespace Go.Proofs.YtnigpfaecibdfaaDoor.P
open Go.RowKit Go.Proofs.YtnigpfaecibdfaaDoorW.PrintWords Go.Proofs.YtnigpfaecibdfaaDoorW.PrintLast Go.Proofs.YtnigpfaecibdfaaDoorW.PrintErr Go.Proofs.YtnigpfaecibdfaaDoorW.PrintMore
attribute [local go_sem] max2_int min2_int max_two min_two max_three min_three max_four min_four run_eql_errOf run_neq_errOf eqGuard_errOf   -- for this text's walks alone
set_option linter.unusedVariables false
set_option linter.unusedSimpArgs false

/-! ### geyserlaw04_SymbolSplits: function 9 -/
mutual
def geyserlaw04_SymbolSplits.l0 : Nat → List Int → Int → List Int → List (List Int) → List FE → Int → Option (Bool)
  | 0, _, _, _, _, _, _ => none
  | k + 1, x0, x1, x5, x6, x7, x8 => if x8 < (x5.length : Int) then (if 0 ≤ x8 then (geyserlaw04_SymbolSplits.l0 k x0 x1 (x5.set (x8 : Int).toNat ((255 - (rd x5 x8)) % 256)) x6 x7 (wrap64 (x8 + 1))) else (none)) else ((geyserref04_Check.f k ([] : List (List Int)) x1).bind fun t432 => ((geyserlaw04_tells.f x7 t432 (⟨#[115, 121, 109, 98, 111, 108, 46, 83, 112, 108, 105, 116]⟩ : ByteArray)).bind fun t433 => (if t433 = true then ((symbol_Zero.f k x0).bind fun t434 => ((geyserref04_Zero.f k x0).bind fun t435 => (geyserlaw04_SymbolSplits.j1 k x0 x1 x6 t432 (t434 != t435)))) else (geyserlaw04_SymbolSplits.j1 k x0 x1 x6 t432 true))))
def geyserlaw04_SymbolSplits.j1 : Nat → List Int → Int → List (List Int) → Int → Bool → Option (Bool)
  | 0, _, _, _, _, _ => none
  | k + 1, x0, x1, x6, x9, x45 => if x45 = true then (some false) else (if x9 = 0 then ((geyserref04_Split.f k x0 x1).bind fun t436 => ((geyserref04_Same.f k x6 t436).bind fun t439 => (if t439 = true then ((geyserlaw04_awake.f k).bind fun t440 => (some t440)) else (some false)))) else (if (x6.length : Int) = 0 then ((geyserlaw04_awake.f k).bind fun t441 => (some t441)) else (some false)))
end
def geyserlaw04_SymbolSplits.f (k : Nat) (l0 : List Int) (a1 : Int) : Option (Bool) := (some (([] : List Int) : List Int)).bind fun y418 => (if y418.length + l0.length < 140737488355328 then ((some (y418 ++ l0 : List Int)).bind fun y421 => ((symbol_Split.f k y421 a1).bind fun bt424 => (geyserlaw04_SymbolSplits.l0 k l0 a1 y421 bt424.1 bt424.2 0))) else (none))
theorem geyserlaw04_SymbolSplits.mono_l : ∀ k, (∀ y0 y1 y2 y3 y4 y5, LeO (geyserlaw04_SymbolSplits.l0 k y0 y1 y2 y3 y4 y5) (geyserlaw04_SymbolSplits.l0 (k + 1) y0 y1 y2 y3 y4 y5)) ∧ (∀ y0 y1 y2 y3 y4, LeO (geyserlaw04_SymbolSplits.j1 k y0 y1 y2 y3 y4) (geyserlaw04_SymbolSplits.j1 (k + 1) y0 y1 y2 y3 y4))
  | 0 => ⟨fun _ _ _ _ _ _ r h => by simp [geyserlaw04_SymbolSplits.l0] at h, fun _ _ _ _ _ r h => by simp [geyserlaw04_SymbolSplits.j1] at h⟩
  | k + 1 => by
    obtain ⟨ih0, ih1⟩ := geyserlaw04_SymbolSplits.mono_l k
    refine ⟨?_, ?_⟩
    · intro y0 y1 y2 y3 y4 y5
      unfold geyserlaw04_SymbolSplits.l0
      repeat' first
      | (with_reducible exact ih0 _ _ _ _ _ _)
      | (with_reducible exact ih1 _ _ _ _ _)
      | (with_reducible exact geyserlaw04_awake.mono _)
      | (with_reducible exact geyserref04_Check.mono _ _ _)
      | (with_reducible exact geyserref04_Same.mono _ _ _)
      | (with_reducible exact geyserref04_Split.mono _ _ _)
      | (with_reducible exact geyserref04_Zero.mono _ _)
      | (with_reducible exact symbol_Split.mono _ _ _)
      | (with_reducible exact symbol_Zero.mono _ _)
      | (with_reducible exact LeO.refl _)
      | (with_reducible exact LeO.none _)
      | (with_reducible refine LeO.ite ?_ ?_)
      | (with_reducible refine LeO.bind ?_ (fun _ => ?_))
      | exact ih0 _ _ _ _ _ _
      | exact ih1 _ _ _ _ _
      | exact geyserlaw04_awake.mono _
      | exact geyserref04_Check.mono _ _ _
      | exact geyserref04_Same.mono _ _ _
      | exact geyserref04_Split.mono _ _ _
      | exact geyserref04_Zero.mono _ _
      | exact symbol_Split.mono _ _ _
      | exact symbol_Zero.mono _ _
      | exact LeO.none _
      | refine LeO.ite ?_ ?_
      | refine LeO.bind ?_ (fun _ => ?_)
    · intro y0 y1 y2 y3 y4
      unfold geyserlaw04_SymbolSplits.j1
      repeat' first
      | (with_reducible exact ih0 _ _ _ _ _ _)
      | (with_reducible exact ih1 _ _ _ _ _)
      | (with_reducible exact geyserlaw04_awake.mono _)
      | (with_reducible exact geyserref04_Check.mono _ _ _)
      | (with_reducible exact geyserref04_Same.mono _ _ _)
      | (with_reducible exact geyserref04_Split.mono _ _ _)
      | (with_reducible exact geyserref04_Zero.mono _ _)
      | (with_reducible exact symbol_Split.mono _ _ _)
      | (with_reducible exact symbol_Zero.mono _ _)
      | (with_reducible exact LeO.refl _)
      | (with_reducible exact LeO.none _)
      | (with_reducible refine LeO.ite ?_ ?_)
      | (with_reducible refine LeO.bind ?_ (fun _ => ?_))
      | exact ih0 _ _ _ _ _ _
      | exact ih1 _ _ _ _ _
      | exact geyserlaw04_awake.mono _
      | exact geyserref04_Check.mono _ _ _
      | exact geyserref04_Same.mono _ _ _
      | exact geyserref04_Split.mono _ _ _
      | exact geyserref04_Zero.mono _ _
      | exact symbol_Split.mono _ _ _
      | exact symbol_Zero.mono _ _
      | exact LeO.none _
      | refine LeO.ite ?_ ?_
      | refine LeO.bind ?_ (fun _ => ?_)
theorem geyserlaw04_SymbolSplits.mono : ∀ a0 a1 k, LeO (geyserlaw04_SymbolSplits.f k a0 a1) (geyserlaw04_SymbolSplits.f (k + 1) a0 a1) := by
  intro a0 a1 k
  obtain ⟨ih0, ih1⟩ := geyserlaw04_SymbolSplits.mono_l k
  unfold geyserlaw04_SymbolSplits.f
  repeat' first
      | (with_reducible exact ih0 _ _ _ _ _ _)
      | (with_reducible exact ih1 _ _ _ _ _)
      | (with_reducible exact geyserlaw04_awake.mono _)
      | (with_reducible exact geyserref04_Check.mono _ _ _)
      | (with_reducible exact geyserref04_Same.mono _ _ _)
      | (with_reducible exact geyserref04_Split.mono _ _ _)
      | (with_reducible exact geyserref04_Zero.mono _ _)
      | (with_reducible exact symbol_Split.mono _ _ _)
      | (with_reducible exact symbol_Zero.mono _ _)
      | (with_reducible exact LeO.refl _)
      | (with_reducible exact LeO.none _)
      | (with_reducible refine LeO.ite ?_ ?_)
      | (with_reducible refine LeO.bind ?_ (fun _ => ?_))
      | exact ih0 _ _ _ _ _ _
      | exact ih1 _ _ _ _ _
      | exact geyserlaw04_awake.mono _
      | exact geyserref04_Check.mono _ _ _
      | exact geyserref04_Same.mono _ _ _
      | exact geyserref04_Split.mono _ _ _
      | exact geyserref04_Zero.mono _ _
      | exact symbol_Split.mono _ _ _
      | exact symbol_Zero.mono _ _
      | exact LeO.none _
      | refine LeO.ite ?_ ?_
      | refine LeO.bind ?_ (fun _ => ?_)
set_option maxHeartbeats 8000000 in
set_option maxRecDepth 100000 in
theorem geyserlaw04_SymbolSplits.calls (k : Nat) (A0 : Option Addr) (c0 : Nat) (l0 : List Int) (a1 : Int) (r : Bool) (w : World) (he : ErrIn w) (hr0 : Kd.C (Kd.int .u8) w A0 l0.length l0) (hc0 : l0.length ≤ c0) (h : geyserlaw04_SymbolSplits.f k l0 a1 = some r) :
    Calls Tryd.prog 9 #[.slice A0 l0.length c0, .int .i64 a1] w fun e w' => e = .returned (.bool r) ∧ Below w.heap.size w w' := by
  have HR0 := Aside0.mk hr0
  have HC0 := Aside0.mk hc0
  clear hr0 hc0
  have HB := Aside0.mk (Below.refl w.heap.size w)
  have HEI := Aside0.mk he
  clear he
  have H : ((some (([] : List Int) : List Int)).bind fun y418 => (if y418.length + l0.length < 140737488355328 then ((some (y418 ++ l0 : List Int)).bind fun y421 => ((symbol_Split.f k y421 a1).bind fun bt424 => (geyserlaw04_SymbolSplits.l0 k l0 a1 y421 bt424.1 bt424.2 0))) else (none))) = some r := h
  clear h
  obtain ⟨y418, hy418⟩ : ∃ y_ : List Int, y_ = (([] : List Int)) := ⟨_, rfl⟩
  replace H : (if y418.length + l0.length < 140737488355328 then ((some (y418 ++ l0 : List Int)).bind fun y421 => ((symbol_Split.f k y421 a1).bind fun bt424 => (geyserlaw04_SymbolSplits.l0 k l0 a1 y421 bt424.1 bt424.2 0))) else (none)) = some r := by first | (rw [hy418]; with_reducible exact H) | (have H2_ := (Option.bind_some _ _).symm.trans H; rw [hy418]; with_reducible exact H2_) | (have H2_ := (Option.bind_some _ _).symm.trans H; with_reducible exact H2_) | with_reducible exact H | (rw [hy418]; exact H) | exact H
  have Ny418 := Aside0.mk hy418
  clear hy418
  by_cases c3 : y418.length + l0.length < 140737488355328
  · rw [if_pos c3] at H
    have LMc3 := Aside0.mk c3
    clear c3
    obtain ⟨y421, hy421⟩ : ∃ y_ : List Int, y_ = (y418 ++ l0) := ⟨_, rfl⟩
    replace H : ((symbol_Split.f k y421 a1).bind fun bt424 => (geyserlaw04_SymbolSplits.l0 k l0 a1 y421 bt424.1 bt424.2 0)) = some r := by first | (rw [hy421]; with_reducible exact H) | (have H2_ := (Option.bind_some _ _).symm.trans H; rw [hy421]; with_reducible exact H2_) | (have H2_ := (Option.bind_some _ _).symm.trans H; with_reducible exact H2_) | with_reducible exact H | (rw [hy421]; exact H) | exact H
    have Ny421 := Aside0.mk hy421
    clear hy421
    replace H := Option.bind_eq_some_iff.mp H
    obtain ⟨⟨t424, t427⟩, A40, H⟩ := H
    replace H : (geyserlaw04_SymbolSplits.l0 k l0 a1 y421 t424 t427 0) = some r := H
    have A4 := Aside0.mk A40
    clear A40
    have H' := Aside0.mk H
    clear H
    go_enter Tryd.func9, Tryd.ntmps9
    go_wp2_with (first | ((with_reducible refine gate_dst (N := 10) rfl ?_); refine Kd.R_lit (Kd.int .u8) _ 5 ?hg (N := 10) ?hd (xs := ([] : List Int)) (inner := []) (ok := fun _ => True) (okp := fun _ => True) ?hr ?hp (fun _ hk => hk) trivial (Below.refl _ _) (Nat.le_refl _) (by simp) ?_; (case hd => rfl); (case hg => rfl); (case hr => first | (go_simp; done) | (go_simp; rfl)); (case hp => exact (Reps.none _ _)); intro v419 w5 ho6 hb hg_ hnew_; clear hg_ hnew_; (first | rw [← Ny418.out] at ho6 | (simp only [Int.reduceToNat] at ho6; rw [← Ny418.out] at ho6)); have n0_ := Aside0.mk (Kd.R_lower ho6 (below_size (by repeat (first | (with_reducible first | exact HB.out | apply below_alloc | apply pw_below_drewN | apply below_drew1) | exact HB.out)))); have n1_ := Aside0.mk (below_step (by repeat (first | (with_reducible first | exact HB.out | apply below_alloc | apply pw_below_drewN | apply below_drew1) | exact HB.out)) hb); clear HB; have HO420 := n0_; have HB := n1_; clear n0_ n1_; clear hb ho6) | ((with_reducible refine gate_builtin (b := .append) (xs := #[.tmp 10, .tmp 11]) rfl ?_); at_builtin; refine Kd.R_append_rows (Kd.int .u8) (w0 := w) w.heap.size rfl (.tmp 10) (.tmp 11) 42 5 (.int .u8 0) 1 rfl Tryd.underlying42 info5 rfl (by decide) (by omega) v419 y418 l0 _ _ _ (fun _ => True) (fun _ => False) rfl rfl ?aO ?aR (fun _ _ h => h) (fun _ h => h.elim) ?aF ?aB ?aS ?aL ?_; (case aR => repeat (first | exact (Kd.C_below HR0.out HB.out) | (with_reducible refine Kd.C_alloc ?_ _) | (with_reducible refine Kd.C_drewN ?_ _) | (with_reducible refine Kd.C_drew ?_))); (case aB => exact (by repeat (first | (with_reducible first | exact HB.out | apply below_alloc | apply pw_below_drewN | apply below_drew1) | exact HB.out))); (case aF => exact (fun _ _ => trivial)); (case aO => exact (by (with_reducible repeat (first | apply Kd.R_alloc | apply Kd.R_drewN | apply Kd.R_drew)); exact HO420.out)); (case aS => exact (below_size (by repeat (first | (with_reducible first | exact HB.out | apply below_alloc | apply pw_below_drewN | apply below_drew1) | exact HB.out)))); (case aL => have := LMc3.out; omega); intro v422 w7 ho hb hg hat; rw [← Ny421.out] at ho; have n0_ := Aside0.mk (hb); have n1_ := Aside0.mk (ho); clear HB; clear HO420; have HB := n0_; have HO423 := n1_; clear n0_ n1_; clear ho hb hg hat; obtain ⟨Ao8, co8, eo8⟩ := Kd.R_slice HO423.out; subst eo8) | ((with_reducible refine gate_callee (f := 36) rfl ?_); refine goesL_ (some 16) rfl rfl Tryd.func36 (by kernel_rfl) rfl #[.slice Ao8 y421.length co8, .int .i64 a1] rfl (by (try simp only [List.map_toArray, List.map_cons, List.map_nil]); first | done | rfl | (simp only [List.length_drop, List.length_take]; rfl)) ?_; (with_reducible refine (symbol_Split.calls k (fun k_ => some k_ = (.slice Ao8 y421.length co8 : Value).ownBlock) _ _ y421 a1 t424 t427 _ ?side1 A4.out).mono ?_); (case side1 => exact Kd.R_V (Kd.R_tight rfl (HO423.out))); rintro e w9 ⟨v425, v428, rfl, ho0, ho1, hb⟩; refine ⟨_, rfl, ?_⟩; have n0_ := Aside0.mk (Kd.R_below (by (with_reducible repeat (first | apply Kd.R_alloc | apply Kd.R_drewN | apply Kd.R_drew)); exact HO423.out) hb); have n1_ := Aside0.mk (Kd.S_lower (Kd.S_new' (Kd.S_mono (ok' := fun k_ => True) ho0 (fun _ hk_ => trivial)) (Kd.R_lt (by (with_reducible repeat (first | apply Kd.R_alloc | apply Kd.R_drewN | apply Kd.R_drew)); exact HO423.out))) (below_size (by repeat (first | (with_reducible first | exact HB.out | apply below_alloc | apply pw_below_drewN | apply below_drew1) | exact HB.out)))); have n2_ := Aside0.mk (Kd.R_lower (Kd.R_mono (ok' := fun k_ => True) ho1 (fun _ hk_ => trivial)) (below_size (by repeat (first | (with_reducible first | exact HB.out | apply below_alloc | apply pw_below_drewN | apply below_drew1) | exact HB.out)))); have n3_ := Aside0.mk (below_step (by repeat (first | (with_reducible first | exact HB.out | apply below_alloc | apply pw_below_drewN | apply below_drew1) | exact HB.out)) hb); clear HO423; clear HB; have HO423 := n0_; have HO426 := n1_; have HO429 := n2_; have HB := n3_; clear n0_ n1_ n2_ n3_; (try clear hb); (try clear hb2); (try clear hk); (try clear hi); (try clear ho0); (try clear ho1)))
    go_loopg [8] k (fun kq v8 w' => ∃ (x5_1 : List Int) (x8_1 : Int), v8 = .int .i64 x8_1 ∧ Aside0 (geyserlaw04_SymbolSplits.l0 kq l0 a1 x5_1 t424 t427 x8_1 = some r) ∧ Aside0 (kq ≤ k) ∧ Aside0 (Kd.R (Kd.int .u8) 5 w' w.heap.size (fun _ => True) (.slice Ao8 y421.length co8) x5_1) ∧ Aside0 (Kd.S (Kd.slice 5 (Kd.int .u8)) 42 w' w.heap.size (fun k_ => some k_ ≠ ((.slice Ao8 y421.length co8) : Value).ownBlock) v425 t424) ∧ Aside0 (Kd.R kF 79 w' w.heap.size (fun _ => True) v428 t427) ∧ Aside0 (Below w.heap.size w w'))
    case atStart => exact ⟨(y421), (0), (by first | rfl | (simp; done) | (simp [*]; done)), H', ⟨Nat.le_refl _⟩, ⟨by (with_reducible repeat (first | apply Kd.R_alloc | apply Kd.R_drewN | apply Kd.R_drew)); exact HO423.out⟩, ⟨by (with_reducible repeat (first | apply Kd.S_alloc | apply Kd.S_drewN | apply Kd.S_drew)); exact Kd.S_mono HO426.out (fun _ hk => hk.2)⟩, ⟨by (with_reducible repeat (first | apply Kd.R_alloc | apply Kd.R_drewN | apply Kd.R_drew)); exact HO429.out⟩, ⟨by repeat (first | (with_reducible first | exact HB.out | apply below_alloc | apply pw_below_drewN | apply below_drew1) | exact HB.out)⟩⟩
    case round =>
      clear H'
      try clear p2
      try clear c3
      try clear c9
      obtain ⟨x5_1, x8_1, rfl, HA, HK1, HO_5, HO_6, HO_7, HB⟩ := hrel
      have hl5_1 := (Kd.R_reads' HO_5.out).1
      rw [hl5_1] at HO_5
      (try simp only [hl5_1])
      (try simp only [hl5_1] at HO_6)
      (try simp only [hl5_1] at HO_7)
      cases gk with
      | zero => exact absurd HA.out (by simp [geyserlaw04_SymbolSplits.l0])
      | succ k1 =>
        have H := HA.out
        clear HA
        simp only [geyserlaw04_SymbolSplits.l0] at H
        by_cases c10 : x8_1 < (x5_1.length : Int)
        · rw [if_pos c10] at H
          have c10b0 : decide (x8_1 < (x5_1.length : Int)) = true := decide_eq_true c10
          (try (have c10b0q := c10b0; simp only [hl5_1] at c10b0q))
          clear c10
          by_cases c11 : 0 ≤ x8_1
          · rw [if_pos c11] at H
            have c11b0 : decide (0 ≤ x8_1) = true := decide_eq_true c11
            clear c11
            obtain ⟨y431, hy431⟩ : ∃ y_ : List Int, y_ = (x5_1.set (x8_1 : Int).toNat ((255 - (rd x5_1 x8_1)) % 256)) := ⟨_, rfl⟩
            replace H : (geyserlaw04_SymbolSplits.l0 k1 l0 a1 y431 t424 t427 (wrap64 (x8_1 + 1))) = some r := by first | (rw [hy431]; with_reducible exact H) | (have H2_ := (Option.bind_some _ _).symm.trans H; rw [hy431]; with_reducible exact H2_) | (have H2_ := (Option.bind_some _ _).symm.trans H; with_reducible exact H2_) | with_reducible exact H | (rw [hy431]; exact H) | exact H
            have Ny431 := Aside0.mk hy431
            clear hy431
            have H' := Aside0.mk H
            clear H
            have p430 : 0 ≤ (x8_1 : Int) := of_decide_eq_true (by first | (with_reducible assumption) | assumption)
            have q430 : x8_1 < (x5_1.length : Int) := of_decide_eq_true (by first | (with_reducible assumption) | assumption)
            obtain ⟨ad430, e430, hx430_0⟩ := Kd.at_int (Kd.R_reads' HO_5.out).2.2 x8_1 p430 q430
            cases e430
            replace p430 := eq_true p430
            replace q430 := eq_true q430
            have p12 : 0 ≤ (x8_1 : Int) := of_decide_eq_true (by first | (with_reducible assumption) | assumption)
            have q12 : (x8_1 : Int) < ((x5_1.length : Int) : Int) := of_decide_eq_true (by first | (with_reducible assumption) | assumption)
            obtain ⟨go12, co12, eo12, gb12, gl12, cl12, HG12⟩ := Kd.R_form HO_5.out (by omega)
            (first | cases eo12 | (injection eo12 with ea_ en_ ec_; (first | subst ea_ | (injection ea_ with ea_; subst ea_)); subst ec_; clear en_))
            have GB12 := Aside0.mk gb12
            have GG12 := Aside0.mk HG12
            clear gb12 gl12 HG12
            (first | simp only [add_plain] at hx430_0 | skip)
            obtain ⟨hx12_0, hf12_0⟩ := Kd.R_celln 0 HO_5.out (x8_1 : Int) p12 q12
            replace p12 := eq_true p12
            replace q12 := eq_true q12
            have HP13 := Kd.R_putg HO_5.out (x8_1 : Int) ((255 - (rd x5_1 x8_1)) % 256)
            go_wp2_with (first | ((with_reducible refine gate_store (t := 5) (p := 32) rfl ?_); refine store_event (t := 5) (p := 32) (v := ?vo_w14) (w1 := (wr.setCell ⟨go12, (x8_1 : Int).toNat, none⟩ (.int .u8 ((255 - (rd x5_1 x8_1)) % 256)))) ?hg ?ho ?hn ?hr ?_; (case ho => rfl); (case hg => rfl); (case hn => rfl); (case hr => first | (go_simp; done) | (go_simp; rfl)); intro w14 hw; have hg : wr.grownBy w14 (some go12) := (by rw [hw]; exact HP13.2); have hp_ : Kd.R (Kd.int .u8) 5 w14 w.heap.size (fun _ => True) (.slice (some ⟨go12, 0, none⟩) x5_1.length co8) y431 := (by rw [hw, Ny431.out]; exact HP13.1); clear HP13; have n0_ := Aside0.mk (hp_); have n1_ := Aside0.mk (Kd.S_after (v := (.slice (some ⟨go12, 0, none⟩) x5_1.length co8)) (v1 := (.slice (some ⟨go12, 0, none⟩) x5_1.length co8)) (ok := (fun _ => True)) (by (with_reducible repeat (first | apply Kd.S_alloc | apply Kd.S_drewN | apply Kd.S_drew)); exact Kd.S_mono HO_6.out (fun _ hk => ⟨trivial, hk⟩)) hg (.inl rfl)); have n2_ := Aside0.mk (Kd.R_over' (v := (.slice (some ⟨go12, 0, none⟩) x5_1.length co8)) (by (with_reducible repeat (first | apply Kd.R_alloc | apply Kd.R_drewN | apply Kd.R_drew)); exact HO_7.out) (Kd.R_typed HO_5.out) (by decide) hg); have n3_ := Aside0.mk ((by rw [hw]; exact below_set (HB.out) GB12.out : Below w.heap.size w w14)); clear HO_5; clear HO_6; clear HO_7; clear HB; have HO_5 := n0_; have HO_6 := n1_; have HO_7 := n2_; have HB := n3_; clear n0_ n1_ n2_ n3_; clear hg hw hp_))
            (try simp only [← hl5_1])
            go_roundg k1
            case measure => have := HK1.out; omega
            case rel => exact ⟨(y431), (wrap64 (x8_1 + 1)), (by first | rfl | (simp; done) | (simp [*]; done)), H', ⟨by have := HK1.out; omega⟩, ⟨by (try simp only [hl5_1]); (with_reducible repeat (first | apply Kd.R_alloc | apply Kd.R_drewN | apply Kd.R_drew)); exact HO_5.out⟩, ⟨by (try simp only [hl5_1]); (with_reducible repeat (first | apply Kd.S_alloc | apply Kd.S_drewN | apply Kd.S_drew)); exact Kd.S_mono HO_6.out (fun _ hk => hk.2)⟩, ⟨by (try simp only [hl5_1]); (with_reducible repeat (first | apply Kd.R_alloc | apply Kd.R_drewN | apply Kd.R_drew)); exact HO_7.out⟩, ⟨by repeat (first | (with_reducible first | exact HB.out | apply below_alloc | apply pw_below_drewN | apply below_drew1) | exact HB.out)⟩⟩
          · rw [if_neg c11] at H
            exact absurd H (by simp)
        · rw [if_neg c10] at H
          have c10b0 : decide (x8_1 < (x5_1.length : Int)) = false := decide_eq_false c10
          (try (have c10b0q := c10b0; simp only [hl5_1] at c10b0q))
          clear c10
          replace H := Option.bind_eq_some_iff.mp H
          obtain ⟨t432, A150, H⟩ := H
          replace H : ((geyserlaw04_tells.f t427 t432 (⟨#[115, 121, 109, 98, 111, 108, 46, 83, 112, 108, 105, 116]⟩ : ByteArray)).bind fun t433 => (if t433 = true then ((symbol_Zero.f k1 l0).bind fun t434 => ((geyserref04_Zero.f k1 l0).bind fun t435 => (geyserlaw04_SymbolSplits.j1 k1 l0 a1 t424 t432 (t434 != t435)))) else (geyserlaw04_SymbolSplits.j1 k1 l0 a1 t424 t432 true))) = some r := H
          have A15 := Aside0.mk A150
          clear A150
          have HC16 := Aside0.mk H
          clear H
          go_upto_region 8 with (first | ((with_reducible refine gate_callee (f := 29) rfl ?_); refine goesL_ (some 34) rfl rfl Tryd.func29 (by kernel_rfl) rfl #[.slice none 0 0, .int .i64 a1] rfl (by (try simp only [List.map_toArray, List.map_cons, List.map_nil]); first | done | rfl | (simp only [List.length_drop, List.length_take]; rfl)) ?_; (refine (geyserref04_Check.calls k1 _ _ ([] : List (List Int)) a1 t432 _ ?side1 ?side2 A15.out).mono ?_); (case side1 => exact Kd.C_nil _ _); (case side2 => exact Nat.le_refl _); rintro e w' ⟨rfl, ⟨nd, rfl⟩⟩; refine ⟨_, rfl, ?_⟩))
          (try simp only [Act.put, List.setIfInBounds_toArray, List.set_cons_zero, List.set_cons_succ])
          go_cut [45] (fun v45 wc => ∃ (kq : Nat) (x45_15 : Bool), v45 = .bool x45_15 ∧ Aside0 (geyserlaw04_SymbolSplits.j1 kq l0 a1 t424 t432 x45_15 = some r) ∧ Aside0 (kq ≤ k1) ∧ Aside0 (Kd.S (Kd.slice 5 (Kd.int .u8)) 42 wc w.heap.size (fun _ => True) v425 t424) ∧ Aside0 (Below w.heap.size w wc))
          case first =>
            have H := HC16.out
            clear HC16
            replace H := Option.bind_eq_some_iff.mp H
            obtain ⟨t433, A170, H⟩ := H
            replace H : (if t433 = true then ((symbol_Zero.f k1 l0).bind fun t434 => ((geyserref04_Zero.f k1 l0).bind fun t435 => (geyserlaw04_SymbolSplits.j1 k1 l0 a1 t424 t432 (t434 != t435)))) else (geyserlaw04_SymbolSplits.j1 k1 l0 a1 t424 t432 true)) = some r := H
            have A17 := Aside0.mk A170
            clear A170
            by_cases c18 : t433 = true
            · subst c18
              have H1 : ((symbol_Zero.f k1 l0).bind fun t434 => ((geyserref04_Zero.f k1 l0).bind fun t435 => (geyserlaw04_SymbolSplits.j1 k1 l0 a1 t424 t432 (t434 != t435)))) = some r := by rw [if_pos rfl] at H; exact H
              clear H
              have H := H1
              clear H1
              replace H := Option.bind_eq_some_iff.mp H
              obtain ⟨t434, A190, H⟩ := H
              replace H : ((geyserref04_Zero.f k1 l0).bind fun t435 => (geyserlaw04_SymbolSplits.j1 k1 l0 a1 t424 t432 (t434 != t435))) = some r := H
              have A19 := Aside0.mk A190
              clear A190
              replace H := Option.bind_eq_some_iff.mp H
              obtain ⟨t435, A200, H⟩ := H
              replace H : (geyserlaw04_SymbolSplits.j1 k1 l0 a1 t424 t432 (t434 != t435)) = some r := H
              have A20 := Aside0.mk A200
              clear A200
              have H' := Aside0.mk H
              clear H
              obtain ⟨Ao21, co21, eo21⟩ := Kd.R_slice HO_7.out
              subst eo21
              go_wp2_with (first | ((with_reducible refine gate_callee (f := 30) rfl ?_); refine goesL_ (some 37) rfl rfl Tryd.func30 (by kernel_rfl) rfl #[errOf (.slice Ao21 t427.length co21), .int .i64 t432, .string (⟨#[115, 121, 109, 98, 111, 108, 46, 83, 112, 108, 105, 116]⟩ : ByteArray)] rfl (by (try simp only [List.map_toArray, List.map_cons, List.map_nil]); first | done | rfl | (simp only [List.length_drop, List.length_take]; rfl)) ?_; (with_reducible refine (geyserlaw04_tells.calls _ _ t427 t432 (⟨#[115, 121, 109, 98, 111, 108, 46, 83, 112, 108, 105, 116]⟩ : ByteArray) true _ ?side1 ?side2 ?side3 A17.out).mono ?_); (case side1 => first | exact HEI.out | exact ErrIn.below HEI.out (by repeat (first | (with_reducible first | exact HB.out | apply below_alloc | apply pw_below_drewN | apply below_drew1) | exact HB.out)) | (repeat (first | apply ErrIn.drewN | apply ErrIn.drew | exact HEI.out))); (case side2 => repeat (first | exact (Kd.R_reads' HO_7.out).2.2 | (with_reducible refine Kd.C_alloc ?_ _) | (with_reducible refine Kd.C_drewN ?_ _) | (with_reducible refine Kd.C_drew ?_))); (case side3 => exact (Kd.R_reads' HO_7.out).2.1); rintro e w22 ⟨rfl, hb⟩; refine ⟨_, rfl, ?_⟩; have n0_ := Aside0.mk (Kd.R_below (by (with_reducible repeat (first | apply Kd.R_alloc | apply Kd.R_drewN | apply Kd.R_drew)); exact HO_5.out) hb); have n1_ := Aside0.mk (Kd.S_below (by (with_reducible repeat (first | apply Kd.S_alloc | apply Kd.S_drewN | apply Kd.S_drew)); exact HO_6.out) hb); have n2_ := Aside0.mk (Kd.R_below (by (with_reducible repeat (first | apply Kd.R_alloc | apply Kd.R_drewN | apply Kd.R_drew)); exact HO_7.out) hb); have n3_ := Aside0.mk (below_step (by repeat (first | (with_reducible first | exact HB.out | apply below_alloc | apply pw_below_drewN | apply below_drew1) | exact HB.out)) hb); clear HO_5; clear HO_6; clear HO_7; clear HB; have HO_5 := n0_; have HO_6 := n1_; have HO_7 := n2_; have HB := n3_; clear n0_ n1_ n2_ n3_; (try clear hb); (try clear hb2); (try clear hk); (try clear hi)) | (go_at_call 37; (with_reducible refine (symbol_Zero.calls k1 _ _ l0 t434 _ ?side1 ?side2 A19.out).mono ?_); (case side1 => repeat (first | exact (Kd.C_below HR0.out HB.out) | (with_reducible refine Kd.C_alloc ?_ _) | (with_reducible refine Kd.C_drewN ?_ _) | (with_reducible refine Kd.C_drew ?_))); (case side2 => exact HC0.out); rintro e w' ⟨rfl, ⟨nd, rfl⟩⟩) | (go_at_call 38; (with_reducible refine (geyserref04_Zero.calls k1 _ _ l0 t435 _ ?side1 ?side2 A20.out).mono ?_); (case side1 => repeat (first | exact (Kd.C_below HR0.out (by repeat (first | (with_reducible first | exact HB.out | apply below_alloc | apply pw_below_drewN | apply below_drew1) | exact HB.out))) | (with_reducible refine Kd.C_alloc ?_ _) | (with_reducible refine Kd.C_drewN ?_ _) | (with_reducible refine Kd.C_drew ?_))); (case side2 => exact HC0.out); rintro e w' ⟨rfl, ⟨nd, rfl⟩⟩))
              go_meet
              case rel => exact ⟨_, ((t434 != t435)), (by first | rfl | (simp; done) | (simp [*]; done)), H', ⟨by have := HK1.out; first | omega | exact Nat.le_refl _⟩, ⟨by (try simp only [hl5_1]); (with_reducible repeat (first | apply Kd.S_alloc | apply Kd.S_drewN | apply Kd.S_drew)); exact Kd.S_mono HO_6.out (fun _ hk => trivial)⟩, ⟨by repeat (first | (with_reducible first | exact HB.out | apply below_alloc | apply pw_below_drewN | apply below_drew1) | exact HB.out)⟩⟩
            · replace c18 := Bool.eq_false_iff.mpr c18
              subst c18
              have H1 : (geyserlaw04_SymbolSplits.j1 k1 l0 a1 t424 t432 true) = some r := by rw [if_neg (show ¬ (false = true) by decide)] at H; exact H
              clear H
              have H := H1
              clear H1
              have H' := Aside0.mk H
              clear H
              obtain ⟨Ao23, co23, eo23⟩ := Kd.R_slice HO_7.out
              subst eo23
              go_wp2_with (first | ((with_reducible refine gate_callee (f := 30) rfl ?_); refine goesL_ (some 37) rfl rfl Tryd.func30 (by kernel_rfl) rfl #[errOf (.slice Ao23 t427.length co23), .int .i64 t432, .string (⟨#[115, 121, 109, 98, 111, 108, 46, 83, 112, 108, 105, 116]⟩ : ByteArray)] rfl (by (try simp only [List.map_toArray, List.map_cons, List.map_nil]); first | done | rfl | (simp only [List.length_drop, List.length_take]; rfl)) ?_; (with_reducible refine (geyserlaw04_tells.calls _ _ t427 t432 (⟨#[115, 121, 109, 98, 111, 108, 46, 83, 112, 108, 105, 116]⟩ : ByteArray) false _ ?side1 ?side2 ?side3 A17.out).mono ?_); (case side1 => first | exact HEI.out | exact ErrIn.below HEI.out (by repeat (first | (with_reducible first | exact HB.out | apply below_alloc | apply pw_below_drewN | apply below_drew1) | exact HB.out)) | (repeat (first | apply ErrIn.drewN | apply ErrIn.drew | exact HEI.out))); (case side2 => repeat (first | exact (Kd.R_reads' HO_7.out).2.2 | (with_reducible refine Kd.C_alloc ?_ _) | (with_reducible refine Kd.C_drewN ?_ _) | (with_reducible refine Kd.C_drew ?_))); (case side3 => exact (Kd.R_reads' HO_7.out).2.1); rintro e w24 ⟨rfl, hb⟩; refine ⟨_, rfl, ?_⟩; have n0_ := Aside0.mk (Kd.R_below (by (with_reducible repeat (first | apply Kd.R_alloc | apply Kd.R_drewN | apply Kd.R_drew)); exact HO_5.out) hb); have n1_ := Aside0.mk (Kd.S_below (by (with_reducible repeat (first | apply Kd.S_alloc | apply Kd.S_drewN | apply Kd.S_drew)); exact HO_6.out) hb); have n2_ := Aside0.mk (Kd.R_below (by (with_reducible repeat (first | apply Kd.R_alloc | apply Kd.R_drewN | apply Kd.R_drew)); exact HO_7.out) hb); have n3_ := Aside0.mk (below_step (by repeat (first | (with_reducible first | exact HB.out | apply below_alloc | apply pw_below_drewN | apply below_drew1) | exact HB.out)) hb); clear HO_5; clear HO_6; clear HO_7; clear HB; have HO_5 := n0_; have HO_6 := n1_; have HO_7 := n2_; have HB := n3_; clear n0_ n1_ n2_ n3_; (try clear hb); (try clear hb2); (try clear hk); (try clear hi)))
              go_meet
              case rel => exact ⟨_, (true), (by first | rfl | (simp; done) | (simp [*]; done)), H', ⟨by have := HK1.out; first | omega | exact Nat.le_refl _⟩, ⟨by (try simp only [hl5_1]); (with_reducible repeat (first | apply Kd.S_alloc | apply Kd.S_drewN | apply Kd.S_drew)); exact Kd.S_mono HO_6.out (fun _ hk => trivial)⟩, ⟨by repeat (first | (with_reducible first | exact HB.out | apply below_alloc | apply pw_below_drewN | apply below_drew1) | exact HB.out)⟩⟩
          case rest =>
            clear HC16
            try clear c1
            try clear p1
            try clear q1
            try clear hx1
            try clear c2
            try clear p2
            try clear c3
            try clear p4
            try clear q4
            try clear hx4
            try clear p6
            try clear c9
            try clear c10
            try clear c10b0
            try clear c11
            try clear c11b0
            try clear p12
            try clear q12
            try clear hx12
            try clear hf12
            try clear c18
            try clear hx12_0
            try clear hx430_0
            try clear p12
            try clear p2
            try clear p430
            try clear q12
            try clear q430
            obtain ⟨kq, x45_15, rfl, HA, HJ15, HO_6, HB⟩ := hcut
            cases kq with
            | zero => exact absurd HA.out (by simp [geyserlaw04_SymbolSplits.j1])
            | succ kj15 =>
              have H := HA.out
              clear HA
              simp only [geyserlaw04_SymbolSplits.j1] at H
              by_cases c25 : x45_15 = true
              · subst c25
                have H1 : (some false) = some r := by rw [if_pos rfl] at H; exact H
                clear H
                have H := H1
                clear H1
                obtain rfl := Option.some.inj H
                go_wp2
                go_ret
                exact ⟨by first | rfl | (simp [errW_none, errW_some] <;> rfl) | (simp [*, errW_none, errW_some] <;> rfl), by repeat (first | (with_reducible first | exact HB.out | apply below_alloc | apply pw_below_drewN | apply below_drew1) | exact HB.out)⟩
              · replace c25 := Bool.eq_false_iff.mpr c25
                subst c25
                have H1 : (if t432 = 0 then ((geyserref04_Split.f kj15 l0 a1).bind fun t436 => ((geyserref04_Same.f kj15 t424 t436).bind fun t439 => (if t439 = true then ((geyserlaw04_awake.f kj15).bind fun t440 => (some t440)) else (some false)))) else (if (t424.length : Int) = 0 then ((geyserlaw04_awake.f kj15).bind fun t441 => (some t441)) else (some false))) = some r := by rw [if_neg (show ¬ (false = true) by decide)] at H; exact H
                clear H
                have H := H1
                clear H1
                by_cases c26 : t432 = 0
                · rw [if_pos c26] at H
                  have c26b0 : (t432 == 0) = true := beq_iff_eq.mpr c26
                  have c26b1 : (t432 != 0) = false := bne_eq_false_iff_eq.mpr c26
                  clear c26
                  replace H := Option.bind_eq_some_iff.mp H
                  obtain ⟨t436, A270, H⟩ := H
                  replace H : ((geyserref04_Same.f kj15 t424 t436).bind fun t439 => (if t439 = true then ((geyserlaw04_awake.f kj15).bind fun t440 => (some t440)) else (some false))) = some r := H
                  have A27 := Aside0.mk A270
                  clear A270
                  replace H := Option.bind_eq_some_iff.mp H
                  obtain ⟨t439, A280, H⟩ := H
                  replace H : (if t439 = true then ((geyserlaw04_awake.f kj15).bind fun t440 => (some t440)) else (some false)) = some r := H
                  have A28 := Aside0.mk A280
                  clear A280
                  by_cases c29 : t439 = true
                  · subst c29
                    have H1 : ((geyserlaw04_awake.f kj15).bind fun t440 => (some t440)) = some r := by rw [if_pos rfl] at H; exact H
                    clear H
                    have H := H1
                    clear H1
                    replace H := Option.bind_eq_some_iff.mp H
                    obtain ⟨t440, A300, H⟩ := H
                    replace H : (some t440) = some r := H
                    have A30 := Aside0.mk A300
                    clear A300
                    obtain rfl := Option.some.inj H
                    go_wp2_with (first | ((with_reducible refine gate_callee (f := 39) rfl ?_); refine goesL_ (some 57) rfl rfl Tryd.func39 (by kernel_rfl) rfl #[.slice A0 l0.length c0, .int .i64 a1] rfl (by (try simp only [List.map_toArray, List.map_cons, List.map_nil]); first | done | rfl | (simp only [List.length_drop, List.length_take]; rfl)) ?_; (with_reducible refine (geyserref04_Split.calls kj15 _ _ l0 a1 t436 _ ?side1 ?side2 A27.out).mono ?_); (case side1 => repeat (first | exact (Kd.C_below HR0.out HB.out) | (with_reducible refine Kd.C_alloc ?_ _) | (with_reducible refine Kd.C_drewN ?_ _) | (with_reducible refine Kd.C_drew ?_))); (case side2 => exact HC0.out); rintro e w31 ⟨v437, rfl, ho0, hb⟩; refine ⟨_, rfl, ?_⟩; have n0_ := Aside0.mk (Kd.S_elder' (by (with_reducible repeat (first | apply Kd.S_alloc | apply Kd.S_drewN | apply Kd.S_drew)); exact HO_6.out) (Kd.S_base ho0) hb); have n1_ := Aside0.mk (Kd.S_lower (Kd.S_new' ho0 (Kd.S_lt (by (with_reducible repeat (first | apply Kd.S_alloc | apply Kd.S_drewN | apply Kd.S_drew)); exact HO_6.out))) (below_size (by repeat (first | (with_reducible first | exact HB.out | apply below_alloc | apply pw_below_drewN | apply below_drew1) | exact HB.out)))); have n2_ := Aside0.mk (below_step (by repeat (first | (with_reducible first | exact HB.out | apply below_alloc | apply pw_below_drewN | apply below_drew1) | exact HB.out)) hb); clear HO_6; clear HB; have HO_6 := n0_; have HO438 := n1_; have HB := n2_; clear n0_ n1_ n2_; (try clear hb); (try clear hb2); (try clear hk); (try clear hi); (try clear ho0); obtain ⟨Ao32, co32, eo32⟩ := Kd.S_slice HO_6.out; subst eo32; obtain ⟨Ao33, co33, eo33⟩ := Kd.S_slice HO438.out; subst eo33) | ((with_reducible refine gate_callee (f := 31) rfl ?_); refine goesL_ (some 58) rfl rfl Tryd.func31 (by kernel_rfl) rfl #[.slice Ao32 t424.length co32, .slice Ao33 t436.length co33] rfl (by (try simp only [List.map_toArray, List.map_cons, List.map_nil]); first | done | rfl | (simp only [List.length_drop, List.length_take]; rfl)) ?_; (with_reducible refine (geyserref04_Same.calls kj15 _ _ t424 _ _ t436 true _ ?side1 ?side2 ?side3 ?side4 A28.out).mono ?_); (case side1 => repeat (first | exact (Kd.S_reads' HO_6.out).2.2 | (with_reducible refine Kd.C_alloc ?_ _) | (with_reducible refine Kd.C_drewN ?_ _) | (with_reducible refine Kd.C_drew ?_))); (case side2 => exact (Kd.S_reads' HO_6.out).2.1); (case side3 => repeat (first | exact (Kd.S_reads' HO438.out).2.2 | (with_reducible refine Kd.C_alloc ?_ _) | (with_reducible refine Kd.C_drewN ?_ _) | (with_reducible refine Kd.C_drew ?_))); (case side4 => exact (Kd.S_reads' HO438.out).2.1); rintro e w' ⟨rfl, ⟨nd, rfl⟩⟩; refine ⟨_, rfl, ?_⟩) | (go_at_call 32; (with_reducible refine (geyserlaw04_awake.calls kj15  t440 _ A30.out).mono ?_); rintro e w34 ⟨rfl, hb⟩; have n0_ := Aside0.mk (Kd.S_below (by (with_reducible repeat (first | apply Kd.S_alloc | apply Kd.S_drewN | apply Kd.S_drew)); exact HO_6.out) hb); have n1_ := Aside0.mk (Kd.S_below (by (with_reducible repeat (first | apply Kd.S_alloc | apply Kd.S_drewN | apply Kd.S_drew)); exact HO438.out) hb); have n2_ := Aside0.mk (below_step (by repeat (first | (with_reducible first | exact HB.out | apply below_alloc | apply pw_below_drewN | apply below_drew1) | exact HB.out)) hb); clear HO_6; clear HO438; clear HB; have HO_6 := n0_; have HO438 := n1_; have HB := n2_; clear n0_ n1_ n2_; (try clear hb); (try clear hb2); (try clear hk); (try clear hi)))
                    go_ret
                    exact ⟨by first | rfl | (simp [errW_none, errW_some] <;> rfl) | (simp [*, errW_none, errW_some] <;> rfl), by repeat (first | (with_reducible first | exact HB.out | apply below_alloc | apply pw_below_drewN | apply below_drew1) | exact HB.out)⟩
                  · replace c29 := Bool.eq_false_iff.mpr c29
                    subst c29
                    have H1 : (some false) = some r := by rw [if_neg (show ¬ (false = true) by decide)] at H; exact H
                    clear H
                    have H := H1
                    clear H1
                    obtain rfl := Option.some.inj H
                    go_wp2_with (first | ((with_reducible refine gate_callee (f := 39) rfl ?_); refine goesL_ (some 57) rfl rfl Tryd.func39 (by kernel_rfl) rfl #[.slice A0 l0.length c0, .int .i64 a1] rfl (by (try simp only [List.map_toArray, List.map_cons, List.map_nil]); first | done | rfl | (simp only [List.length_drop, List.length_take]; rfl)) ?_; (with_reducible refine (geyserref04_Split.calls kj15 _ _ l0 a1 t436 _ ?side1 ?side2 A27.out).mono ?_); (case side1 => repeat (first | exact (Kd.C_below HR0.out HB.out) | (with_reducible refine Kd.C_alloc ?_ _) | (with_reducible refine Kd.C_drewN ?_ _) | (with_reducible refine Kd.C_drew ?_))); (case side2 => exact HC0.out); rintro e w35 ⟨v437, rfl, ho0, hb⟩; refine ⟨_, rfl, ?_⟩; have n0_ := Aside0.mk (Kd.S_elder' (by (with_reducible repeat (first | apply Kd.S_alloc | apply Kd.S_drewN | apply Kd.S_drew)); exact HO_6.out) (Kd.S_base ho0) hb); have n1_ := Aside0.mk (Kd.S_lower (Kd.S_new' ho0 (Kd.S_lt (by (with_reducible repeat (first | apply Kd.S_alloc | apply Kd.S_drewN | apply Kd.S_drew)); exact HO_6.out))) (below_size (by repeat (first | (with_reducible first | exact HB.out | apply below_alloc | apply pw_below_drewN | apply below_drew1) | exact HB.out)))); have n2_ := Aside0.mk (below_step (by repeat (first | (with_reducible first | exact HB.out | apply below_alloc | apply pw_below_drewN | apply below_drew1) | exact HB.out)) hb); clear HO_6; clear HB; have HO_6 := n0_; have HO438 := n1_; have HB := n2_; clear n0_ n1_ n2_; (try clear hb); (try clear hb2); (try clear hk); (try clear hi); (try clear ho0); obtain ⟨Ao36, co36, eo36⟩ := Kd.S_slice HO_6.out; subst eo36; obtain ⟨Ao37, co37, eo37⟩ := Kd.S_slice HO438.out; subst eo37) | ((with_reducible refine gate_callee (f := 31) rfl ?_); refine goesL_ (some 58) rfl rfl Tryd.func31 (by kernel_rfl) rfl #[.slice Ao36 t424.length co36, .slice Ao37 t436.length co37] rfl (by (try simp only [List.map_toArray, List.map_cons, List.map_nil]); first | done | rfl | (simp only [List.length_drop, List.length_take]; rfl)) ?_; (with_reducible refine (geyserref04_Same.calls kj15 _ _ t424 _ _ t436 false _ ?side1 ?side2 ?side3 ?side4 A28.out).mono ?_); (case side1 => repeat (first | exact (Kd.S_reads' HO_6.out).2.2 | (with_reducible refine Kd.C_alloc ?_ _) | (with_reducible refine Kd.C_drewN ?_ _) | (with_reducible refine Kd.C_drew ?_))); (case side2 => exact (Kd.S_reads' HO_6.out).2.1); (case side3 => repeat (first | exact (Kd.S_reads' HO438.out).2.2 | (with_reducible refine Kd.C_alloc ?_ _) | (with_reducible refine Kd.C_drewN ?_ _) | (with_reducible refine Kd.C_drew ?_))); (case side4 => exact (Kd.S_reads' HO438.out).2.1); rintro e w' ⟨rfl, ⟨nd, rfl⟩⟩; refine ⟨_, rfl, ?_⟩))
                    go_ret
                    exact ⟨by first | rfl | (simp [errW_none, errW_some] <;> rfl) | (simp [*, errW_none, errW_some] <;> rfl), by repeat (first | (with_reducible first | exact HB.out | apply below_alloc | apply pw_below_drewN | apply below_drew1) | exact HB.out)⟩
                · rw [if_neg c26] at H
                  have c26b0 : (t432 == 0) = false := beq_eq_false_iff_ne.mpr c26
                  have c26b1 : (t432 != 0) = true := bne_iff_ne.mpr c26
                  by_cases c38 : (t424.length : Int) = 0
                  · rw [if_pos c38] at H
                    have c38b0 : ((t424.length : Int) == 0) = true := beq_iff_eq.mpr c38
                    (try (have c38b0q := c38b0; simp only [hl5_1] at c38b0q))
                    have c38b1 : ((t424.length : Int) != 0) = false := bne_eq_false_iff_eq.mpr c38
                    (try (have c38b1q := c38b1; simp only [hl5_1] at c38b1q))
                    clear c38
                    replace H := Option.bind_eq_some_iff.mp H
                    obtain ⟨t441, A390, H⟩ := H
                    replace H : (some t441) = some r := H
                    have A39 := Aside0.mk A390
                    clear A390
                    obtain rfl := Option.some.inj H
                    obtain ⟨Ao40, co40, eo40⟩ := Kd.S_slice HO_6.out
                    subst eo40
                    go_wp2_with (first | (go_at_call 32; (with_reducible refine (geyserlaw04_awake.calls kj15  t441 _ A39.out).mono ?_); rintro e w41 ⟨rfl, hb⟩; have n0_ := Aside0.mk (Kd.S_below (by (with_reducible repeat (first | apply Kd.S_alloc | apply Kd.S_drewN | apply Kd.S_drew)); exact HO_6.out) hb); have n1_ := Aside0.mk (below_step (by repeat (first | (with_reducible first | exact HB.out | apply below_alloc | apply pw_below_drewN | apply below_drew1) | exact HB.out)) hb); clear HO_6; clear HB; have HO_6 := n0_; have HB := n1_; clear n0_ n1_; (try clear hb); (try clear hb2); (try clear hk); (try clear hi)))
                    go_ret
                    exact ⟨by first | rfl | (simp [errW_none, errW_some] <;> rfl) | (simp [*, errW_none, errW_some] <;> rfl), by repeat (first | (with_reducible first | exact HB.out | apply below_alloc | apply pw_below_drewN | apply below_drew1) | exact HB.out)⟩
                  · rw [if_neg c38] at H
                    have c38b0 : ((t424.length : Int) == 0) = false := beq_eq_false_iff_ne.mpr c38
                    (try (have c38b0q := c38b0; simp only [hl5_1] at c38b0q))
                    have c38b1 : ((t424.length : Int) != 0) = true := bne_iff_ne.mpr c38
                    (try (have c38b1q := c38b1; simp only [hl5_1] at c38b1q))
                    have c38b2 : ¬ (t424 = []) := fun h_ => c38 (by rw [h_]; rfl)
                    obtain rfl := Option.some.inj H
                    obtain ⟨Ao42, co42, eo42⟩ := Kd.S_slice HO_6.out
                    subst eo42
                    go_wp2
                    go_ret
                    exact ⟨by first | rfl | (simp [errW_none, errW_some] <;> rfl) | (simp [*, errW_none, errW_some] <;> rfl), by repeat (first | (with_reducible first | exact HB.out | apply below_alloc | apply pw_below_drewN | apply below_drew1) | exact HB.out)⟩
  · rw [if_neg c3] at H
    exact absurd H (by simp)

end Go.Proofs.YtnigpfaecibdfaaDoor.P

namespace Go.Proofs.YtnigpfaecibdfaaDoor.Pure
open Go.RowKit Go.Proofs.YtnigpfaecibdfaaDoor.P Go.Proofs.YtnigpfaecibdfaaDoorW.PrintWords Go.Proofs.YtnigpfaecibdfaaDoorW.PrintLast Go.Proofs.YtnigpfaecibdfaaDoorW.PrintErr Go.Proofs.YtnigpfaecibdfaaDoorW.PrintMore
set_option linter.unusedVariables false
set_option linter.unusedSimpArgs false
def splitName : ByteArray := ⟨#[115, 121, 109, 98, 111, 108, 46, 83, 112, 108, 105, 116]⟩
theorem copyN_zero (n : Nat) (u : List Int) : (copyN (List.replicate n (0 : Int)) u : Nat) = min u.length n := by
  show Nat.min u.length (List.replicate n (0 : Int)).length = min u.length n
  rw [List.length_replicate]
theorem copyL_pad (n : Nat) (u : List Int) : copyL (List.replicate n 0) u = padS n u := by
  unfold copyL padS
  rw [List.length_replicate, List.drop_replicate]
theorem drop_min_ (n : Nat) (u : List Int) : u.drop (min u.length n) = u.drop n := by
  by_cases h : n ≤ u.length
  · rw [Nat.min_eq_right h]
  · rw [Nat.min_eq_left (by omega), List.drop_eq_nil_of_le (Nat.le_refl _), List.drop_eq_nil_of_le (by omega)]
theorem split_l0 (n : Nat) (hn1 : 1 ≤ n) (hn : n ≤ 64) : ∀ (f : Nat) (u : List Int) (acc : List (List Int)), u.length ≤ f → acc.length + u.length ≤ 5864062014804 →
    Ev (fun k => symbol_Split.l0 k u (n : Int) acc) (acc ++ splitL f n u, []) := by
  intro f
  induction f with
  | zero =>
    intro u acc hu _
    have e : splitL 0 n u = [] := rfl
    rw [e, List.append_nil]
    refine Ev.step (f := fun _ => some (acc, [])) (fun k => ?_) (Ev.now _)
    rw [symbol_Split.l0, if_neg (by omega)]
  | succ f ih =>
    intro u acc hu hacc
    by_cases h : u.length = 0
    · have e : splitL (f + 1) n u = [] := by rw [splitL, if_pos h]
      rw [e, List.append_nil]
      refine Ev.step (f := fun _ => some (acc, [])) (fun k => ?_) (Ev.now _)
      rw [symbol_Split.l0, if_neg (by omega)]
    · have h' := ih (u.drop n) (acc ++ [padS n u]) (by rw [List.length_drop]; omega) (by simp; omega)
      have e : acc ++ splitL (f + 1) n u = acc ++ [padS n u] ++ splitL f n (u.drop n) := by rw [splitL, if_neg h]; simp
      rw [e]
      refine Ev.step (fun k => ?_) h'
      have c1 : (min u.length n : Nat) ≤ u.length := Nat.min_le_left _ _
      rw [symbol_Split.l0, if_pos (by omega), if_pos (by omega), if_pos (by omega)]
      simp only [Option.bind_some, Int.toNat_natCast, copyN_zero, copyL_pad]
      rw [if_pos (by omega), if_pos (by omega), if_pos (by omega), drop_min_]
def splitR (u : List Int) (n : Int) : List (List Int) × List FE := if sizeBad [] n = 0 then (splitL u.length n.toNat u, []) else ([], [⟨splitName, true, sizeBad [] n⟩])
theorem split_ev (u : List Int) (n : Int) (hu : u.length ≤ 5864062014804) : Ev (fun k => symbol_Split.f k u n) (splitR u n) := by
  unfold symbol_Split.f splitR
  refine Ev.bind (check_ev [] n (by simp)) ?_
  by_cases h : sizeBad [] n = 0
  · obtain ⟨h1, h2, _⟩ := sizeBad_zero h
    simp only [if_pos h]
    have := split_l0 n.toNat (by omega) (by omega) u.length u [] (Nat.le_refl _) (by simp; omega)
    rw [List.nil_append, Int.toNat_of_nonneg (by omega)] at this
    exact this
  · simp only [if_neg h]
    rw [new_eqS _ _ h]
    exact Ev.now _
theorem splits_tells (u : List Int) (n : Int) : geyserlaw04_tells.f (splitR u n).2 (sizeBad [] n) splitName = some true := by
  by_cases h : sizeBad [] n = 0
  · have e : splitR u n = (splitL u.length n.toNat u, []) := if_pos h
    rw [e, h]; rfl
  · have e : splitR u n = ([], [⟨splitName, true, sizeBad [] n⟩]) := if_neg h
    rw [e]
    exact tells04_flat _ _ h
theorem splits_j1 (u : List Int) (n : Int) (hu : u.length ≤ 5864062014804) : Ev (fun k => geyserlaw04_SymbolSplits.j1 k u n (splitR u n).1 (sizeBad [] n) false) true := by
  by_cases h : sizeBad [] n = 0
  · obtain ⟨h1, h2, _⟩ := sizeBad_zero h
    have e : splitR u n = (splitL u.length n.toNat u, []) := if_pos h
    rw [e, h]
    have hr := rsp_ev u n.toNat (by omega) (by omega) hu
    rw [Int.toNat_of_nonneg (by omega)] at hr
    have hlen := splitL_length n.toNat (by omega) u.length u
    refine Ev.step (f := fun k => (geyserref04_Split.f k u n).bind fun t436 => ((geyserref04_Same.f k (splitL u.length n.toNat u) t436).bind fun t439 => (if t439 = true then ((geyserlaw04_awake.f k).bind fun t440 => (some t440)) else (some false)))) (fun k => ?_) ?_
    · rw [geyserlaw04_SymbolSplits.j1, if_neg (by simp), if_pos rfl]
    · refine Ev.bind hr ?_
      refine Ev.bind (rsame_ev _ (by omega)) ?_
      simp only [if_true]
      exact Ev.bind awake04_ev (Ev.now _)
  · have e : splitR u n = ([], [⟨splitName, true, sizeBad [] n⟩]) := if_neg h
    rw [e]
    refine Ev.step (f := fun k => (geyserlaw04_awake.f k).bind fun t => some t) (fun k => ?_) (Ev.bind awake04_ev (Ev.now _))
    rw [geyserlaw04_SymbolSplits.j1, if_neg (by simp), if_neg h, if_pos (by simp)]
theorem splits_l0 (u : List Int) (n : Int) (hu : u.length ≤ 5864062014804) : ∀ (d : Nat) (own : List Int) (i : Nat), own.length = i + d → own.length < 9223372036854775807 →
    Ev (fun k => geyserlaw04_SymbolSplits.l0 k u n own (splitR u n).1 (splitR u n).2 (i : Int)) true := by
  intro d
  induction d with
  | zero =>
    intro own i h1 h2
    refine Ev.step (f := fun k => (geyserref04_Check.f k ([] : List (List Int)) n).bind fun t432 => ((geyserlaw04_tells.f (splitR u n).2 t432 splitName).bind fun t433 => (if t433 = true then ((symbol_Zero.f k u).bind fun t434 => ((geyserref04_Zero.f k u).bind fun t435 => (geyserlaw04_SymbolSplits.j1 k u n (splitR u n).1 t432 (t434 != t435)))) else (geyserlaw04_SymbolSplits.j1 k u n (splitR u n).1 t432 true)))) (fun k => ?_) ?_
    · rw [geyserlaw04_SymbolSplits.l0, if_neg (by omega)]
      rfl
    · refine Ev.bind (rcheck_ev [] n (by simp)) ?_
      simp only [splits_tells, Option.bind_some, if_true]
      refine Ev.bind (zero_ev u (by omega)) ?_
      refine Ev.bind (rzero_ev u (by omega)) ?_
      simp only [bne_self_eq_false]
      exact splits_j1 u n hu
  | succ d ih =>
    intro own i h1 h2
    have h' := ih (own.set i ((255 - (rd own i)) % 256)) (i + 1) (by simp; omega) (by simpa using h2)
    refine Ev.step (fun k => ?_) h'
    rw [geyserlaw04_SymbolSplits.l0, if_pos (by omega), if_pos (by omega), Int.toNat_natCast, w64s (by omega) (by omega)]
    rfl
theorem SymbolSplits (u : List Int) (n : Int) (hu : u.length ≤ 5864062014804) : ∃ k, geyserlaw04_SymbolSplits.f k u n = some true := by
  refine Ev.rounds (g := fun k => geyserlaw04_SymbolSplits.f k u n) ?_
  unfold geyserlaw04_SymbolSplits.f
  simp only [Option.bind_some, List.nil_append, List.length_nil, Nat.zero_add]
  simp only [if_pos (show u.length < 140737488355328 by omega)]
  exact Ev.bind (split_ev u n hu) (splits_l0 u n hu u.length u 0 (by omega) (by omega))
end Go.Proofs.YtnigpfaecibdfaaDoor.Pure
