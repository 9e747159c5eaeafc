-- joined by merge.py: Px21 Px32 PureM1 PureLin PureM2 Px34 Px35 Px36
import Derived.Test.YtgocibnmgfmceaaDoorMMatrixPlains0
namespace Go.Proofs.YtgocibnmgfmceaaDoor.P
open Go.RowKit Go.Proofs.YtgocibnmgfmceaaDoorW.PrintWords Go.Proofs.YtgocibnmgfmceaaDoorW.PrintLast Go.Proofs.YtgocibnmgfmceaaDoorW.PrintErr Go.Proofs.YtgocibnmgfmceaaDoorW.PrintMore
attribute [local go_sem] max2_int min2_int max_two min_two max_three min_three max_four min_four run_eql_errOf run_neq_errOf eqGuard_errOf   -- for this text's walks alone
set_option linter.unusedVariables false
set_option linter.unusedSimpArgs false

/-! ### geyserlaw03_awake: function 12 -/
def geyserlaw03_awake.f (k : Nat)  : Option (Bool) := (matrix_Rank.f k (([(([6] : List Int)), (([3] : List Int)), (([5] : List Int))] : List (List Int))) 3).bind fun bt196 => ((matrix_Picks.f k (([(([6] : List Int)), (([3] : List Int)), (([5] : List Int))] : List (List Int))) 3).bind fun bt212 => (if (bt196.2.length : Int) = 0 then (if (bt212.2.length : Int) = 0 then (if bt196.1 = 2 then ((geyserref02_Same.f k bt212.1 (([0, 1] : List Int))).bind fun t221 => (some t221)) else (some false)) else (some false)) else (some false)))
theorem geyserlaw03_awake.mono : ∀ k, LeO (geyserlaw03_awake.f k ) (geyserlaw03_awake.f (k + 1) ) := by
 intro  k
 unfold geyserlaw03_awake.f
 repeat' first
   | (with_reducible exact geyserref02_Same.mono _ _ _)
   | (with_reducible exact matrix_Picks.mono _ _ _)
   | (with_reducible exact matrix_Rank.mono _ _ _)
   | (with_reducible exact LeO.refl _)
   | (with_reducible exact LeO.none _)
   | (with_reducible refine LeO.ite ?_ ?_)
   | (with_reducible refine LeO.bind ?_ (fun _ => ?_))
   | exact geyserref02_Same.mono _ _ _
   | exact matrix_Picks.mono _ _ _
   | exact matrix_Rank.mono _ _ _
   | exact LeO.none _
   | refine LeO.ite ?_ ?_
   | refine LeO.bind ?_ (fun _ => ?_)
set_option maxHeartbeats 8000000 in
set_option maxRecDepth 100000 in
theorem geyserlaw03_awake.calls (k : Nat)  (r : Bool) (w : World) (ht : TabIn w) (h : geyserlaw03_awake.f k  = some r) :
  Calls Tryd.prog 12 #[] w fun e w' => e = .returned (.bool r) ∧ Below w.heap.size w w' := by
 have HB := Aside0.mk (Below.refl w.heap.size w)
 have HT := Aside0.mk ht
 clear ht
 have H : ((matrix_Rank.f k (([(([6] : List Int)), (([3] : List Int)), (([5] : List Int))] : List (List Int))) 3).bind fun bt196 => ((matrix_Picks.f k (([(([6] : List Int)), (([3] : List Int)), (([5] : List Int))] : List (List Int))) 3).bind fun bt212 => (if (bt196.2.length : Int) = 0 then (if (bt212.2.length : Int) = 0 then (if bt196.1 = 2 then ((geyserref02_Same.f k bt212.1 (([0, 1] : List Int))).bind fun t221 => (some t221)) else (some false)) else (some false)) else (some false)))) = some r := h
 clear h
 obtain ⟨y184, hy184⟩ : ∃ y_ : List Int, y_ = (([6] : List Int)) := ⟨_, rfl⟩
 replace H : ((matrix_Rank.f k (([y184, (([3] : List Int)), (([5] : List Int))] : List (List Int))) 3).bind fun bt196 => ((matrix_Picks.f k (([(([6] : List Int)), (([3] : List Int)), (([5] : List Int))] : List (List Int))) 3).bind fun bt212 => (if (bt196.2.length : Int) = 0 then (if (bt212.2.length : Int) = 0 then (if bt196.1 = 2 then ((geyserref02_Same.f k bt212.1 (([0, 1] : List Int))).bind fun t221 => (some t221)) else (some false)) else (some false)) else (some false)))) = some r := by first | (rw [hy184]; with_reducible exact H) | (have H2_ := (Option.bind_some _ _).symm.trans H; rw [hy184]; with_reducible exact H2_) | (have H2_ := (Option.bind_some _ _).symm.trans H; with_reducible exact H2_) | with_reducible exact H | (rw [hy184]; exact H) | exact H
 have Ny184 := Aside0.mk hy184
 clear hy184
 obtain ⟨y187, hy187⟩ : ∃ y_ : List Int, y_ = (([3] : List Int)) := ⟨_, rfl⟩
 replace H : ((matrix_Rank.f k (([y184, y187, (([5] : List Int))] : List (List Int))) 3).bind fun bt196 => ((matrix_Picks.f k (([(([6] : List Int)), (([3] : List Int)), (([5] : List Int))] : List (List Int))) 3).bind fun bt212 => (if (bt196.2.length : Int) = 0 then (if (bt212.2.length : Int) = 0 then (if bt196.1 = 2 then ((geyserref02_Same.f k bt212.1 (([0, 1] : List Int))).bind fun t221 => (some t221)) else (some false)) else (some false)) else (some false)))) = some r := by first | (rw [hy187]; with_reducible exact H) | (have H2_ := (Option.bind_some _ _).symm.trans H; rw [hy187]; with_reducible exact H2_) | (have H2_ := (Option.bind_some _ _).symm.trans H; with_reducible exact H2_) | with_reducible exact H | (rw [hy187]; exact H) | exact H
 have Ny187 := Aside0.mk hy187
 clear hy187
 obtain ⟨y190, hy190⟩ : ∃ y_ : List Int, y_ = (([5] : List Int)) := ⟨_, rfl⟩
 replace H : ((matrix_Rank.f k (([y184, y187, y190] : List (List Int))) 3).bind fun bt196 => ((matrix_Picks.f k (([(([6] : List Int)), (([3] : List Int)), (([5] : List Int))] : List (List Int))) 3).bind fun bt212 => (if (bt196.2.length : Int) = 0 then (if (bt212.2.length : Int) = 0 then (if bt196.1 = 2 then ((geyserref02_Same.f k bt212.1 (([0, 1] : List Int))).bind fun t221 => (some t221)) else (some false)) else (some false)) else (some false)))) = some r := by first | (rw [hy190]; with_reducible exact H) | (have H2_ := (Option.bind_some _ _).symm.trans H; rw [hy190]; with_reducible exact H2_) | (have H2_ := (Option.bind_some _ _).symm.trans H; with_reducible exact H2_) | with_reducible exact H | (rw [hy190]; exact H) | exact H
 have Ny190 := Aside0.mk hy190
 clear hy190
 obtain ⟨y193, hy193⟩ : ∃ y_ : List (List Int), y_ = (([y184, y187, y190] : List (List Int))) := ⟨_, rfl⟩
 replace H : ((matrix_Rank.f k y193 3).bind fun bt196 => ((matrix_Picks.f k (([(([6] : List Int)), (([3] : List Int)), (([5] : List Int))] : List (List Int))) 3).bind fun bt212 => (if (bt196.2.length : Int) = 0 then (if (bt212.2.length : Int) = 0 then (if bt196.1 = 2 then ((geyserref02_Same.f k bt212.1 (([0, 1] : List Int))).bind fun t221 => (some t221)) else (some false)) else (some false)) else (some false)))) = some r := by first | (rw [hy193]; with_reducible exact H) | (have H2_ := (Option.bind_some _ _).symm.trans H; rw [hy193]; with_reducible exact H2_) | (have H2_ := (Option.bind_some _ _).symm.trans H; with_reducible exact H2_) | with_reducible exact H | (rw [hy193]; exact H) | exact H
 have Ny193 := Aside0.mk hy193
 clear hy193
 replace H := Option.bind_eq_some_iff.mp H
 obtain ⟨⟨t196, t197⟩, A10, H⟩ := H
 replace H : ((matrix_Picks.f k (([(([6] : List Int)), (([3] : List Int)), (([5] : List Int))] : List (List Int))) 3).bind fun bt212 => (if (t197.length : Int) = 0 then (if (bt212.2.length : Int) = 0 then (if t196 = 2 then ((geyserref02_Same.f k bt212.1 (([0, 1] : List Int))).bind fun t221 => (some t221)) else (some false)) else (some false)) else (some false))) = some r := H
 have A1 := Aside0.mk A10
 clear A10
 obtain ⟨y200, hy200⟩ : ∃ y_ : List Int, y_ = (([6] : List Int)) := ⟨_, rfl⟩
 replace H : ((matrix_Picks.f k (([y200, (([3] : List Int)), (([5] : List Int))] : List (List Int))) 3).bind fun bt212 => (if (t197.length : Int) = 0 then (if (bt212.2.length : Int) = 0 then (if t196 = 2 then ((geyserref02_Same.f k bt212.1 (([0, 1] : List Int))).bind fun t221 => (some t221)) else (some false)) else (some false)) else (some false))) = some r := by first | (rw [hy200]; with_reducible exact H) | (have H2_ := (Option.bind_some _ _).symm.trans H; rw [hy200]; with_reducible exact H2_) | (have H2_ := (Option.bind_some _ _).symm.trans H; with_reducible exact H2_) | with_reducible exact H | (rw [hy200]; exact H) | exact H
 have Ny200 := Aside0.mk hy200
 clear hy200
 obtain ⟨y203, hy203⟩ : ∃ y_ : List Int, y_ = (([3] : List Int)) := ⟨_, rfl⟩
 replace H : ((matrix_Picks.f k (([y200, y203, (([5] : List Int))] : List (List Int))) 3).bind fun bt212 => (if (t197.length : Int) = 0 then (if (bt212.2.length : Int) = 0 then (if t196 = 2 then ((geyserref02_Same.f k bt212.1 (([0, 1] : List Int))).bind fun t221 => (some t221)) else (some false)) else (some false)) else (some false))) = some r := by first | (rw [hy203]; with_reducible exact H) | (have H2_ := (Option.bind_some _ _).symm.trans H; rw [hy203]; with_reducible exact H2_) | (have H2_ := (Option.bind_some _ _).symm.trans H; with_reducible exact H2_) | with_reducible exact H | (rw [hy203]; exact H) | exact H
 have Ny203 := Aside0.mk hy203
 clear hy203
 obtain ⟨y206, hy206⟩ : ∃ y_ : List Int, y_ = (([5] : List Int)) := ⟨_, rfl⟩
 replace H : ((matrix_Picks.f k (([y200, y203, y206] : List (List Int))) 3).bind fun bt212 => (if (t197.length : Int) = 0 then (if (bt212.2.length : Int) = 0 then (if t196 = 2 then ((geyserref02_Same.f k bt212.1 (([0, 1] : List Int))).bind fun t221 => (some t221)) else (some false)) else (some false)) else (some false))) = some r := by first | (rw [hy206]; with_reducible exact H) | (have H2_ := (Option.bind_some _ _).symm.trans H; rw [hy206]; with_reducible exact H2_) | (have H2_ := (Option.bind_some _ _).symm.trans H; with_reducible exact H2_) | with_reducible exact H | (rw [hy206]; exact H) | exact H
 have Ny206 := Aside0.mk hy206
 clear hy206
 obtain ⟨y209, hy209⟩ : ∃ y_ : List (List Int), y_ = (([y200, y203, y206] : List (List Int))) := ⟨_, rfl⟩
 replace H : ((matrix_Picks.f k y209 3).bind fun bt212 => (if (t197.length : Int) = 0 then (if (bt212.2.length : Int) = 0 then (if t196 = 2 then ((geyserref02_Same.f k bt212.1 (([0, 1] : List Int))).bind fun t221 => (some t221)) else (some false)) else (some false)) else (some false))) = some r := by first | (rw [hy209]; with_reducible exact H) | (have H2_ := (Option.bind_some _ _).symm.trans H; rw [hy209]; with_reducible exact H2_) | (have H2_ := (Option.bind_some _ _).symm.trans H; with_reducible exact H2_) | with_reducible exact H | (rw [hy209]; exact H) | exact H
 have Ny209 := Aside0.mk hy209
 clear hy209
 replace H := Option.bind_eq_some_iff.mp H
 obtain ⟨⟨t212, t213⟩, A20, H⟩ := H
 replace H : (if (t197.length : Int) = 0 then (if (t213.length : Int) = 0 then (if t196 = 2 then ((geyserref02_Same.f k t212 (([0, 1] : List Int))).bind fun t221 => (some t221)) else (some false)) else (some false)) else (some false)) = some r := H
 have A2 := Aside0.mk A20
 clear A20
 by_cases c3 : (t197.length : Int) = 0
 ·rw [if_pos c3] at H
  have c3b0 : ((t197.length : Int) == 0) = true := beq_iff_eq.mpr c3
  have c3b1 : ((t197.length : Int) != 0) = false := bne_eq_false_iff_eq.mpr c3
  clear c3
  by_cases c4 : (t213.length : Int) = 0
  ·rw [if_pos c4] at H
   have c4b0 : ((t213.length : Int) == 0) = true := beq_iff_eq.mpr c4
   have c4b1 : ((t213.length : Int) != 0) = false := bne_eq_false_iff_eq.mpr c4
   clear c4
   by_cases c5 : t196 = 2
   ·rw [if_pos c5] at H
    have c5b0 : (t196 == 2) = true := beq_iff_eq.mpr c5
    have c5b1 : (t196 != 2) = false := bne_eq_false_iff_eq.mpr c5
    clear c5
    obtain ⟨y218, hy218⟩ : ∃ y_ : List Int, y_ = (([0, 1] : List Int)) := ⟨_, rfl⟩
    replace H : ((geyserref02_Same.f k t212 y218).bind fun t221 => (some t221)) = some r := by first | (rw [hy218]; with_reducible exact H) | (have H2_ := (Option.bind_some _ _).symm.trans H; rw [hy218]; with_reducible exact H2_) | (have H2_ := (Option.bind_some _ _).symm.trans H; with_reducible exact H2_) | with_reducible exact H | (rw [hy218]; exact H) | exact H
    have Ny218 := Aside0.mk hy218
    clear hy218
    replace H := Option.bind_eq_some_iff.mp H
    obtain ⟨t221, A60, H⟩ := H
    replace H : (some t221) = some r := H
    have A6 := Aside0.mk A60
    clear A60
    obtain rfl := Option.some.inj H
    go_enter Tryd.func12, Tryd.ntmps12
    go_wp2_with (first | ((with_reducible refine gate_dst (N := 6) rfl ?_); (try (refine gate_guard (by rfl) ?_; dsimp only)); refine Kd.R_lit (Kd.int .u64) _ 29 ?hg (N := 6) ?hd (xs := ([6] : List Int)) (inner := [.int .u64 6]) (ok := fun _ => True) (okp := fun _ => True) ?hr ?hp (fun _ hk => hk) trivial (Below.refl _ _) (Nat.le_refl _) (by simp) ?_; (case hd => rfl); (case hg => rfl); (case hr => first | (go_simp; done) | (go_simp; rfl)); (case hp => exact (Reps.one (show Kd.M (Kd.int .u64) _ _ _ 6 [.int .u64 6] from rfl) (Reps.none _ _))); intro v185 w7 ho8 hb hg_ hnew_; clear hg_ hnew_; (first | rw [← Ny184.out] at ho8 | (simp only [Int.reduceToNat] at ho8; rw [← Ny184.out] at ho8)); have n0_ := Aside0.mk (Kd.R_lower ho8 (below_size (by repeat (first | (with_reducible first | exact HB.out | apply below_alloc | apply pw_below_drewN | apply below_drew1) | exact HB.out)))); have n1_ := Aside0.mk (below_step (by repeat (first | (with_reducible first | exact HB.out | apply below_alloc | apply pw_below_drewN | apply below_drew1) | exact HB.out)) hb); clear HB; have HO186 := n0_; have HB := n1_; clear n0_ n1_; clear hb ho8) | ((with_reducible refine gate_dst (N := 7) rfl ?_); (try (refine gate_guard (by rfl) ?_; dsimp only)); refine Kd.R_lit (Kd.int .u64) _ 29 ?hg (N := 7) ?hd (xs := ([3] : List Int)) (inner := [.int .u64 3]) (ok := fun _ => True) (okp := fun _ => True) ?hr ?hp (fun _ hk => hk) trivial (Below.refl _ _) (Nat.le_refl _) (by simp) ?_; (case hd => rfl); (case hg => rfl); (case hr => first | (go_simp; done) | (go_simp; rfl)); (case hp => exact (Reps.one (show Kd.M (Kd.int .u64) _ _ _ 3 [.int .u64 3] from rfl) (Reps.none _ _))); intro v188 w9 ho10 hb hg_ hnew_; clear hg_ hnew_; (first | rw [← Ny187.out] at ho10 | (simp only [Int.reduceToNat] at ho10; rw [← Ny187.out] at ho10)); have n0_ := Aside0.mk (Kd.R_elder' (by (with_reducible repeat (first | apply Kd.R_alloc | apply Kd.R_drewN | apply Kd.R_drew)); exact HO186.out) (Kd.R_base ho10) hb); have n1_ := Aside0.mk (Kd.R_lower (Kd.R_new' ho10 (Kd.R_lt (by (with_reducible repeat (first | apply Kd.R_alloc | apply Kd.R_drewN | apply Kd.R_drew)); exact HO186.out))) (below_size (by repeat (first | (with_reducible first | exact HB.out | apply below_alloc | apply pw_below_drewN | apply below_drew1) | exact HB.out)))); have n2_ := Aside0.mk (below_step (by repeat (first | (with_reducible first | exact HB.out | apply below_alloc | apply pw_below_drewN | apply below_drew1) | exact HB.out)) hb); clear HO186; clear HB; have HO186 := n0_; have HO189 := n1_; have HB := n2_; clear n0_ n1_ n2_; clear hb ho10) | ((with_reducible refine gate_dst (N := 8) rfl ?_); (try (refine gate_guard (by rfl) ?_; dsimp only)); refine Kd.R_lit (Kd.int .u64) _ 29 ?hg (N := 8) ?hd (xs := ([5] : List Int)) (inner := [.int .u64 5]) (ok := fun _ => True) (okp := fun _ => True) ?hr ?hp (fun _ hk => hk) trivial (Below.refl _ _) (Nat.le_refl _) (by simp) ?_; (case hd => rfl); (case hg => rfl); (case hr => first | (go_simp; done) | (go_simp; rfl)); (case hp => exact (Reps.one (show Kd.M (Kd.int .u64) _ _ _ 5 [.int .u64 5] from rfl) (Reps.none _ _))); intro v191 w11 ho12 hb hg_ hnew_; clear hg_ hnew_; (first | rw [← Ny190.out] at ho12 | (simp only [Int.reduceToNat] at ho12; rw [← Ny190.out] at ho12)); have n0_ := Aside0.mk (Kd.R_elder' (by (with_reducible repeat (first | apply Kd.R_alloc | apply Kd.R_drewN | apply Kd.R_drew)); exact HO186.out) (Kd.R_base ho12) hb); have n1_ := Aside0.mk (Kd.R_elder' (by (with_reducible repeat (first | apply Kd.R_alloc | apply Kd.R_drewN | apply Kd.R_drew)); exact HO189.out) (Kd.R_base ho12) hb); have n2_ := Aside0.mk (Kd.R_lower (Kd.R_new' (Kd.R_new' ho12 (Kd.R_lt (by (with_reducible repeat (first | apply Kd.R_alloc | apply Kd.R_drewN | apply Kd.R_drew)); exact HO186.out))) (Kd.R_lt (by (with_reducible repeat (first | apply Kd.R_alloc | apply Kd.R_drewN | apply Kd.R_drew)); exact HO189.out))) (below_size (by repeat (first | (with_reducible first | exact HB.out | apply below_alloc | apply pw_below_drewN | apply below_drew1) | exact HB.out)))); have n3_ := Aside0.mk (below_step (by repeat (first | (with_reducible first | exact HB.out | apply below_alloc | apply pw_below_drewN | apply below_drew1) | exact HB.out)) hb); clear HO186; clear HO189; clear HB; have HO186 := n0_; have HO189 := n1_; have HO192 := n2_; have HB := n3_; clear n0_ n1_ n2_ n3_; clear hb ho12; obtain ⟨Ao13, co13, eo13⟩ := Kd.R_slice HO186.out; subst eo13; obtain ⟨Ao14, co14, eo14⟩ := Kd.R_slice HO189.out; subst eo14; obtain ⟨Ao15, co15, eo15⟩ := Kd.R_slice HO192.out; subst eo15) | ((with_reducible refine gate_dst (N := 9) rfl ?_); (try (refine gate_guard (by rfl) ?_; dsimp only)); refine Kd.N_lit (Kd.slice 29 (Kd.int .u64)) _ 27 ?hg (N' := 9) ?hd (xs := ([y184, y187, y190] : List (List Int))) (inner := [.slice Ao13 y184.length co13, .slice Ao14 y187.length co14, .slice Ao15 y190.length co15]) (ok := (fun _ => True)) (okp := (fun _ => True)) ?hr ?hp (fun _ hk => hk) ((show ∀ k_, w11.heap.size ≤ k_ → (fun _ => True) k_ from fun k_ hk => trivial) _ (Nat.le_refl _)) (Below.refl _ _) (Nat.le_refl _) (by simp) ?_; (case hd => rfl); (case hg => rfl); (case hr => first | (go_simp; done) | (go_simp; rfl)); (case hp => exact (Reps.one (show Kd.FK (Kd.slice 29 (Kd.int .u64)) _ _ y184 [.slice Ao13 y184.length co13] from (Kd.FK_slice_mk (Kd.R_reads' (Kd.R_mono (ok' := (fun _ => True)) (HO186.out) (fun k_ hk => trivial))).2.1 (Kd.R_F (Kd.R_mono (ok' := (fun _ => True)) (HO186.out) (fun k_ hk => trivial))))) (Reps.one (show Kd.FK (Kd.slice 29 (Kd.int .u64)) _ _ y187 [.slice Ao14 y187.length co14] from (Kd.FK_slice_mk (Kd.R_reads' (Kd.R_mono (ok' := (fun _ => True)) (HO189.out) (fun k_ hk => trivial))).2.1 (Kd.R_F (Kd.R_mono (ok' := (fun _ => True)) (HO189.out) (fun k_ hk => trivial))))) (Reps.one (show Kd.FK (Kd.slice 29 (Kd.int .u64)) _ _ y190 [.slice Ao15 y190.length co15] from (Kd.FK_slice_mk (Kd.R_reads' (Kd.R_mono (ok' := (fun _ => True)) (HO192.out) (fun k_ hk => trivial))).2.1 (Kd.R_F (Kd.R_mono (ok' := (fun _ => True)) (HO192.out) (fun k_ hk => trivial))))) (Reps.none _ _))))); intro v194 w16 ho17 hb hg_ hnew_; clear hg_ hnew_; (first | rw [← Ny193.out] at ho17 | (simp only [Int.reduceToNat] at ho17; rw [← Ny193.out] at ho17)); have n0_ := Aside0.mk (Kd.N_lower ho17 (below_size (by repeat (first | (with_reducible first | exact HB.out | apply below_alloc | apply pw_below_drewN | apply below_drew1) | exact HB.out)))); have n1_ := Aside0.mk (below_step (by repeat (first | (with_reducible first | exact HB.out | apply below_alloc | apply pw_below_drewN | apply below_drew1) | exact HB.out)) hb); clear HB; clear HO186; clear HO189; clear HO192; have HO195 := n0_; have HB := n1_; clear n0_ n1_; clear hb ho17; obtain ⟨Ao18, co18, eo18⟩ := Kd.N_slice HO195.out; subst eo18) | ((with_reducible refine gate_callee (f := 14) rfl ?_); refine goesL_ (some 10) rfl rfl Tryd.func14 (by kernel_rfl) rfl #[.slice Ao18 y193.length co18, .int .i64 3] rfl (by (try simp only [List.map_toArray, List.map_cons, List.map_nil]); first | done | rfl | (simp only [List.length_drop, List.length_take]; rfl)) ?_; (with_reducible refine (matrix_Rank.calls k _ _ y193 3 t196 t197 _ ?side1 ?side2 ?side3 A1.out).mono ?_); (case side1 => first | exact HT.out | exact TabIn.below HT.out (by repeat (first | (with_reducible first | exact HB.out | apply below_alloc | apply pw_below_drewN | apply below_drew1) | exact HB.out)) | (repeat (first | apply TabIn.drewN | apply TabIn.drew | exact HT.out))); (case side2 => repeat (first | exact (Kd.N_reads' HO195.out).2.2 | (with_reducible refine Kd.C_alloc ?_ _) | (with_reducible refine Kd.C_drewN ?_ _) | (with_reducible refine Kd.C_drew ?_))); (case side3 => exact (Kd.N_reads' HO195.out).2.1); rintro e w19 ⟨v198, rfl, ho0, hb⟩; refine ⟨_, rfl, ?_⟩; have n0_ := Aside0.mk (Kd.N_below (by (with_reducible repeat (first | apply Kd.N_alloc | apply Kd.N_drewN | apply Kd.N_drew)); exact HO195.out) hb); have n1_ := Aside0.mk (Kd.R_lower ho0 (below_size (by repeat (first | (with_reducible first | exact HB.out | apply below_alloc | apply pw_below_drewN | apply below_drew1) | exact HB.out)))); have n2_ := Aside0.mk (below_step (by repeat (first | (with_reducible first | exact HB.out | apply below_alloc | apply pw_below_drewN | apply below_drew1) | exact HB.out)) hb); clear HO195; clear HB; have HO195 := n0_; have HO199 := n1_; have HB := n2_; clear n0_ n1_ n2_; (try clear hb); (try clear hb2); (try clear hk); (try clear hi); (try clear ho0)) | ((with_reducible refine gate_dst (N := 14) rfl ?_); (try (refine gate_guard (by rfl) ?_; dsimp only)); refine Kd.R_lit (Kd.int .u64) _ 29 ?hg (N := 14) ?hd (xs := ([6] : List Int)) (inner := [.int .u64 6]) (ok := fun _ => True) (okp := fun _ => True) ?hr ?hp (fun _ hk => hk) trivial (Below.refl _ _) (Nat.le_refl _) (by simp) ?_; (case hd => rfl); (case hg => rfl); (case hr => first | (go_simp; done) | (go_simp; rfl)); (case hp => exact (Reps.one (show Kd.M (Kd.int .u64) _ _ _ 6 [.int .u64 6] from rfl) (Reps.none _ _))); intro v201 w20 ho21 hb hg_ hnew_; clear hg_ hnew_; (first | rw [← Ny200.out] at ho21 | (simp only [Int.reduceToNat] at ho21; rw [← Ny200.out] at ho21)); have n0_ := Aside0.mk (Kd.N_elder' (by (with_reducible repeat (first | apply Kd.N_alloc | apply Kd.N_drewN | apply Kd.N_drew)); exact HO195.out) (Kd.R_base ho21) hb); have n1_ := Aside0.mk (Kd.R_below (by (with_reducible repeat (first | apply Kd.R_alloc | apply Kd.R_drewN | apply Kd.R_drew)); exact HO199.out) hb); have n2_ := Aside0.mk (Kd.R_lower ho21 (below_size (by repeat (first | (with_reducible first | exact HB.out | apply below_alloc | apply pw_below_drewN | apply below_drew1) | exact HB.out)))); have n3_ := Aside0.mk (below_step (by repeat (first | (with_reducible first | exact HB.out | apply below_alloc | apply pw_below_drewN | apply below_drew1) | exact HB.out)) hb); clear HO195; clear HO199; clear HB; have HO195 := n0_; have HO199 := n1_; have HO202 := n2_; have HB := n3_; clear n0_ n1_ n2_ n3_; clear hb ho21) | ((with_reducible refine gate_dst (N := 15) rfl ?_); (try (refine gate_guard (by rfl) ?_; dsimp only)); refine Kd.R_lit (Kd.int .u64) _ 29 ?hg (N := 15) ?hd (xs := ([3] : List Int)) (inner := [.int .u64 3]) (ok := fun _ => True) (okp := fun _ => True) ?hr ?hp (fun _ hk => hk) trivial (Below.refl _ _) (Nat.le_refl _) (by simp) ?_; (case hd => rfl); (case hg => rfl); (case hr => first | (go_simp; done) | (go_simp; rfl)); (case hp => exact (Reps.one (show Kd.M (Kd.int .u64) _ _ _ 3 [.int .u64 3] from rfl) (Reps.none _ _))); intro v204 w22 ho23 hb hg_ hnew_; clear hg_ hnew_; (first | rw [← Ny203.out] at ho23 | (simp only [Int.reduceToNat] at ho23; rw [← Ny203.out] at ho23)); have n0_ := Aside0.mk (Kd.N_elder' (by (with_reducible repeat (first | apply Kd.N_alloc | apply Kd.N_drewN | apply Kd.N_drew)); exact HO195.out) (Kd.R_base ho23) hb); have n1_ := Aside0.mk (Kd.R_below (by (with_reducible repeat (first | apply Kd.R_alloc | apply Kd.R_drewN | apply Kd.R_drew)); exact HO199.out) hb); have n2_ := Aside0.mk (Kd.R_elder' (by (with_reducible repeat (first | apply Kd.R_alloc | apply Kd.R_drewN | apply Kd.R_drew)); exact HO202.out) (Kd.R_base ho23) hb); have n3_ := Aside0.mk (Kd.R_lower (Kd.R_new' ho23 (Kd.R_lt (by (with_reducible repeat (first | apply Kd.R_alloc | apply Kd.R_drewN | apply Kd.R_drew)); exact HO202.out))) (below_size (by repeat (first | (with_reducible first | exact HB.out | apply below_alloc | apply pw_below_drewN | apply below_drew1) | exact HB.out)))); have n4_ := Aside0.mk (below_step (by repeat (first | (with_reducible first | exact HB.out | apply below_alloc | apply pw_below_drewN | apply below_drew1) | exact HB.out)) hb); clear HO195; clear HO199; clear HO202; clear HB; have HO195 := n0_; have HO199 := n1_; have HO202 := n2_; have HO205 := n3_; have HB := n4_; clear n0_ n1_ n2_ n3_ n4_; clear hb ho23) | ((with_reducible refine gate_dst (N := 16) rfl ?_); (try (refine gate_guard (by rfl) ?_; dsimp only)); refine Kd.R_lit (Kd.int .u64) _ 29 ?hg (N := 16) ?hd (xs := ([5] : List Int)) (inner := [.int .u64 5]) (ok := fun _ => True) (okp := fun _ => True) ?hr ?hp (fun _ hk => hk) trivial (Below.refl _ _) (Nat.le_refl _) (by simp) ?_; (case hd => rfl); (case hg => rfl); (case hr => first | (go_simp; done) | (go_simp; rfl)); (case hp => exact (Reps.one (show Kd.M (Kd.int .u64) _ _ _ 5 [.int .u64 5] from rfl) (Reps.none _ _))); intro v207 w24 ho25 hb hg_ hnew_; clear hg_ hnew_; (first | rw [← Ny206.out] at ho25 | (simp only [Int.reduceToNat] at ho25; rw [← Ny206.out] at ho25)); have n0_ := Aside0.mk (Kd.N_elder' (by (with_reducible repeat (first | apply Kd.N_alloc | apply Kd.N_drewN | apply Kd.N_drew)); exact HO195.out) (Kd.R_base ho25) hb); have n1_ := Aside0.mk (Kd.R_below (by (with_reducible repeat (first | apply Kd.R_alloc | apply Kd.R_drewN | apply Kd.R_drew)); exact HO199.out) hb); have n2_ := Aside0.mk (Kd.R_elder' (by (with_reducible repeat (first | apply Kd.R_alloc | apply Kd.R_drewN | apply Kd.R_drew)); exact HO202.out) (Kd.R_base ho25) hb); have n3_ := Aside0.mk (Kd.R_elder' (by (with_reducible repeat (first | apply Kd.R_alloc | apply Kd.R_drewN | apply Kd.R_drew)); exact HO205.out) (Kd.R_base ho25) hb); have n4_ := Aside0.mk (Kd.R_lower (Kd.R_new' (Kd.R_new' ho25 (Kd.R_lt (by (with_reducible repeat (first | apply Kd.R_alloc | apply Kd.R_drewN | apply Kd.R_drew)); exact HO202.out))) (Kd.R_lt (by (with_reducible repeat (first | apply Kd.R_alloc | apply Kd.R_drewN | apply Kd.R_drew)); exact HO205.out))) (below_size (by repeat (first | (with_reducible first | exact HB.out | apply below_alloc | apply pw_below_drewN | apply below_drew1) | exact HB.out)))); have n5_ := Aside0.mk (below_step (by repeat (first | (with_reducible first | exact HB.out | apply below_alloc | apply pw_below_drewN | apply below_drew1) | exact HB.out)) hb); clear HO195; clear HO199; clear HO202; clear HO205; clear HB; have HO195 := n0_; have HO199 := n1_; have HO202 := n2_; have HO205 := n3_; have HO208 := n4_; have HB := n5_; clear n0_ n1_ n2_ n3_ n4_ n5_; clear hb ho25; obtain ⟨Ao26, co26, eo26⟩ := Kd.R_slice HO202.out; subst eo26; obtain ⟨Ao27, co27, eo27⟩ := Kd.R_slice HO205.out; subst eo27; obtain ⟨Ao28, co28, eo28⟩ := Kd.R_slice HO208.out; subst eo28) | ((with_reducible refine gate_dst (N := 17) rfl ?_); (try (refine gate_guard (by rfl) ?_; dsimp only)); refine Kd.N_lit (Kd.slice 29 (Kd.int .u64)) _ 27 ?hg (N' := 17) ?hd (xs := ([y200, y203, y206] : List (List Int))) (inner := [.slice Ao26 y200.length co26, .slice Ao27 y203.length co27, .slice Ao28 y206.length co28]) (ok := (fun k_ => some k_ ≠ (.slice Ao18 y193.length co18 : Value).ownBlock)) (okp := (fun k_ => some k_ ≠ (.slice Ao18 y193.length co18 : Value).ownBlock)) ?hr ?hp (fun _ hk => hk) ((show ∀ k_, w24.heap.size ≤ k_ → (fun k_ => some k_ ≠ (.slice Ao18 y193.length co18 : Value).ownBlock) k_ from fun k_ hk => Kd.fresh' (Kd.N_lt (by (with_reducible repeat (first | apply Kd.N_alloc | apply Kd.N_drewN | apply Kd.N_drew)); exact HO195.out)) k_ hk) _ (Nat.le_refl _)) (Below.refl _ _) (Nat.le_refl _) (by simp) ?_; (case hd => rfl); (case hg => rfl); (case hr => first | (go_simp; done) | (go_simp; rfl)); (case hp => exact (Reps.one (show Kd.FK (Kd.slice 29 (Kd.int .u64)) _ _ y200 [.slice Ao26 y200.length co26] from (Kd.FK_slice_mk (Kd.R_reads' (Kd.R_mono (ok' := (fun k_ => some k_ ≠ (.slice Ao18 y193.length co18 : Value).ownBlock)) (Kd.R_apart' (HO202.out) (Kd.N_typed HO195.out) (by decide)) (fun k_ hk => hk.2))).2.1 (Kd.R_F (Kd.R_mono (ok' := (fun k_ => some k_ ≠ (.slice Ao18 y193.length co18 : Value).ownBlock)) (Kd.R_apart' (HO202.out) (Kd.N_typed HO195.out) (by decide)) (fun k_ hk => hk.2))))) (Reps.one (show Kd.FK (Kd.slice 29 (Kd.int .u64)) _ _ y203 [.slice Ao27 y203.length co27] from (Kd.FK_slice_mk (Kd.R_reads' (Kd.R_mono (ok' := (fun k_ => some k_ ≠ (.slice Ao18 y193.length co18 : Value).ownBlock)) (Kd.R_apart' (HO205.out) (Kd.N_typed HO195.out) (by decide)) (fun k_ hk => hk.2))).2.1 (Kd.R_F (Kd.R_mono (ok' := (fun k_ => some k_ ≠ (.slice Ao18 y193.length co18 : Value).ownBlock)) (Kd.R_apart' (HO205.out) (Kd.N_typed HO195.out) (by decide)) (fun k_ hk => hk.2))))) (Reps.one (show Kd.FK (Kd.slice 29 (Kd.int .u64)) _ _ y206 [.slice Ao28 y206.length co28] from (Kd.FK_slice_mk (Kd.R_reads' (Kd.R_mono (ok' := (fun k_ => some k_ ≠ (.slice Ao18 y193.length co18 : Value).ownBlock)) (Kd.R_apart' (HO208.out) (Kd.N_typed HO195.out) (by decide)) (fun k_ hk => hk.2))).2.1 (Kd.R_F (Kd.R_mono (ok' := (fun k_ => some k_ ≠ (.slice Ao18 y193.length co18 : Value).ownBlock)) (Kd.R_apart' (HO208.out) (Kd.N_typed HO195.out) (by decide)) (fun k_ hk => hk.2))))) (Reps.none _ _))))); intro v210 w29 ho30 hb hg_ hnew_; clear hg_ hnew_; (first | rw [← Ny209.out] at ho30 | (simp only [Int.reduceToNat] at ho30; rw [← Ny209.out] at ho30)); have n0_ := Aside0.mk (Kd.N_elder' (by (with_reducible repeat (first | apply Kd.N_alloc | apply Kd.N_drewN | apply Kd.N_drew)); exact HO195.out) (Kd.N_base ho30) hb); have n1_ := Aside0.mk (Kd.R_below (by (with_reducible repeat (first | apply Kd.R_alloc | apply Kd.R_drewN | apply Kd.R_drew)); exact HO199.out) hb); have n2_ := Aside0.mk (Kd.N_lower ho30 (below_size (by repeat (first | (with_reducible first | exact HB.out | apply below_alloc | apply pw_below_drewN | apply below_drew1) | exact HB.out)))); have n3_ := Aside0.mk (below_step (by repeat (first | (with_reducible first | exact HB.out | apply below_alloc | apply pw_below_drewN | apply below_drew1) | exact HB.out)) hb); clear HO195; clear HO199; clear HB; clear HO202; clear HO205; clear HO208; have HO195 := n0_; have HO199 := n1_; have HO211 := n2_; have HB := n3_; clear n0_ n1_ n2_ n3_; clear hb ho30; obtain ⟨Ao31, co31, eo31⟩ := Kd.N_slice HO211.out; subst eo31) | ((with_reducible refine gate_callee (f := 18) rfl ?_); refine goesL_ (some 18) rfl rfl Tryd.func18 (by kernel_rfl) rfl #[.slice Ao31 y209.length co31, .int .i64 3] rfl (by (try simp only [List.map_toArray, List.map_cons, List.map_nil]); first | done | rfl | (simp only [List.length_drop, List.length_take]; rfl)) ?_; (with_reducible refine (matrix_Picks.calls k _ _ y209 3 t212 t213 _ ?side1 ?side2 ?side3 A2.out).mono ?_); (case side1 => first | exact HT.out | exact TabIn.below HT.out (by repeat (first | (with_reducible first | exact HB.out | apply below_alloc | apply pw_below_drewN | apply below_drew1) | exact HB.out)) | (repeat (first | apply TabIn.drewN | apply TabIn.drew | exact HT.out))); (case side2 => repeat (first | exact (Kd.N_reads' HO211.out).2.2 | (with_reducible refine Kd.C_alloc ?_ _) | (with_reducible refine Kd.C_drewN ?_ _) | (with_reducible refine Kd.C_drew ?_))); (case side3 => exact (Kd.N_reads' HO211.out).2.1); rintro e w32 ⟨v214, v216, rfl, ho0, ho1, hb⟩; refine ⟨_, rfl, ?_⟩; have n0_ := Aside0.mk (Kd.N_elder' (by (with_reducible repeat (first | apply Kd.N_alloc | apply Kd.N_drewN | apply Kd.N_drew)); exact HO195.out) (Kd.R_base ho0) hb); have n1_ := Aside0.mk (Kd.R_below (by (with_reducible repeat (first | apply Kd.R_alloc | apply Kd.R_drewN | apply Kd.R_drew)); exact HO199.out) hb); have n2_ := Aside0.mk (Kd.N_elder' (by (with_reducible repeat (first | apply Kd.N_alloc | apply Kd.N_drewN | apply Kd.N_drew)); exact HO211.out) (Kd.R_base ho0) hb); have n3_ := Aside0.mk (Kd.R_lower ho0 (below_size (by repeat (first | (with_reducible first | exact HB.out | apply below_alloc | apply pw_below_drewN | apply below_drew1) | exact HB.out)))); have n4_ := Aside0.mk (Kd.R_lower ho1 (below_size (by repeat (first | (with_reducible first | exact HB.out | apply below_alloc | apply pw_below_drewN | apply below_drew1) | exact HB.out)))); have n5_ := Aside0.mk (below_step (by repeat (first | (with_reducible first | exact HB.out | apply below_alloc | apply pw_below_drewN | apply below_drew1) | exact HB.out)) hb); clear HO195; clear HO199; clear HO211; clear HB; have HO195 := n0_; have HO199 := n1_; have HO211 := n2_; have HO215 := n3_; have HO217 := n4_; have HB := n5_; clear n0_ n1_ n2_ n3_ n4_ n5_; (try clear hb); (try clear hb2); (try clear hk); (try clear hi); (try clear ho0); (try clear ho1); obtain ⟨Ao33, co33, eo33⟩ := Kd.R_slice HO199.out; subst eo33; obtain ⟨Ao34, co34, eo34⟩ := Kd.R_slice HO217.out; subst eo34) | ((with_reducible refine gate_dst (N := 33) rfl ?_); (try (refine gate_guard (by rfl) ?_; dsimp only)); refine Kd.R_lit (Kd.int .i64) _ 3 ?hg (N := 33) ?hd (xs := ([0, 1] : List Int)) (inner := [.int .i64 0, .int .i64 1]) (ok := fun _ => True) (okp := fun _ => True) ?hr ?hp (fun _ hk => hk) trivial (Below.refl _ _) (Nat.le_refl _) (by simp) ?_; (case hd => rfl); (case hg => rfl); (case hr => first | (go_simp; done) | (go_simp; rfl)); (case hp => exact (Reps.one (show Kd.M (Kd.int .i64) _ _ _ 0 [.int .i64 0] from rfl) (Reps.one (show Kd.M (Kd.int .i64) _ _ _ 1 [.int .i64 1] from rfl) (Reps.none _ _)))); intro v219 w35 ho36 hb hg_ hnew_; clear hg_ hnew_; (first | rw [← Ny218.out] at ho36 | (simp only [Int.reduceToNat] at ho36; rw [← Ny218.out] at ho36)); have n0_ := Aside0.mk (Kd.N_elder' (by (with_reducible repeat (first | apply Kd.N_alloc | apply Kd.N_drewN | apply Kd.N_drew)); exact HO195.out) (Kd.R_base ho36) hb); have n1_ := Aside0.mk (Kd.R_below (by (with_reducible repeat (first | apply Kd.R_alloc | apply Kd.R_drewN | apply Kd.R_drew)); exact HO199.out) hb); have n2_ := Aside0.mk (Kd.N_elder' (by (with_reducible repeat (first | apply Kd.N_alloc | apply Kd.N_drewN | apply Kd.N_drew)); exact HO211.out) (Kd.R_base ho36) hb); have n3_ := Aside0.mk (Kd.R_elder' (by (with_reducible repeat (first | apply Kd.R_alloc | apply Kd.R_drewN | apply Kd.R_drew)); exact HO215.out) (Kd.R_base ho36) hb); have n4_ := Aside0.mk (Kd.R_below (by (with_reducible repeat (first | apply Kd.R_alloc | apply Kd.R_drewN | apply Kd.R_drew)); exact HO217.out) hb); have n5_ := Aside0.mk (Kd.R_lower (Kd.R_new' ho36 (Kd.R_lt (by (with_reducible repeat (first | apply Kd.R_alloc | apply Kd.R_drewN | apply Kd.R_drew)); exact HO215.out))) (below_size (by repeat (first | (with_reducible first | exact HB.out | apply below_alloc | apply pw_below_drewN | apply below_drew1) | exact HB.out)))); have n6_ := Aside0.mk (below_step (by repeat (first | (with_reducible first | exact HB.out | apply below_alloc | apply pw_below_drewN | apply below_drew1) | exact HB.out)) hb); clear HO195; clear HO199; clear HO211; clear HO215; clear HO217; clear HB; have HO195 := n0_; have HO199 := n1_; have HO211 := n2_; have HO215 := n3_; have HO217 := n4_; have HO220 := n5_; have HB := n6_; clear n0_ n1_ n2_ n3_ n4_ n5_ n6_; clear hb ho36; obtain ⟨Ao37, co37, eo37⟩ := Kd.R_slice HO215.out; subst eo37; obtain ⟨Ao38, co38, eo38⟩ := Kd.R_slice HO220.out; subst eo38) | (go_at_call 20; (with_reducible refine (geyserref02_Same.calls k _ _ t212 _ _ y218 t221 _ ?side1 ?side2 ?side3 ?side4 A6.out).mono ?_); (case side1 => repeat (first | exact (Kd.R_reads' HO215.out).2.2 | (with_reducible refine Kd.C_alloc ?_ _) | (with_reducible refine Kd.C_drewN ?_ _) | (with_reducible refine Kd.C_drew ?_))); (case side2 => exact (Kd.R_reads' HO215.out).2.1); (case side3 => repeat (first | exact (Kd.R_reads' HO220.out).2.2 | (with_reducible refine Kd.C_alloc ?_ _) | (with_reducible refine Kd.C_drewN ?_ _) | (with_reducible refine Kd.C_drew ?_))); (case side4 => exact (Kd.R_reads' HO220.out).2.1); rintro e w' ⟨rfl, ⟨nd, rfl⟩⟩))
    go_ret
    exact ⟨by first | rfl | (simp [errW_none, errW_some] <;> rfl) | (simp [*, errW_none, errW_some] <;> rfl), by repeat (first | (with_reducible first | exact HB.out | apply below_alloc | apply pw_below_drewN | apply below_drew1) | exact HB.out)⟩
   ·rw [if_neg c5] at H
    have c5b0 : (t196 == 2) = false := beq_eq_false_iff_ne.mpr c5
    have c5b1 : (t196 != 2) = true := bne_iff_ne.mpr c5
    obtain rfl := Option.some.inj H
    go_enter Tryd.func12, Tryd.ntmps12
    go_wp2_with (first | ((with_reducible refine gate_dst (N := 6) rfl ?_); (try (refine gate_guard (by rfl) ?_; dsimp only)); refine Kd.R_lit (Kd.int .u64) _ 29 ?hg (N := 6) ?hd (xs := ([6] : List Int)) (inner := [.int .u64 6]) (ok := fun _ => True) (okp := fun _ => True) ?hr ?hp (fun _ hk => hk) trivial (Below.refl _ _) (Nat.le_refl _) (by simp) ?_; (case hd => rfl); (case hg => rfl); (case hr => first | (go_simp; done) | (go_simp; rfl)); (case hp => exact (Reps.one (show Kd.M (Kd.int .u64) _ _ _ 6 [.int .u64 6] from rfl) (Reps.none _ _))); intro v185 w39 ho40 hb hg_ hnew_; clear hg_ hnew_; (first | rw [← Ny184.out] at ho40 | (simp only [Int.reduceToNat] at ho40; rw [← Ny184.out] at ho40)); have n0_ := Aside0.mk (Kd.R_lower ho40 (below_size (by repeat (first | (with_reducible first | exact HB.out | apply below_alloc | apply pw_below_drewN | apply below_drew1) | exact HB.out)))); have n1_ := Aside0.mk (below_step (by repeat (first | (with_reducible first | exact HB.out | apply below_alloc | apply pw_below_drewN | apply below_drew1) | exact HB.out)) hb); clear HB; have HO186 := n0_; have HB := n1_; clear n0_ n1_; clear hb ho40) | ((with_reducible refine gate_dst (N := 7) rfl ?_); (try (refine gate_guard (by rfl) ?_; dsimp only)); refine Kd.R_lit (Kd.int .u64) _ 29 ?hg (N := 7) ?hd (xs := ([3] : List Int)) (inner := [.int .u64 3]) (ok := fun _ => True) (okp := fun _ => True) ?hr ?hp (fun _ hk => hk) trivial (Below.refl _ _) (Nat.le_refl _) (by simp) ?_; (case hd => rfl); (case hg => rfl); (case hr => first | (go_simp; done) | (go_simp; rfl)); (case hp => exact (Reps.one (show Kd.M (Kd.int .u64) _ _ _ 3 [.int .u64 3] from rfl) (Reps.none _ _))); intro v188 w41 ho42 hb hg_ hnew_; clear hg_ hnew_; (first | rw [← Ny187.out] at ho42 | (simp only [Int.reduceToNat] at ho42; rw [← Ny187.out] at ho42)); have n0_ := Aside0.mk (Kd.R_elder' (by (with_reducible repeat (first | apply Kd.R_alloc | apply Kd.R_drewN | apply Kd.R_drew)); exact HO186.out) (Kd.R_base ho42) hb); have n1_ := Aside0.mk (Kd.R_lower (Kd.R_new' ho42 (Kd.R_lt (by (with_reducible repeat (first | apply Kd.R_alloc | apply Kd.R_drewN | apply Kd.R_drew)); exact HO186.out))) (below_size (by repeat (first | (with_reducible first | exact HB.out | apply below_alloc | apply pw_below_drewN | apply below_drew1) | exact HB.out)))); have n2_ := Aside0.mk (below_step (by repeat (first | (with_reducible first | exact HB.out | apply below_alloc | apply pw_below_drewN | apply below_drew1) | exact HB.out)) hb); clear HO186; clear HB; have HO186 := n0_; have HO189 := n1_; have HB := n2_; clear n0_ n1_ n2_; clear hb ho42) | ((with_reducible refine gate_dst (N := 8) rfl ?_); (try (refine gate_guard (by rfl) ?_; dsimp only)); refine Kd.R_lit (Kd.int .u64) _ 29 ?hg (N := 8) ?hd (xs := ([5] : List Int)) (inner := [.int .u64 5]) (ok := fun _ => True) (okp := fun _ => True) ?hr ?hp (fun _ hk => hk) trivial (Below.refl _ _) (Nat.le_refl _) (by simp) ?_; (case hd => rfl); (case hg => rfl); (case hr => first | (go_simp; done) | (go_simp; rfl)); (case hp => exact (Reps.one (show Kd.M (Kd.int .u64) _ _ _ 5 [.int .u64 5] from rfl) (Reps.none _ _))); intro v191 w43 ho44 hb hg_ hnew_; clear hg_ hnew_; (first | rw [← Ny190.out] at ho44 | (simp only [Int.reduceToNat] at ho44; rw [← Ny190.out] at ho44)); have n0_ := Aside0.mk (Kd.R_elder' (by (with_reducible repeat (first | apply Kd.R_alloc | apply Kd.R_drewN | apply Kd.R_drew)); exact HO186.out) (Kd.R_base ho44) hb); have n1_ := Aside0.mk (Kd.R_elder' (by (with_reducible repeat (first | apply Kd.R_alloc | apply Kd.R_drewN | apply Kd.R_drew)); exact HO189.out) (Kd.R_base ho44) hb); have n2_ := Aside0.mk (Kd.R_lower (Kd.R_new' (Kd.R_new' ho44 (Kd.R_lt (by (with_reducible repeat (first | apply Kd.R_alloc | apply Kd.R_drewN | apply Kd.R_drew)); exact HO186.out))) (Kd.R_lt (by (with_reducible repeat (first | apply Kd.R_alloc | apply Kd.R_drewN | apply Kd.R_drew)); exact HO189.out))) (below_size (by repeat (first | (with_reducible first | exact HB.out | apply below_alloc | apply pw_below_drewN | apply below_drew1) | exact HB.out)))); have n3_ := Aside0.mk (below_step (by repeat (first | (with_reducible first | exact HB.out | apply below_alloc | apply pw_below_drewN | apply below_drew1) | exact HB.out)) hb); clear HO186; clear HO189; clear HB; have HO186 := n0_; have HO189 := n1_; have HO192 := n2_; have HB := n3_; clear n0_ n1_ n2_ n3_; clear hb ho44; obtain ⟨Ao45, co45, eo45⟩ := Kd.R_slice HO186.out; subst eo45; obtain ⟨Ao46, co46, eo46⟩ := Kd.R_slice HO189.out; subst eo46; obtain ⟨Ao47, co47, eo47⟩ := Kd.R_slice HO192.out; subst eo47) | ((with_reducible refine gate_dst (N := 9) rfl ?_); (try (refine gate_guard (by rfl) ?_; dsimp only)); refine Kd.N_lit (Kd.slice 29 (Kd.int .u64)) _ 27 ?hg (N' := 9) ?hd (xs := ([y184, y187, y190] : List (List Int))) (inner := [.slice Ao45 y184.length co45, .slice Ao46 y187.length co46, .slice Ao47 y190.length co47]) (ok := (fun _ => True)) (okp := (fun _ => True)) ?hr ?hp (fun _ hk => hk) ((show ∀ k_, w43.heap.size ≤ k_ → (fun _ => True) k_ from fun k_ hk => trivial) _ (Nat.le_refl _)) (Below.refl _ _) (Nat.le_refl _) (by simp) ?_; (case hd => rfl); (case hg => rfl); (case hr => first | (go_simp; done) | (go_simp; rfl)); (case hp => exact (Reps.one (show Kd.FK (Kd.slice 29 (Kd.int .u64)) _ _ y184 [.slice Ao45 y184.length co45] from (Kd.FK_slice_mk (Kd.R_reads' (Kd.R_mono (ok' := (fun _ => True)) (HO186.out) (fun k_ hk => trivial))).2.1 (Kd.R_F (Kd.R_mono (ok' := (fun _ => True)) (HO186.out) (fun k_ hk => trivial))))) (Reps.one (show Kd.FK (Kd.slice 29 (Kd.int .u64)) _ _ y187 [.slice Ao46 y187.length co46] from (Kd.FK_slice_mk (Kd.R_reads' (Kd.R_mono (ok' := (fun _ => True)) (HO189.out) (fun k_ hk => trivial))).2.1 (Kd.R_F (Kd.R_mono (ok' := (fun _ => True)) (HO189.out) (fun k_ hk => trivial))))) (Reps.one (show Kd.FK (Kd.slice 29 (Kd.int .u64)) _ _ y190 [.slice Ao47 y190.length co47] from (Kd.FK_slice_mk (Kd.R_reads' (Kd.R_mono (ok' := (fun _ => True)) (HO192.out) (fun k_ hk => trivial))).2.1 (Kd.R_F (Kd.R_mono (ok' := (fun _ => True)) (HO192.out) (fun k_ hk => trivial))))) (Reps.none _ _))))); intro v194 w48 ho49 hb hg_ hnew_; clear hg_ hnew_; (first | rw [← Ny193.out] at ho49 | (simp only [Int.reduceToNat] at ho49; rw [← Ny193.out] at ho49)); have n0_ := Aside0.mk (Kd.N_lower ho49 (below_size (by repeat (first | (with_reducible first | exact HB.out | apply below_alloc | apply pw_below_drewN | apply below_drew1) | exact HB.out)))); have n1_ := Aside0.mk (below_step (by repeat (first | (with_reducible first | exact HB.out | apply below_alloc | apply pw_below_drewN | apply below_drew1) | exact HB.out)) hb); clear HB; clear HO186; clear HO189; clear HO192; have HO195 := n0_; have HB := n1_; clear n0_ n1_; clear hb ho49; obtain ⟨Ao50, co50, eo50⟩ := Kd.N_slice HO195.out; subst eo50) | ((with_reducible refine gate_callee (f := 14) rfl ?_); refine goesL_ (some 10) rfl rfl Tryd.func14 (by kernel_rfl) rfl #[.slice Ao50 y193.length co50, .int .i64 3] rfl (by (try simp only [List.map_toArray, List.map_cons, List.map_nil]); first | done | rfl | (simp only [List.length_drop, List.length_take]; rfl)) ?_; (with_reducible refine (matrix_Rank.calls k _ _ y193 3 t196 t197 _ ?side1 ?side2 ?side3 A1.out).mono ?_); (case side1 => first | exact HT.out | exact TabIn.below HT.out (by repeat (first | (with_reducible first | exact HB.out | apply below_alloc | apply pw_below_drewN | apply below_drew1) | exact HB.out)) | (repeat (first | apply TabIn.drewN | apply TabIn.drew | exact HT.out))); (case side2 => repeat (first | exact (Kd.N_reads' HO195.out).2.2 | (with_reducible refine Kd.C_alloc ?_ _) | (with_reducible refine Kd.C_drewN ?_ _) | (with_reducible refine Kd.C_drew ?_))); (case side3 => exact (Kd.N_reads' HO195.out).2.1); rintro e w51 ⟨v198, rfl, ho0, hb⟩; refine ⟨_, rfl, ?_⟩; have n0_ := Aside0.mk (Kd.N_below (by (with_reducible repeat (first | apply Kd.N_alloc | apply Kd.N_drewN | apply Kd.N_drew)); exact HO195.out) hb); have n1_ := Aside0.mk (Kd.R_lower ho0 (below_size (by repeat (first | (with_reducible first | exact HB.out | apply below_alloc | apply pw_below_drewN | apply below_drew1) | exact HB.out)))); have n2_ := Aside0.mk (below_step (by repeat (first | (with_reducible first | exact HB.out | apply below_alloc | apply pw_below_drewN | apply below_drew1) | exact HB.out)) hb); clear HO195; clear HB; have HO195 := n0_; have HO199 := n1_; have HB := n2_; clear n0_ n1_ n2_; (try clear hb); (try clear hb2); (try clear hk); (try clear hi); (try clear ho0)) | ((with_reducible refine gate_dst (N := 14) rfl ?_); (try (refine gate_guard (by rfl) ?_; dsimp only)); refine Kd.R_lit (Kd.int .u64) _ 29 ?hg (N := 14) ?hd (xs := ([6] : List Int)) (inner := [.int .u64 6]) (ok := fun _ => True) (okp := fun _ => True) ?hr ?hp (fun _ hk => hk) trivial (Below.refl _ _) (Nat.le_refl _) (by simp) ?_; (case hd => rfl); (case hg => rfl); (case hr => first | (go_simp; done) | (go_simp; rfl)); (case hp => exact (Reps.one (show Kd.M (Kd.int .u64) _ _ _ 6 [.int .u64 6] from rfl) (Reps.none _ _))); intro v201 w52 ho53 hb hg_ hnew_; clear hg_ hnew_; (first | rw [← Ny200.out] at ho53 | (simp only [Int.reduceToNat] at ho53; rw [← Ny200.out] at ho53)); have n0_ := Aside0.mk (Kd.N_elder' (by (with_reducible repeat (first | apply Kd.N_alloc | apply Kd.N_drewN | apply Kd.N_drew)); exact HO195.out) (Kd.R_base ho53) hb); have n1_ := Aside0.mk (Kd.R_below (by (with_reducible repeat (first | apply Kd.R_alloc | apply Kd.R_drewN | apply Kd.R_drew)); exact HO199.out) hb); have n2_ := Aside0.mk (Kd.R_lower ho53 (below_size (by repeat (first | (with_reducible first | exact HB.out | apply below_alloc | apply pw_below_drewN | apply below_drew1) | exact HB.out)))); have n3_ := Aside0.mk (below_step (by repeat (first | (with_reducible first | exact HB.out | apply below_alloc | apply pw_below_drewN | apply below_drew1) | exact HB.out)) hb); clear HO195; clear HO199; clear HB; have HO195 := n0_; have HO199 := n1_; have HO202 := n2_; have HB := n3_; clear n0_ n1_ n2_ n3_; clear hb ho53) | ((with_reducible refine gate_dst (N := 15) rfl ?_); (try (refine gate_guard (by rfl) ?_; dsimp only)); refine Kd.R_lit (Kd.int .u64) _ 29 ?hg (N := 15) ?hd (xs := ([3] : List Int)) (inner := [.int .u64 3]) (ok := fun _ => True) (okp := fun _ => True) ?hr ?hp (fun _ hk => hk) trivial (Below.refl _ _) (Nat.le_refl _) (by simp) ?_; (case hd => rfl); (case hg => rfl); (case hr => first | (go_simp; done) | (go_simp; rfl)); (case hp => exact (Reps.one (show Kd.M (Kd.int .u64) _ _ _ 3 [.int .u64 3] from rfl) (Reps.none _ _))); intro v204 w54 ho55 hb hg_ hnew_; clear hg_ hnew_; (first | rw [← Ny203.out] at ho55 | (simp only [Int.reduceToNat] at ho55; rw [← Ny203.out] at ho55)); have n0_ := Aside0.mk (Kd.N_elder' (by (with_reducible repeat (first | apply Kd.N_alloc | apply Kd.N_drewN | apply Kd.N_drew)); exact HO195.out) (Kd.R_base ho55) hb); have n1_ := Aside0.mk (Kd.R_below (by (with_reducible repeat (first | apply Kd.R_alloc | apply Kd.R_drewN | apply Kd.R_drew)); exact HO199.out) hb); have n2_ := Aside0.mk (Kd.R_elder' (by (with_reducible repeat (first | apply Kd.R_alloc | apply Kd.R_drewN | apply Kd.R_drew)); exact HO202.out) (Kd.R_base ho55) hb); have n3_ := Aside0.mk (Kd.R_lower (Kd.R_new' ho55 (Kd.R_lt (by (with_reducible repeat (first | apply Kd.R_alloc | apply Kd.R_drewN | apply Kd.R_drew)); exact HO202.out))) (below_size (by repeat (first | (with_reducible first | exact HB.out | apply below_alloc | apply pw_below_drewN | apply below_drew1) | exact HB.out)))); have n4_ := Aside0.mk (below_step (by repeat (first | (with_reducible first | exact HB.out | apply below_alloc | apply pw_below_drewN | apply below_drew1) | exact HB.out)) hb); clear HO195; clear HO199; clear HO202; clear HB; have HO195 := n0_; have HO199 := n1_; have HO202 := n2_; have HO205 := n3_; have HB := n4_; clear n0_ n1_ n2_ n3_ n4_; clear hb ho55) | ((with_reducible refine gate_dst (N := 16) rfl ?_); (try (refine gate_guard (by rfl) ?_; dsimp only)); refine Kd.R_lit (Kd.int .u64) _ 29 ?hg (N := 16) ?hd (xs := ([5] : List Int)) (inner := [.int .u64 5]) (ok := fun _ => True) (okp := fun _ => True) ?hr ?hp (fun _ hk => hk) trivial (Below.refl _ _) (Nat.le_refl _) (by simp) ?_; (case hd => rfl); (case hg => rfl); (case hr => first | (go_simp; done) | (go_simp; rfl)); (case hp => exact (Reps.one (show Kd.M (Kd.int .u64) _ _ _ 5 [.int .u64 5] from rfl) (Reps.none _ _))); intro v207 w56 ho57 hb hg_ hnew_; clear hg_ hnew_; (first | rw [← Ny206.out] at ho57 | (simp only [Int.reduceToNat] at ho57; rw [← Ny206.out] at ho57)); have n0_ := Aside0.mk (Kd.N_elder' (by (with_reducible repeat (first | apply Kd.N_alloc | apply Kd.N_drewN | apply Kd.N_drew)); exact HO195.out) (Kd.R_base ho57) hb); have n1_ := Aside0.mk (Kd.R_below (by (with_reducible repeat (first | apply Kd.R_alloc | apply Kd.R_drewN | apply Kd.R_drew)); exact HO199.out) hb); have n2_ := Aside0.mk (Kd.R_elder' (by (with_reducible repeat (first | apply Kd.R_alloc | apply Kd.R_drewN | apply Kd.R_drew)); exact HO202.out) (Kd.R_base ho57) hb); have n3_ := Aside0.mk (Kd.R_elder' (by (with_reducible repeat (first | apply Kd.R_alloc | apply Kd.R_drewN | apply Kd.R_drew)); exact HO205.out) (Kd.R_base ho57) hb); have n4_ := Aside0.mk (Kd.R_lower (Kd.R_new' (Kd.R_new' ho57 (Kd.R_lt (by (with_reducible repeat (first | apply Kd.R_alloc | apply Kd.R_drewN | apply Kd.R_drew)); exact HO202.out))) (Kd.R_lt (by (with_reducible repeat (first | apply Kd.R_alloc | apply Kd.R_drewN | apply Kd.R_drew)); exact HO205.out))) (below_size (by repeat (first | (with_reducible first | exact HB.out | apply below_alloc | apply pw_below_drewN | apply below_drew1) | exact HB.out)))); have n5_ := Aside0.mk (below_step (by repeat (first | (with_reducible first | exact HB.out | apply below_alloc | apply pw_below_drewN | apply below_drew1) | exact HB.out)) hb); clear HO195; clear HO199; clear HO202; clear HO205; clear HB; have HO195 := n0_; have HO199 := n1_; have HO202 := n2_; have HO205 := n3_; have HO208 := n4_; have HB := n5_; clear n0_ n1_ n2_ n3_ n4_ n5_; clear hb ho57; obtain ⟨Ao58, co58, eo58⟩ := Kd.R_slice HO202.out; subst eo58; obtain ⟨Ao59, co59, eo59⟩ := Kd.R_slice HO205.out; subst eo59; obtain ⟨Ao60, co60, eo60⟩ := Kd.R_slice HO208.out; subst eo60) | ((with_reducible refine gate_dst (N := 17) rfl ?_); (try (refine gate_guard (by rfl) ?_; dsimp only)); refine Kd.N_lit (Kd.slice 29 (Kd.int .u64)) _ 27 ?hg (N' := 17) ?hd (xs := ([y200, y203, y206] : List (List Int))) (inner := [.slice Ao58 y200.length co58, .slice Ao59 y203.length co59, .slice Ao60 y206.length co60]) (ok := (fun k_ => some k_ ≠ (.slice Ao50 y193.length co50 : Value).ownBlock)) (okp := (fun k_ => some k_ ≠ (.slice Ao50 y193.length co50 : Value).ownBlock)) ?hr ?hp (fun _ hk => hk) ((show ∀ k_, w56.heap.size ≤ k_ → (fun k_ => some k_ ≠ (.slice Ao50 y193.length co50 : Value).ownBlock) k_ from fun k_ hk => Kd.fresh' (Kd.N_lt (by (with_reducible repeat (first | apply Kd.N_alloc | apply Kd.N_drewN | apply Kd.N_drew)); exact HO195.out)) k_ hk) _ (Nat.le_refl _)) (Below.refl _ _) (Nat.le_refl _) (by simp) ?_; (case hd => rfl); (case hg => rfl); (case hr => first | (go_simp; done) | (go_simp; rfl)); (case hp => exact (Reps.one (show Kd.FK (Kd.slice 29 (Kd.int .u64)) _ _ y200 [.slice Ao58 y200.length co58] from (Kd.FK_slice_mk (Kd.R_reads' (Kd.R_mono (ok' := (fun k_ => some k_ ≠ (.slice Ao50 y193.length co50 : Value).ownBlock)) (Kd.R_apart' (HO202.out) (Kd.N_typed HO195.out) (by decide)) (fun k_ hk => hk.2))).2.1 (Kd.R_F (Kd.R_mono (ok' := (fun k_ => some k_ ≠ (.slice Ao50 y193.length co50 : Value).ownBlock)) (Kd.R_apart' (HO202.out) (Kd.N_typed HO195.out) (by decide)) (fun k_ hk => hk.2))))) (Reps.one (show Kd.FK (Kd.slice 29 (Kd.int .u64)) _ _ y203 [.slice Ao59 y203.length co59] from (Kd.FK_slice_mk (Kd.R_reads' (Kd.R_mono (ok' := (fun k_ => some k_ ≠ (.slice Ao50 y193.length co50 : Value).ownBlock)) (Kd.R_apart' (HO205.out) (Kd.N_typed HO195.out) (by decide)) (fun k_ hk => hk.2))).2.1 (Kd.R_F (Kd.R_mono (ok' := (fun k_ => some k_ ≠ (.slice Ao50 y193.length co50 : Value).ownBlock)) (Kd.R_apart' (HO205.out) (Kd.N_typed HO195.out) (by decide)) (fun k_ hk => hk.2))))) (Reps.one (show Kd.FK (Kd.slice 29 (Kd.int .u64)) _ _ y206 [.slice Ao60 y206.length co60] from (Kd.FK_slice_mk (Kd.R_reads' (Kd.R_mono (ok' := (fun k_ => some k_ ≠ (.slice Ao50 y193.length co50 : Value).ownBlock)) (Kd.R_apart' (HO208.out) (Kd.N_typed HO195.out) (by decide)) (fun k_ hk => hk.2))).2.1 (Kd.R_F (Kd.R_mono (ok' := (fun k_ => some k_ ≠ (.slice Ao50 y193.length co50 : Value).ownBlock)) (Kd.R_apart' (HO208.out) (Kd.N_typed HO195.out) (by decide)) (fun k_ hk => hk.2))))) (Reps.none _ _))))); intro v210 w61 ho62 hb hg_ hnew_; clear hg_ hnew_; (first | rw [← Ny209.out] at ho62 | (simp only [Int.reduceToNat] at ho62; rw [← Ny209.out] at ho62)); have n0_ := Aside0.mk (Kd.N_elder' (by (with_reducible repeat (first | apply Kd.N_alloc | apply Kd.N_drewN | apply Kd.N_drew)); exact HO195.out) (Kd.N_base ho62) hb); have n1_ := Aside0.mk (Kd.R_below (by (with_reducible repeat (first | apply Kd.R_alloc | apply Kd.R_drewN | apply Kd.R_drew)); exact HO199.out) hb); have n2_ := Aside0.mk (Kd.N_lower ho62 (below_size (by repeat (first | (with_reducible first | exact HB.out | apply below_alloc | apply pw_below_drewN | apply below_drew1) | exact HB.out)))); have n3_ := Aside0.mk (below_step (by repeat (first | (with_reducible first | exact HB.out | apply below_alloc | apply pw_below_drewN | apply below_drew1) | exact HB.out)) hb); clear HO195; clear HO199; clear HB; clear HO202; clear HO205; clear HO208; have HO195 := n0_; have HO199 := n1_; have HO211 := n2_; have HB := n3_; clear n0_ n1_ n2_ n3_; clear hb ho62; obtain ⟨Ao63, co63, eo63⟩ := Kd.N_slice HO211.out; subst eo63) | ((with_reducible refine gate_callee (f := 18) rfl ?_); refine goesL_ (some 18) rfl rfl Tryd.func18 (by kernel_rfl) rfl #[.slice Ao63 y209.length co63, .int .i64 3] rfl (by (try simp only [List.map_toArray, List.map_cons, List.map_nil]); first | done | rfl | (simp only [List.length_drop, List.length_take]; rfl)) ?_; (with_reducible refine (matrix_Picks.calls k _ _ y209 3 t212 t213 _ ?side1 ?side2 ?side3 A2.out).mono ?_); (case side1 => first | exact HT.out | exact TabIn.below HT.out (by repeat (first | (with_reducible first | exact HB.out | apply below_alloc | apply pw_below_drewN | apply below_drew1) | exact HB.out)) | (repeat (first | apply TabIn.drewN | apply TabIn.drew | exact HT.out))); (case side2 => repeat (first | exact (Kd.N_reads' HO211.out).2.2 | (with_reducible refine Kd.C_alloc ?_ _) | (with_reducible refine Kd.C_drewN ?_ _) | (with_reducible refine Kd.C_drew ?_))); (case side3 => exact (Kd.N_reads' HO211.out).2.1); rintro e w64 ⟨v214, v216, rfl, ho0, ho1, hb⟩; refine ⟨_, rfl, ?_⟩; have n0_ := Aside0.mk (Kd.N_elder' (by (with_reducible repeat (first | apply Kd.N_alloc | apply Kd.N_drewN | apply Kd.N_drew)); exact HO195.out) (Kd.R_base ho0) hb); have n1_ := Aside0.mk (Kd.R_below (by (with_reducible repeat (first | apply Kd.R_alloc | apply Kd.R_drewN | apply Kd.R_drew)); exact HO199.out) hb); have n2_ := Aside0.mk (Kd.N_elder' (by (with_reducible repeat (first | apply Kd.N_alloc | apply Kd.N_drewN | apply Kd.N_drew)); exact HO211.out) (Kd.R_base ho0) hb); have n3_ := Aside0.mk (Kd.R_lower ho0 (below_size (by repeat (first | (with_reducible first | exact HB.out | apply below_alloc | apply pw_below_drewN | apply below_drew1) | exact HB.out)))); have n4_ := Aside0.mk (Kd.R_lower ho1 (below_size (by repeat (first | (with_reducible first | exact HB.out | apply below_alloc | apply pw_below_drewN | apply below_drew1) | exact HB.out)))); have n5_ := Aside0.mk (below_step (by repeat (first | (with_reducible first | exact HB.out | apply below_alloc | apply pw_below_drewN | apply below_drew1) | exact HB.out)) hb); clear HO195; clear HO199; clear HO211; clear HB; have HO195 := n0_; have HO199 := n1_; have HO211 := n2_; have HO215 := n3_; have HO217 := n4_; have HB := n5_; clear n0_ n1_ n2_ n3_ n4_ n5_; (try clear hb); (try clear hb2); (try clear hk); (try clear hi); (try clear ho0); (try clear ho1); obtain ⟨Ao65, co65, eo65⟩ := Kd.R_slice HO199.out; subst eo65; obtain ⟨Ao66, co66, eo66⟩ := Kd.R_slice HO217.out; subst eo66))
    go_ret
    exact ⟨by first | rfl | (simp [errW_none, errW_some] <;> rfl) | (simp [*, errW_none, errW_some] <;> rfl), by repeat (first | (with_reducible first | exact HB.out | apply below_alloc | apply pw_below_drewN | apply below_drew1) | exact HB.out)⟩
  ·rw [if_neg c4] at H
   have c4b0 : ((t213.length : Int) == 0) = false := beq_eq_false_iff_ne.mpr c4
   have c4b1 : ((t213.length : Int) != 0) = true := bne_iff_ne.mpr c4
   have c4b2 : ¬ (t213 = []) := fun h_ => c4 (by rw [h_]; rfl)
   obtain rfl := Option.some.inj H
   go_enter Tryd.func12, Tryd.ntmps12
   go_wp2_with (first | ((with_reducible refine gate_dst (N := 6) rfl ?_); (try (refine gate_guard (by rfl) ?_; dsimp only)); refine Kd.R_lit (Kd.int .u64) _ 29 ?hg (N := 6) ?hd (xs := ([6] : List Int)) (inner := [.int .u64 6]) (ok := fun _ => True) (okp := fun _ => True) ?hr ?hp (fun _ hk => hk) trivial (Below.refl _ _) (Nat.le_refl _) (by simp) ?_; (case hd => rfl); (case hg => rfl); (case hr => first | (go_simp; done) | (go_simp; rfl)); (case hp => exact (Reps.one (show Kd.M (Kd.int .u64) _ _ _ 6 [.int .u64 6] from rfl) (Reps.none _ _))); intro v185 w67 ho68 hb hg_ hnew_; clear hg_ hnew_; (first | rw [← Ny184.out] at ho68 | (simp only [Int.reduceToNat] at ho68; rw [← Ny184.out] at ho68)); have n0_ := Aside0.mk (Kd.R_lower ho68 (below_size (by repeat (first | (with_reducible first | exact HB.out | apply below_alloc | apply pw_below_drewN | apply below_drew1) | exact HB.out)))); have n1_ := Aside0.mk (below_step (by repeat (first | (with_reducible first | exact HB.out | apply below_alloc | apply pw_below_drewN | apply below_drew1) | exact HB.out)) hb); clear HB; have HO186 := n0_; have HB := n1_; clear n0_ n1_; clear hb ho68) | ((with_reducible refine gate_dst (N := 7) rfl ?_); (try (refine gate_guard (by rfl) ?_; dsimp only)); refine Kd.R_lit (Kd.int .u64) _ 29 ?hg (N := 7) ?hd (xs := ([3] : List Int)) (inner := [.int .u64 3]) (ok := fun _ => True) (okp := fun _ => True) ?hr ?hp (fun _ hk => hk) trivial (Below.refl _ _) (Nat.le_refl _) (by simp) ?_; (case hd => rfl); (case hg => rfl); (case hr => first | (go_simp; done) | (go_simp; rfl)); (case hp => exact (Reps.one (show Kd.M (Kd.int .u64) _ _ _ 3 [.int .u64 3] from rfl) (Reps.none _ _))); intro v188 w69 ho70 hb hg_ hnew_; clear hg_ hnew_; (first | rw [← Ny187.out] at ho70 | (simp only [Int.reduceToNat] at ho70; rw [← Ny187.out] at ho70)); have n0_ := Aside0.mk (Kd.R_elder' (by (with_reducible repeat (first | apply Kd.R_alloc | apply Kd.R_drewN | apply Kd.R_drew)); exact HO186.out) (Kd.R_base ho70) hb); have n1_ := Aside0.mk (Kd.R_lower (Kd.R_new' ho70 (Kd.R_lt (by (with_reducible repeat (first | apply Kd.R_alloc | apply Kd.R_drewN | apply Kd.R_drew)); exact HO186.out))) (below_size (by repeat (first | (with_reducible first | exact HB.out | apply below_alloc | apply pw_below_drewN | apply below_drew1) | exact HB.out)))); have n2_ := Aside0.mk (below_step (by repeat (first | (with_reducible first | exact HB.out | apply below_alloc | apply pw_below_drewN | apply below_drew1) | exact HB.out)) hb); clear HO186; clear HB; have HO186 := n0_; have HO189 := n1_; have HB := n2_; clear n0_ n1_ n2_; clear hb ho70) | ((with_reducible refine gate_dst (N := 8) rfl ?_); (try (refine gate_guard (by rfl) ?_; dsimp only)); refine Kd.R_lit (Kd.int .u64) _ 29 ?hg (N := 8) ?hd (xs := ([5] : List Int)) (inner := [.int .u64 5]) (ok := fun _ => True) (okp := fun _ => True) ?hr ?hp (fun _ hk => hk) trivial (Below.refl _ _) (Nat.le_refl _) (by simp) ?_; (case hd => rfl); (case hg => rfl); (case hr => first | (go_simp; done) | (go_simp; rfl)); (case hp => exact (Reps.one (show Kd.M (Kd.int .u64) _ _ _ 5 [.int .u64 5] from rfl) (Reps.none _ _))); intro v191 w71 ho72 hb hg_ hnew_; clear hg_ hnew_; (first | rw [← Ny190.out] at ho72 | (simp only [Int.reduceToNat] at ho72; rw [← Ny190.out] at ho72)); have n0_ := Aside0.mk (Kd.R_elder' (by (with_reducible repeat (first | apply Kd.R_alloc | apply Kd.R_drewN | apply Kd.R_drew)); exact HO186.out) (Kd.R_base ho72) hb); have n1_ := Aside0.mk (Kd.R_elder' (by (with_reducible repeat (first | apply Kd.R_alloc | apply Kd.R_drewN | apply Kd.R_drew)); exact HO189.out) (Kd.R_base ho72) hb); have n2_ := Aside0.mk (Kd.R_lower (Kd.R_new' (Kd.R_new' ho72 (Kd.R_lt (by (with_reducible repeat (first | apply Kd.R_alloc | apply Kd.R_drewN | apply Kd.R_drew)); exact HO186.out))) (Kd.R_lt (by (with_reducible repeat (first | apply Kd.R_alloc | apply Kd.R_drewN | apply Kd.R_drew)); exact HO189.out))) (below_size (by repeat (first | (with_reducible first | exact HB.out | apply below_alloc | apply pw_below_drewN | apply below_drew1) | exact HB.out)))); have n3_ := Aside0.mk (below_step (by repeat (first | (with_reducible first | exact HB.out | apply below_alloc | apply pw_below_drewN | apply below_drew1) | exact HB.out)) hb); clear HO186; clear HO189; clear HB; have HO186 := n0_; have HO189 := n1_; have HO192 := n2_; have HB := n3_; clear n0_ n1_ n2_ n3_; clear hb ho72; obtain ⟨Ao73, co73, eo73⟩ := Kd.R_slice HO186.out; subst eo73; obtain ⟨Ao74, co74, eo74⟩ := Kd.R_slice HO189.out; subst eo74; obtain ⟨Ao75, co75, eo75⟩ := Kd.R_slice HO192.out; subst eo75) | ((with_reducible refine gate_dst (N := 9) rfl ?_); (try (refine gate_guard (by rfl) ?_; dsimp only)); refine Kd.N_lit (Kd.slice 29 (Kd.int .u64)) _ 27 ?hg (N' := 9) ?hd (xs := ([y184, y187, y190] : List (List Int))) (inner := [.slice Ao73 y184.length co73, .slice Ao74 y187.length co74, .slice Ao75 y190.length co75]) (ok := (fun _ => True)) (okp := (fun _ => True)) ?hr ?hp (fun _ hk => hk) ((show ∀ k_, w71.heap.size ≤ k_ → (fun _ => True) k_ from fun k_ hk => trivial) _ (Nat.le_refl _)) (Below.refl _ _) (Nat.le_refl _) (by simp) ?_; (case hd => rfl); (case hg => rfl); (case hr => first | (go_simp; done) | (go_simp; rfl)); (case hp => exact (Reps.one (show Kd.FK (Kd.slice 29 (Kd.int .u64)) _ _ y184 [.slice Ao73 y184.length co73] from (Kd.FK_slice_mk (Kd.R_reads' (Kd.R_mono (ok' := (fun _ => True)) (HO186.out) (fun k_ hk => trivial))).2.1 (Kd.R_F (Kd.R_mono (ok' := (fun _ => True)) (HO186.out) (fun k_ hk => trivial))))) (Reps.one (show Kd.FK (Kd.slice 29 (Kd.int .u64)) _ _ y187 [.slice Ao74 y187.length co74] from (Kd.FK_slice_mk (Kd.R_reads' (Kd.R_mono (ok' := (fun _ => True)) (HO189.out) (fun k_ hk => trivial))).2.1 (Kd.R_F (Kd.R_mono (ok' := (fun _ => True)) (HO189.out) (fun k_ hk => trivial))))) (Reps.one (show Kd.FK (Kd.slice 29 (Kd.int .u64)) _ _ y190 [.slice Ao75 y190.length co75] from (Kd.FK_slice_mk (Kd.R_reads' (Kd.R_mono (ok' := (fun _ => True)) (HO192.out) (fun k_ hk => trivial))).2.1 (Kd.R_F (Kd.R_mono (ok' := (fun _ => True)) (HO192.out) (fun k_ hk => trivial))))) (Reps.none _ _))))); intro v194 w76 ho77 hb hg_ hnew_; clear hg_ hnew_; (first | rw [← Ny193.out] at ho77 | (simp only [Int.reduceToNat] at ho77; rw [← Ny193.out] at ho77)); have n0_ := Aside0.mk (Kd.N_lower ho77 (below_size (by repeat (first | (with_reducible first | exact HB.out | apply below_alloc | apply pw_below_drewN | apply below_drew1) | exact HB.out)))); have n1_ := Aside0.mk (below_step (by repeat (first | (with_reducible first | exact HB.out | apply below_alloc | apply pw_below_drewN | apply below_drew1) | exact HB.out)) hb); clear HB; clear HO186; clear HO189; clear HO192; have HO195 := n0_; have HB := n1_; clear n0_ n1_; clear hb ho77; obtain ⟨Ao78, co78, eo78⟩ := Kd.N_slice HO195.out; subst eo78) | ((with_reducible refine gate_callee (f := 14) rfl ?_); refine goesL_ (some 10) rfl rfl Tryd.func14 (by kernel_rfl) rfl #[.slice Ao78 y193.length co78, .int .i64 3] rfl (by (try simp only [List.map_toArray, List.map_cons, List.map_nil]); first | done | rfl | (simp only [List.length_drop, List.length_take]; rfl)) ?_; (with_reducible refine (matrix_Rank.calls k _ _ y193 3 t196 t197 _ ?side1 ?side2 ?side3 A1.out).mono ?_); (case side1 => first | exact HT.out | exact TabIn.below HT.out (by repeat (first | (with_reducible first | exact HB.out | apply below_alloc | apply pw_below_drewN | apply below_drew1) | exact HB.out)) | (repeat (first | apply TabIn.drewN | apply TabIn.drew | exact HT.out))); (case side2 => repeat (first | exact (Kd.N_reads' HO195.out).2.2 | (with_reducible refine Kd.C_alloc ?_ _) | (with_reducible refine Kd.C_drewN ?_ _) | (with_reducible refine Kd.C_drew ?_))); (case side3 => exact (Kd.N_reads' HO195.out).2.1); rintro e w79 ⟨v198, rfl, ho0, hb⟩; refine ⟨_, rfl, ?_⟩; have n0_ := Aside0.mk (Kd.N_below (by (with_reducible repeat (first | apply Kd.N_alloc | apply Kd.N_drewN | apply Kd.N_drew)); exact HO195.out) hb); have n1_ := Aside0.mk (Kd.R_lower ho0 (below_size (by repeat (first | (with_reducible first | exact HB.out | apply below_alloc | apply pw_below_drewN | apply below_drew1) | exact HB.out)))); have n2_ := Aside0.mk (below_step (by repeat (first | (with_reducible first | exact HB.out | apply below_alloc | apply pw_below_drewN | apply below_drew1) | exact HB.out)) hb); clear HO195; clear HB; have HO195 := n0_; have HO199 := n1_; have HB := n2_; clear n0_ n1_ n2_; (try clear hb); (try clear hb2); (try clear hk); (try clear hi); (try clear ho0)) | ((with_reducible refine gate_dst (N := 14) rfl ?_); (try (refine gate_guard (by rfl) ?_; dsimp only)); refine Kd.R_lit (Kd.int .u64) _ 29 ?hg (N := 14) ?hd (xs := ([6] : List Int)) (inner := [.int .u64 6]) (ok := fun _ => True) (okp := fun _ => True) ?hr ?hp (fun _ hk => hk) trivial (Below.refl _ _) (Nat.le_refl _) (by simp) ?_; (case hd => rfl); (case hg => rfl); (case hr => first | (go_simp; done) | (go_simp; rfl)); (case hp => exact (Reps.one (show Kd.M (Kd.int .u64) _ _ _ 6 [.int .u64 6] from rfl) (Reps.none _ _))); intro v201 w80 ho81 hb hg_ hnew_; clear hg_ hnew_; (first | rw [← Ny200.out] at ho81 | (simp only [Int.reduceToNat] at ho81; rw [← Ny200.out] at ho81)); have n0_ := Aside0.mk (Kd.N_elder' (by (with_reducible repeat (first | apply Kd.N_alloc | apply Kd.N_drewN | apply Kd.N_drew)); exact HO195.out) (Kd.R_base ho81) hb); have n1_ := Aside0.mk (Kd.R_below (by (with_reducible repeat (first | apply Kd.R_alloc | apply Kd.R_drewN | apply Kd.R_drew)); exact HO199.out) hb); have n2_ := Aside0.mk (Kd.R_lower ho81 (below_size (by repeat (first | (with_reducible first | exact HB.out | apply below_alloc | apply pw_below_drewN | apply below_drew1) | exact HB.out)))); have n3_ := Aside0.mk (below_step (by repeat (first | (with_reducible first | exact HB.out | apply below_alloc | apply pw_below_drewN | apply below_drew1) | exact HB.out)) hb); clear HO195; clear HO199; clear HB; have HO195 := n0_; have HO199 := n1_; have HO202 := n2_; have HB := n3_; clear n0_ n1_ n2_ n3_; clear hb ho81) | ((with_reducible refine gate_dst (N := 15) rfl ?_); (try (refine gate_guard (by rfl) ?_; dsimp only)); refine Kd.R_lit (Kd.int .u64) _ 29 ?hg (N := 15) ?hd (xs := ([3] : List Int)) (inner := [.int .u64 3]) (ok := fun _ => True) (okp := fun _ => True) ?hr ?hp (fun _ hk => hk) trivial (Below.refl _ _) (Nat.le_refl _) (by simp) ?_; (case hd => rfl); (case hg => rfl); (case hr => first | (go_simp; done) | (go_simp; rfl)); (case hp => exact (Reps.one (show Kd.M (Kd.int .u64) _ _ _ 3 [.int .u64 3] from rfl) (Reps.none _ _))); intro v204 w82 ho83 hb hg_ hnew_; clear hg_ hnew_; (first | rw [← Ny203.out] at ho83 | (simp only [Int.reduceToNat] at ho83; rw [← Ny203.out] at ho83)); have n0_ := Aside0.mk (Kd.N_elder' (by (with_reducible repeat (first | apply Kd.N_alloc | apply Kd.N_drewN | apply Kd.N_drew)); exact HO195.out) (Kd.R_base ho83) hb); have n1_ := Aside0.mk (Kd.R_below (by (with_reducible repeat (first | apply Kd.R_alloc | apply Kd.R_drewN | apply Kd.R_drew)); exact HO199.out) hb); have n2_ := Aside0.mk (Kd.R_elder' (by (with_reducible repeat (first | apply Kd.R_alloc | apply Kd.R_drewN | apply Kd.R_drew)); exact HO202.out) (Kd.R_base ho83) hb); have n3_ := Aside0.mk (Kd.R_lower (Kd.R_new' ho83 (Kd.R_lt (by (with_reducible repeat (first | apply Kd.R_alloc | apply Kd.R_drewN | apply Kd.R_drew)); exact HO202.out))) (below_size (by repeat (first | (with_reducible first | exact HB.out | apply below_alloc | apply pw_below_drewN | apply below_drew1) | exact HB.out)))); have n4_ := Aside0.mk (below_step (by repeat (first | (with_reducible first | exact HB.out | apply below_alloc | apply pw_below_drewN | apply below_drew1) | exact HB.out)) hb); clear HO195; clear HO199; clear HO202; clear HB; have HO195 := n0_; have HO199 := n1_; have HO202 := n2_; have HO205 := n3_; have HB := n4_; clear n0_ n1_ n2_ n3_ n4_; clear hb ho83) | ((with_reducible refine gate_dst (N := 16) rfl ?_); (try (refine gate_guard (by rfl) ?_; dsimp only)); refine Kd.R_lit (Kd.int .u64) _ 29 ?hg (N := 16) ?hd (xs := ([5] : List Int)) (inner := [.int .u64 5]) (ok := fun _ => True) (okp := fun _ => True) ?hr ?hp (fun _ hk => hk) trivial (Below.refl _ _) (Nat.le_refl _) (by simp) ?_; (case hd => rfl); (case hg => rfl); (case hr => first | (go_simp; done) | (go_simp; rfl)); (case hp => exact (Reps.one (show Kd.M (Kd.int .u64) _ _ _ 5 [.int .u64 5] from rfl) (Reps.none _ _))); intro v207 w84 ho85 hb hg_ hnew_; clear hg_ hnew_; (first | rw [← Ny206.out] at ho85 | (simp only [Int.reduceToNat] at ho85; rw [← Ny206.out] at ho85)); have n0_ := Aside0.mk (Kd.N_elder' (by (with_reducible repeat (first | apply Kd.N_alloc | apply Kd.N_drewN | apply Kd.N_drew)); exact HO195.out) (Kd.R_base ho85) hb); have n1_ := Aside0.mk (Kd.R_below (by (with_reducible repeat (first | apply Kd.R_alloc | apply Kd.R_drewN | apply Kd.R_drew)); exact HO199.out) hb); have n2_ := Aside0.mk (Kd.R_elder' (by (with_reducible repeat (first | apply Kd.R_alloc | apply Kd.R_drewN | apply Kd.R_drew)); exact HO202.out) (Kd.R_base ho85) hb); have n3_ := Aside0.mk (Kd.R_elder' (by (with_reducible repeat (first | apply Kd.R_alloc | apply Kd.R_drewN | apply Kd.R_drew)); exact HO205.out) (Kd.R_base ho85) hb); have n4_ := Aside0.mk (Kd.R_lower (Kd.R_new' (Kd.R_new' ho85 (Kd.R_lt (by (with_reducible repeat (first | apply Kd.R_alloc | apply Kd.R_drewN | apply Kd.R_drew)); exact HO202.out))) (Kd.R_lt (by (with_reducible repeat (first | apply Kd.R_alloc | apply Kd.R_drewN | apply Kd.R_drew)); exact HO205.out))) (below_size (by repeat (first | (with_reducible first | exact HB.out | apply below_alloc | apply pw_below_drewN | apply below_drew1) | exact HB.out)))); have n5_ := Aside0.mk (below_step (by repeat (first | (with_reducible first | exact HB.out | apply below_alloc | apply pw_below_drewN | apply below_drew1) | exact HB.out)) hb); clear HO195; clear HO199; clear HO202; clear HO205; clear HB; have HO195 := n0_; have HO199 := n1_; have HO202 := n2_; have HO205 := n3_; have HO208 := n4_; have HB := n5_; clear n0_ n1_ n2_ n3_ n4_ n5_; clear hb ho85; obtain ⟨Ao86, co86, eo86⟩ := Kd.R_slice HO202.out; subst eo86; obtain ⟨Ao87, co87, eo87⟩ := Kd.R_slice HO205.out; subst eo87; obtain ⟨Ao88, co88, eo88⟩ := Kd.R_slice HO208.out; subst eo88) | ((with_reducible refine gate_dst (N := 17) rfl ?_); (try (refine gate_guard (by rfl) ?_; dsimp only)); refine Kd.N_lit (Kd.slice 29 (Kd.int .u64)) _ 27 ?hg (N' := 17) ?hd (xs := ([y200, y203, y206] : List (List Int))) (inner := [.slice Ao86 y200.length co86, .slice Ao87 y203.length co87, .slice Ao88 y206.length co88]) (ok := (fun k_ => some k_ ≠ (.slice Ao78 y193.length co78 : Value).ownBlock)) (okp := (fun k_ => some k_ ≠ (.slice Ao78 y193.length co78 : Value).ownBlock)) ?hr ?hp (fun _ hk => hk) ((show ∀ k_, w84.heap.size ≤ k_ → (fun k_ => some k_ ≠ (.slice Ao78 y193.length co78 : Value).ownBlock) k_ from fun k_ hk => Kd.fresh' (Kd.N_lt (by (with_reducible repeat (first | apply Kd.N_alloc | apply Kd.N_drewN | apply Kd.N_drew)); exact HO195.out)) k_ hk) _ (Nat.le_refl _)) (Below.refl _ _) (Nat.le_refl _) (by simp) ?_; (case hd => rfl); (case hg => rfl); (case hr => first | (go_simp; done) | (go_simp; rfl)); (case hp => exact (Reps.one (show Kd.FK (Kd.slice 29 (Kd.int .u64)) _ _ y200 [.slice Ao86 y200.length co86] from (Kd.FK_slice_mk (Kd.R_reads' (Kd.R_mono (ok' := (fun k_ => some k_ ≠ (.slice Ao78 y193.length co78 : Value).ownBlock)) (Kd.R_apart' (HO202.out) (Kd.N_typed HO195.out) (by decide)) (fun k_ hk => hk.2))).2.1 (Kd.R_F (Kd.R_mono (ok' := (fun k_ => some k_ ≠ (.slice Ao78 y193.length co78 : Value).ownBlock)) (Kd.R_apart' (HO202.out) (Kd.N_typed HO195.out) (by decide)) (fun k_ hk => hk.2))))) (Reps.one (show Kd.FK (Kd.slice 29 (Kd.int .u64)) _ _ y203 [.slice Ao87 y203.length co87] from (Kd.FK_slice_mk (Kd.R_reads' (Kd.R_mono (ok' := (fun k_ => some k_ ≠ (.slice Ao78 y193.length co78 : Value).ownBlock)) (Kd.R_apart' (HO205.out) (Kd.N_typed HO195.out) (by decide)) (fun k_ hk => hk.2))).2.1 (Kd.R_F (Kd.R_mono (ok' := (fun k_ => some k_ ≠ (.slice Ao78 y193.length co78 : Value).ownBlock)) (Kd.R_apart' (HO205.out) (Kd.N_typed HO195.out) (by decide)) (fun k_ hk => hk.2))))) (Reps.one (show Kd.FK (Kd.slice 29 (Kd.int .u64)) _ _ y206 [.slice Ao88 y206.length co88] from (Kd.FK_slice_mk (Kd.R_reads' (Kd.R_mono (ok' := (fun k_ => some k_ ≠ (.slice Ao78 y193.length co78 : Value).ownBlock)) (Kd.R_apart' (HO208.out) (Kd.N_typed HO195.out) (by decide)) (fun k_ hk => hk.2))).2.1 (Kd.R_F (Kd.R_mono (ok' := (fun k_ => some k_ ≠ (.slice Ao78 y193.length co78 : Value).ownBlock)) (Kd.R_apart' (HO208.out) (Kd.N_typed HO195.out) (by decide)) (fun k_ hk => hk.2))))) (Reps.none _ _))))); intro v210 w89 ho90 hb hg_ hnew_; clear hg_ hnew_; (first | rw [← Ny209.out] at ho90 | (simp only [Int.reduceToNat] at ho90; rw [← Ny209.out] at ho90)); have n0_ := Aside0.mk (Kd.N_elder' (by (with_reducible repeat (first | apply Kd.N_alloc | apply Kd.N_drewN | apply Kd.N_drew)); exact HO195.out) (Kd.N_base ho90) hb); have n1_ := Aside0.mk (Kd.R_below (by (with_reducible repeat (first | apply Kd.R_alloc | apply Kd.R_drewN | apply Kd.R_drew)); exact HO199.out) hb); have n2_ := Aside0.mk (Kd.N_lower ho90 (below_size (by repeat (first | (with_reducible first | exact HB.out | apply below_alloc | apply pw_below_drewN | apply below_drew1) | exact HB.out)))); have n3_ := Aside0.mk (below_step (by repeat (first | (with_reducible first | exact HB.out | apply below_alloc | apply pw_below_drewN | apply below_drew1) | exact HB.out)) hb); clear HO195; clear HO199; clear HB; clear HO202; clear HO205; clear HO208; have HO195 := n0_; have HO199 := n1_; have HO211 := n2_; have HB := n3_; clear n0_ n1_ n2_ n3_; clear hb ho90; obtain ⟨Ao91, co91, eo91⟩ := Kd.N_slice HO211.out; subst eo91) | ((with_reducible refine gate_callee (f := 18) rfl ?_); refine goesL_ (some 18) rfl rfl Tryd.func18 (by kernel_rfl) rfl #[.slice Ao91 y209.length co91, .int .i64 3] rfl (by (try simp only [List.map_toArray, List.map_cons, List.map_nil]); first | done | rfl | (simp only [List.length_drop, List.length_take]; rfl)) ?_; (with_reducible refine (matrix_Picks.calls k _ _ y209 3 t212 t213 _ ?side1 ?side2 ?side3 A2.out).mono ?_); (case side1 => first | exact HT.out | exact TabIn.below HT.out (by repeat (first | (with_reducible first | exact HB.out | apply below_alloc | apply pw_below_drewN | apply below_drew1) | exact HB.out)) | (repeat (first | apply TabIn.drewN | apply TabIn.drew | exact HT.out))); (case side2 => repeat (first | exact (Kd.N_reads' HO211.out).2.2 | (with_reducible refine Kd.C_alloc ?_ _) | (with_reducible refine Kd.C_drewN ?_ _) | (with_reducible refine Kd.C_drew ?_))); (case side3 => exact (Kd.N_reads' HO211.out).2.1); rintro e w92 ⟨v214, v216, rfl, ho0, ho1, hb⟩; refine ⟨_, rfl, ?_⟩; have n0_ := Aside0.mk (Kd.N_elder' (by (with_reducible repeat (first | apply Kd.N_alloc | apply Kd.N_drewN | apply Kd.N_drew)); exact HO195.out) (Kd.R_base ho0) hb); have n1_ := Aside0.mk (Kd.R_below (by (with_reducible repeat (first | apply Kd.R_alloc | apply Kd.R_drewN | apply Kd.R_drew)); exact HO199.out) hb); have n2_ := Aside0.mk (Kd.N_elder' (by (with_reducible repeat (first | apply Kd.N_alloc | apply Kd.N_drewN | apply Kd.N_drew)); exact HO211.out) (Kd.R_base ho0) hb); have n3_ := Aside0.mk (Kd.R_lower ho0 (below_size (by repeat (first | (with_reducible first | exact HB.out | apply below_alloc | apply pw_below_drewN | apply below_drew1) | exact HB.out)))); have n4_ := Aside0.mk (Kd.R_lower ho1 (below_size (by repeat (first | (with_reducible first | exact HB.out | apply below_alloc | apply pw_below_drewN | apply below_drew1) | exact HB.out)))); have n5_ := Aside0.mk (below_step (by repeat (first | (with_reducible first | exact HB.out | apply below_alloc | apply pw_below_drewN | apply below_drew1) | exact HB.out)) hb); clear HO195; clear HO199; clear HO211; clear HB; have HO195 := n0_; have HO199 := n1_; have HO211 := n2_; have HO215 := n3_; have HO217 := n4_; have HB := n5_; clear n0_ n1_ n2_ n3_ n4_ n5_; (try clear hb); (try clear hb2); (try clear hk); (try clear hi); (try clear ho0); (try clear ho1); obtain ⟨Ao93, co93, eo93⟩ := Kd.R_slice HO199.out; subst eo93; obtain ⟨Ao94, co94, eo94⟩ := Kd.R_slice HO217.out; subst eo94))
   go_ret
   exact ⟨by first | rfl | (simp [errW_none, errW_some] <;> rfl) | (simp [*, errW_none, errW_some] <;> rfl), by repeat (first | (with_reducible first | exact HB.out | apply below_alloc | apply pw_below_drewN | apply below_drew1) | exact HB.out)⟩
 ·rw [if_neg c3] at H
  have c3b0 : ((t197.length : Int) == 0) = false := beq_eq_false_iff_ne.mpr c3
  have c3b1 : ((t197.length : Int) != 0) = true := bne_iff_ne.mpr c3
  have c3b2 : ¬ (t197 = []) := fun h_ => c3 (by rw [h_]; rfl)
  obtain rfl := Option.some.inj H
  go_enter Tryd.func12, Tryd.ntmps12
  go_wp2_with (first | ((with_reducible refine gate_dst (N := 6) rfl ?_); (try (refine gate_guard (by rfl) ?_; dsimp only)); refine Kd.R_lit (Kd.int .u64) _ 29 ?hg (N := 6) ?hd (xs := ([6] : List Int)) (inner := [.int .u64 6]) (ok := fun _ => True) (okp := fun _ => True) ?hr ?hp (fun _ hk => hk) trivial (Below.refl _ _) (Nat.le_refl _) (by simp) ?_; (case hd => rfl); (case hg => rfl); (case hr => first | (go_simp; done) | (go_simp; rfl)); (case hp => exact (Reps.one (show Kd.M (Kd.int .u64) _ _ _ 6 [.int .u64 6] from rfl) (Reps.none _ _))); intro v185 w95 ho96 hb hg_ hnew_; clear hg_ hnew_; (first | rw [← Ny184.out] at ho96 | (simp only [Int.reduceToNat] at ho96; rw [← Ny184.out] at ho96)); have n0_ := Aside0.mk (Kd.R_lower ho96 (below_size (by repeat (first | (with_reducible first | exact HB.out | apply below_alloc | apply pw_below_drewN | apply below_drew1) | exact HB.out)))); have n1_ := Aside0.mk (below_step (by repeat (first | (with_reducible first | exact HB.out | apply below_alloc | apply pw_below_drewN | apply below_drew1) | exact HB.out)) hb); clear HB; have HO186 := n0_; have HB := n1_; clear n0_ n1_; clear hb ho96) | ((with_reducible refine gate_dst (N := 7) rfl ?_); (try (refine gate_guard (by rfl) ?_; dsimp only)); refine Kd.R_lit (Kd.int .u64) _ 29 ?hg (N := 7) ?hd (xs := ([3] : List Int)) (inner := [.int .u64 3]) (ok := fun _ => True) (okp := fun _ => True) ?hr ?hp (fun _ hk => hk) trivial (Below.refl _ _) (Nat.le_refl _) (by simp) ?_; (case hd => rfl); (case hg => rfl); (case hr => first | (go_simp; done) | (go_simp; rfl)); (case hp => exact (Reps.one (show Kd.M (Kd.int .u64) _ _ _ 3 [.int .u64 3] from rfl) (Reps.none _ _))); intro v188 w97 ho98 hb hg_ hnew_; clear hg_ hnew_; (first | rw [← Ny187.out] at ho98 | (simp only [Int.reduceToNat] at ho98; rw [← Ny187.out] at ho98)); have n0_ := Aside0.mk (Kd.R_elder' (by (with_reducible repeat (first | apply Kd.R_alloc | apply Kd.R_drewN | apply Kd.R_drew)); exact HO186.out) (Kd.R_base ho98) hb); have n1_ := Aside0.mk (Kd.R_lower (Kd.R_new' ho98 (Kd.R_lt (by (with_reducible repeat (first | apply Kd.R_alloc | apply Kd.R_drewN | apply Kd.R_drew)); exact HO186.out))) (below_size (by repeat (first | (with_reducible first | exact HB.out | apply below_alloc | apply pw_below_drewN | apply below_drew1) | exact HB.out)))); have n2_ := Aside0.mk (below_step (by repeat (first | (with_reducible first | exact HB.out | apply below_alloc | apply pw_below_drewN | apply below_drew1) | exact HB.out)) hb); clear HO186; clear HB; have HO186 := n0_; have HO189 := n1_; have HB := n2_; clear n0_ n1_ n2_; clear hb ho98) | ((with_reducible refine gate_dst (N := 8) rfl ?_); (try (refine gate_guard (by rfl) ?_; dsimp only)); refine Kd.R_lit (Kd.int .u64) _ 29 ?hg (N := 8) ?hd (xs := ([5] : List Int)) (inner := [.int .u64 5]) (ok := fun _ => True) (okp := fun _ => True) ?hr ?hp (fun _ hk => hk) trivial (Below.refl _ _) (Nat.le_refl _) (by simp) ?_; (case hd => rfl); (case hg => rfl); (case hr => first | (go_simp; done) | (go_simp; rfl)); (case hp => exact (Reps.one (show Kd.M (Kd.int .u64) _ _ _ 5 [.int .u64 5] from rfl) (Reps.none _ _))); intro v191 w99 ho100 hb hg_ hnew_; clear hg_ hnew_; (first | rw [← Ny190.out] at ho100 | (simp only [Int.reduceToNat] at ho100; rw [← Ny190.out] at ho100)); have n0_ := Aside0.mk (Kd.R_elder' (by (with_reducible repeat (first | apply Kd.R_alloc | apply Kd.R_drewN | apply Kd.R_drew)); exact HO186.out) (Kd.R_base ho100) hb); have n1_ := Aside0.mk (Kd.R_elder' (by (with_reducible repeat (first | apply Kd.R_alloc | apply Kd.R_drewN | apply Kd.R_drew)); exact HO189.out) (Kd.R_base ho100) hb); have n2_ := Aside0.mk (Kd.R_lower (Kd.R_new' (Kd.R_new' ho100 (Kd.R_lt (by (with_reducible repeat (first | apply Kd.R_alloc | apply Kd.R_drewN | apply Kd.R_drew)); exact HO186.out))) (Kd.R_lt (by (with_reducible repeat (first | apply Kd.R_alloc | apply Kd.R_drewN | apply Kd.R_drew)); exact HO189.out))) (below_size (by repeat (first | (with_reducible first | exact HB.out | apply below_alloc | apply pw_below_drewN | apply below_drew1) | exact HB.out)))); have n3_ := Aside0.mk (below_step (by repeat (first | (with_reducible first | exact HB.out | apply below_alloc | apply pw_below_drewN | apply below_drew1) | exact HB.out)) hb); clear HO186; clear HO189; clear HB; have HO186 := n0_; have HO189 := n1_; have HO192 := n2_; have HB := n3_; clear n0_ n1_ n2_ n3_; clear hb ho100; obtain ⟨Ao101, co101, eo101⟩ := Kd.R_slice HO186.out; subst eo101; obtain ⟨Ao102, co102, eo102⟩ := Kd.R_slice HO189.out; subst eo102; obtain ⟨Ao103, co103, eo103⟩ := Kd.R_slice HO192.out; subst eo103) | ((with_reducible refine gate_dst (N := 9) rfl ?_); (try (refine gate_guard (by rfl) ?_; dsimp only)); refine Kd.N_lit (Kd.slice 29 (Kd.int .u64)) _ 27 ?hg (N' := 9) ?hd (xs := ([y184, y187, y190] : List (List Int))) (inner := [.slice Ao101 y184.length co101, .slice Ao102 y187.length co102, .slice Ao103 y190.length co103]) (ok := (fun _ => True)) (okp := (fun _ => True)) ?hr ?hp (fun _ hk => hk) ((show ∀ k_, w99.heap.size ≤ k_ → (fun _ => True) k_ from fun k_ hk => trivial) _ (Nat.le_refl _)) (Below.refl _ _) (Nat.le_refl _) (by simp) ?_; (case hd => rfl); (case hg => rfl); (case hr => first | (go_simp; done) | (go_simp; rfl)); (case hp => exact (Reps.one (show Kd.FK (Kd.slice 29 (Kd.int .u64)) _ _ y184 [.slice Ao101 y184.length co101] from (Kd.FK_slice_mk (Kd.R_reads' (Kd.R_mono (ok' := (fun _ => True)) (HO186.out) (fun k_ hk => trivial))).2.1 (Kd.R_F (Kd.R_mono (ok' := (fun _ => True)) (HO186.out) (fun k_ hk => trivial))))) (Reps.one (show Kd.FK (Kd.slice 29 (Kd.int .u64)) _ _ y187 [.slice Ao102 y187.length co102] from (Kd.FK_slice_mk (Kd.R_reads' (Kd.R_mono (ok' := (fun _ => True)) (HO189.out) (fun k_ hk => trivial))).2.1 (Kd.R_F (Kd.R_mono (ok' := (fun _ => True)) (HO189.out) (fun k_ hk => trivial))))) (Reps.one (show Kd.FK (Kd.slice 29 (Kd.int .u64)) _ _ y190 [.slice Ao103 y190.length co103] from (Kd.FK_slice_mk (Kd.R_reads' (Kd.R_mono (ok' := (fun _ => True)) (HO192.out) (fun k_ hk => trivial))).2.1 (Kd.R_F (Kd.R_mono (ok' := (fun _ => True)) (HO192.out) (fun k_ hk => trivial))))) (Reps.none _ _))))); intro v194 w104 ho105 hb hg_ hnew_; clear hg_ hnew_; (first | rw [← Ny193.out] at ho105 | (simp only [Int.reduceToNat] at ho105; rw [← Ny193.out] at ho105)); have n0_ := Aside0.mk (Kd.N_lower ho105 (below_size (by repeat (first | (with_reducible first | exact HB.out | apply below_alloc | apply pw_below_drewN | apply below_drew1) | exact HB.out)))); have n1_ := Aside0.mk (below_step (by repeat (first | (with_reducible first | exact HB.out | apply below_alloc | apply pw_below_drewN | apply below_drew1) | exact HB.out)) hb); clear HB; clear HO186; clear HO189; clear HO192; have HO195 := n0_; have HB := n1_; clear n0_ n1_; clear hb ho105; obtain ⟨Ao106, co106, eo106⟩ := Kd.N_slice HO195.out; subst eo106) | ((with_reducible refine gate_callee (f := 14) rfl ?_); refine goesL_ (some 10) rfl rfl Tryd.func14 (by kernel_rfl) rfl #[.slice Ao106 y193.length co106, .int .i64 3] rfl (by (try simp only [List.map_toArray, List.map_cons, List.map_nil]); first | done | rfl | (simp only [List.length_drop, List.length_take]; rfl)) ?_; (with_reducible refine (matrix_Rank.calls k _ _ y193 3 t196 t197 _ ?side1 ?side2 ?side3 A1.out).mono ?_); (case side1 => first | exact HT.out | exact TabIn.below HT.out (by repeat (first | (with_reducible first | exact HB.out | apply below_alloc | apply pw_below_drewN | apply below_drew1) | exact HB.out)) | (repeat (first | apply TabIn.drewN | apply TabIn.drew | exact HT.out))); (case side2 => repeat (first | exact (Kd.N_reads' HO195.out).2.2 | (with_reducible refine Kd.C_alloc ?_ _) | (with_reducible refine Kd.C_drewN ?_ _) | (with_reducible refine Kd.C_drew ?_))); (case side3 => exact (Kd.N_reads' HO195.out).2.1); rintro e w107 ⟨v198, rfl, ho0, hb⟩; refine ⟨_, rfl, ?_⟩; have n0_ := Aside0.mk (Kd.N_below (by (with_reducible repeat (first | apply Kd.N_alloc | apply Kd.N_drewN | apply Kd.N_drew)); exact HO195.out) hb); have n1_ := Aside0.mk (Kd.R_lower ho0 (below_size (by repeat (first | (with_reducible first | exact HB.out | apply below_alloc | apply pw_below_drewN | apply below_drew1) | exact HB.out)))); have n2_ := Aside0.mk (below_step (by repeat (first | (with_reducible first | exact HB.out | apply below_alloc | apply pw_below_drewN | apply below_drew1) | exact HB.out)) hb); clear HO195; clear HB; have HO195 := n0_; have HO199 := n1_; have HB := n2_; clear n0_ n1_ n2_; (try clear hb); (try clear hb2); (try clear hk); (try clear hi); (try clear ho0)) | ((with_reducible refine gate_dst (N := 14) rfl ?_); (try (refine gate_guard (by rfl) ?_; dsimp only)); refine Kd.R_lit (Kd.int .u64) _ 29 ?hg (N := 14) ?hd (xs := ([6] : List Int)) (inner := [.int .u64 6]) (ok := fun _ => True) (okp := fun _ => True) ?hr ?hp (fun _ hk => hk) trivial (Below.refl _ _) (Nat.le_refl _) (by simp) ?_; (case hd => rfl); (case hg => rfl); (case hr => first | (go_simp; done) | (go_simp; rfl)); (case hp => exact (Reps.one (show Kd.M (Kd.int .u64) _ _ _ 6 [.int .u64 6] from rfl) (Reps.none _ _))); intro v201 w108 ho109 hb hg_ hnew_; clear hg_ hnew_; (first | rw [← Ny200.out] at ho109 | (simp only [Int.reduceToNat] at ho109; rw [← Ny200.out] at ho109)); have n0_ := Aside0.mk (Kd.N_elder' (by (with_reducible repeat (first | apply Kd.N_alloc | apply Kd.N_drewN | apply Kd.N_drew)); exact HO195.out) (Kd.R_base ho109) hb); have n1_ := Aside0.mk (Kd.R_below (by (with_reducible repeat (first | apply Kd.R_alloc | apply Kd.R_drewN | apply Kd.R_drew)); exact HO199.out) hb); have n2_ := Aside0.mk (Kd.R_lower ho109 (below_size (by repeat (first | (with_reducible first | exact HB.out | apply below_alloc | apply pw_below_drewN | apply below_drew1) | exact HB.out)))); have n3_ := Aside0.mk (below_step (by repeat (first | (with_reducible first | exact HB.out | apply below_alloc | apply pw_below_drewN | apply below_drew1) | exact HB.out)) hb); clear HO195; clear HO199; clear HB; have HO195 := n0_; have HO199 := n1_; have HO202 := n2_; have HB := n3_; clear n0_ n1_ n2_ n3_; clear hb ho109) | ((with_reducible refine gate_dst (N := 15) rfl ?_); (try (refine gate_guard (by rfl) ?_; dsimp only)); refine Kd.R_lit (Kd.int .u64) _ 29 ?hg (N := 15) ?hd (xs := ([3] : List Int)) (inner := [.int .u64 3]) (ok := fun _ => True) (okp := fun _ => True) ?hr ?hp (fun _ hk => hk) trivial (Below.refl _ _) (Nat.le_refl _) (by simp) ?_; (case hd => rfl); (case hg => rfl); (case hr => first | (go_simp; done) | (go_simp; rfl)); (case hp => exact (Reps.one (show Kd.M (Kd.int .u64) _ _ _ 3 [.int .u64 3] from rfl) (Reps.none _ _))); intro v204 w110 ho111 hb hg_ hnew_; clear hg_ hnew_; (first | rw [← Ny203.out] at ho111 | (simp only [Int.reduceToNat] at ho111; rw [← Ny203.out] at ho111)); have n0_ := Aside0.mk (Kd.N_elder' (by (with_reducible repeat (first | apply Kd.N_alloc | apply Kd.N_drewN | apply Kd.N_drew)); exact HO195.out) (Kd.R_base ho111) hb); have n1_ := Aside0.mk (Kd.R_below (by (with_reducible repeat (first | apply Kd.R_alloc | apply Kd.R_drewN | apply Kd.R_drew)); exact HO199.out) hb); have n2_ := Aside0.mk (Kd.R_elder' (by (with_reducible repeat (first | apply Kd.R_alloc | apply Kd.R_drewN | apply Kd.R_drew)); exact HO202.out) (Kd.R_base ho111) hb); have n3_ := Aside0.mk (Kd.R_lower (Kd.R_new' ho111 (Kd.R_lt (by (with_reducible repeat (first | apply Kd.R_alloc | apply Kd.R_drewN | apply Kd.R_drew)); exact HO202.out))) (below_size (by repeat (first | (with_reducible first | exact HB.out | apply below_alloc | apply pw_below_drewN | apply below_drew1) | exact HB.out)))); have n4_ := Aside0.mk (below_step (by repeat (first | (with_reducible first | exact HB.out | apply below_alloc | apply pw_below_drewN | apply below_drew1) | exact HB.out)) hb); clear HO195; clear HO199; clear HO202; clear HB; have HO195 := n0_; have HO199 := n1_; have HO202 := n2_; have HO205 := n3_; have HB := n4_; clear n0_ n1_ n2_ n3_ n4_; clear hb ho111) | ((with_reducible refine gate_dst (N := 16) rfl ?_); (try (refine gate_guard (by rfl) ?_; dsimp only)); refine Kd.R_lit (Kd.int .u64) _ 29 ?hg (N := 16) ?hd (xs := ([5] : List Int)) (inner := [.int .u64 5]) (ok := fun _ => True) (okp := fun _ => True) ?hr ?hp (fun _ hk => hk) trivial (Below.refl _ _) (Nat.le_refl _) (by simp) ?_; (case hd => rfl); (case hg => rfl); (case hr => first | (go_simp; done) | (go_simp; rfl)); (case hp => exact (Reps.one (show Kd.M (Kd.int .u64) _ _ _ 5 [.int .u64 5] from rfl) (Reps.none _ _))); intro v207 w112 ho113 hb hg_ hnew_; clear hg_ hnew_; (first | rw [← Ny206.out] at ho113 | (simp only [Int.reduceToNat] at ho113; rw [← Ny206.out] at ho113)); have n0_ := Aside0.mk (Kd.N_elder' (by (with_reducible repeat (first | apply Kd.N_alloc | apply Kd.N_drewN | apply Kd.N_drew)); exact HO195.out) (Kd.R_base ho113) hb); have n1_ := Aside0.mk (Kd.R_below (by (with_reducible repeat (first | apply Kd.R_alloc | apply Kd.R_drewN | apply Kd.R_drew)); exact HO199.out) hb); have n2_ := Aside0.mk (Kd.R_elder' (by (with_reducible repeat (first | apply Kd.R_alloc | apply Kd.R_drewN | apply Kd.R_drew)); exact HO202.out) (Kd.R_base ho113) hb); have n3_ := Aside0.mk (Kd.R_elder' (by (with_reducible repeat (first | apply Kd.R_alloc | apply Kd.R_drewN | apply Kd.R_drew)); exact HO205.out) (Kd.R_base ho113) hb); have n4_ := Aside0.mk (Kd.R_lower (Kd.R_new' (Kd.R_new' ho113 (Kd.R_lt (by (with_reducible repeat (first | apply Kd.R_alloc | apply Kd.R_drewN | apply Kd.R_drew)); exact HO202.out))) (Kd.R_lt (by (with_reducible repeat (first | apply Kd.R_alloc | apply Kd.R_drewN | apply Kd.R_drew)); exact HO205.out))) (below_size (by repeat (first | (with_reducible first | exact HB.out | apply below_alloc | apply pw_below_drewN | apply below_drew1) | exact HB.out)))); have n5_ := Aside0.mk (below_step (by repeat (first | (with_reducible first | exact HB.out | apply below_alloc | apply pw_below_drewN | apply below_drew1) | exact HB.out)) hb); clear HO195; clear HO199; clear HO202; clear HO205; clear HB; have HO195 := n0_; have HO199 := n1_; have HO202 := n2_; have HO205 := n3_; have HO208 := n4_; have HB := n5_; clear n0_ n1_ n2_ n3_ n4_ n5_; clear hb ho113; obtain ⟨Ao114, co114, eo114⟩ := Kd.R_slice HO202.out; subst eo114; obtain ⟨Ao115, co115, eo115⟩ := Kd.R_slice HO205.out; subst eo115; obtain ⟨Ao116, co116, eo116⟩ := Kd.R_slice HO208.out; subst eo116) | ((with_reducible refine gate_dst (N := 17) rfl ?_); (try (refine gate_guard (by rfl) ?_; dsimp only)); refine Kd.N_lit (Kd.slice 29 (Kd.int .u64)) _ 27 ?hg (N' := 17) ?hd (xs := ([y200, y203, y206] : List (List Int))) (inner := [.slice Ao114 y200.length co114, .slice Ao115 y203.length co115, .slice Ao116 y206.length co116]) (ok := (fun k_ => some k_ ≠ (.slice Ao106 y193.length co106 : Value).ownBlock)) (okp := (fun k_ => some k_ ≠ (.slice Ao106 y193.length co106 : Value).ownBlock)) ?hr ?hp (fun _ hk => hk) ((show ∀ k_, w112.heap.size ≤ k_ → (fun k_ => some k_ ≠ (.slice Ao106 y193.length co106 : Value).ownBlock) k_ from fun k_ hk => Kd.fresh' (Kd.N_lt (by (with_reducible repeat (first | apply Kd.N_alloc | apply Kd.N_drewN | apply Kd.N_drew)); exact HO195.out)) k_ hk) _ (Nat.le_refl _)) (Below.refl _ _) (Nat.le_refl _) (by simp) ?_; (case hd => rfl); (case hg => rfl); (case hr => first | (go_simp; done) | (go_simp; rfl)); (case hp => exact (Reps.one (show Kd.FK (Kd.slice 29 (Kd.int .u64)) _ _ y200 [.slice Ao114 y200.length co114] from (Kd.FK_slice_mk (Kd.R_reads' (Kd.R_mono (ok' := (fun k_ => some k_ ≠ (.slice Ao106 y193.length co106 : Value).ownBlock)) (Kd.R_apart' (HO202.out) (Kd.N_typed HO195.out) (by decide)) (fun k_ hk => hk.2))).2.1 (Kd.R_F (Kd.R_mono (ok' := (fun k_ => some k_ ≠ (.slice Ao106 y193.length co106 : Value).ownBlock)) (Kd.R_apart' (HO202.out) (Kd.N_typed HO195.out) (by decide)) (fun k_ hk => hk.2))))) (Reps.one (show Kd.FK (Kd.slice 29 (Kd.int .u64)) _ _ y203 [.slice Ao115 y203.length co115] from (Kd.FK_slice_mk (Kd.R_reads' (Kd.R_mono (ok' := (fun k_ => some k_ ≠ (.slice Ao106 y193.length co106 : Value).ownBlock)) (Kd.R_apart' (HO205.out) (Kd.N_typed HO195.out) (by decide)) (fun k_ hk => hk.2))).2.1 (Kd.R_F (Kd.R_mono (ok' := (fun k_ => some k_ ≠ (.slice Ao106 y193.length co106 : Value).ownBlock)) (Kd.R_apart' (HO205.out) (Kd.N_typed HO195.out) (by decide)) (fun k_ hk => hk.2))))) (Reps.one (show Kd.FK (Kd.slice 29 (Kd.int .u64)) _ _ y206 [.slice Ao116 y206.length co116] from (Kd.FK_slice_mk (Kd.R_reads' (Kd.R_mono (ok' := (fun k_ => some k_ ≠ (.slice Ao106 y193.length co106 : Value).ownBlock)) (Kd.R_apart' (HO208.out) (Kd.N_typed HO195.out) (by decide)) (fun k_ hk => hk.2))).2.1 (Kd.R_F (Kd.R_mono (ok' := (fun k_ => some k_ ≠ (.slice Ao106 y193.length co106 : Value).ownBlock)) (Kd.R_apart' (HO208.out) (Kd.N_typed HO195.out) (by decide)) (fun k_ hk => hk.2))))) (Reps.none _ _))))); intro v210 w117 ho118 hb hg_ hnew_; clear hg_ hnew_; (first | rw [← Ny209.out] at ho118 | (simp only [Int.reduceToNat] at ho118; rw [← Ny209.out] at ho118)); have n0_ := Aside0.mk (Kd.N_elder' (by (with_reducible repeat (first | apply Kd.N_alloc | apply Kd.N_drewN | apply Kd.N_drew)); exact HO195.out) (Kd.N_base ho118) hb); have n1_ := Aside0.mk (Kd.R_below (by (with_reducible repeat (first | apply Kd.R_alloc | apply Kd.R_drewN | apply Kd.R_drew)); exact HO199.out) hb); have n2_ := Aside0.mk (Kd.N_lower ho118 (below_size (by repeat (first | (with_reducible first | exact HB.out | apply below_alloc | apply pw_below_drewN | apply below_drew1) | exact HB.out)))); have n3_ := Aside0.mk (below_step (by repeat (first | (with_reducible first | exact HB.out | apply below_alloc | apply pw_below_drewN | apply below_drew1) | exact HB.out)) hb); clear HO195; clear HO199; clear HB; clear HO202; clear HO205; clear HO208; have HO195 := n0_; have HO199 := n1_; have HO211 := n2_; have HB := n3_; clear n0_ n1_ n2_ n3_; clear hb ho118; obtain ⟨Ao119, co119, eo119⟩ := Kd.N_slice HO211.out; subst eo119) | ((with_reducible refine gate_callee (f := 18) rfl ?_); refine goesL_ (some 18) rfl rfl Tryd.func18 (by kernel_rfl) rfl #[.slice Ao119 y209.length co119, .int .i64 3] rfl (by (try simp only [List.map_toArray, List.map_cons, List.map_nil]); first | done | rfl | (simp only [List.length_drop, List.length_take]; rfl)) ?_; (with_reducible refine (matrix_Picks.calls k _ _ y209 3 t212 t213 _ ?side1 ?side2 ?side3 A2.out).mono ?_); (case side1 => first | exact HT.out | exact TabIn.below HT.out (by repeat (first | (with_reducible first | exact HB.out | apply below_alloc | apply pw_below_drewN | apply below_drew1) | exact HB.out)) | (repeat (first | apply TabIn.drewN | apply TabIn.drew | exact HT.out))); (case side2 => repeat (first | exact (Kd.N_reads' HO211.out).2.2 | (with_reducible refine Kd.C_alloc ?_ _) | (with_reducible refine Kd.C_drewN ?_ _) | (with_reducible refine Kd.C_drew ?_))); (case side3 => exact (Kd.N_reads' HO211.out).2.1); rintro e w120 ⟨v214, v216, rfl, ho0, ho1, hb⟩; refine ⟨_, rfl, ?_⟩; have n0_ := Aside0.mk (Kd.N_elder' (by (with_reducible repeat (first | apply Kd.N_alloc | apply Kd.N_drewN | apply Kd.N_drew)); exact HO195.out) (Kd.R_base ho0) hb); have n1_ := Aside0.mk (Kd.R_below (by (with_reducible repeat (first | apply Kd.R_alloc | apply Kd.R_drewN | apply Kd.R_drew)); exact HO199.out) hb); have n2_ := Aside0.mk (Kd.N_elder' (by (with_reducible repeat (first | apply Kd.N_alloc | apply Kd.N_drewN | apply Kd.N_drew)); exact HO211.out) (Kd.R_base ho0) hb); have n3_ := Aside0.mk (Kd.R_lower ho0 (below_size (by repeat (first | (with_reducible first | exact HB.out | apply below_alloc | apply pw_below_drewN | apply below_drew1) | exact HB.out)))); have n4_ := Aside0.mk (Kd.R_lower ho1 (below_size (by repeat (first | (with_reducible first | exact HB.out | apply below_alloc | apply pw_below_drewN | apply below_drew1) | exact HB.out)))); have n5_ := Aside0.mk (below_step (by repeat (first | (with_reducible first | exact HB.out | apply below_alloc | apply pw_below_drewN | apply below_drew1) | exact HB.out)) hb); clear HO195; clear HO199; clear HO211; clear HB; have HO195 := n0_; have HO199 := n1_; have HO211 := n2_; have HO215 := n3_; have HO217 := n4_; have HB := n5_; clear n0_ n1_ n2_ n3_ n4_ n5_; (try clear hb); (try clear hb2); (try clear hk); (try clear hi); (try clear ho0); (try clear ho1); obtain ⟨Ao121, co121, eo121⟩ := Kd.R_slice HO199.out; subst eo121))
  go_ret
  exact ⟨by first | rfl | (simp [errW_none, errW_some] <;> rfl) | (simp [*, errW_none, errW_some] <;> rfl), by repeat (first | (with_reducible first | exact HB.out | apply below_alloc | apply pw_below_drewN | apply below_drew1) | exact HB.out)⟩


/-! ### geyserlaw03_tells: function 16 -/
theorem geyserlaw03_tells.bytes_beq (s c : ByteArray) : (s.toList == c.toList) = decide (s = c) := by
 rw [Bool.eq_iff_iff]
 simp only [beq_iff_eq, decide_eq_true_iff]
 rw [ByteArray.toList_eq, ByteArray.toList_eq]
 constructor
 ·intro h
  cases s
  cases c
  congr 1
  exact Array.toList_inj.1 h
 ·rintro rfl; rfl
set_option maxHeartbeats 8000000 in
set_option maxRecDepth 100000 in
theorem geyserlaw03_tells.flat (e : Addr) (n m : Int) (s call : ByteArray) (w : World) (hg : w.cell? ⟨0, 0, none⟩ = some (.iface 96 (.agg #[.pointer (some ⟨2, 31, none⟩)]))) (he0 : w.cell? e = some (.string s)) (he1 : w.cell? (e.add 1) = some (.iface 56 (.int .i64 m))) (hn : n ≠ 0) :
  Calls Tryd.prog 16 #[.iface 59 (.pointer (some e)), .int .i64 n, .string call] w fun ev w' => ev = .returned (.bool (decide (m = n) && decide (s = call))) ∧ Below w.heap.size w w' := by
 have hn1 : (n == 0) = false := by simpa using hn
 have hl1 : 0 < w.heap.size := cell_old hg
 have hl2 := cell_old he0
 have hl3 := cell_old he1
 obtain ⟨w1, hw1⟩ : ∃ w1, w1 = (w.alloc (.cells #[.int .i64 0] 56)).alloc (.cells #[.pointer none] 59) := ⟨_, rfl⟩
 have hk : ∀ a : Addr, a.block < w.heap.size → w1.cell? a = w.cell? a := by
  intro a h
  rw [hw1, World.cell?_alloc_lt _ _ a (by simp only [World.size_alloc]; omega), World.cell?_alloc_lt _ _ a h]
 have hs1 : w1.heap.size = w.heap.size + 1 + 1 := by rw [hw1, World.size_alloc, World.size_alloc]
 have hb1 : Below w.heap.size w w1 := by rw [hw1]; exact Below.alloc (Below.alloc (Below.refl _ _) (Nat.le_refl _) _) (by simp only [World.size_alloc]; omega) _
 have ht1 : w1.cell? ⟨w.heap.size, 0, none⟩ = some (.int .i64 0) := by rw [hw1, World.cell?_alloc_lt _ _ ⟨w.heap.size, 0, none⟩ (by simp only [World.size_alloc]; omega)]; simp
 have hf1 : w1.frozen? ⟨w.heap.size, 0, none⟩ = false := by rw [hw1, World.frozen?_alloc_old _ _ ⟨w.heap.size, 0, none⟩ (by simp only [World.size_alloc]; omega)]; simp
 have ht2 : w1.cell? ⟨w.heap.size + 1, 0, none⟩ = some (.pointer none) := by rw [hw1, World.cell?_alloc_at _ _ _ _ (by simp only [World.size_alloc])]; rfl
 have hf2 : w1.frozen? ⟨w.heap.size + 1, 0, none⟩ = false := by rw [hw1]; exact World.frozen?_alloc_at _ _ _ _ (by simp only [World.size_alloc])
 have c1 := as_num_k e ⟨w.heap.size, 0, none⟩ m (.int .i64 0) w1 ((hk _ hl1).trans hg) ((hk _ hl3).trans he1) ht1 hf1
 have c2 : ∀ w2, AsKept w1 w2 ⟨w.heap.size, 0, none⟩ (.int .i64 m) → Calls Tryd.prog 33 #[.iface 59 (.pointer (some e)), .iface 62 (.pointer (some ⟨w.heap.size + 1, 0, none⟩))] w2 fun ev w' => ev = .returned (.bool true) ∧ AsKept w2 w' ⟨w.heap.size + 1, 0, none⟩ (.pointer (some e)) := by
  intro w2 hA
  refine as_hit_k e ⟨w.heap.size + 1, 0, none⟩ (.pointer none) w2 ?_ ?_ ?_
  ·rw [hA.old _ (fun h_ => by injection h_; omega) (by show 0 < _; omega)]; exact (hk _ hl1).trans hg
  ·rw [hA.old _ (by simp) (by simp only []; omega)]; exact ht2
  ·rw [hA.froz _ (by simp only []; omega)]; exact hf2
 go_enter Tryd.func16, Tryd.ntmps16
 go_wp2_with (first | (go_at_call 33; (first | (rw [← hw1]; refine c1.mono ?_; rintro ev w2 ⟨rfl, hA⟩; have hc2 := c2 w2 hA; clear c1 c2) | (refine hc2.mono ?_; rintro ev w3 ⟨rfl, hA2⟩; have k1 : w3.cell? ⟨w.heap.size, 0, none⟩ = some (.int .i64 m) := (hA2.old _ (fun h_ => by injection h_; omega) (by have := hA.size; show w.heap.size < _; omega)).trans hA.got; have k2 := hA2.got; have k3 : w3.cell? e = some (.string s) := (hA2.old _ (fun h_ => by rw [h_] at hl2; exact absurd hl2 (by show ¬ w.heap.size + 1 < w.heap.size; omega)) (by have := hA.size; omega)).trans ((hA.old _ (fun h_ => by rw [h_] at hl2; exact absurd hl2 (by show ¬ w.heap.size < w.heap.size; omega)) (by omega)).trans ((hk _ hl2).trans he0))))))
 all_goals go_ret
 all_goals refine ⟨?_, hA2.below _ _ (by show w.heap.size ≤ w.heap.size + 1; omega) (hA.below _ _ (Nat.le_refl _) hb1)⟩
 all_goals simp_all [geyserlaw03_tells.bytes_beq]
set_option maxHeartbeats 8000000 in
set_option maxRecDepth 100000 in
theorem geyserlaw03_tells.deep (e d : Addr) (n m : Int) (s call : ByteArray) (w : World) (hg : w.cell? ⟨0, 0, none⟩ = some (.iface 96 (.agg #[.pointer (some ⟨2, 31, none⟩)]))) (he0 : w.cell? e = some (.string s)) (he1 : w.cell? (e.add 1) = some (.iface 59 (.pointer (some d)))) (hd1 : w.cell? (d.add 1) = some (.iface 56 (.int .i64 m))) (hn : n ≠ 0) :
  Calls Tryd.prog 16 #[.iface 59 (.pointer (some e)), .int .i64 n, .string call] w fun ev w' => ev = .returned (.bool (decide (m = n) && decide (s = call))) ∧ Below w.heap.size w w' := by
 have hn1 : (n == 0) = false := by simpa using hn
 have hl1 : 0 < w.heap.size := cell_old hg
 have hl2 := cell_old he0
 have hl3 := cell_old he1
 have hl4 := cell_old hd1
 obtain ⟨w1, hw1⟩ : ∃ w1, w1 = (w.alloc (.cells #[.int .i64 0] 56)).alloc (.cells #[.pointer none] 59) := ⟨_, rfl⟩
 have hk : ∀ a : Addr, a.block < w.heap.size → w1.cell? a = w.cell? a := by
  intro a h
  rw [hw1, World.cell?_alloc_lt _ _ a (by simp only [World.size_alloc]; omega), World.cell?_alloc_lt _ _ a h]
 have hs1 : w1.heap.size = w.heap.size + 1 + 1 := by rw [hw1, World.size_alloc, World.size_alloc]
 have hb1 : Below w.heap.size w w1 := by rw [hw1]; exact Below.alloc (Below.alloc (Below.refl _ _) (Nat.le_refl _) _) (by simp only [World.size_alloc]; omega) _
 have ht1 : w1.cell? ⟨w.heap.size, 0, none⟩ = some (.int .i64 0) := by rw [hw1, World.cell?_alloc_lt _ _ ⟨w.heap.size, 0, none⟩ (by simp only [World.size_alloc]; omega)]; simp
 have hf1 : w1.frozen? ⟨w.heap.size, 0, none⟩ = false := by rw [hw1, World.frozen?_alloc_old _ _ ⟨w.heap.size, 0, none⟩ (by simp only [World.size_alloc]; omega)]; simp
 have ht2 : w1.cell? ⟨w.heap.size + 1, 0, none⟩ = some (.pointer none) := by rw [hw1, World.cell?_alloc_at _ _ _ _ (by simp only [World.size_alloc])]; rfl
 have hf2 : w1.frozen? ⟨w.heap.size + 1, 0, none⟩ = false := by rw [hw1]; exact World.frozen?_alloc_at _ _ _ _ (by simp only [World.size_alloc])
 have c1 := as_num2_k e d ⟨w.heap.size, 0, none⟩ m (.int .i64 0) w1 ((hk _ hl1).trans hg) ((hk _ hl3).trans he1) ((hk _ hl4).trans hd1) ht1 hf1
 have c2 : ∀ w2, AsKept w1 w2 ⟨w.heap.size, 0, none⟩ (.int .i64 m) → Calls Tryd.prog 33 #[.iface 59 (.pointer (some e)), .iface 62 (.pointer (some ⟨w.heap.size + 1, 0, none⟩))] w2 fun ev w' => ev = .returned (.bool true) ∧ AsKept w2 w' ⟨w.heap.size + 1, 0, none⟩ (.pointer (some e)) := by
  intro w2 hA
  refine as_hit_k e ⟨w.heap.size + 1, 0, none⟩ (.pointer none) w2 ?_ ?_ ?_
  ·rw [hA.old _ (fun h_ => by injection h_; omega) (by show 0 < _; omega)]; exact (hk _ hl1).trans hg
  ·rw [hA.old _ (by simp) (by simp only []; omega)]; exact ht2
  ·rw [hA.froz _ (by simp only []; omega)]; exact hf2
 go_enter Tryd.func16, Tryd.ntmps16
 go_wp2_with (first | (go_at_call 33; (first | (rw [← hw1]; refine c1.mono ?_; rintro ev w2 ⟨rfl, hA⟩; have hc2 := c2 w2 hA; clear c1 c2) | (refine hc2.mono ?_; rintro ev w3 ⟨rfl, hA2⟩; have k1 : w3.cell? ⟨w.heap.size, 0, none⟩ = some (.int .i64 m) := (hA2.old _ (fun h_ => by injection h_; omega) (by have := hA.size; show w.heap.size < _; omega)).trans hA.got; have k2 := hA2.got; have k3 : w3.cell? e = some (.string s) := (hA2.old _ (fun h_ => by rw [h_] at hl2; exact absurd hl2 (by show ¬ w.heap.size + 1 < w.heap.size; omega)) (by have := hA.size; omega)).trans ((hA.old _ (fun h_ => by rw [h_] at hl2; exact absurd hl2 (by show ¬ w.heap.size < w.heap.size; omega)) (by omega)).trans ((hk _ hl2).trans he0))))))
 all_goals go_ret
 all_goals refine ⟨?_, hA2.below _ _ (by show w.heap.size ≤ w.heap.size + 1; omega) (hA.below _ _ (Nat.le_refl _) hb1)⟩
 all_goals simp_all [geyserlaw03_tells.bytes_beq]
def geyserlaw03_tells.f (l : List FE) (n : Int) (call : ByteArray) : Option Bool :=
 if n = 0 then some ((l.length : Int) == 0) else match l with
  | [] => some false
  | [x] => if x.flat = true ∨ x.num ≠ 0 then some (decide (x.num = n) && decide (x.call = call)) else none
  | _ :: _ :: _ => none
set_option maxHeartbeats 8000000 in
set_option maxRecDepth 100000 in
theorem geyserlaw03_tells.calls (A0 : Option Addr) (c0 : Nat) (l0 : List FE) (a1 : Int) (a2 : ByteArray) (r : Bool) (w : World) (he : ErrIn w) (hr0 : Kd.C kF w A0 l0.length l0) (hc0 : l0.length ≤ c0) (h : geyserlaw03_tells.f l0 a1 a2 = some r) :
  Calls Tryd.prog 16 #[errOf (.slice A0 l0.length c0), .int .i64 a1, .string a2] w fun e w' => e = .returned (.bool r) ∧ Below w.heap.size w w' := by
 unfold geyserlaw03_tells.f at h
 by_cases h0 : a1 = 0
 ·subst h0
  rw [if_pos rfl] at h
  obtain rfl := Option.some.inj h
  clear hr0 he
  go_enter Tryd.func16, Tryd.ntmps16
  go_wp2
  go_ret
  exact ⟨by first | rfl | simp, Below.refl _ _⟩
 ·rw [if_neg h0] at h
  have hn1 : (a1 == 0) = false := by simpa using h0
  match l0, hr0, hc0, h with
  | [], _, _, h =>
   obtain rfl := Option.some.inj h
   rw [show errOf (.slice A0 ([] : List FE).length c0) = .nilIface from rfl]
   go_enter Tryd.func16, Tryd.ntmps16
   go_wp2
   go_ret
   exact ⟨by first | rfl | simp, Below.refl _ _⟩
  | [x], hr0, _, h =>
   obtain ⟨ad, cs, e1, _, hK, hc⟩ := Kd.C_get hr0 zFE 0 (by omega) (by simp)
   obtain ⟨u, y, hcs, hu, hu2⟩ := hK
   have hx : ([x] : List FE).getD (0 : Int).toNat zFE = x := rfl
   rw [hx] at hcs hu hu2
   by_cases hf : x.flat = true
   ·simp only [if_pos (show x.flat = true ∨ x.num ≠ 0 from .inl hf)] at h
    obtain rfl := Option.some.inj h
    obtain ⟨rfl, rfl⟩ := hu hf
    subst hcs
    have k0 := hc 0 _ rfl
    have k1 := hc 1 _ rfl
    rw [e1]
    refine geyserlaw03_tells.flat ad a1 x.num x.call a2 w he ?_ ?_ h0
    ·exact k0
    ·exact k1
   ·by_cases hn : x.num ≠ 0
    ·simp only [if_pos (show x.flat = true ∨ x.num ≠ 0 from .inr hn)] at h
     obtain rfl := Option.some.inj h
     obtain ⟨g, _, rfl, rfl, c2, cells, hh, hct⟩ := hu2 (by simpa using hf) hn
     subst hcs
     have k0 := hc 0 _ rfl
     have k1 := hc 1 _ rfl
     rw [e1]
     have hc1 : cells[1]? = some (.iface 56 (.int .i64 x.num)) := by
      have h5 := congrArg (fun l : List Value => l[1]?) hct
      simpa using h5
     refine geyserlaw03_tells.deep ad ⟨g, 0, none⟩ a1 x.num x.call a2 w he ?_ ?_ ?_ h0
     ·exact k0
     ·exact k1
     ·have h7 := (blk_cell hh 1).trans hc1
      simpa [Addr.add] using h7
    ·simp [hf, hn] at h
  | _ :: _ :: _, _, _, h => simp at h

end Go.Proofs.YtgocibnmgfmceaaDoor.P

namespace Go.Proofs.YtgocibnmgfmceaaDoor.Pure
open Go.RowKit Go.Proofs.YtgocibnmgfmceaaDoor.P Go.Proofs.YtgocibnmgfmceaaDoorW.PrintWords Go.Proofs.YtgocibnmgfmceaaDoorW.PrintLast Go.Proofs.YtgocibnmgfmceaaDoorW.PrintErr Go.Proofs.YtgocibnmgfmceaaDoorW.PrintMore
set_option linter.unusedVariables false
set_option linter.unusedSimpArgs false
def noneFrom (row : List Int) (c d : Nat) : Bool := (List.range' c d).all fun c => !hasB row c
def wokB (row : List Int) (n : Int) : Bool := decide (row.length = nW n) && noneFrom row n.toNat (64 * row.length - n.toNat)
theorem noneFrom_iff (row : List Int) (c d : Nat) : noneFrom row c d = true ↔ ∀ e, c ≤ e → e < c + d → hasB row e = false := by
  unfold noneFrom
  rw [List.all_eq_true]
  constructor
  · intro h e h1 h2
    have := h e (List.mem_range'_1.2 ⟨h1, h2⟩)
    simpa using this
  · intro h e he
    obtain ⟨h1, h2⟩ := List.mem_range'_1.1 he
    simp [h e h1 h2]
theorem wokB_iff (row : List Int) (n : Int) (h0 : 0 ≤ n) : wokB row n = true ↔ row.length = nW n ∧ ∀ c : Nat, n ≤ c → hasB row c = false := by
  unfold wokB
  rw [Bool.and_eq_true, decide_eq_true_iff, noneFrom_iff]
  constructor
  · rintro ⟨h1, h2⟩
    refine ⟨h1, fun c hc => ?_⟩
    by_cases hl : c < 64 * row.length
    · exact h2 c (by omega) (by omega)
    · exact hasB_big (by omega)
  · rintro ⟨h1, h2⟩
    exact ⟨h1, fun e h3 h4 => h2 e (by omega)⟩
theorem rwhole_l0 (row : List Int) (hl : ∀ x ∈ row, U64 x) (hn : row.length ≤ 1000000) : ∀ d c : Nat, c + d = 64 * row.length → Ev (fun k => geyserref03_Whole.l0 k row (c : Int)) (noneFrom row c d) := by
  intro d
  induction d with
  | zero =>
    intro c hc
    refine Ev.step (f := fun _ => some true) (fun k => ?_) (Ev.now _)
    rw [geyserref03_Whole.l0, w64s (by omega) (by omega), if_neg (by omega)]
  | succ d ih =>
    intro c hc
    have e2 : wrap64 ((c : Int) + 1) = ((c + 1 : Nat) : Int) := by rw [w64s (by omega) (by omega)]; rfl
    have e3 : noneFrom row c (d + 1) = (!hasB row c && noneFrom row (c + 1) d) := by unfold noneFrom; rw [List.range'_succ]; rfl
    rw [e3]
    cases hb : hasB row c
    · rw [Bool.not_false, Bool.true_and]
      refine Ev.step (fun k => ?_) (ih (c + 1) (by omega))
      rw [geyserref03_Whole.l0, w64s (x := 64 * (row.length : Int)) (by omega) (by omega), if_pos (by omega), refhas_nat row hl hn c, hb, e2]
      simp
    · rw [Bool.not_true, Bool.false_and]
      refine Ev.step (f := fun _ => some false) (fun k => ?_) (Ev.now _)
      rw [geyserref03_Whole.l0, w64s (x := 64 * (row.length : Int)) (by omega) (by omega), if_pos (by omega), refhas_nat row hl hn c, hb]
      simp
theorem szR_in {n : Int} (h0 : 0 ≤ n) (h1 : n ≤ 4096) : szR n = (nW n : Int) := by unfold szR; rw [if_neg (by omega)]
theorem rwhole_ev (row : List Int) (n : Int) (hl : ∀ x ∈ row, U64 x) (h0 : 0 ≤ n) (h1 : n ≤ 4096) : Ev (fun k => geyserref03_Whole.f k row n) (wokB row n) := by
  unfold geyserref03_Whole.f
  have hs := rsz_ev n
  rw [szR_in h0 h1] at hs
  refine Ev.bind hs ?_
  by_cases c : row.length = nW n
  · have hw : nW n ≤ 64 := by unfold nW; omega
    have hle : n.toNat ≤ 64 * row.length := by rw [c]; unfold nW; omega
    have h := rwhole_l0 row hl (by omega) (64 * row.length - n.toNat) n.toNat (by omega)
    have e : wokB row n = noneFrom row n.toNat (64 * row.length - n.toNat) := by unfold wokB; rw [decide_eq_true c, Bool.true_and]
    rw [e]
    rw [Int.toNat_of_nonneg h0] at h
    refine Ev.congr (fun k => ?_) h
    rw [if_pos (by omega)]
  · have e : wokB row n = false := by unfold wokB; rw [decide_eq_false c, Bool.false_and]
    rw [e]
    refine Ev.congr (fun k => ?_) (Ev.now _)
    rw [if_neg (by omega)]
theorem shr_zero (x : Int) (hx : U64 x) (r : Nat) (hr : r < 64) : (shr .u64 x (r : Int) == 0) = true ↔ ∀ j, r ≤ j → x.toNat.testBit j = false := by
  obtain ⟨n, rfl⟩ := Int.eq_ofNat_of_zero_le hx.1
  have e1 : shr .u64 (n : Int) (r : Int) = ((n / 2 ^ r : Nat) : Int) := by
    unfold shr
    rw [Int.toNat_natCast, show IntKind.u64.bits = 64 from rfl, Nat.min_eq_left (by omega)]
    push_cast
    rfl
  rw [e1, Int.toNat_natCast]
  have hp : 0 < 2 ^ r := Nat.two_pow_pos r
  constructor
  · intro h j hj
    have h2 : n / 2 ^ r = 0 := by
      have := beq_iff_eq.1 h
      omega
    have h3 : n < 2 ^ r := (Nat.div_eq_zero_iff.1 h2).resolve_left (by omega)
    exact Nat.testBit_lt_two_pow (Nat.lt_of_lt_of_le h3 (Nat.pow_le_pow_right (by decide) hj))
  · intro h
    have h3 : n < 2 ^ r := Nat.lt_pow_two_of_testBit n h
    rw [beq_iff_eq, Nat.div_eq_of_lt h3]
    rfl
theorem whole_eq (row : List Int) (n : Int) (hl : ∀ x ∈ row, U64 x) (h0 : 0 ≤ n) (h1 : n ≤ 4096) : matrix_whole.f row n = some (wokB row n) := by
  unfold matrix_whole.f
  rw [psz_eq, szR_in h0 h1]
  simp only [Option.bind_some]
  by_cases c : row.length = nW n
  · have hw : nW n ≤ 64 := by unfold nW; omega
    rw [if_pos (by omega), Int.tmod_eq_emod_of_nonneg h0]
    obtain ⟨m, rfl⟩ := Int.eq_ofNat_of_zero_le h0
    by_cases hm : m % 64 = 0
    · rw [if_pos (by omega)]
      have e : wokB row (m : Int) = true := (wokB_iff row m h0).2 ⟨c, fun d hd => hasB_big (by rw [c]; unfold nW; omega)⟩
      rw [e]
    · have hlen : row.length = m / 64 + 1 := by rw [c]; unfold nW; rw [Int.toNat_natCast]; omega
      have em : ((m : Int) % 64) = ((m % 64 : Nat) : Int) := by omega
      have er : rd row ((row.length : Int) - 1) = row.getD (m / 64) 0 := by
        unfold rd
        have : ((row.length : Int) - 1).toNat = m / 64 := by omega
        rw [this]
      rw [if_neg (by omega), w64s (by omega) (by omega), if_pos (by omega), if_pos (by omega), em, if_pos (by omega), er]
      have hu := hl _ (getD_mem (l := row) (i := m / 64) (by omega))
      have hz := shr_zero (row.getD (m / 64) 0) hu (m % 64) (Nat.mod_lt _ (by decide))
      congr 1
      rw [Bool.eq_iff_iff, hz, wokB_iff row m h0]
      constructor
      · intro h
        refine ⟨c, fun d hd => ?_⟩
        by_cases hbig : d < 64 * row.length
        · have e1 : d / 64 = m / 64 := by omega
          unfold hasB
          rw [e1, h (d % 64) (by omega), Bool.and_false]
        · exact hasB_big (by omega)
      · rintro ⟨_, h⟩ j hj
        by_cases hj2 : j < 64
        · have h5 := h (64 * (m / 64) + j) (by omega)
          unfold hasB at h5
          rw [show (64 * (m / 64) + j) / 64 = m / 64 by omega, show (64 * (m / 64) + j) % 64 = j by omega, decide_eq_true (by omega), Bool.true_and] at h5
          exact h5
        · have hp : (2 : Nat) ^ 64 ≤ 2 ^ j := Nat.pow_le_pow_right (by decide) (by omega)
          have e64 : (2 : Nat) ^ 64 = 18446744073709551616 := by decide
          obtain ⟨u1, u2⟩ := hu
          exact Nat.testBit_lt_two_pow (by omega)
  · have e : wokB row n = false := by unfold wokB; rw [decide_eq_false c, Bool.false_and]
    rw [if_neg (by omega), e]
/-! ### Check -/
def mcheckName : ByteArray := ⟨#[109, 97, 116, 114, 105, 120, 46, 67, 104, 101, 99, 107]⟩
def chk3 (rows : List (List Int)) (n : Int) : Int := if n < 0 ∨ n > 4096 then 1 else if rows.length > 4096 then 3 else if rows.all (wokB · n) = true then 0 else 2
theorem chk3_zero {rows : List (List Int)} {n : Int} (h : chk3 rows n = 0) : 0 ≤ n ∧ n ≤ 4096 ∧ rows.length ≤ 4096 ∧ ∀ r ∈ rows, wokB r n = true := by
  unfold chk3 at h
  split at h
  · cases h
  · split at h
    · cases h
    · split at h
      · rename_i h3
        exact ⟨by omega, by omega, by omega, List.all_eq_true.1 h3⟩
      · cases h
theorem rd_rowW (P : List (List Int)) (s : List Int) (S : List (List Int)) : rd_Lsu64 (P ++ s :: S) (P.length : Int) = s := by
  unfold rd_Lsu64
  rw [Int.toNat_natCast, List.getD_eq_getElem?_getD, List.getElem?_append_right (Nat.le_refl _)]
  simp
theorem new_eqM (c : ByteArray) (n : Int) (h : n ≠ 0) : fault_New.f c n = some [⟨c, true, n⟩] := by unfold fault_New.f; rw [if_neg h]
theorem mcheck_l0 (n : Int) (h0 : 0 ≤ n) (h1 : n ≤ 4096) (S : List (List Int)) : ∀ P : List (List Int), (P ++ S).length < 9223372036854775807 → (∀ r ∈ S, ∀ x ∈ r, U64 x) →
    Ev (fun k => matrix_Check.l0 k n (P ++ S) ((P ++ S).length : Int) (P.length : Int)) (if S.all (wokB · n) = true then [] else [⟨mcheckName, true, 2⟩]) := by
  induction S with
  | nil =>
    intro P hP _
    refine Ev.step (f := fun _ => some []) (fun k => ?_) (Ev.now _)
    rw [matrix_Check.l0, if_neg (by simp)]
  | cons s S ih =>
    intro P hP hu
    have hl : (P ++ s :: S).length = P.length + (S.length + 1) := by simp
    have hw := whole_eq s n (hu s (by simp)) h0 h1
    cases hb : wokB s n
    · rw [if_neg (by simp [hb])]
      refine Ev.step (f := fun _ => some [⟨mcheckName, true, 2⟩]) (fun k => ?_) (Ev.now _)
      rw [matrix_Check.l0, if_pos (by omega), if_pos (by omega), if_pos (by omega), rd_rowW, hw, hb, new_eqM _ 2 (by decide)]
      rfl
    · have h' := ih (P ++ [s]) (by simpa using hP) (fun r hr => hu r (by simp [hr]))
      have e1 : P ++ [s] ++ S = P ++ s :: S := by simp
      have e2 : ((P ++ [s]).length : Int) = wrap64 ((P.length : Int) + 1) := by rw [w64s (by omega) (by omega)]; simp
      have e3 : (s :: S).all (wokB · n) = S.all (wokB · n) := by rw [List.all_cons, hb, Bool.true_and]
      rw [e1, e2] at h'
      rw [e3]
      refine Ev.step (fun k => ?_) h'
      rw [matrix_Check.l0, if_pos (by omega), if_pos (by omega), if_pos (by omega), rd_rowW, hw, hb]
      rfl
def mcheckR (rows : List (List Int)) (n : Int) : List FE := if chk3 rows n = 0 then [] else [⟨mcheckName, true, chk3 rows n⟩]
theorem mcheck_ev (rows : List (List Int)) (n : Int) (hr : rows.length < 9223372036854775807) (hu : ∀ r ∈ rows, ∀ x ∈ r, U64 x) : Ev (fun k => matrix_Check.f k rows n) (mcheckR rows n) := by
  unfold matrix_Check.f mcheckR chk3
  have bad : Ev (fun k => matrix_Check.j0 k rows n true) [⟨mcheckName, true, 1⟩] := by
    refine Ev.step (f := fun _ => some [⟨mcheckName, true, 1⟩]) (fun k => ?_) (Ev.now _)
    rw [matrix_Check.j0, if_pos rfl, new_eqM _ 1 (by decide)]
    rfl
  by_cases c1 : n < 0
  · simp only [if_pos c1, if_pos (show n < 0 ∨ n > 4096 from .inl c1)]
    exact bad
  · simp only [if_neg c1]
    by_cases c2 : n > 4096
    · simp only [if_pos (show n < 0 ∨ n > 4096 from .inr c2)]
      rw [decide_eq_true c2]
      exact bad
    · simp only [if_neg (show ¬ (n < 0 ∨ n > 4096) by omega)]
      rw [decide_eq_false c2]
      by_cases c3 : rows.length > 4096
      · simp only [if_pos c3]
        refine Ev.step (f := fun _ => some [⟨mcheckName, true, 3⟩]) (fun k => ?_) (Ev.now _)
        rw [matrix_Check.j0, if_neg (by decide), if_pos (by omega), new_eqM _ 3 (by decide)]
        rfl
      · simp only [if_neg c3]
        have h := mcheck_l0 n (by omega) (by omega) rows [] (by simpa using hr) hu
        have e : (if (if rows.all (wokB · n) = true then (0 : Int) else 2) = 0 then [] else [(⟨mcheckName, true, if rows.all (wokB · n) = true then 0 else 2⟩ : FE)]) = (if rows.all (wokB · n) = true then [] else [⟨mcheckName, true, 2⟩]) := by
          by_cases h4 : rows.all (wokB · n) = true
          · simp only [if_pos h4, if_true]
          · simp only [if_neg h4]; rfl
        rw [e]
        refine Ev.step (fun k => ?_) h
        rw [matrix_Check.j0, if_neg (by decide), if_neg (by omega)]
        rfl
theorem rcheck3_l0 (n : Int) (h0 : 0 ≤ n) (h1 : n ≤ 4096) (S : List (List Int)) : ∀ P : List (List Int), (P ++ S).length < 9223372036854775807 → (∀ r ∈ S, ∀ x ∈ r, U64 x) →
    Ev (fun k => geyserref03_Check.l0 k (P ++ S) n (P.length : Int)) (if S.all (wokB · n) = true then 0 else 2) := by
  induction S with
  | nil =>
    intro P hP _
    refine Ev.step (f := fun _ => some 0) (fun k => ?_) (Ev.now _)
    rw [geyserref03_Check.l0, if_neg (by simp)]
  | cons s S ih =>
    intro P hP hu
    have hl : (P ++ s :: S).length = P.length + (S.length + 1) := by simp
    have hw := rwhole_ev s n (hu s (by simp)) h0 h1
    refine Ev.step (f := fun k => (geyserref03_Whole.f k s n).bind fun t106 => (if t106 = true then (geyserref03_Check.l0 k (P ++ s :: S) n (wrap64 ((P.length : Int) + 1))) else (some 2))) (fun k => ?_) (Ev.bind hw ?_)
    · rw [geyserref03_Check.l0, if_pos (by omega), if_pos (by omega), rd_rowW]
    · cases hb : wokB s n
      · rw [if_neg (by simp [hb])]
        refine Ev.congr (fun k => ?_) (Ev.now _)
        rw [if_neg (by decide)]
      · have h' := ih (P ++ [s]) (by simpa using hP) (fun r hr => hu r (by simp [hr]))
        have e1 : P ++ [s] ++ S = P ++ s :: S := by simp
        have e2 : ((P ++ [s]).length : Int) = wrap64 ((P.length : Int) + 1) := by rw [w64s (by omega) (by omega)]; simp
        have e3 : (s :: S).all (wokB · n) = S.all (wokB · n) := by rw [List.all_cons, hb, Bool.true_and]
        rw [e1, e2] at h'
        rw [e3]
        refine Ev.congr (fun k => ?_) h'
        rw [if_pos rfl]
theorem rcheck3_ev (rows : List (List Int)) (n : Int) (hr : rows.length < 9223372036854775807) (hu : ∀ r ∈ rows, ∀ x ∈ r, U64 x) : Ev (fun k => geyserref03_Check.f k rows n) (chk3 rows n) := by
  unfold geyserref03_Check.f chk3
  have bad : Ev (fun k => geyserref03_Check.j0 k rows n true) 1 := by
    refine Ev.step (f := fun _ => some 1) (fun k => ?_) (Ev.now _)
    rw [geyserref03_Check.j0, if_pos rfl]
  by_cases c1 : n < 0
  · simp only [if_pos c1, if_pos (show n < 0 ∨ n > 4096 from .inl c1)]
    exact bad
  · simp only [if_neg c1]
    by_cases c2 : n > 4096
    · simp only [if_pos (show n < 0 ∨ n > 4096 from .inr c2)]
      rw [decide_eq_true c2]
      exact bad
    · simp only [if_neg (show ¬ (n < 0 ∨ n > 4096) by omega)]
      rw [decide_eq_false c2]
      by_cases c3 : rows.length > 4096
      · simp only [if_pos c3]
        refine Ev.step (f := fun _ => some 3) (fun k => ?_) (Ev.now _)
        rw [geyserref03_Check.j0, if_neg (by decide), if_pos (by omega)]
      · simp only [if_neg c3]
        have h := rcheck3_l0 n (by omega) (by omega) rows [] (by simpa using hr) hu
        refine Ev.step (fun k => ?_) h
        rw [geyserref03_Check.j0, if_neg (by decide), if_neg (by omega)]
        rfl
theorem tells03_none (c : ByteArray) : geyserlaw03_tells.f [] 0 c = some true := rfl
theorem tells03_flat (c : ByteArray) (n : Int) (h : n ≠ 0) : geyserlaw03_tells.f [⟨c, true, n⟩] n c = some true := by
  unfold geyserlaw03_tells.f
  rw [if_neg h]
  simp
theorem tells03_deep (c : ByteArray) (n : Int) (h : n ≠ 0) : geyserlaw03_tells.f [⟨c, false, n⟩] n c = some true := by
  unfold geyserlaw03_tells.f
  rw [if_neg h]
  simp [h]
theorem awake03_ev : Ev (fun k => geyserlaw03_awake.f k) true := by
  refine Ev.of (fun k => geyserlaw03_awake.mono k) (k := 30) ?_
  decide +kernel
theorem big_some (rows : List (List Int)) (n : Int) : ∃ b, geyserlaw03_big.f rows n = some b ∧ (b = false → ¬ (rows.length > 20 ∧ rows.length ≤ 4096) ∧ ¬ (n > 200 ∧ n ≤ 4096)) := by
  unfold geyserlaw03_big.f
  by_cases c1 : (rows.length : Int) > 20
  · rw [if_pos c1]
    by_cases c2 : (rows.length : Int) ≤ 4096
    · rw [if_pos c2]; exact ⟨true, rfl, fun h => by cases h⟩
    · rw [if_neg c2]
      by_cases c3 : n > 200
      · rw [if_pos c3]; exact ⟨_, rfl, fun h => ⟨by omega, by have := of_decide_eq_false h; omega⟩⟩
      · rw [if_neg c3]; exact ⟨false, rfl, fun _ => ⟨by omega, by omega⟩⟩
  · rw [if_neg c1]
    by_cases c3 : n > 200
    · rw [if_pos c3]; exact ⟨_, rfl, fun h => ⟨by omega, by have := of_decide_eq_false h; omega⟩⟩
    · rw [if_neg c3]; exact ⟨false, rfl, fun _ => ⟨by omega, by omega⟩⟩
end Go.Proofs.YtgocibnmgfmceaaDoor.Pure

/-
  Plain algebra: rows of truths, their sums, what hangs on what, and that a rank is one number (no program in sight).
-/
namespace Go.Proofs.YtgocibnmgfmceaaDoor.Lin
abbrev V := Nat → Bool
def vx (a b : V) : V := fun c => (a c != b c)
def v0 : V := fun _ => false
theorem vx_comm (a b : V) : vx a b = vx b a := by funext c; unfold vx; cases a c <;> cases b c <;> rfl
theorem vx_assoc (a b d : V) : vx (vx a b) d = vx a (vx b d) := by funext c; unfold vx; cases a c <;> cases b c <;> cases d c <;> rfl
theorem vx_self (a : V) : vx a a = v0 := by funext c; unfold vx v0; cases a c <;> rfl
theorem vx_zero (a : V) : vx a v0 = a := by funext c; unfold vx v0; cases a c <;> rfl
theorem zero_vx (a : V) : vx v0 a = a := by rw [vx_comm, vx_zero]
theorem vx_cancel (a b : V) : vx (vx a b) b = a := by rw [vx_assoc, vx_self, vx_zero]
/-- What hangs on rows: sums of them. -/
inductive Sp (L : List V) : V → Prop
  | zero : Sp L v0
  | add {u v : V} : u ∈ L → Sp L v → Sp L (vx u v)
theorem Sp.mem {L : List V} {u : V} (h : u ∈ L) : Sp L u := by
  have := Sp.add h Sp.zero
  rwa [vx_zero] at this
theorem Sp.vx {L : List V} {u v : V} (h : Sp L u) (k : Sp L v) : Sp L (Lin.vx u v) := by
  induction h with
  | zero => rw [zero_vx]; exact k
  | add hu _ ih => rw [vx_assoc]; exact Sp.add hu ih
theorem Sp.trans {L M : List V} {v : V} (h : Sp L v) (hL : ∀ u ∈ L, Sp M u) : Sp M v := by
  induction h with
  | zero => exact Sp.zero
  | add hu _ ih => exact (hL _ hu).vx ih
theorem Sp.sub {L M : List V} {v : V} (h : Sp L v) (hL : ∀ u ∈ L, u ∈ M) : Sp M v := h.trans fun u hu => Sp.mem (hL u hu)
theorem Sp.nil {v : V} (h : Sp [] v) : v = v0 := by
  cases h with
  | zero => rfl
  | add hu _ => cases hu
theorem Sp.cons {w : V} {W : List V} {u : V} (h : Sp (w :: W) u) : Sp W u ∨ Sp W (Lin.vx u w) := by
  induction h with
  | zero => exact .inl Sp.zero
  | @add a v ha _ ih =>
    rcases List.mem_cons.1 ha with rfl | ha
    · rcases ih with ih | ih
      · exact .inr (by rw [vx_comm a v, vx_cancel]; exact ih)
      · exact .inl (by rw [vx_comm]; exact ih)
    · rcases ih with ih | ih
      · exact .inl (Sp.add ha ih)
      · exact .inr (by rw [vx_assoc]; exact Sp.add ha ih)
theorem Sp.col {L : List V} {c : Nat} (h : ∀ u ∈ L, u c = false) {v : V} (k : Sp L v) : v c = false := by
  induction k with
  | zero => rfl
  | add hu _ ih => unfold Lin.vx; rw [h _ hu, ih]; rfl
/-- None hangs on those behind it. -/
def Ind : List V → Prop
  | [] => True
  | v :: L => ¬ Sp L v ∧ Ind L
theorem Ind.suffix : ∀ (A B : List V), Ind (A ++ B) → Ind B
  | [], _, h => h
  | _ :: A, B, h => Ind.suffix A B h.2
theorem last_bad {p : V → Prop} : ∀ U : List V, (∀ u ∈ U, p u) ∨ ∃ A u B, U = A ++ u :: B ∧ ¬ p u ∧ ∀ b ∈ B, p b
  | [] => .inl (fun _ h => by cases h)
  | x :: U => by
    rcases last_bad (p := p) U with h | ⟨A, u, B, rfl, h1, h2⟩
    · rcases Classical.em (p x) with hx | hx
      · exact .inl (fun u hu => by rcases List.mem_cons.1 hu with rfl | hu; exact hx; exact h u hu)
      · exact .inr ⟨[], x, U, rfl, hx, h⟩
    · exact .inr ⟨x :: A, u, B, rfl, h1, h2⟩
open Classical in
/-- A row, or its sum with another one, so that it hangs on these. -/
noncomputable def fix (W : List V) (u0 u : V) : V := if Sp W u then u else vx u u0
theorem fix_in {W : List V} {w u0 u : V} (h0 : Sp W (vx u0 w)) (h : Sp W u ∨ Sp W (vx u w)) : Sp W (fix W u0 u) := by
  unfold fix
  by_cases c : Sp W u
  · rw [if_pos c]; exact c
  · rw [if_neg c]
    have h1 := (h.resolve_left c).vx h0
    have e : vx (vx u w) (vx u0 w) = vx u u0 := by rw [vx_comm u0 w, vx_assoc, ← vx_assoc w w u0, vx_self, zero_vx]
    rwa [e] at h1
theorem fix_span {W : List V} {u0 u : V} {M : List V} (h0 : Sp M u0) (h : Sp M (fix W u0 u)) : Sp M u := by
  unfold fix at h
  by_cases c : Sp W u
  · rwa [if_pos c] at h
  · rw [if_neg c] at h
    have := h.vx h0
    rwa [vx_cancel] at this
theorem fix_of {W : List V} {u0 u : V} {M : List V} (h0 : Sp M u0) (h : Sp M u) : Sp M (fix W u0 u) := by
  unfold fix
  by_cases c : Sp W u
  · rw [if_pos c]; exact h
  · rw [if_neg c]; exact h.vx h0
theorem fix_ind (W : List V) (u0 : V) (B : List V) : ∀ A : List V, Ind (A ++ u0 :: B) → Ind (A.map (fix W u0) ++ B)
  | [], h => h.2
  | a :: A, h => by
    refine ⟨fun hs => h.1 ?_, fix_ind W u0 B A h.2⟩
    have hu0 : Sp (A ++ u0 :: B) u0 := Sp.mem (by simp)
    have h1 : Sp (A ++ u0 :: B) (fix W u0 a) := hs.trans fun x hx => by
      rcases List.mem_append.1 hx with hx | hx
      · obtain ⟨y, hy, rfl⟩ := List.mem_map.1 hx
        exact fix_of hu0 (Sp.mem (by simp [hy]))
      · exact Sp.mem (by simp [hx])
    exact fix_span hu0 h1
/-- No more rows that hang not on each other than rows on which all of them hang. -/
theorem steinitz : ∀ (W U : List V), Ind U → (∀ u ∈ U, Sp W u) → U.length ≤ W.length
  | [], U, hi, h => by
    cases U with
    | nil => exact Nat.le_refl _
    | cons u U =>
      have := Sp.nil (h u (by simp))
      subst this
      exact absurd Sp.zero hi.1
  | w :: W, U, hi, h => by
    rcases last_bad (p := Sp W) U with hU | ⟨A, u0, B, rfl, h1, h2⟩
    · exact Nat.le_succ_of_le (steinitz W U hi hU)
    · have h0 : Sp W (vx u0 w) := (h u0 (by simp)).cons.resolve_left h1
      have := steinitz W (A.map (fix W u0) ++ B) (fix_ind W u0 B A hi) (fun x hx => by
        rcases List.mem_append.1 hx with hx | hx
        · obtain ⟨y, hy, rfl⟩ := List.mem_map.1 hx
          exact fix_in h0 (h y (by simp [hy])).cons
        · exact h2 x hx)
      simp only [List.length_append, List.length_map, List.length_cons] at this ⊢
      omega
/-- So many rows make all of these. -/
def Rk (L : List V) (r : Nat) : Prop := ∃ B, Ind B ∧ B.length = r ∧ (∀ b ∈ B, Sp L b) ∧ ∀ x ∈ L, Sp B x
theorem Rk.le {L M : List V} {r s : Nat} (h : Rk L r) (k : Rk M s) (hm : ∀ x ∈ L, Sp M x) : r ≤ s := by
  obtain ⟨B, b1, rfl, b3, b4⟩ := h
  obtain ⟨D, d1, rfl, d3, d4⟩ := k
  exact steinitz D B b1 (fun b hb => ((b3 b hb).trans hm).trans d4)
theorem Rk.eq {L M : List V} {r s : Nat} (h : Rk L r) (k : Rk M s) (hm : ∀ x ∈ L, Sp M x) (hl : ∀ x ∈ M, Sp L x) : r = s := Nat.le_antisymm (h.le k hm) (k.le h hl)
theorem Rk.uniq {L : List V} {r s : Nat} (h : Rk L r) (k : Rk L s) : r = s := h.eq k (fun _ hx => Sp.mem hx) (fun _ hx => Sp.mem hx)
end Go.Proofs.YtgocibnmgfmceaaDoor.Lin

namespace Go.Proofs.YtgocibnmgfmceaaDoor.Pure
open Go.RowKit Go.Proofs.YtgocibnmgfmceaaDoor.P Go.Proofs.YtgocibnmgfmceaaDoorW.PrintWords Go.Proofs.YtgocibnmgfmceaaDoorW.PrintLast Go.Proofs.YtgocibnmgfmceaaDoorW.PrintErr Go.Proofs.YtgocibnmgfmceaaDoorW.PrintMore Go.Proofs.YtgocibnmgfmceaaDoor.Lin
set_option linter.unusedVariables false
set_option linter.unusedSimpArgs false
/-! ### less -/
def redOne (out x : List Int) : List Int := if hasB out (fstI x).toNat = true then xorW out x else out
def lessW (out : List Int) (by_ : List (List Int)) : List Int := by_.foldl redOne out
/-- A row of so many words that is not nothing. -/
def Good (L : Nat) (x : List Int) : Prop := x.length = L ∧ (∀ a ∈ x, U64 a) ∧ 0 ≤ fstI x
theorem fstI_pos {x : List Int} (h : 0 ≤ fstI x) : ∃ m : Nat, fstI x = m ∧ m < 64 * x.length ∧ hasB x m = true ∧ ∀ c, c < m → hasB x c = false := by
  rcases fstI_is x with ⟨e, _⟩ | h'
  · omega
  · exact h'
theorem fstI_neg {x : List Int} (h : fstI x < 0) : ∀ c, hasB x c = false := by
  rcases fstI_is x with ⟨_, h'⟩ | ⟨m, e, _⟩
  · intro c
    by_cases hc : c < 64 * x.length
    · exact h' c hc
    · exact hasB_big (by omega)
  · omega
theorem redOne_len {L : Nat} {out x : List Int} (ho : out.length = L) (hx : x.length = L) : (redOne out x).length = L := by
  unfold redOne
  split
  · rw [xorW_len _ _ (by omega)]; exact ho
  · exact ho
theorem redOne_u64 {out x : List Int} (ho : ∀ a ∈ out, U64 a) : ∀ a ∈ redOne out x, U64 a := by
  unfold redOne
  split
  · exact xorW_u64 _ _
  · exact ho
theorem hasB_vx (a b : List Int) (h : a.length = b.length) (ha : ∀ x ∈ a, U64 x) (hb : ∀ x ∈ b, U64 x) : hasB (xorW a b) = vx (hasB a) (hasB b) := by
  funext c
  exact hasB_xor a b h ha hb c
theorem less_l0 (L : Nat) (hL : L ≤ 1000000) (S : List (List Int)) : ∀ (P : List (List Int)) (out : List Int), (P ++ S).length < 9223372036854775807 → out.length = L → (∀ a ∈ out, U64 a) → (∀ x ∈ S, Good L x) →
    Ev (fun k => matrix_less.l0 k out (P ++ S) ((P ++ S).length : Int) (P.length : Int)) (lessW out S) := by
  induction S with
  | nil =>
    intro P out hP _ _ _
    refine Ev.step (f := fun _ => some out) (fun k => ?_) (Ev.now out)
    rw [matrix_less.l0, if_neg (by simp)]
  | cons s S ih =>
    intro P out hP ho hu hS
    obtain ⟨g1, g2, g3⟩ := hS s (by simp)
    obtain ⟨m, e, hm, hb, _⟩ := fstI_pos g3
    have hl : (P ++ s :: S).length = P.length + (S.length + 1) := by simp
    have h' := ih (P ++ [s]) (redOne out s) (by simpa using hP) (redOne_len ho g1) (redOne_u64 hu) (fun x hx => hS x (by simp [hx]))
    have e1 : P ++ [s] ++ S = P ++ s :: S := by simp
    have e2 : ((P ++ [s]).length : Int) = wrap64 ((P.length : Int) + 1) := by rw [w64s (by omega) (by omega)]; simp
    rw [e1, e2] at h'
    refine Ev.step (f := fun k => (packed_First.f k s).bind fun t139 => ((packed_Has.f out t139).bind fun t140 => (if t140 = true then ((packed_Xor.f k out s).bind fun bt141 => (matrix_less.l0 k bt141.1 (P ++ s :: S) ((P ++ s :: S).length : Int) (wrap64 ((P.length : Int) + 1)))) else (matrix_less.l0 k out (P ++ s :: S) ((P ++ s :: S).length : Int) (wrap64 ((P.length : Int) + 1)))))) (fun k => ?_) (Ev.bind (fst_ev s g2 (by omega)) ?_)
    · rw [matrix_less.l0, if_pos (by omega), if_pos (by omega), if_pos (by omega), rd_rowW]
    · rw [e, has_eq out hu m (by omega)]
      simp only [Option.bind_some]
      show Ev _ (lessW (redOne out s) S)
      unfold redOne at h' ⊢
      rw [e, Int.toNat_natCast] at h' ⊢
      cases hc : hasB out m
      · rw [hc] at h'
        simp only [Bool.false_eq_true, if_false] at h' ⊢
        exact h'
      · rw [hc] at h'
        simp only [if_true] at h' ⊢
        exact Ev.bind (wxor_ev out s (by omega) (by omega)) h'
theorem less_ev (L : Nat) (hL : L ≤ 1000000) (row : List Int) (by_ : List (List Int)) (hn : by_.length < 9223372036854775807) (ho : row.length = L) (hu : ∀ a ∈ row, U64 a) (hS : ∀ x ∈ by_, Good L x) : Ev (fun k => matrix_less.f k row by_) (lessW row by_) := by
  unfold matrix_less.f
  simp only [Option.bind_some, List.nil_append, List.length_nil, Nat.zero_add]
  simp only [if_pos (show row.length < 17592186044416 by omega)]
  exact less_l0 L hL by_ [] row (by simpa using hn) ho hu hS
theorem lessW_len {L : Nat} : ∀ (by_ : List (List Int)) (out : List Int), out.length = L → (∀ x ∈ by_, Good L x) → (lessW out by_).length = L
  | [], _, h, _ => h
  | x :: by_, out, h, hg => lessW_len by_ (redOne out x) (redOne_len h (hg x (by simp)).1) (fun y hy => hg y (by simp [hy]))
theorem lessW_u64 : ∀ (by_ : List (List Int)) (out : List Int), (∀ a ∈ out, U64 a) → ∀ a ∈ lessW out by_, U64 a
  | [], _, h => h
  | x :: by_, out, h => lessW_u64 by_ (redOne out x) (redOne_u64 h)
/-! ### what hangs on what -/
def Tri (by_ : List (List Int)) : Prop := by_.Pairwise fun b d => hasB d (fstI b).toNat = false
theorem redOne_span {L : Nat} {out x : List Int} (ho : out.length = L) (hu : ∀ a ∈ out, U64 a) (hx : Good L x) {M : List V} (hm : hasB x ∈ M) : Sp M (vx (hasB out) (hasB (redOne out x))) := by
  unfold redOne
  split
  · rw [hasB_vx out x (by rw [ho, hx.1]) hu hx.2.1, ← vx_assoc, vx_self, zero_vx]
    exact Sp.mem hm
  · rw [vx_self]; exact Sp.zero
theorem lessW_span {L : Nat} {M : List V} : ∀ (by_ : List (List Int)) (out : List Int), out.length = L → (∀ a ∈ out, U64 a) → (∀ x ∈ by_, Good L x) → (∀ x ∈ by_, hasB x ∈ M) → Sp M (vx (hasB out) (hasB (lessW out by_)))
  | [], out, _, _, _, _ => by show Sp M (vx (hasB out) (hasB out)); rw [vx_self]; exact Sp.zero
  | x :: by_, out, ho, hu, hg, hm => by
    have h1 := redOne_span ho hu (hg x (by simp)) (hm x (by simp))
    have h2 := lessW_span by_ (redOne out x) (redOne_len ho (hg x (by simp)).1) (redOne_u64 hu) (fun y hy => hg y (by simp [hy])) (fun y hy => hm y (by simp [hy]))
    have := h1.vx h2
    rw [vx_assoc, ← vx_assoc (hasB (redOne out x)), vx_self, zero_vx] at this
    exact this
theorem redOne_col {L : Nat} {out x : List Int} (ho : out.length = L) (hu : ∀ a ∈ out, U64 a) (hx : Good L x) {c : Nat} (h1 : hasB out c = false) (h2 : hasB x c = false) : hasB (redOne out x) c = false := by
  unfold redOne
  split
  · rw [hasB_vx out x (by rw [ho, hx.1]) hu hx.2.1]
    unfold Lin.vx
    rw [h1, h2]; rfl
  · exact h1
theorem lessW_col {L : Nat} {c : Nat} : ∀ (by_ : List (List Int)) (out : List Int), out.length = L → (∀ a ∈ out, U64 a) → (∀ x ∈ by_, Good L x) → hasB out c = false → (∀ x ∈ by_, hasB x c = false) → hasB (lessW out by_) c = false
  | [], _, _, _, _, h, _ => h
  | x :: by_, out, ho, hu, hg, h, hb => lessW_col by_ (redOne out x) (redOne_len ho (hg x (by simp)).1) (redOne_u64 hu) (fun y hy => hg y (by simp [hy])) (redOne_col ho hu (hg x (by simp)) h (hb x (by simp))) (fun y hy => hb y (by simp [hy]))
theorem redOne_own {L : Nat} {out x : List Int} (ho : out.length = L) (hu : ∀ a ∈ out, U64 a) (hx : Good L x) : hasB (redOne out x) (fstI x).toNat = false := by
  obtain ⟨m, e, _, hb, _⟩ := fstI_pos hx.2.2
  unfold redOne
  rw [e, Int.toNat_natCast]
  cases hc : hasB out m
  · simpa using hc
  · simp only [if_true]
    rw [hasB_vx out x (by rw [ho, hx.1]) hu hx.2.1]
    unfold Lin.vx
    rw [hc, hb]; rfl
theorem lessW_cols {L : Nat} : ∀ (by_ : List (List Int)) (out : List Int), out.length = L → (∀ a ∈ out, U64 a) → (∀ x ∈ by_, Good L x) → Tri by_ → ∀ b ∈ by_, hasB (lessW out by_) (fstI b).toNat = false
  | [], _, _, _, _, _, b, hb => by cases hb
  | x :: by_, out, ho, hu, hg, ht, b, hb => by
    obtain ⟨t1, t2⟩ := List.pairwise_cons.1 ht
    have l1 := redOne_len ho (hg x (by simp)).1
    rcases List.mem_cons.1 hb with rfl | hb
    · exact lessW_col by_ (redOne out b) l1 (redOne_u64 hu) (fun y hy => hg y (by simp [hy])) (redOne_own ho hu (hg b (by simp))) t1
    · exact lessW_cols by_ (redOne out x) l1 (redOne_u64 hu) (fun y hy => hg y (by simp [hy])) t2 b hb
theorem tri_zero {L : Nat} : ∀ (by_ : List (List Int)), Tri by_ → (∀ x ∈ by_, Good L x) → ∀ v : V, Sp (by_.map hasB) v → (∀ b ∈ by_, v (fstI b).toNat = false) → v = v0
  | [], _, _, v, h, _ => Sp.nil h
  | b :: by_, ht, hg, v, h, hv => by
    obtain ⟨t1, t2⟩ := List.pairwise_cons.1 ht
    have hb := hv b (by simp)
    rcases Sp.cons h with h1 | h1
    · exact tri_zero by_ t2 (fun x hx => hg x (by simp [hx])) v h1 (fun x hx => hv x (by simp [hx]))
    · obtain ⟨m, e, _, hbm, _⟩ := fstI_pos (hg b (by simp)).2.2
      have hc : (Lin.vx v (hasB b)) (fstI b).toNat = false := Sp.col (c := (fstI b).toNat) (fun u hu => by
        obtain ⟨x, hx, rfl⟩ := List.mem_map.1 hu
        exact t1 x hx) h1
      unfold Lin.vx at hc
      rw [hb, e, Int.toNat_natCast, hbm] at hc
      cases hc
/-! ### reduce -/
def stepW (by_ : List (List Int)) (row : List Int) : List (List Int) := if fstI (lessW row by_) < 0 then by_ else by_ ++ [lessW row by_]
def byOf (by_ : List (List Int)) (rows : List (List Int)) : List (List Int) := rows.foldl stepW by_
def atOf : List (List Int) → Nat → List (List Int) → List Int
  | _, _, [] => []
  | by_, i, row :: S => if fstI (lessW row by_) < 0 then atOf (stepW by_ row) (i + 1) S else (i : Int) :: atOf (stepW by_ row) (i + 1) S
/-- What reduce keeps, behind these rows. -/
structure RInv (L : Nat) (by_ done : List (List Int)) : Prop where
  good : ∀ x ∈ by_, Good L x
  tri : Tri by_
  ind : Ind (by_.map hasB).reverse
  into : ∀ b ∈ by_, Sp (done.map hasB) (hasB b)
  from_ : ∀ x ∈ done, Sp (by_.map hasB) (hasB x)
  len : by_.length ≤ done.length
theorem RInv.nil (L : Nat) : RInv L [] [] := ⟨fun _ h => (by cases h), List.Pairwise.nil, trivial, fun _ h => (by cases h), fun _ h => (by cases h), Nat.le_refl _⟩
theorem RInv.step {L : Nat} {by_ done : List (List Int)} (h : RInv L by_ done) (row : List Int) (hl : row.length = L) (hu : ∀ a ∈ row, U64 a) : RInv L (stepW by_ row) (done ++ [row]) := by
  have s1 := lessW_span (M := by_.map hasB) by_ row hl hu h.good (fun x hx => List.mem_map.2 ⟨x, hx, rfl⟩)
  have c1 := lessW_cols by_ row hl hu h.good h.tri
  have l1 := lessW_len by_ row hl h.good
  have u1 := lessW_u64 by_ row hu
  unfold stepW
  generalize lessW row by_ = x at *
  have into0 : ∀ b ∈ by_, Sp ((done ++ [row]).map hasB) (hasB b) := fun b hb => (h.into b hb).sub (fun u hu => by rw [List.map_append]; exact List.mem_append_left _ hu)
  by_cases hx : fstI x < 0
  · rw [if_pos hx]
    have hz : hasB x = v0 := funext (fstI_neg hx)
    rw [hz, vx_zero] at s1
    refine ⟨h.good, h.tri, h.ind, into0, fun y hy => ?_, by have := h.len; simp; omega⟩
    rcases List.mem_append.1 hy with hy | hy
    · exact h.from_ y hy
    · obtain rfl : y = row := by simpa using hy
      exact s1
  · rw [if_neg hx]
    have g : Good L x := ⟨l1, u1, by omega⟩
    have e : (by_ ++ [x]).map hasB = by_.map hasB ++ [hasB x] := by simp
    have sx : Sp ((done ++ [row]).map hasB) (hasB x) := by
      have h1 : Sp ((done ++ [row]).map hasB) (Lin.vx (hasB row) (hasB x)) := s1.trans (fun u hu => by
        obtain ⟨b, hb, rfl⟩ := List.mem_map.1 hu
        exact into0 b hb)
      have h2 : Sp ((done ++ [row]).map hasB) (hasB row) := Sp.mem (by simp)
      have := h2.vx h1
      rwa [← vx_assoc, vx_self, zero_vx] at this
    refine ⟨?_, ?_, ?_, ?_, ?_, by have := h.len; simp; omega⟩
    · intro y hy
      rcases List.mem_append.1 hy with hy | hy
      · exact h.good y hy
      · obtain rfl : y = x := by simpa using hy
        exact g
    · unfold Tri
      rw [List.pairwise_append]
      refine ⟨h.tri, List.pairwise_singleton _ _, fun b hb y hy => ?_⟩
      obtain rfl : y = x := by simpa using hy
      exact c1 b hb
    · rw [e, List.reverse_append]
      refine ⟨fun hs => ?_, h.ind⟩
      have hs' : Sp (by_.map hasB) (hasB x) := hs.sub (fun u hu => List.mem_reverse.1 hu)
      have hz := tri_zero by_ h.tri h.good _ hs' c1
      obtain ⟨m, _, _, hb, _⟩ := fstI_pos g.2.2
      rw [hz] at hb
      cases hb
    · intro b hb
      rcases List.mem_append.1 hb with hb | hb
      · exact into0 b hb
      · obtain rfl : b = x := by simpa using hb
        exact sx
    · intro y hy
      have up : ∀ {v : V}, Sp (by_.map hasB) v → Sp ((by_ ++ [x]).map hasB) v := fun hv => hv.sub (fun u hu => by rw [e]; exact List.mem_append_left _ hu)
      rcases List.mem_append.1 hy with hy | hy
      · exact up (h.from_ y hy)
      · obtain rfl : y = row := by simpa using hy
        have h2 : Sp ((by_ ++ [x]).map hasB) (hasB x) := Sp.mem (by rw [e]; simp)
        have := (up s1).vx h2
        rwa [vx_cancel] at this
theorem RInv.all {L : Nat} : ∀ (S by_ done : List (List Int)), RInv L by_ done → (∀ r ∈ S, r.length = L ∧ ∀ a ∈ r, U64 a) → RInv L (byOf by_ S) (done ++ S)
  | [], by_, done, h, _ => by rw [List.append_nil]; exact h
  | r :: S, by_, done, h, hS => by
    have h1 := h.step r (hS r (by simp)).1 (hS r (by simp)).2
    have h2 := RInv.all S (stepW by_ r) (done ++ [r]) h1 (fun x hx => hS x (by simp [hx]))
    rw [List.append_assoc] at h2
    exact h2
theorem RInv.rk {L : Nat} {by_ done : List (List Int)} (h : RInv L by_ done) : Rk (done.map hasB) by_.length := by
  refine ⟨(by_.map hasB).reverse, h.ind, by simp, fun b hb => ?_, fun x hx => ?_⟩
  · obtain ⟨y, hy, rfl⟩ := List.mem_map.1 (List.mem_reverse.1 hb)
    exact h.into y hy
  · obtain ⟨y, hy, rfl⟩ := List.mem_map.1 hx
    exact (h.from_ y hy).sub (fun u hu => List.mem_reverse.2 hu)
theorem byOf_rk (L : Nat) (rows : List (List Int)) (h : ∀ r ∈ rows, r.length = L ∧ ∀ a ∈ r, U64 a) : Rk (rows.map hasB) (byOf [] rows).length ∧ (byOf [] rows).length ≤ rows.length := by
  have := RInv.all rows [] [] (RInv.nil L) h
  rw [List.nil_append] at this
  exact ⟨this.rk, this.len⟩
theorem reduce_l0 (L : Nat) (hL : L ≤ 1000000) (S : List (List Int)) : ∀ (P by_ done : List (List Int)) (at_ : List Int), (P ++ S).length ≤ 1000000 → done.length = P.length → at_.length ≤ P.length → RInv L by_ done → (∀ r ∈ S, r.length = L ∧ ∀ a ∈ r, U64 a) →
    Ev (fun k => matrix_reduce.l0 k by_ at_ (P ++ S) ((P ++ S).length : Int) (P.length : Int)) (byOf by_ S, at_ ++ atOf by_ P.length S) := by
  induction S with
  | nil =>
    intro P by_ done at_ hP _ _ _ _
    have e : (byOf by_ [], at_ ++ atOf by_ P.length []) = (by_, at_) := by rw [show atOf by_ P.length [] = [] from rfl, List.append_nil]; rfl
    rw [e]
    refine Ev.step (f := fun _ => some (by_, at_)) (fun k => ?_) (Ev.now _)
    rw [matrix_reduce.l0, if_neg (by simp)]
  | cons s S ih =>
    intro P by_ done at_ hP hd ha hI hS
    have hl : (P ++ s :: S).length = P.length + (S.length + 1) := by simp
    have e1 : P ++ [s] ++ S = P ++ s :: S := by simp
    have e4 : (P ++ [s]).length = P.length + 1 := by simp
    have hb : by_.length ≤ P.length := by rw [← hd]; exact hI.len
    have q1 : (P.length : Int) < ((P ++ s :: S).length : Int) := by omega
    have q2 : (0 : Int) ≤ (P.length : Int) := by omega
    have q4 : by_.length < 5864062014805 := by omega
    have q5 : at_.length < 17592186044416 := by omega
    have q6 : by_.length < 9223372036854775807 := by omega
    have e2 : ((P ++ [s]).length : Int) = wrap64 ((P.length : Int) + 1) := by rw [w64s (by omega) (by omega), e4]; rfl
    have q7 : (done ++ [s]).length = (P ++ [s]).length := by simp [hd]
    have q8 : at_.length ≤ (P ++ [s]).length := by rw [e4]; omega
    have q9 : (at_ ++ [(P.length : Int)]).length ≤ (P ++ [s]).length := by rw [e4, List.length_append]; exact Nat.succ_le_succ ha
    have hP' : (P ++ [s] ++ S).length ≤ 1000000 := by rw [e1]; exact hP
    clear hb hl hP ha
    have s1 := (hS s (by simp)).1
    have s2 := (hS s (by simp)).2
    have hless := less_ev L hL s by_ q6 s1 s2 hI.good
    have hfst := fst_ev (lessW s by_) (lessW_u64 by_ s s2) (by rw [lessW_len by_ s s1 hI.good]; exact hL)
    have hI' := hI.step s s1 s2
    refine Ev.step (f := fun k => (matrix_less.f k s by_).bind fun t148 => ((packed_First.f k t148).bind fun t151 => (if t151 < 0 then (matrix_reduce.l0 k by_ at_ (P ++ s :: S) ((P ++ s :: S).length : Int) (wrap64 ((P.length : Int) + 1))) else (if by_.length < 5864062014805 then (if at_.length < 17592186044416 then (matrix_reduce.l0 k (by_ ++ [t148]) (at_ ++ [(P.length : Int)]) (P ++ s :: S) ((P ++ s :: S).length : Int) (wrap64 ((P.length : Int) + 1))) else (none)) else (none))))) (fun k => ?_) (Ev.bind hless (Ev.bind hfst ?_))
    · rw [matrix_reduce.l0, if_pos q1, if_pos q2, if_pos q1, rd_rowW]
    · have e5 : byOf by_ (s :: S) = byOf (stepW by_ s) S := rfl
      rw [e5, atOf]
      by_cases hx : fstI (lessW s by_) < 0
      · have es : stepW by_ s = by_ := if_pos hx
        have h' := ih (P ++ [s]) (stepW by_ s) (done ++ [s]) at_ hP' q7 q8 hI' (fun r hr => hS r (by simp [hr]))
        rw [e1, e2, e4, es] at h'
        rw [if_pos hx, es]
        refine Ev.congr (fun k => ?_) h'
        rw [if_pos hx]
      · have es : stepW by_ s = by_ ++ [lessW s by_] := if_neg hx
        have h' := ih (P ++ [s]) (stepW by_ s) (done ++ [s]) (at_ ++ [(P.length : Int)]) hP' q7 q9 hI' (fun r hr => hS r (by simp [hr]))
        rw [e1, e2, e4, List.append_assoc, es] at h'
        rw [if_neg hx, es]
        refine Ev.congr (fun k => ?_) h'
        rw [if_neg hx, if_pos q4, if_pos q5]
theorem reduce_ev (L : Nat) (hL : L ≤ 1000000) (rows : List (List Int)) (hn : rows.length ≤ 1000000) (h : ∀ r ∈ rows, r.length = L ∧ ∀ a ∈ r, U64 a) : Ev (fun k => matrix_reduce.f k rows) (byOf [] rows, atOf [] 0 rows) := by
  have := reduce_l0 L hL rows [] [] [] [] (by simpa using hn) rfl (Nat.le_refl _) (RInv.nil L) h
  exact this
end Go.Proofs.YtgocibnmgfmceaaDoor.Pure

namespace Go.Proofs.YtgocibnmgfmceaaDoor.P
open Go.RowKit Go.Proofs.YtgocibnmgfmceaaDoorW.PrintWords Go.Proofs.YtgocibnmgfmceaaDoorW.PrintLast Go.Proofs.YtgocibnmgfmceaaDoorW.PrintErr Go.Proofs.YtgocibnmgfmceaaDoorW.PrintMore
attribute [local go_sem] max2_int min2_int max_two min_two max_three min_three max_four min_four run_eql_errOf run_neq_errOf eqGuard_errOf   -- for this text's walks alone
set_option linter.unusedVariables false
set_option linter.unusedSimpArgs false

/-! ### geyserref03_pivot: function 49 -/
def geyserref03_pivot.l0 : Nat → List (List Bool) → Int → Int → Option (Int)
 | 0, _, _, _ => none
 | k + 1, x0, x2, x7 => if x7 < (x0.length : Int) then (if 0 ≤ x7 then (if 0 ≤ x2 then (if x2 < ((rd_Lsbool x0 x7).length : Int) then (if rdOf false (rd_Lsbool x0 x7) x2 = true then (some x7) else (geyserref03_pivot.l0 k x0 x2 (wrap64 (x7 + 1)))) else (none)) else (none)) else (none)) else (some (-1))
def geyserref03_pivot.f (k : Nat) (l0 : List (List Bool)) (a1 : Int) (a2 : Int) : Option (Int) := geyserref03_pivot.l0 k l0 a2 a1
theorem geyserref03_pivot.mono_l : ∀ k, (∀ y0 y1 y2, LeO (geyserref03_pivot.l0 k y0 y1 y2) (geyserref03_pivot.l0 (k + 1) y0 y1 y2))
 | 0 => fun _ _ _ r h => by simp [geyserref03_pivot.l0] at h
 | k + 1 => by
  have ih0 := geyserref03_pivot.mono_l k
  ·intro y0 y1 y2
   unfold geyserref03_pivot.l0
   repeat' first
   | (with_reducible exact ih0 _ _ _)
   | (with_reducible exact LeO.refl _)
   | (with_reducible exact LeO.none _)
   | (with_reducible refine LeO.ite ?_ ?_)
   | (with_reducible refine LeO.bind ?_ (fun _ => ?_))
   | exact ih0 _ _ _
   | exact LeO.none _
   | refine LeO.ite ?_ ?_
   | refine LeO.bind ?_ (fun _ => ?_)
theorem geyserref03_pivot.mono : ∀ a0 a1 a2 k, LeO (geyserref03_pivot.f k a0 a1 a2) (geyserref03_pivot.f (k + 1) a0 a1 a2) := by
 intro a0 a1 a2 k
 have ih0 := geyserref03_pivot.mono_l k
 unfold geyserref03_pivot.f
 repeat' first
   | (with_reducible exact ih0 _ _ _)
   | (with_reducible exact LeO.refl _)
   | (with_reducible exact LeO.none _)
   | (with_reducible refine LeO.ite ?_ ?_)
   | (with_reducible refine LeO.bind ?_ (fun _ => ?_))
   | exact ih0 _ _ _
   | exact LeO.none _
   | refine LeO.ite ?_ ?_
   | refine LeO.bind ?_ (fun _ => ?_)
set_option maxHeartbeats 8000000 in
set_option maxRecDepth 100000 in
theorem geyserref03_pivot.calls (k : Nat) (A0 : Option Addr) (c0 : Nat) (l0 : List (List Bool)) (a1 : Int) (a2 : Int) (r : Int) (w : World) (hr0 : Kd.C (Kd.slice 4 Kd.bool) w A0 l0.length l0) (hc0 : l0.length ≤ c0) (h : geyserref03_pivot.f k l0 a1 a2 = some r) :
  Calls Tryd.prog 49 #[.slice A0 l0.length c0, .int .i64 a1, .int .i64 a2] w fun e w' => e = .returned (.int .i64 r) ∧ Drawn0 w w' := by
 have HR0 := Aside0.mk hr0
 have HC0 := Aside0.mk hc0
 clear hr0 hc0
 have H : (geyserref03_pivot.l0 k l0 a2 a1) = some r := h
 clear h
 have H' := Aside0.mk H
 clear H
 go_enter Tryd.func49, Tryd.ntmps49
 go_wp2
 go_loopg [7] k (fun kq v7 w' => ∃ (x7_1 : Int), v7 = .int .i64 x7_1 ∧ Aside0 (geyserref03_pivot.l0 kq l0 a2 x7_1 = some r) ∧ Aside0 (kq ≤ k) ∧ Drawn0 w w')
 case atStart => exact ⟨(a1), (by first | rfl | (simp; done) | (simp [*]; done)), H', ⟨Nat.le_refl _⟩, by repeat (first | exact Drawn0.refl _ | apply Drawn0.step)⟩
 case round =>
  clear H'
  try clear p2
  obtain ⟨x7_1, rfl, HA, HK1, ⟨m1, rfl⟩⟩ := hrel
  cases gk with
  | zero => exact absurd HA.out (by simp [geyserref03_pivot.l0])
  | succ k1 =>
   have H := HA.out
   clear HA
   simp only [geyserref03_pivot.l0] at H
   by_cases c4 : x7_1 < (l0.length : Int)
   ·rw [if_pos c4] at H
    have c4b0 : decide (x7_1 < (l0.length : Int)) = true := decide_eq_true c4
    clear c4
    by_cases c5 : 0 ≤ x7_1
    ·rw [if_pos c5] at H
     have c5b0 : decide (0 ≤ x7_1) = true := decide_eq_true c5
     clear c5
     by_cases c6 : 0 ≤ a2
     ·rw [if_pos c6] at H
      have c6b0 : decide (0 ≤ a2) = true := decide_eq_true c6
      clear c6
      by_cases c7 : a2 < ((rd_Lsbool l0 x7_1).length : Int)
      ·rw [if_pos c7] at H
       have c7b0 : decide (a2 < ((rd_Lsbool l0 x7_1).length : Int)) = true := decide_eq_true c7
       clear c7
       obtain ⟨bq8, hbq8⟩ : ∃ b_ : Bool, b_ = (rdOf false (rd_Lsbool l0 x7_1) a2) := ⟨_, rfl⟩
       replace H : (if bq8 = true then (some x7_1) else (geyserref03_pivot.l0 k1 l0 a2 (wrap64 (x7_1 + 1)))) = some r := by rw [← hbq8] at H; exact H
       have Nbq8 := Aside0.mk hbq8
       clear hbq8
       by_cases c9 : bq8 = true
       ·subst c9
        have H1 : (some x7_1) = some r := by rw [if_pos rfl] at H; exact H
        clear H
        have H := H1
        clear H1
        obtain rfl := Option.some.inj H
        have p314 : 0 ≤ (x7_1 : Int) := of_decide_eq_true (by first | (with_reducible assumption) | assumption)
        have q314 : x7_1 < (l0.length : Int) := of_decide_eq_true (by first | (with_reducible assumption) | assumption)
        obtain ⟨ad314, A314_0, c314_0, e314, hx314_0, hl314_0, hi314_0⟩ := at_Lsbool HR0.out x7_1 p314 q314
        cases e314
        have HR314_0 := Aside0.mk hi314_0
        have HC314_0 := Aside0.mk hl314_0
        clear hi314_0 hl314_0
        replace p314 := eq_true p314
        replace q314 := eq_true q314
        have p315 : 0 ≤ (a2 : Int) := of_decide_eq_true (by first | (with_reducible assumption) | assumption)
        have q315 : a2 < ((rd_Lsbool l0 x7_1).length : Int) := of_decide_eq_true (by first | (with_reducible assumption) | assumption)
        obtain ⟨ad315, e315, hx315_0⟩ := Kd.at_bool HR314_0.out a2 p315 q315
        (try rw [← Nbq8.out] at hx315_0)
        cases e315
        replace p315 := eq_true p315
        replace q315 := eq_true q315
        go_wp2
        go_ret
        exact ⟨by first | rfl | (simp; done) | (simp [*]; done), by repeat (first | exact Drawn0.refl _ | apply Drawn0.step)⟩
       ·replace c9 := Bool.eq_false_iff.mpr c9
        subst c9
        have H1 : (geyserref03_pivot.l0 k1 l0 a2 (wrap64 (x7_1 + 1))) = some r := by rw [if_neg (show ¬ (false = true) by decide)] at H; exact H
        clear H
        have H := H1
        clear H1
        have H' := Aside0.mk H
        clear H
        have p314 : 0 ≤ (x7_1 : Int) := of_decide_eq_true (by first | (with_reducible assumption) | assumption)
        have q314 : x7_1 < (l0.length : Int) := of_decide_eq_true (by first | (with_reducible assumption) | assumption)
        obtain ⟨ad314, A314_0, c314_0, e314, hx314_0, hl314_0, hi314_0⟩ := at_Lsbool HR0.out x7_1 p314 q314
        cases e314
        have HR314_0 := Aside0.mk hi314_0
        have HC314_0 := Aside0.mk hl314_0
        clear hi314_0 hl314_0
        replace p314 := eq_true p314
        replace q314 := eq_true q314
        have p315 : 0 ≤ (a2 : Int) := of_decide_eq_true (by first | (with_reducible assumption) | assumption)
        have q315 : a2 < ((rd_Lsbool l0 x7_1).length : Int) := of_decide_eq_true (by first | (with_reducible assumption) | assumption)
        obtain ⟨ad315, e315, hx315_0⟩ := Kd.at_bool HR314_0.out a2 p315 q315
        (try rw [← Nbq8.out] at hx315_0)
        cases e315
        replace p315 := eq_true p315
        replace q315 := eq_true q315
        go_wp2
        go_roundg k1
        case measure => have := HK1.out; omega
        case rel => exact ⟨(wrap64 (x7_1 + 1)), (by first | rfl | (simp; done) | (simp [*]; done)), H', ⟨by have := HK1.out; omega⟩, by repeat (first | exact Drawn0.refl _ | apply Drawn0.step)⟩
      ·rw [if_neg c7] at H
       exact absurd H (by simp)
     ·rw [if_neg c6] at H
      exact absurd H (by simp)
    ·rw [if_neg c5] at H
     exact absurd H (by simp)
   ·rw [if_neg c4] at H
    have c4b0 : decide (x7_1 < (l0.length : Int)) = false := decide_eq_false c4
    clear c4
    obtain rfl := Option.some.inj H
    go_wp2
    go_ret
    exact ⟨by first | rfl | (simp; done) | (simp [*]; done), by repeat (first | exact Drawn0.refl _ | apply Drawn0.step)⟩


/-! ### geyserref03_sum: function 60 -/
def geyserref03_sum.l0 : Nat → List Bool → List Bool → List Bool → Int → Option (List Bool)
 | 0, _, _, _, _ => none
 | k + 1, x0, x1, x5, x6 => if x6 < (x0.length : Int) then (if 0 ≤ x6 then (if x6 < (x1.length : Int) then (if x6 < (x5.length : Int) then (geyserref03_sum.l0 k x0 x1 (x5.set (x6 : Int).toNat ((rdOf false x0 x6) != (rdOf false x1 x6))) (wrap64 (x6 + 1))) else (none)) else (none)) else (none)) else (some x5)
def geyserref03_sum.f (k : Nat) (l0 : List Bool) (l1 : List Bool) : Option (List Bool) := if 0 ≤ (l0.length : Int) then (if ((l0.length : Int) : Int).toNat ≤ 281474976710656 then (geyserref03_sum.l0 k l0 l1 (List.replicate ((l0.length : Int) : Int).toNat false) 0) else (none)) else (none)
theorem geyserref03_sum.mono_l : ∀ k, (∀ y0 y1 y2 y3, LeO (geyserref03_sum.l0 k y0 y1 y2 y3) (geyserref03_sum.l0 (k + 1) y0 y1 y2 y3))
 | 0 => fun _ _ _ _ r h => by simp [geyserref03_sum.l0] at h
 | k + 1 => by
  have ih0 := geyserref03_sum.mono_l k
  ·intro y0 y1 y2 y3
   unfold geyserref03_sum.l0
   repeat' first
   | (with_reducible exact ih0 _ _ _ _)
   | (with_reducible exact LeO.refl _)
   | (with_reducible exact LeO.none _)
   | (with_reducible refine LeO.ite ?_ ?_)
   | (with_reducible refine LeO.bind ?_ (fun _ => ?_))
   | exact ih0 _ _ _ _
   | exact LeO.none _
   | refine LeO.ite ?_ ?_
   | refine LeO.bind ?_ (fun _ => ?_)
theorem geyserref03_sum.mono : ∀ a0 a1 k, LeO (geyserref03_sum.f k a0 a1) (geyserref03_sum.f (k + 1) a0 a1) := by
 intro a0 a1 k
 have ih0 := geyserref03_sum.mono_l k
 unfold geyserref03_sum.f
 repeat' first
   | (with_reducible exact ih0 _ _ _ _)
   | (with_reducible exact LeO.refl _)
   | (with_reducible exact LeO.none _)
   | (with_reducible refine LeO.ite ?_ ?_)
   | (with_reducible refine LeO.bind ?_ (fun _ => ?_))
   | exact ih0 _ _ _ _
   | exact LeO.none _
   | refine LeO.ite ?_ ?_
   | refine LeO.bind ?_ (fun _ => ?_)
def geyserref03_sum.T5 : Bool × List (List Nat × List Nat) := (true, [([], []), ([], []), ([], []), ([], []), ([2, 3], [2, 3]), ([4], [4]), ([], []), ([], []), ([6, 7], [6, 7]), ([8], [8]), ([5, 9], [5, 9]), ([0, 1, 0, 1, 2, 3, 4, 5, 6, 7, 8, 9, 10], [0, 1]), ([11, 10, 0, 1, 2, 3, 4, 5, 6, 7, 8, 9, 10], [10, 11])])
def geyserref03_sum.B5 : List Nat := [0, 0, 0, 0, 12, 28, 0, 0, 192, 448, 1020, 2047, 4095]
theorem geyserref03_sum.tab5 : rtab .any (opsOf Tryd.f60 5) = geyserref03_sum.T5 := by kernel_rfl
theorem geyserref03_sum.bits5 : waitsOk geyserref03_sum.T5.2 geyserref03_sum.B5 = true := by kernel_rfl
set_option maxHeartbeats 8000000 in
set_option maxRecDepth 100000 in
theorem geyserref03_sum.calls (k : Nat) (A0 : Option Addr) (c0 : Nat) (l0 : List Bool) (A1 : Option Addr) (c1 : Nat) (l1 : List Bool) (r : List Bool) (w : World) (hr0 : Kd.C Kd.bool w A0 l0.length l0) (hc0 : l0.length ≤ c0) (hr1 : Kd.C Kd.bool w A1 l1.length l1) (hc1 : l1.length ≤ c1) (h : geyserref03_sum.f k l0 l1 = some r) :
  Calls Tryd.prog 60 #[.slice A0 l0.length c0, .slice A1 l1.length c1] w fun e w' => ∃ v0_ : Value, e = .returned (v0_) ∧ Kd.R Kd.bool 4 w' w.heap.size (fun _ => True) v0_ r ∧ Below w.heap.size w w' := by
 have HR0 := Aside0.mk hr0
 have HC0 := Aside0.mk hc0
 clear hr0 hc0
 have HR1 := Aside0.mk hr1
 have HC1 := Aside0.mk hc1
 clear hr1 hc1
 have HB := Aside0.mk (Below.refl w.heap.size w)
 have H : (if 0 ≤ (l0.length : Int) then (if ((l0.length : Int) : Int).toNat ≤ 281474976710656 then (geyserref03_sum.l0 k l0 l1 (List.replicate ((l0.length : Int) : Int).toNat false) 0) else (none)) else (none)) = some r := h
 clear h
 by_cases c3 : 0 ≤ (l0.length : Int)
 ·rw [if_pos c3] at H
  have c3b0 := eq_true c3
  have c3b1 : decide (0 ≤ (l0.length : Int)) = true := decide_eq_true c3
  clear c3
  by_cases c4 : ((l0.length : Int) : Int).toNat ≤ 281474976710656
  ·rw [if_pos c4] at H
   have c4b0 := eq_true c4
   have c4b1 : decide (((l0.length : Int) : Int).toNat ≤ 281474976710656) = true := decide_eq_true c4
   clear c4
   obtain ⟨y316, hy316⟩ : ∃ y_ : List Bool, y_ = (List.replicate ((l0.length : Int) : Int).toNat false) := ⟨_, rfl⟩
   replace H : (geyserref03_sum.l0 k l0 l1 y316 0) = some r := by first | (rw [hy316]; with_reducible exact H) | (have H2_ := (Option.bind_some _ _).symm.trans H; rw [hy316]; with_reducible exact H2_) | (have H2_ := (Option.bind_some _ _).symm.trans H; with_reducible exact H2_) | with_reducible exact H | (rw [hy316]; exact H) | exact H
   have Ny316 := Aside0.mk hy316
   clear hy316
   have H' := Aside0.mk H
   clear H
   go_enter Tryd.func60, Tryd.ntmps60
   go_wp2_with (first | ((with_reducible refine gate_dst (N := 9) rfl ?_); refine Kd.R_make Kd.bool _ 4 rfl (N := 9) rfl 23 _ _ rfl (l0.length : Int) rfl rfl Tryd.underlying23 (.bool false) 1 info4 rfl (by decide) (by omega) false (ok := fun _ => True) (okp := fun _ => True) rfl (fun _ hk => hk) trivial (of_decide_eq_true (by first | (with_reducible assumption) | assumption)) (Nat.le_trans (Nat.mul_le_mul_right _ (of_decide_eq_true (by first | (with_reducible assumption) | assumption) : (l0.length : Int).toNat ≤ 281474976710656)) (by omega)) (Below.refl _ _) (Nat.le_refl _) ?_; intro v317 w5 ho6 hb hg_ hnew_; clear hg_ hnew_; (first | rw [← Ny316.out] at ho6 | (simp only [Int.reduceToNat] at ho6; rw [← Ny316.out] at ho6)); have n0_ := Aside0.mk (Kd.R_lower ho6 (below_size (by repeat (first | (with_reducible first | exact HB.out | apply below_alloc | apply pw_below_drewN | apply below_drew1) | exact HB.out)))); have n1_ := Aside0.mk (below_step (by repeat (first | (with_reducible first | exact HB.out | apply below_alloc | apply pw_below_drewN | apply below_drew1) | exact HB.out)) hb); clear HB; have HO318 := n0_; have HB := n1_; clear n0_ n1_; clear hb ho6))
   go_loopg [6] k (fun kq v6 w' => ∃ (x5_1 : List Bool) (x6_1 : Int), v6 = .int .i64 x6_1 ∧ Aside0 (geyserref03_sum.l0 kq l0 l1 x5_1 x6_1 = some r) ∧ Aside0 (kq ≤ k) ∧ Aside0 (Kd.R Kd.bool 4 w' w.heap.size (fun _ => True) v317 x5_1) ∧ Aside0 (Below w.heap.size w w'))
   case atStart => exact ⟨(y316), (0), (by first | rfl | (simp; done) | (simp [*]; done)), H', ⟨Nat.le_refl _⟩, ⟨by (with_reducible repeat (first | apply Kd.R_alloc | apply Kd.R_drewN | apply Kd.R_drew)); exact HO318.out⟩, ⟨by repeat (first | (with_reducible first | exact HB.out | apply below_alloc | apply pw_below_drewN | apply below_drew1) | exact HB.out)⟩⟩
   case round =>
    clear H'
    try clear c1
    try clear p2
    try clear c3
    try clear c3b0
    try clear c3b1
    try clear c4
    try clear c4b0
    try clear c4b1
    try clear c6
    obtain ⟨x5_1, x6_1, rfl, HA, HK1, HO_5, HB⟩ := hrel
    cases gk with
    | zero => exact absurd HA.out (by simp [geyserref03_sum.l0])
    | succ k1 =>
     have H := HA.out
     clear HA
     simp only [geyserref03_sum.l0] at H
     by_cases c7 : x6_1 < (l0.length : Int)
     ·rw [if_pos c7] at H
      have c7b0 : decide (x6_1 < (l0.length : Int)) = true := decide_eq_true c7
      clear c7
      by_cases c8 : 0 ≤ x6_1
      ·rw [if_pos c8] at H
       have c8b0 : decide (0 ≤ x6_1) = true := decide_eq_true c8
       clear c8
       by_cases c9 : x6_1 < (l1.length : Int)
       ·rw [if_pos c9] at H
        have c9b0 : decide (x6_1 < (l1.length : Int)) = true := decide_eq_true c9
        clear c9
        by_cases c10 : x6_1 < (x5_1.length : Int)
        ·rw [if_pos c10] at H
         have c10b0 : decide (x6_1 < (x5_1.length : Int)) = true := decide_eq_true c10
         clear c10
         obtain ⟨y321, hy321⟩ : ∃ y_ : List Bool, y_ = (x5_1.set (x6_1 : Int).toNat ((rdOf false l0 x6_1) != (rdOf false l1 x6_1))) := ⟨_, rfl⟩
         replace H : (geyserref03_sum.l0 k1 l0 l1 y321 (wrap64 (x6_1 + 1))) = some r := by first | (rw [hy321]; with_reducible exact H) | (have H2_ := (Option.bind_some _ _).symm.trans H; rw [hy321]; with_reducible exact H2_) | (have H2_ := (Option.bind_some _ _).symm.trans H; with_reducible exact H2_) | with_reducible exact H | (rw [hy321]; exact H) | exact H
         have Ny321 := Aside0.mk hy321
         clear hy321
         have H' := Aside0.mk H
         clear H
         try go_wp2
         have n0_ := Aside0.mk (Kd.R_drew HO_5.out)
         have n1_ := Aside0.mk (below_drew1 HB.out)
         clear HO_5
         clear HB
         have HO_5 := n0_
         have HB := n1_
         clear n0_ n1_
         have p319 : 0 ≤ (x6_1 : Int) := of_decide_eq_true (by first | (with_reducible assumption) | assumption)
         have q319 : x6_1 < (l0.length : Int) := of_decide_eq_true (by first | (with_reducible assumption) | assumption)
         obtain ⟨ad319, e319, hx319_0⟩ := Kd.at_bool HR0.out x6_1 p319 q319
         have hw319_0 := hx319_0
         cases e319
         (first | replace hx319_0 := (HB.out.cell (World.block_lt_of_cell? w _ hx319_0)).trans hx319_0 | skip)
         replace p319 := eq_true p319
         replace q319 := eq_true q319
         have p320 : 0 ≤ (x6_1 : Int) := of_decide_eq_true (by first | (with_reducible assumption) | assumption)
         have q320 : x6_1 < (l1.length : Int) := of_decide_eq_true (by first | (with_reducible assumption) | assumption)
         obtain ⟨ad320, e320, hx320_0⟩ := Kd.at_bool HR1.out x6_1 p320 q320
         have hw320_0 := hx320_0
         cases e320
         (first | replace hx320_0 := (HB.out.cell (World.block_lt_of_cell? w _ hx320_0)).trans hx320_0 | skip)
         replace p320 := eq_true p320
         replace q320 := eq_true q320
         have p11 : 0 ≤ (x6_1 : Int) := of_decide_eq_true (by first | (with_reducible assumption) | assumption)
         have q11 : (x6_1 : Int) < ((x5_1.length : Int) : Int) := of_decide_eq_true (by first | (with_reducible assumption) | assumption)
         obtain ⟨go11, co11, eo11, gb11, gl11, cl11, HG11⟩ := Kd.R_form HO_5.out (by omega)
         (first | cases eo11 | (injection eo11 with ea_ en_ ec_; (first | subst ea_ | (injection ea_ with ea_; subst ea_)); subst ec_; clear en_))
         have GB11 := Aside0.mk gb11
         have GG11 := Aside0.mk HG11
         clear gb11 gl11 HG11
         obtain ⟨hx11_0, hf11_0⟩ := Kd.R_celln false HO_5.out (x6_1 : Int) p11 q11
         replace p11 := eq_true p11
         replace q11 := eq_true q11
         have HP13 := Kd.R_putn HO_5.out (x6_1 : Int) ((rdOf false l0 x6_1) != (rdOf false l1 x6_1))
         rw [← Ny321.out] at HP13
         have HQ13 := Aside0.mk HP13
         clear HP13
         refine start_ (n := 13) (S := fun w' => w'.cell? (ad319.add (x6_1).toNat) = some (.bool (rdOf false l0 x6_1)) ∧ w'.cell? (ad320.add (x6_1).toNat) = some (.bool (rdOf false l1 x6_1))) (ds := [12]) #[false, false, false, false, false, false, false, false, false, false, false, false, false] (by kernel_rfl) rfl rfl ⟨((HB.out.cell (World.block_lt_of_cell? w _ hw319_0)).trans hw319_0), ((HB.out.cell (World.block_lt_of_cell? w _ hw320_0)).trans hw320_0)⟩ (fun hHeld => ?_); refine with_tabW geyserref03_sum.tab5 geyserref03_sum.bits5 (fun HT_ HW_ => ?_)
         generalize wr.drew = w12 at HO_5 HB GG11 HQ13 hf11_0 hx11_0 hx319_0 hx320_0 hHeld ⊢
         refine pure_ (i := 0) (N := some 16) (v := ?_) (a' := ?_) #[true, false, false, false, false, false, false, false, false, false, false, false, false] rfl rfl (any_of HT_.out (by kernel_rfl)) (fun _ _ _ h => h) (Or.inl ⟨by rfl, ?_⟩) ?_ ?_
         rotate_left
         ·intro w'
          go_simp
          with_reducible rfl
         rotate_left
         ·simp only [Act.put, List.setIfInBounds_toArray, List.set_cons_zero, List.set_cons_succ, i64_w, i32_w]
          rfl
         refine pure_ (i := 1) (N := some 17) (v := ?_) (a' := ?_) #[true, true, false, false, false, false, false, false, false, false, false, false, false] rfl rfl (any_of HT_.out (by kernel_rfl)) (fun _ _ _ h => h) (Or.inl ⟨by rfl, ?_⟩) ?_ ?_
         rotate_left
         ·intro w'
          go_simp
          with_reducible rfl
         rotate_left
         ·simp only [Act.put, List.setIfInBounds_toArray, List.set_cons_zero, List.set_cons_succ, i64_w, i32_w]
          rfl
         refine pure_ (i := 2) (N := some 18) (v := ?_) (a' := ?_) #[true, true, true, false, false, false, false, false, false, false, false, false, false] rfl rfl (any_of HT_.out (by kernel_rfl)) (fun _ _ _ h => h) (Or.inl ⟨by rfl, ?_⟩) ?_ ?_
         rotate_left
         ·intro w'
          go_simp
          with_reducible rfl
         rotate_left
         ·simp only [Act.put, List.setIfInBounds_toArray, List.set_cons_zero, List.set_cons_succ, i64_w, i32_w]
          rfl
         refine pure_ (i := 3) (N := some 19) (v := ?_) (a' := ?_) #[true, true, true, true, false, false, false, false, false, false, false, false, false] rfl rfl (any_of HT_.out (by kernel_rfl)) (fun _ _ _ h => h) (Or.inl ⟨by rfl, ?_⟩) ?_ ?_
         rotate_left
         ·intro w'
          go_simp
          with_reducible rfl
         rotate_left
         ·simp only [Act.put, List.setIfInBounds_toArray, List.set_cons_zero, List.set_cons_succ, i64_w, i32_w]
          rfl
         refine pure_ (i := 4) (N := some 20) (v := ?_) (a' := ?_) #[true, true, true, true, true, false, false, false, false, false, false, false, false] rfl rfl (any_of HT_.out (by kernel_rfl)) (fun _ _ _ h => h) (Or.inl ⟨by rfl, ?_⟩) ?_ ?_
         rotate_left
         ·intro w'
          go_simp
          with_reducible rfl
         rotate_left
         ·simp only [Act.put, List.setIfInBounds_toArray, List.set_cons_zero, List.set_cons_succ, i64_w, i32_w]
          rfl
         refine pure_ (i := 6) (N := some 22) (v := ?_) (a' := ?_) #[true, true, true, true, true, false, true, false, false, false, false, false, false] rfl rfl (any_of HT_.out (by kernel_rfl)) (fun _ _ _ h => h) (Or.inl ⟨by rfl, ?_⟩) ?_ ?_
         rotate_left
         ·intro w'
          go_simp
          with_reducible rfl
         rotate_left
         ·simp only [Act.put, List.setIfInBounds_toArray, List.set_cons_zero, List.set_cons_succ, i64_w, i32_w]
          rfl
         refine pure_ (i := 7) (N := some 23) (v := ?_) (a' := ?_) #[true, true, true, true, true, false, true, true, false, false, false, false, false] rfl rfl (any_of HT_.out (by kernel_rfl)) (fun _ _ _ h => h) (Or.inl ⟨by rfl, ?_⟩) ?_ ?_
         rotate_left
         ·intro w'
          go_simp
          with_reducible rfl
         rotate_left
         ·simp only [Act.put, List.setIfInBounds_toArray, List.set_cons_zero, List.set_cons_succ, i64_w, i32_w]
          rfl
         refine pure_ (i := 8) (N := some 24) (v := ?_) (a' := ?_) #[true, true, true, true, true, false, true, true, true, false, false, false, false] rfl rfl (any_of HT_.out (by kernel_rfl)) (fun _ _ _ h => h) (Or.inl ⟨by rfl, ?_⟩) ?_ ?_
         rotate_left
         ·intro w'
          go_simp
          with_reducible rfl
         rotate_left
         ·simp only [Act.put, List.setIfInBounds_toArray, List.set_cons_zero, List.set_cons_succ, i64_w, i32_w]
          rfl
         refine take_ (i := 5) (N := some 21) (v := ?_) (a' := ?_) #[true, true, true, true, true, true, true, true, true, false, false, false, false] rfl rfl (take_ofW HT_.out HW_.out (by kernel_rfl)) (fun _ _ _ h => h) (Or.inl ⟨by rfl, ?_⟩) hHeld ?_ ?_
         rotate_left
         ·rintro w' ⟨s0, s1⟩
          go_simp
          with_reducible rfl
         rotate_left
         ·simp only [Act.put, List.setIfInBounds_toArray, List.set_cons_zero, List.set_cons_succ, i64_w, i32_w]
          rfl
         refine take_ (i := 9) (N := some 25) (v := ?_) (a' := ?_) #[true, true, true, true, true, true, true, true, true, true, false, false, false] rfl rfl (take_ofW HT_.out HW_.out (by kernel_rfl)) (fun _ _ _ h => h) (Or.inl ⟨by rfl, ?_⟩) hHeld ?_ ?_
         rotate_left
         ·rintro w' ⟨s0, s1⟩
          go_simp
          with_reducible rfl
         rotate_left
         ·simp only [Act.put, List.setIfInBounds_toArray, List.set_cons_zero, List.set_cons_succ, i64_w, i32_w]
          rfl
         refine pure_ (i := 10) (N := some 26) (v := ?_) (a' := ?_) #[true, true, true, true, true, true, true, true, true, true, true, false, false] rfl rfl (any_of HT_.out (by kernel_rfl)) (fun _ _ _ h => h) (Or.inl ⟨by rfl, ?_⟩) ?_ ?_
         rotate_left
         ·intro w'
          go_simp
          with_reducible rfl
         rotate_left
         ·simp only [Act.put, List.setIfInBounds_toArray, List.set_cons_zero, List.set_cons_succ, i64_w, i32_w]
          rfl
         refine pure_ (i := 11) (N := some 27) (v := ?_) (a' := ?_) #[true, true, true, true, true, true, true, true, true, true, true, true, false] rfl rfl (any_of HT_.out (by kernel_rfl)) (fun _ _ _ h => h) (Or.inl ⟨by rfl, ?_⟩) ?_ ?_
         rotate_left
         ·intro w'
          go_simp
          with_reducible rfl
         rotate_left
         ·simp only [Act.put, List.setIfInBounds_toArray, List.set_cons_zero, List.set_cons_succ, i64_w, i32_w]
          rfl
         refine last_ (i := 12) (N := none) #[true, true, true, true, true, true, true, true, true, true, true, true, true] rfl rfl (one_of HT_.out (by kernel_rfl)) (by decide) (fun K hK => ?_)
         refine skip_ (w1 := ?_) (by rfl) rfl ?_ ?_
         rotate_left
         ·go_simp
          rfl
         refine hK.out _ _ ?_
         clear hK K
         refine done_ (done_of HT_.out (by kernel_rfl)) ?_
         try go_wp2
         go_roundg k1
         case measure => have := HK1.out; omega
         case rel => exact ⟨(y321), (wrap64 (x6_1 + 1)), (by first | rfl | (simp; done) | (simp [*]; done)), H', ⟨by have := HK1.out; omega⟩, ⟨by (with_reducible repeat (first | apply Kd.R_alloc | apply Kd.R_drewN | apply Kd.R_drew)); exact HQ13.out⟩, ⟨by repeat (first | (with_reducible first | exact HB.out | apply below_alloc | apply pw_below_drewN | apply below_drew1 | refine below_set ?_ GB11.out) | exact HB.out)⟩⟩
        ·rw [if_neg c10] at H
         exact absurd H (by simp)
       ·rw [if_neg c9] at H
        exact absurd H (by simp)
      ·rw [if_neg c8] at H
       exact absurd H (by simp)
     ·rw [if_neg c7] at H
      have c7b0 : decide (x6_1 < (l0.length : Int)) = false := decide_eq_false c7
      clear c7
      obtain rfl := Option.some.inj H
      go_wp2
      go_ret
      exact ⟨_, by first | rfl | (simp [errW_none, errW_some] <;> rfl) | (simp [*, errW_none, errW_some] <;> rfl), by (with_reducible repeat (first | apply Kd.R_alloc | apply Kd.R_drewN | apply Kd.R_drew)); exact HO_5.out, by repeat (first | (with_reducible first | exact HB.out | apply below_alloc | apply pw_below_drewN | apply below_drew1) | exact HB.out)⟩
  ·rw [if_neg c4] at H
   exact absurd H (by simp)
 ·rw [if_neg c3] at H
  exact absurd H (by simp)


/-! ### geyserref03_clear: function 50 -/
def geyserref03_clear.l0 : Nat → List (List Bool) → Int → Int → List (List Bool) → Int → Option ((List (List Bool)))
 | 0, _, _, _, _, _ => none
 | k + 1, x0, x1, x2, x7, x8 => if x8 < (x0.length : Int) then (if x8 = x1 then (if 0 ≤ x8 then (if x7.length < 5864062014805 then (geyserref03_clear.l0 k x0 x1 x2 (x7 ++ [rd_Lsbool x0 x8]) (wrap64 (x8 + 1))) else (none)) else (none)) else (if 0 ≤ x8 then (if 0 ≤ x2 then (if x2 < ((rd_Lsbool x0 x8).length : Int) then (if rdOf false (rd_Lsbool x0 x8) x2 = true then (if 0 ≤ x1 then (if x1 < (x0.length : Int) then ((geyserref03_sum.f k (rd_Lsbool x0 x8) (rd_Lsbool x0 x1)).bind fun t333 => (if x7.length < 5864062014805 then (geyserref03_clear.l0 k x0 x1 x2 (x7 ++ [t333]) (wrap64 (x8 + 1))) else (none))) else (none)) else (none)) else (if x7.length < 5864062014805 then (geyserref03_clear.l0 k x0 x1 x2 (x7 ++ [rd_Lsbool x0 x8]) (wrap64 (x8 + 1))) else (none))) else (none)) else (none)) else (none))) else (some x7)
def geyserref03_clear.f (k : Nat) (l0 : List (List Bool)) (a1 : Int) (a2 : Int) : Option ((List (List Bool))) := geyserref03_clear.l0 k l0 a1 a2 (([] : List (List Bool))) 0
theorem geyserref03_clear.mono_l : ∀ k, (∀ y0 y1 y2 y3 y4, LeO (geyserref03_clear.l0 k y0 y1 y2 y3 y4) (geyserref03_clear.l0 (k + 1) y0 y1 y2 y3 y4))
 | 0 => fun _ _ _ _ _ r h => by simp [geyserref03_clear.l0] at h
 | k + 1 => by
  have ih0 := geyserref03_clear.mono_l k
  ·intro y0 y1 y2 y3 y4
   unfold geyserref03_clear.l0
   repeat' first
   | (with_reducible exact ih0 _ _ _ _ _)
   | (with_reducible exact geyserref03_sum.mono _ _ _)
   | (with_reducible exact LeO.refl _)
   | (with_reducible exact LeO.none _)
   | (with_reducible refine LeO.ite ?_ ?_)
   | (with_reducible refine LeO.bind ?_ (fun _ => ?_))
   | exact ih0 _ _ _ _ _
   | exact geyserref03_sum.mono _ _ _
   | exact LeO.none _
   | refine LeO.ite ?_ ?_
   | refine LeO.bind ?_ (fun _ => ?_)
theorem geyserref03_clear.mono : ∀ a0 a1 a2 k, LeO (geyserref03_clear.f k a0 a1 a2) (geyserref03_clear.f (k + 1) a0 a1 a2) := by
 intro a0 a1 a2 k
 have ih0 := geyserref03_clear.mono_l k
 unfold geyserref03_clear.f
 repeat' first
   | (with_reducible exact ih0 _ _ _ _ _)
   | (with_reducible exact geyserref03_sum.mono _ _ _)
   | (with_reducible exact LeO.refl _)
   | (with_reducible exact LeO.none _)
   | (with_reducible refine LeO.ite ?_ ?_)
   | (with_reducible refine LeO.bind ?_ (fun _ => ?_))
   | exact ih0 _ _ _ _ _
   | exact geyserref03_sum.mono _ _ _
   | exact LeO.none _
   | refine LeO.ite ?_ ?_
   | refine LeO.bind ?_ (fun _ => ?_)
def geyserref03_clear.T6 : Bool × List (List Nat × List Nat) := (true, [([], []), ([], []), ([], []), ([1, 2], [1, 2]), ([3], [3]), ([], []), ([], []), ([5, 6], [5, 6]), ([7], [7]), ([4, 8], [4, 8]), ([9], [9]), ([0, 10, 9], [0, 10]), ([11, 11, 0, 1, 2, 3, 4, 5, 6, 7, 8, 9, 10, 11], [0, 11])])
def geyserref03_clear.B6 : List Nat := [0, 0, 0, 6, 14, 0, 0, 96, 224, 510, 1022, 2047, 4095]
theorem geyserref03_clear.tab6 : rtab .any (opsOf Tryd.f50 6) = geyserref03_clear.T6 := by kernel_rfl
theorem geyserref03_clear.bits6 : waitsOk geyserref03_clear.T6.2 geyserref03_clear.B6 = true := by kernel_rfl
set_option maxHeartbeats 8000000 in
set_option maxRecDepth 100000 in
theorem geyserref03_clear.calls (k : Nat) (P0_ : Nat → Prop) (A0 : Option Addr) (c0 : Nat) (l0 : List (List Bool)) (a1 : Int) (a2 : Int) (r : List (List Bool)) (w : World) (hs0 : Kd.V (Kd.slice 4 Kd.bool) 23 w w.heap.size (fun k_ => P0_ k_) (.slice A0 l0.length c0) l0) (h : geyserref03_clear.f k l0 a1 a2 = some r) :
  Calls Tryd.prog 50 #[.slice A0 l0.length c0, .int .i64 a1, .int .i64 a2] w fun e w' => ∃ v0_ : Value, e = .returned (v0_) ∧ Kd.N (Kd.slice 4 Kd.bool) 23 w' w.heap.size (fun k_ => (P0_ k_ ∨ w.heap.size ≤ k_)) v0_ r ∧ Below w.heap.size w w' := by
 have HO0 := Aside0.mk (show Kd.V (Kd.slice 4 Kd.bool) 23 w w.heap.size (fun k_ => (P0_ k_ ∨ w.heap.size ≤ k_)) (.slice A0 l0.length c0) l0 from Kd.V_mono hs0 (fun k_ hk => .inl hk))
 have HB := Aside0.mk (Below.refl w.heap.size w)
 have H : (geyserref03_clear.l0 k l0 a1 a2 (([] : List (List Bool))) 0) = some r := h
 clear h
 obtain ⟨y322, hy322⟩ : ∃ y_ : List (List Bool), y_ = (([] : List (List Bool))) := ⟨_, rfl⟩
 replace H : (geyserref03_clear.l0 k l0 a1 a2 y322 0) = some r := by first | (rw [hy322]; with_reducible exact H) | (have H2_ := (Option.bind_some _ _).symm.trans H; rw [hy322]; with_reducible exact H2_) | (have H2_ := (Option.bind_some _ _).symm.trans H; with_reducible exact H2_) | with_reducible exact H | (rw [hy322]; exact H) | exact H
 have Ny322 := Aside0.mk hy322
 clear hy322
 have H' := Aside0.mk H
 clear H
 go_enter Tryd.func50, Tryd.ntmps50
 go_wp2_with (first | ((with_reducible refine gate_dst (N := 9) rfl ?_); refine Kd.N_lit (Kd.slice 4 Kd.bool) _ 23 ?hg (N' := 9) ?hd (xs := ([] : List (List Bool))) (inner := []) (ok := (fun k_ => (P0_ k_ ∨ w.heap.size ≤ k_))) (okp := (fun k_ => (P0_ k_ ∨ w.heap.size ≤ k_))) ?hr ?hp (fun _ hk => hk) ((show ∀ k_, w.heap.size ≤ k_ → (fun k_ => (P0_ k_ ∨ w.heap.size ≤ k_)) k_ from fun k_ hk => (.inr (Nat.le_trans (below_size (by repeat (first | (with_reducible first | exact HB.out | apply below_alloc | apply pw_below_drewN | apply below_drew1) | exact HB.out))) hk))) _ (Nat.le_refl _)) (Below.refl _ _) (Nat.le_refl _) (by simp) ?_; (case hd => rfl); (case hg => rfl); (case hr => first | (go_simp; done) | (go_simp; rfl)); (case hp => exact (Reps.none _ _)); intro v323 w4 ho5 hb hg_ hnew_; clear hg_ hnew_; (first | rw [← Ny322.out] at ho5 | (simp only [Int.reduceToNat] at ho5; rw [← Ny322.out] at ho5)); have n0_ := Aside0.mk (Kd.V_elder' (by (with_reducible repeat (first | apply Kd.V_alloc | apply Kd.V_drewN | apply Kd.V_drew)); exact HO0.out) (Kd.N_base ho5) hb); have n1_ := Aside0.mk (Kd.N_lower ho5 (below_size (by repeat (first | (with_reducible first | exact HB.out | apply below_alloc | apply pw_below_drewN | apply below_drew1) | exact HB.out)))); have n2_ := Aside0.mk (below_step (by repeat (first | (with_reducible first | exact HB.out | apply below_alloc | apply pw_below_drewN | apply below_drew1) | exact HB.out)) hb); clear HO0; clear HB; have HO0 := n0_; have HO324 := n1_; have HB := n2_; clear n0_ n1_ n2_; clear hb ho5))
 go_loopg [7, 8] k (fun kq v7 v8 w' => ∃ (x7_1 : List (List Bool)) (x8_1 : Int), v8 = .int .i64 x8_1 ∧ Aside0 (geyserref03_clear.l0 kq l0 a1 a2 x7_1 x8_1 = some r) ∧ Aside0 (kq ≤ k) ∧ Aside0 (Kd.V (Kd.slice 4 Kd.bool) 23 w' w.heap.size (fun k_ => (P0_ k_ ∨ w.heap.size ≤ k_) ∧ some k_ ≠ (v7 : Value).ownBlock) (.slice A0 l0.length c0) l0) ∧ Aside0 (Kd.N (Kd.slice 4 Kd.bool) 23 w' w.heap.size (fun k_ => (P0_ k_ ∨ w.heap.size ≤ k_)) v7 x7_1) ∧ Aside0 (Below w.heap.size w w'))
 case atStart => exact ⟨(y322), (0), (by first | rfl | (simp; done) | (simp [*]; done)), H', ⟨Nat.le_refl _⟩, ⟨by (with_reducible repeat (first | apply Kd.V_alloc | apply Kd.V_drewN | apply Kd.V_drew)); exact HO0.out⟩, ⟨by (with_reducible repeat (first | apply Kd.N_alloc | apply Kd.N_drewN | apply Kd.N_drew)); exact HO324.out⟩, ⟨by repeat (first | (with_reducible first | exact HB.out | apply below_alloc | apply pw_below_drewN | apply below_drew1) | exact HB.out)⟩⟩
 case round =>
  clear H'
  try clear p2
  try clear c5
  obtain ⟨x7_1, x8_1, rfl, HA, HK1, HO_0, HO_7, HB⟩ := hrel
  cases gk with
  | zero => exact absurd HA.out (by simp [geyserref03_clear.l0])
  | succ k1 =>
   have H := HA.out
   clear HA
   simp only [geyserref03_clear.l0] at H
   by_cases c6 : x8_1 < (l0.length : Int)
   ·rw [if_pos c6] at H
    have c6b0 : decide (x8_1 < (l0.length : Int)) = true := decide_eq_true c6
    clear c6
    by_cases c7 : x8_1 = a1
    ·rw [if_pos c7] at H
     have c7b0 : (x8_1 == a1) = true := beq_iff_eq.mpr c7
     have c7b1 : (x8_1 != a1) = false := bne_eq_false_iff_eq.mpr c7
     clear c7
     by_cases c8 : 0 ≤ x8_1
     ·rw [if_pos c8] at H
      have c8b0 : decide (0 ≤ x8_1) = true := decide_eq_true c8
      clear c8
      by_cases c9 : x7_1.length < 5864062014805
      ·rw [if_pos c9] at H
       have LMc9 := Aside0.mk c9
       clear c9
       obtain ⟨y326, hy326⟩ : ∃ y_ : List (List Bool), y_ = (x7_1 ++ [rd_Lsbool l0 x8_1]) := ⟨_, rfl⟩
       replace H : (geyserref03_clear.l0 k1 l0 a1 a2 y326 (wrap64 (x8_1 + 1))) = some r := by first | (rw [hy326]; with_reducible exact H) | (have H2_ := (Option.bind_some _ _).symm.trans H; rw [hy326]; with_reducible exact H2_) | (have H2_ := (Option.bind_some _ _).symm.trans H; with_reducible exact H2_) | with_reducible exact H | (rw [hy326]; exact H) | exact H
       have Ny326 := Aside0.mk hy326
       clear hy326
       have H' := Aside0.mk H
       clear H
       have p325 : 0 ≤ (x8_1 : Int) := of_decide_eq_true (by first | (with_reducible assumption) | assumption)
       have q325 : x8_1 < (l0.length : Int) := of_decide_eq_true (by first | (with_reducible assumption) | assumption)
       obtain ⟨ad325, A325_0, c325_0, e325, hx325_0, hl325_0, hi325_0⟩ := at_Lsbool (Kd.V_reads' HO_0.out).2.2 x8_1 p325 q325
       cases e325
       obtain ⟨ce325, hce325, hMe325, hcc325⟩ := Kd.V_get HO_0.out [] x8_1 p325 (by first | exact q325 | exact of_decide_eq_true (by first | (with_reducible assumption) | assumption) | (have e_ := (Kd.V_reads' HO_0.out).1; omega))
       obtain ⟨ua325_0, uc325_0, rfl, ul325_0, ge325_0⟩ := Kd.FK_slice_open hMe325
       have hv325_0 := hcc325 0 _ rfl
       rw [Nat.add_zero, show ((Kd.slice 4 Kd.bool)).sz = 1 from rfl, Nat.mul_one] at hv325_0
       replace hv325_0 := Option.some.inj (hv325_0.symm.trans hx325_0)
       injection hv325_0 with hva_ hvn_ hvc_
       rw [hva_] at ge325_0
       rw [hvc_] at ul325_0
       have HL325_0 := Aside0.mk (show Kd.V Kd.bool 4 _ w.heap.size _ _ (rd_Lsbool l0 x8_1) from Kd.V_mk ul325_0 ge325_0)
       clear hva_ hvn_ hvc_ ge325_0 ul325_0
       clear hcc325 hce325
       have HR325_0 := Aside0.mk hi325_0
       have HC325_0 := Aside0.mk hl325_0
       clear hi325_0 hl325_0
       replace p325 := eq_true p325
       replace q325 := eq_true q325
       go_wp2_with (first | ((with_reducible refine gate_builtin (b := .append) (xs := #[.tmp 40, .tmp 45]) rfl ?_); at_builtin; refine Kd.N_append (Kd.slice 4 Kd.bool) (w0 := w) w.heap.size rfl (.tmp 40) (.tmp 45) 65 23 (.slice none 0 0) 24 rfl Tryd.underlying65 info23 rfl (by decide) (by omega) u7 x7_1 (rd_Lsbool l0 x8_1) [.slice A325_0 (rd_Lsbool l0 x8_1).length c325_0] (fun k_ => (P0_ k_ ∨ w.heap.size ≤ k_)) (fun k_ => ((fun k_ => (P0_ k_ ∨ w.heap.size ≤ k_))) k_ ∧ some k_ ≠ (u7 : Value).ownBlock) rfl rfl ?aP (fun _ hk => hk) ?aF ?aO ?aB ?aS ?aL ?_; (case aP => exact (Kd.FK_slice_mk (Kd.V_reads' (Kd.V_mono (ok' := (fun k_ => ((fun k_ => (P0_ k_ ∨ w.heap.size ≤ k_))) k_ ∧ some k_ ≠ (u7 : Value).ownBlock)) (HL325_0.out) (fun k_ hk => ⟨hk.1, hk.2⟩))).2.1 (Kd.V_F (Kd.V_mono (ok' := (fun k_ => ((fun k_ => (P0_ k_ ∨ w.heap.size ≤ k_))) k_ ∧ some k_ ≠ (u7 : Value).ownBlock)) (HL325_0.out) (fun k_ hk => ⟨hk.1, hk.2⟩))))); (case aB => exact (by repeat (first | (with_reducible first | exact HB.out | apply below_alloc | apply pw_below_drewN | apply below_drew1) | exact HB.out))); (case aF => exact (fun k_ hk => (.inr (Nat.le_trans (below_size (by repeat (first | (with_reducible first | exact HB.out | apply below_alloc | apply pw_below_drewN | apply below_drew1) | exact HB.out))) hk)))); (case aO => exact (by (with_reducible repeat (first | apply Kd.N_alloc | apply Kd.N_drewN | apply Kd.N_drew)); exact HO_7.out)); (case aS => exact (below_size (by repeat (first | (with_reducible first | exact HB.out | apply below_alloc | apply pw_below_drewN | apply below_drew1) | exact HB.out)))); (case aL => have := LMc9.out; omega); intro v327 w10 ho hb hg hat; rw [← Ny326.out] at ho; have n0_ := Aside0.mk (Kd.V_afterv (ok := (fun k_ => (P0_ k_ ∨ w.heap.size ≤ k_))) (by (with_reducible repeat (first | apply Kd.V_alloc | apply Kd.V_drewN | apply Kd.V_drew)); exact HO_0.out) hg hat); have n1_ := Aside0.mk (Kd.V_afterv (ok := (fun k_ => (P0_ k_ ∨ w.heap.size ≤ k_))) (by (with_reducible repeat (first | apply Kd.V_alloc | apply Kd.V_drewN | apply Kd.V_drew)); exact HL325_0.out) hg hat); have n2_ := Aside0.mk (hb); have n3_ := Aside0.mk (ho); clear HO_0; clear HL325_0; clear HB; clear HO_7; have HO_0 := n0_; have HL325_0 := n1_; have HB := n2_; have HO328 := n3_; clear n0_ n1_ n2_ n3_; clear ho hb hg hat))
       go_roundg k1
       case measure => have := HK1.out; omega
       case rel => exact ⟨(y326), (wrap64 (x8_1 + 1)), (by first | rfl | (simp; done) | (simp [*]; done)), H', ⟨by have := HK1.out; omega⟩, ⟨by (with_reducible repeat (first | apply Kd.V_alloc | apply Kd.V_drewN | apply Kd.V_drew)); exact HO_0.out⟩, ⟨by (with_reducible repeat (first | apply Kd.N_alloc | apply Kd.N_drewN | apply Kd.N_drew)); exact HO328.out⟩, ⟨by repeat (first | (with_reducible first | exact HB.out | apply below_alloc | apply pw_below_drewN | apply below_drew1) | exact HB.out)⟩⟩
      ·rw [if_neg c9] at H
       exact absurd H (by simp)
     ·rw [if_neg c8] at H
      exact absurd H (by simp)
    ·rw [if_neg c7] at H
     have c7b0 : (x8_1 == a1) = false := beq_eq_false_iff_ne.mpr c7
     have c7b1 : (x8_1 != a1) = true := bne_iff_ne.mpr c7
     by_cases c11 : 0 ≤ x8_1
     ·rw [if_pos c11] at H
      have c11b0 : decide (0 ≤ x8_1) = true := decide_eq_true c11
      clear c11
      by_cases c12 : 0 ≤ a2
      ·rw [if_pos c12] at H
       have c12b0 : decide (0 ≤ a2) = true := decide_eq_true c12
       clear c12
       by_cases c13 : a2 < ((rd_Lsbool l0 x8_1).length : Int)
       ·rw [if_pos c13] at H
        have c13b0 : decide (a2 < ((rd_Lsbool l0 x8_1).length : Int)) = true := decide_eq_true c13
        clear c13
        obtain ⟨bq14, hbq14⟩ : ∃ b_ : Bool, b_ = (rdOf false (rd_Lsbool l0 x8_1) a2) := ⟨_, rfl⟩
        replace H : (if bq14 = true then (if 0 ≤ a1 then (if a1 < (l0.length : Int) then ((geyserref03_sum.f k1 (rd_Lsbool l0 x8_1) (rd_Lsbool l0 a1)).bind fun t333 => (if x7_1.length < 5864062014805 then (geyserref03_clear.l0 k1 l0 a1 a2 (x7_1 ++ [t333]) (wrap64 (x8_1 + 1))) else (none))) else (none)) else (none)) else (if x7_1.length < 5864062014805 then (geyserref03_clear.l0 k1 l0 a1 a2 (x7_1 ++ [rd_Lsbool l0 x8_1]) (wrap64 (x8_1 + 1))) else (none))) = some r := by rw [← hbq14] at H; exact H
        have Nbq14 := Aside0.mk hbq14
        clear hbq14
        by_cases c15 : bq14 = true
        ·subst c15
         have H1 : (if 0 ≤ a1 then (if a1 < (l0.length : Int) then ((geyserref03_sum.f k1 (rd_Lsbool l0 x8_1) (rd_Lsbool l0 a1)).bind fun t333 => (if x7_1.length < 5864062014805 then (geyserref03_clear.l0 k1 l0 a1 a2 (x7_1 ++ [t333]) (wrap64 (x8_1 + 1))) else (none))) else (none)) else (none)) = some r := by rw [if_pos rfl] at H; exact H
         clear H
         have H := H1
         clear H1
         by_cases c16 : 0 ≤ a1
         ·rw [if_pos c16] at H
          have c16b0 : decide (0 ≤ a1) = true := decide_eq_true c16
          clear c16
          by_cases c17 : a1 < (l0.length : Int)
          ·rw [if_pos c17] at H
           have c17b0 : decide (a1 < (l0.length : Int)) = true := decide_eq_true c17
           clear c17
           replace H := Option.bind_eq_some_iff.mp H
           obtain ⟨t333, A180, H⟩ := H
           replace H : (if x7_1.length < 5864062014805 then (geyserref03_clear.l0 k1 l0 a1 a2 (x7_1 ++ [t333]) (wrap64 (x8_1 + 1))) else (none)) = some r := H
           have A18 := Aside0.mk A180
           clear A180
           by_cases c19 : x7_1.length < 5864062014805
           ·rw [if_pos c19] at H
            have LMc19 := Aside0.mk c19
            clear c19
            obtain ⟨y336, hy336⟩ : ∃ y_ : List (List Bool), y_ = (x7_1 ++ [t333]) := ⟨_, rfl⟩
            replace H : (geyserref03_clear.l0 k1 l0 a1 a2 y336 (wrap64 (x8_1 + 1))) = some r := by first | (rw [hy336]; with_reducible exact H) | (have H2_ := (Option.bind_some _ _).symm.trans H; rw [hy336]; with_reducible exact H2_) | (have H2_ := (Option.bind_some _ _).symm.trans H; with_reducible exact H2_) | with_reducible exact H | (rw [hy336]; exact H) | exact H
            have Ny336 := Aside0.mk hy336
            clear hy336
            have H' := Aside0.mk H
            clear H
            have p329 : 0 ≤ (x8_1 : Int) := of_decide_eq_true (by first | (with_reducible assumption) | assumption)
            have q329 : x8_1 < (l0.length : Int) := of_decide_eq_true (by first | (with_reducible assumption) | assumption)
            obtain ⟨ad329, A329_0, c329_0, e329, hx329_0, hl329_0, hi329_0⟩ := at_Lsbool (Kd.V_reads' HO_0.out).2.2 x8_1 p329 q329
            cases e329
            obtain ⟨ce329, hce329, hMe329, hcc329⟩ := Kd.V_get HO_0.out [] x8_1 p329 (by first | exact q329 | exact of_decide_eq_true (by first | (with_reducible assumption) | assumption) | (have e_ := (Kd.V_reads' HO_0.out).1; omega))
            obtain ⟨ua329_0, uc329_0, rfl, ul329_0, ge329_0⟩ := Kd.FK_slice_open hMe329
            have hv329_0 := hcc329 0 _ rfl
            rw [Nat.add_zero, show ((Kd.slice 4 Kd.bool)).sz = 1 from rfl, Nat.mul_one] at hv329_0
            replace hv329_0 := Option.some.inj (hv329_0.symm.trans hx329_0)
            injection hv329_0 with hva_ hvn_ hvc_
            rw [hva_] at ge329_0
            rw [hvc_] at ul329_0
            have HL329_0 := Aside0.mk (show Kd.V Kd.bool 4 _ w.heap.size _ _ (rd_Lsbool l0 x8_1) from Kd.V_mk ul329_0 ge329_0)
            clear hva_ hvn_ hvc_ ge329_0 ul329_0
            clear hcc329 hce329
            have HR329_0 := Aside0.mk hi329_0
            have HC329_0 := Aside0.mk hl329_0
            clear hi329_0 hl329_0
            replace p329 := eq_true p329
            replace q329 := eq_true q329
            have p330 : 0 ≤ (a2 : Int) := of_decide_eq_true (by first | (with_reducible assumption) | assumption)
            have q330 : a2 < ((rd_Lsbool l0 x8_1).length : Int) := of_decide_eq_true (by first | (with_reducible assumption) | assumption)
            obtain ⟨ad330, e330, hx330_0⟩ := Kd.at_bool (by repeat (first | (with_reducible exact HR329_0.out) | (with_reducible refine Kd.C_alloc ?_ _) | (with_reducible refine Kd.C_drewN ?_ _) | (with_reducible refine Kd.C_drew ?_) | exact HR329_0.out)) a2 p330 q330
            (try rw [← Nbq14.out] at hx330_0)
            cases e330
            replace p330 := eq_true p330
            replace q330 := eq_true q330
            try go_wp2
            have n0_ := Aside0.mk (Kd.V_drew HO_0.out)
            have n1_ := Aside0.mk (Kd.N_drew HO_7.out)
            have n2_ := Aside0.mk (Kd.V_drew HL329_0.out)
            have n3_ := Aside0.mk (Kd.C_drew HR329_0.out)
            have n4_ := Aside0.mk (below_drew1 HB.out)
            clear HO_0
            clear HO_7
            clear HL329_0
            clear HR329_0
            clear HB
            have HO_0 := n0_
            have HO_7 := n1_
            have HL329_0 := n2_
            have HR329_0 := n3_
            have HB := n4_
            clear n0_ n1_ n2_ n3_ n4_
            have p331 : 0 ≤ (x8_1 : Int) := of_decide_eq_true (by first | (with_reducible assumption) | assumption)
            have q331 : x8_1 < (l0.length : Int) := of_decide_eq_true (by first | (with_reducible assumption) | assumption)
            obtain ⟨ad331, A331_0, c331_0, e331, hx331_0, hl331_0, hi331_0⟩ := at_Lsbool (Kd.V_reads' HO_0.out).2.2 x8_1 p331 q331
            obtain rfl : ad329 = ad331 := (by injection e331)
            obtain ⟨ce331, hce331, hMe331, hcc331⟩ := Kd.V_get HO_0.out [] x8_1 p331 (by first | exact q331 | exact of_decide_eq_true (by first | (with_reducible assumption) | assumption) | (have e_ := (Kd.V_reads' HO_0.out).1; omega))
            obtain ⟨ua331_0, uc331_0, rfl, ul331_0, ge331_0⟩ := Kd.FK_slice_open hMe331
            have hv331_0 := hcc331 0 _ rfl
            rw [Nat.add_zero, show ((Kd.slice 4 Kd.bool)).sz = 1 from rfl, Nat.mul_one] at hv331_0
            replace hv331_0 := Option.some.inj (hv331_0.symm.trans hx331_0)
            injection hv331_0 with hva_ hvn_ hvc_
            rw [hva_] at ge331_0
            rw [hvc_] at ul331_0
            have HL331_0 := Aside0.mk (show Kd.V Kd.bool 4 _ w.heap.size _ _ (rd_Lsbool l0 x8_1) from Kd.V_mk ul331_0 ge331_0)
            clear hva_ hvn_ hvc_ ge331_0 ul331_0
            clear hcc331 hce331
            have HR331_0 := Aside0.mk hi331_0
            have HC331_0 := Aside0.mk hl331_0
            clear hi331_0 hl331_0
            replace p331 := eq_true p331
            replace q331 := eq_true q331
            have p332 : 0 ≤ (a1 : Int) := of_decide_eq_true (by first | (with_reducible assumption) | assumption)
            have q332 : a1 < (l0.length : Int) := of_decide_eq_true (by first | (with_reducible assumption) | assumption)
            obtain ⟨ad332, A332_0, c332_0, e332, hx332_0, hl332_0, hi332_0⟩ := at_Lsbool (Kd.V_reads' HO_0.out).2.2 a1 p332 q332
            obtain rfl : ad329 = ad332 := (by injection e332)
            obtain ⟨ce332, hce332, hMe332, hcc332⟩ := Kd.V_get HO_0.out [] a1 p332 (by first | exact q332 | exact of_decide_eq_true (by first | (with_reducible assumption) | assumption) | (have e_ := (Kd.V_reads' HO_0.out).1; omega))
            obtain ⟨ua332_0, uc332_0, rfl, ul332_0, ge332_0⟩ := Kd.FK_slice_open hMe332
            have hv332_0 := hcc332 0 _ rfl
            rw [Nat.add_zero, show ((Kd.slice 4 Kd.bool)).sz = 1 from rfl, Nat.mul_one] at hv332_0
            replace hv332_0 := Option.some.inj (hv332_0.symm.trans hx332_0)
            injection hv332_0 with hva_ hvn_ hvc_
            rw [hva_] at ge332_0
            rw [hvc_] at ul332_0
            have HL332_0 := Aside0.mk (show Kd.V Kd.bool 4 _ w.heap.size _ _ (rd_Lsbool l0 a1) from Kd.V_mk ul332_0 ge332_0)
            clear hva_ hvn_ hvc_ ge332_0 ul332_0
            clear hcc332 hce332
            have HR332_0 := Aside0.mk hi332_0
            have HC332_0 := Aside0.mk hl332_0
            clear hi332_0 hl332_0
            replace p332 := eq_true p332
            replace q332 := eq_true q332
            refine start_ (n := 13) (S := fun w' => w'.cell? (ad329.add (x8_1).toNat) = some (.slice A331_0 (rd_Lsbool l0 x8_1).length c331_0) ∧ w'.cell? (ad329.add (a1).toNat) = some (.slice A332_0 (rd_Lsbool l0 a1).length c332_0)) (ds := [10, 11]) #[false, false, false, false, false, false, false, false, false, false, false, false, false] (by kernel_rfl) rfl rfl ⟨hx331_0, hx332_0⟩ (fun hHeld => ?_); refine with_tabW geyserref03_clear.tab6 geyserref03_clear.bits6 (fun HT_ HW_ => ?_)
            generalize wr.drew = w20 at HO_0 HO_7 HL329_0 HR329_0 HB HL331_0 HL332_0 HR331_0 HR332_0 hx331_0 hx332_0 hHeld ⊢
            refine pure_ (i := 0) (N := some 28) (v := ?_) (a' := ?_) #[true, false, false, false, false, false, false, false, false, false, false, false, false] rfl rfl (any_of HT_.out (by kernel_rfl)) (fun _ _ _ h => h) (Or.inl ⟨by rfl, ?_⟩) ?_ ?_
            rotate_left
            ·intro w'
             go_simp
             with_reducible rfl
            rotate_left
            ·simp only [Act.put, List.setIfInBounds_toArray, List.set_cons_zero, List.set_cons_succ, i64_w, i32_w]
             rfl
            refine pure_ (i := 1) (N := some 29) (v := ?_) (a' := ?_) #[true, true, false, false, false, false, false, false, false, false, false, false, false] rfl rfl (any_of HT_.out (by kernel_rfl)) (fun _ _ _ h => h) (Or.inl ⟨by rfl, ?_⟩) ?_ ?_
            rotate_left
            ·intro w'
             go_simp
             with_reducible rfl
            rotate_left
            ·simp only [Act.put, List.setIfInBounds_toArray, List.set_cons_zero, List.set_cons_succ, i64_w, i32_w]
             rfl
            refine pure_ (i := 2) (N := some 30) (v := ?_) (a' := ?_) #[true, true, true, false, false, false, false, false, false, false, false, false, false] rfl rfl (any_of HT_.out (by kernel_rfl)) (fun _ _ _ h => h) (Or.inl ⟨by rfl, ?_⟩) ?_ ?_
            rotate_left
            ·intro w'
             go_simp
             with_reducible rfl
            rotate_left
            ·simp only [Act.put, List.setIfInBounds_toArray, List.set_cons_zero, List.set_cons_succ, i64_w, i32_w]
             rfl
            refine pure_ (i := 3) (N := some 31) (v := ?_) (a' := ?_) #[true, true, true, true, false, false, false, false, false, false, false, false, false] rfl rfl (any_of HT_.out (by kernel_rfl)) (fun _ _ _ h => h) (Or.inl ⟨by rfl, ?_⟩) ?_ ?_
            rotate_left
            ·intro w'
             go_simp
             with_reducible rfl
            rotate_left
            ·simp only [Act.put, List.setIfInBounds_toArray, List.set_cons_zero, List.set_cons_succ, i64_w, i32_w]
             rfl
            refine pure_ (i := 5) (N := some 33) (v := ?_) (a' := ?_) #[true, true, true, true, false, true, false, false, false, false, false, false, false] rfl rfl (any_of HT_.out (by kernel_rfl)) (fun _ _ _ h => h) (Or.inl ⟨by rfl, ?_⟩) ?_ ?_
            rotate_left
            ·intro w'
             go_simp
             with_reducible rfl
            rotate_left
            ·simp only [Act.put, List.setIfInBounds_toArray, List.set_cons_zero, List.set_cons_succ, i64_w, i32_w]
             rfl
            refine pure_ (i := 6) (N := some 34) (v := ?_) (a' := ?_) #[true, true, true, true, false, true, true, false, false, false, false, false, false] rfl rfl (any_of HT_.out (by kernel_rfl)) (fun _ _ _ h => h) (Or.inl ⟨by rfl, ?_⟩) ?_ ?_
            rotate_left
            ·intro w'
             go_simp
             with_reducible rfl
            rotate_left
            ·simp only [Act.put, List.setIfInBounds_toArray, List.set_cons_zero, List.set_cons_succ, i64_w, i32_w]
             rfl
            refine pure_ (i := 7) (N := some 35) (v := ?_) (a' := ?_) #[true, true, true, true, false, true, true, true, false, false, false, false, false] rfl rfl (any_of HT_.out (by kernel_rfl)) (fun _ _ _ h => h) (Or.inl ⟨by rfl, ?_⟩) ?_ ?_
            rotate_left
            ·intro w'
             go_simp
             with_reducible rfl
            rotate_left
            ·simp only [Act.put, List.setIfInBounds_toArray, List.set_cons_zero, List.set_cons_succ, i64_w, i32_w]
             rfl
            refine take_ (i := 4) (N := some 32) (v := ?_) (a' := ?_) #[true, true, true, true, true, true, true, true, false, false, false, false, false] rfl rfl (take_ofW HT_.out HW_.out (by kernel_rfl)) (fun _ _ _ h => h) (Or.inl ⟨by rfl, ?_⟩) hHeld ?_ ?_
            rotate_left
            ·rintro w' ⟨s0, s1⟩
             go_simp
             with_reducible rfl
            rotate_left
            ·simp only [Act.put, List.setIfInBounds_toArray, List.set_cons_zero, List.set_cons_succ, i64_w, i32_w]
             rfl
            refine take_ (i := 8) (N := some 36) (v := ?_) (a' := ?_) #[true, true, true, true, true, true, true, true, true, false, false, false, false] rfl rfl (take_ofW HT_.out HW_.out (by kernel_rfl)) (fun _ _ _ h => h) (Or.inl ⟨by rfl, ?_⟩) hHeld ?_ ?_
            rotate_left
            ·rintro w' ⟨s0, s1⟩
             go_simp
             with_reducible rfl
            rotate_left
            ·simp only [Act.put, List.setIfInBounds_toArray, List.set_cons_zero, List.set_cons_succ, i64_w, i32_w]
             rfl
            refine one_ (i := 9) (N := some 37) #[true, true, true, true, true, true, true, true, true, true, false, false, false] rfl rfl (one_of HT_.out (by kernel_rfl)) (by decide) (fun K hK => ?_)
            refine goes_ Tryd.func60 (by kernel_rfl) rfl #[.slice A331_0 (rd_Lsbool l0 x8_1).length c331_0, .slice A332_0 (rd_Lsbool l0 a1).length c332_0] (by rfl) rfl rfl (by (try simp only [List.map_toArray, List.map_cons, List.map_nil]); first | done | rfl | (simp only [List.length_drop, List.length_take]; rfl)) ?_
            with_reducible refine (geyserref03_sum.calls k1 _ _ (rd_Lsbool l0 x8_1) _ _ (rd_Lsbool l0 a1) t333 _ ?side1 ?side2 ?side3 ?side4 A18.out).mono ?_
            (case side1 => repeat (first | exact (by repeat (first | (with_reducible exact HR331_0.out) | (with_reducible refine Kd.C_alloc ?_ _) | (with_reducible refine Kd.C_drewN ?_ _) | (with_reducible refine Kd.C_drew ?_) | exact HR331_0.out)) | (with_reducible refine Kd.C_alloc ?_ _) | (with_reducible refine Kd.C_drewN ?_ _) | (with_reducible refine Kd.C_drew ?_)))
            (case side2 => exact HC331_0.out)
            (case side3 => repeat (first | exact (by repeat (first | (with_reducible exact HR332_0.out) | (with_reducible refine Kd.C_alloc ?_ _) | (with_reducible refine Kd.C_drewN ?_ _) | (with_reducible refine Kd.C_drew ?_) | exact HR332_0.out)) | (with_reducible refine Kd.C_alloc ?_ _) | (with_reducible refine Kd.C_drewN ?_ _) | (with_reducible refine Kd.C_drew ?_)))
            (case side4 => exact HC332_0.out)
            rintro e w21 ⟨v334, rfl, ho0, hb⟩
            have HS0_ := (hb.cell (World.block_lt_of_cell? _ _ (hHeld.1))).trans (hHeld.1)
            have HS1_ := (hb.cell (World.block_lt_of_cell? _ _ (hHeld.2))).trans (hHeld.2)
            refine ⟨_, rfl, ?_⟩
            have n0_ := Aside0.mk (Kd.V_elder' (by (with_reducible repeat (first | apply Kd.V_alloc | apply Kd.V_drewN | apply Kd.V_drew)); exact HO_0.out) (Kd.R_base ho0) hb)
            have n1_ := Aside0.mk (Kd.N_elder' (by (with_reducible repeat (first | apply Kd.N_alloc | apply Kd.N_drewN | apply Kd.N_drew)); exact HO_7.out) (Kd.R_base ho0) hb)
            have n2_ := Aside0.mk (Kd.V_elder' (by (with_reducible repeat (first | apply Kd.V_alloc | apply Kd.V_drewN | apply Kd.V_drew)); exact HL329_0.out) (Kd.R_base ho0) hb)
            have n3_ := Aside0.mk (Kd.V_elder' (by (with_reducible repeat (first | apply Kd.V_alloc | apply Kd.V_drewN | apply Kd.V_drew)); exact HL331_0.out) (Kd.R_base ho0) hb)
            have n4_ := Aside0.mk (Kd.V_elder' (by (with_reducible repeat (first | apply Kd.V_alloc | apply Kd.V_drewN | apply Kd.V_drew)); exact HL332_0.out) (Kd.R_base ho0) hb)
            have n5_ := Aside0.mk (Kd.R_lower (Kd.R_newM (M := fun k_ => (w.heap.size ≤ k_)) ho0 (below_size (by repeat (first | (with_reducible first | exact HB.out | apply below_alloc | apply pw_below_drewN | apply below_drew1) | exact HB.out))) (fun k_ h_ => h_)) (below_size (by repeat (first | (with_reducible first | exact HB.out | apply below_alloc | apply pw_below_drewN | apply below_drew1) | exact HB.out))))
            have n6_ := Aside0.mk (Kd.C_below (by repeat (first | (with_reducible exact HR329_0.out) | (with_reducible refine Kd.C_alloc ?_ _) | (with_reducible refine Kd.C_drewN ?_ _) | (with_reducible refine Kd.C_drew ?_) | exact HR329_0.out)) hb)
            have n7_ := Aside0.mk (Kd.C_below (by repeat (first | (with_reducible exact HR331_0.out) | (with_reducible refine Kd.C_alloc ?_ _) | (with_reducible refine Kd.C_drewN ?_ _) | (with_reducible refine Kd.C_drew ?_) | exact HR331_0.out)) hb)
            have n8_ := Aside0.mk (Kd.C_below (by repeat (first | (with_reducible exact HR332_0.out) | (with_reducible refine Kd.C_alloc ?_ _) | (with_reducible refine Kd.C_drewN ?_ _) | (with_reducible refine Kd.C_drew ?_) | exact HR332_0.out)) hb)
            have n9_ := Aside0.mk (below_step (by repeat (first | (with_reducible first | exact HB.out | apply below_alloc | apply pw_below_drewN | apply below_drew1) | exact HB.out)) hb)
            clear HO_0
            clear HO_7
            clear HL329_0
            clear HL331_0
            clear HL332_0
            clear HR329_0
            clear HR331_0
            clear HR332_0
            clear HB
            have HO_0 := n0_
            have HO_7 := n1_
            have HL329_0 := n2_
            have HL331_0 := n3_
            have HL332_0 := n4_
            have HO335 := n5_
            have HR329_0 := n6_
            have HR331_0 := n7_
            have HR332_0 := n8_
            have HB := n9_
            clear n0_ n1_ n2_ n3_ n4_ n5_ n6_ n7_ n8_ n9_
            (try clear hb)
            (try clear hb2)
            (try clear hk)
            (try clear hi)
            (try clear ho0)
            obtain ⟨Ao23, co23, eo23⟩ := Kd.R_slice HO335.out
            (first | subst eo23 | (injection eo23 with f1_ f2_ f3_; have f4_ := f1_.symm; have f5_ := f3_.symm; clear f1_ f2_ f3_; subst f4_; subst f5_))
            refine hK.out _ _ ⟨HS0_, HS1_⟩ (fun hHeld => ?_)
            clear hK K
            refine norm_ (a' := ?_) ?_ ?_
            rotate_left
            ·show Act.put _ (some 37) _ = _
             simp only [Act.put, List.setIfInBounds_toArray, List.set_cons_zero, List.set_cons_succ, i64_w, i32_w]
             rfl
            refine last_ (i := 10) (N := some 38) #[true, true, true, true, true, true, true, true, true, true, true, false, false] rfl rfl (one_of HT_.out (by kernel_rfl)) (by decide) (fun K hK => ?_)
            refine value_ (w1 := ?_) (v := ?_) (by rfl) rfl ?_ ?_
            rotate_left 2
            ·go_simp
             constructor
             ·rfl
             ·rfl
            refine hK.out _ _ ?_
            clear hK K
            refine norm_ (a' := ?_) ?_ ?_
            rotate_left
            ·show Act.put _ (some 38) _ = _
             simp only [Act.put, List.setIfInBounds_toArray, List.set_cons_zero, List.set_cons_succ, i64_w, i32_w]
             rfl
            refine last_ (i := 11) (N := some 39) #[true, true, true, true, true, true, true, true, true, true, true, true, false] rfl rfl (one_of HT_.out (by kernel_rfl)) (by decide) (fun K hK => ?_)
            refine Kd.N_append_step (Kd.slice 4 Kd.bool) (w0 := w) w.heap.size (by rfl) (.tmp 28) (.tmp 38) 65 23 (.slice none 0 0) 24 rfl Tryd.underlying65 info23 rfl (by decide) (by omega) u7 x7_1 t333 [.slice Ao23 t333.length co23] (fun k_ => (P0_ k_ ∨ w.heap.size ≤ k_)) (fun k_ => ((fun k_ => (P0_ k_ ∨ w.heap.size ≤ k_))) k_ ∧ some k_ ≠ (u7 : Value).ownBlock) rfl rfl ?aP (fun _ hk => hk) ?aF ?aO ?aB ?aS ?aL ?_
            (case aP => exact (Kd.FK_slice_mk (Kd.R_reads' (Kd.R_mono (ok' := (fun k_ => ((fun k_ => (P0_ k_ ∨ w.heap.size ≤ k_))) k_ ∧ some k_ ≠ (u7 : Value).ownBlock)) (Kd.R_apart' (HO335.out) (Kd.N_typed HO_7.out) (by decide)) (fun k_ hk => ⟨(.inr (hk.1.1)), hk.2⟩))).2.1 (Kd.R_F (Kd.R_mono (ok' := (fun k_ => ((fun k_ => (P0_ k_ ∨ w.heap.size ≤ k_))) k_ ∧ some k_ ≠ (u7 : Value).ownBlock)) (Kd.R_apart' (HO335.out) (Kd.N_typed HO_7.out) (by decide)) (fun k_ hk => ⟨(.inr (hk.1.1)), hk.2⟩)))))
            (case aB => exact (by repeat (first | (with_reducible first | exact HB.out | apply below_alloc | apply pw_below_drewN | apply below_drew1) | exact HB.out)))
            (case aF => exact (fun k_ hk => (.inr (Nat.le_trans (below_size (by repeat (first | (with_reducible first | exact HB.out | apply below_alloc | apply pw_below_drewN | apply below_drew1) | exact HB.out))) hk))))
            (case aO => exact (by (with_reducible repeat (first | apply Kd.N_alloc | apply Kd.N_drewN | apply Kd.N_drew)); exact Kd.N_mono HO_7.out (fun _ hk => hk.1)))
            (case aS => exact (below_size (by repeat (first | (with_reducible first | exact HB.out | apply below_alloc | apply pw_below_drewN | apply below_drew1) | exact HB.out))))
            (case aL => have := LMc19.out; omega)
            intro v337 w22 ho hb hg hat
            rw [← Ny336.out] at ho
            have n0_ := Aside0.mk (Kd.V_afterv (ok := (fun k_ => (P0_ k_ ∨ w.heap.size ≤ k_) ∧ some k_ ≠ (.slice Ao23 t333.length co23 : Value).ownBlock)) (by (with_reducible repeat (first | apply Kd.V_alloc | apply Kd.V_drewN | apply Kd.V_drew)); exact Kd.V_mono HO_0.out (fun _ hk => ⟨⟨hk.1.1, hk.2⟩, hk.1.2⟩)) hg hat)
            have n1_ := Aside0.mk (Kd.V_afterv (ok := (fun k_ => (P0_ k_ ∨ w.heap.size ≤ k_) ∧ some k_ ≠ (.slice Ao23 t333.length co23 : Value).ownBlock)) (by (with_reducible repeat (first | apply Kd.V_alloc | apply Kd.V_drewN | apply Kd.V_drew)); exact Kd.V_mono HL329_0.out (fun _ hk => ⟨⟨hk.1.1, hk.2⟩, hk.1.2⟩)) hg hat)
            have n2_ := Aside0.mk (Kd.V_afterv (ok := (fun k_ => (P0_ k_ ∨ w.heap.size ≤ k_) ∧ some k_ ≠ (.slice Ao23 t333.length co23 : Value).ownBlock)) (by (with_reducible repeat (first | apply Kd.V_alloc | apply Kd.V_drewN | apply Kd.V_drew)); exact Kd.V_mono HL331_0.out (fun _ hk => ⟨⟨hk.1.1, hk.2⟩, hk.1.2⟩)) hg hat)
            have n3_ := Aside0.mk (Kd.V_afterv (ok := (fun k_ => (P0_ k_ ∨ w.heap.size ≤ k_) ∧ some k_ ≠ (.slice Ao23 t333.length co23 : Value).ownBlock)) (by (with_reducible repeat (first | apply Kd.V_alloc | apply Kd.V_drewN | apply Kd.V_drew)); exact Kd.V_mono HL332_0.out (fun _ hk => ⟨⟨hk.1.1, hk.2⟩, hk.1.2⟩)) hg hat)
            have n4_ := Aside0.mk (hb)
            have n5_ := Aside0.mk (ho)
            clear HO_0
            clear HL329_0
            clear HL331_0
            clear HL332_0
            clear HB
            clear HO_7
            clear HO335
            have HO_0 := n0_
            have HL329_0 := n1_
            have HL331_0 := n2_
            have HL332_0 := n3_
            have HB := n4_
            have HO338 := n5_
            clear n0_ n1_ n2_ n3_ n4_ n5_
            clear ho hb hg hat
            refine hK.out _ _ ?_
            clear hK K
            refine norm_ (a' := ?_) ?_ ?_
            rotate_left
            ·show Act.put _ (some 39) _ = _
             simp only [Act.put, List.setIfInBounds_toArray, List.set_cons_zero, List.set_cons_succ, i64_w, i32_w]
             rfl
            refine pure_ (i := 12) (N := some 7) (v := ?_) (a' := ?_) #[true, true, true, true, true, true, true, true, true, true, true, true, true] rfl rfl (any_of HT_.out (by kernel_rfl)) (fun _ _ _ h => h) (Or.inl ⟨by rfl, ?_⟩) ?_ ?_
            rotate_left
            ·intro w'
             go_simp
             with_reducible rfl
            rotate_left
            ·simp only [Act.put, List.setIfInBounds_toArray, List.set_cons_zero, List.set_cons_succ, i64_w, i32_w]
             rfl
            refine done_ (done_of HT_.out (by kernel_rfl)) ?_
            try go_wp2
            go_roundg k1
            case measure => have := HK1.out; omega
            case rel => exact ⟨(y336), (wrap64 (x8_1 + 1)), (by first | rfl | (simp; done) | (simp [*]; done)), H', ⟨by have := HK1.out; omega⟩, ⟨by (with_reducible repeat (first | apply Kd.V_alloc | apply Kd.V_drewN | apply Kd.V_drew)); exact Kd.V_mono HO_0.out (fun _ hk => ⟨hk.1.1, hk.2⟩)⟩, ⟨by (with_reducible repeat (first | apply Kd.N_alloc | apply Kd.N_drewN | apply Kd.N_drew)); exact HO338.out⟩, ⟨by repeat (first | (with_reducible first | exact HB.out | apply below_alloc | apply pw_below_drewN | apply below_drew1) | exact HB.out)⟩⟩
           ·rw [if_neg c19] at H
            exact absurd H (by simp)
          ·rw [if_neg c17] at H
           exact absurd H (by simp)
         ·rw [if_neg c16] at H
          exact absurd H (by simp)
        ·replace c15 := Bool.eq_false_iff.mpr c15
         subst c15
         have H1 : (if x7_1.length < 5864062014805 then (geyserref03_clear.l0 k1 l0 a1 a2 (x7_1 ++ [rd_Lsbool l0 x8_1]) (wrap64 (x8_1 + 1))) else (none)) = some r := by rw [if_neg (show ¬ (false = true) by decide)] at H; exact H
         clear H
         have H := H1
         clear H1
         by_cases c24 : x7_1.length < 5864062014805
         ·rw [if_pos c24] at H
          have LMc24 := Aside0.mk c24
          clear c24
          obtain ⟨y340, hy340⟩ : ∃ y_ : List (List Bool), y_ = (x7_1 ++ [rd_Lsbool l0 x8_1]) := ⟨_, rfl⟩
          replace H : (geyserref03_clear.l0 k1 l0 a1 a2 y340 (wrap64 (x8_1 + 1))) = some r := by first | (rw [hy340]; with_reducible exact H) | (have H2_ := (Option.bind_some _ _).symm.trans H; rw [hy340]; with_reducible exact H2_) | (have H2_ := (Option.bind_some _ _).symm.trans H; with_reducible exact H2_) | with_reducible exact H | (rw [hy340]; exact H) | exact H
          have Ny340 := Aside0.mk hy340
          clear hy340
          have H' := Aside0.mk H
          clear H
          have p329 : 0 ≤ (x8_1 : Int) := of_decide_eq_true (by first | (with_reducible assumption) | assumption)
          have q329 : x8_1 < (l0.length : Int) := of_decide_eq_true (by first | (with_reducible assumption) | assumption)
          obtain ⟨ad329, A329_0, c329_0, e329, hx329_0, hl329_0, hi329_0⟩ := at_Lsbool (Kd.V_reads' HO_0.out).2.2 x8_1 p329 q329
          cases e329
          obtain ⟨ce329, hce329, hMe329, hcc329⟩ := Kd.V_get HO_0.out [] x8_1 p329 (by first | exact q329 | exact of_decide_eq_true (by first | (with_reducible assumption) | assumption) | (have e_ := (Kd.V_reads' HO_0.out).1; omega))
          obtain ⟨ua329_0, uc329_0, rfl, ul329_0, ge329_0⟩ := Kd.FK_slice_open hMe329
          have hv329_0 := hcc329 0 _ rfl
          rw [Nat.add_zero, show ((Kd.slice 4 Kd.bool)).sz = 1 from rfl, Nat.mul_one] at hv329_0
          replace hv329_0 := Option.some.inj (hv329_0.symm.trans hx329_0)
          injection hv329_0 with hva_ hvn_ hvc_
          rw [hva_] at ge329_0
          rw [hvc_] at ul329_0
          have HL329_0 := Aside0.mk (show Kd.V Kd.bool 4 _ w.heap.size _ _ (rd_Lsbool l0 x8_1) from Kd.V_mk ul329_0 ge329_0)
          clear hva_ hvn_ hvc_ ge329_0 ul329_0
          clear hcc329 hce329
          have HR329_0 := Aside0.mk hi329_0
          have HC329_0 := Aside0.mk hl329_0
          clear hi329_0 hl329_0
          replace p329 := eq_true p329
          replace q329 := eq_true q329
          have p330 : 0 ≤ (a2 : Int) := of_decide_eq_true (by first | (with_reducible assumption) | assumption)
          have q330 : a2 < ((rd_Lsbool l0 x8_1).length : Int) := of_decide_eq_true (by first | (with_reducible assumption) | assumption)
          obtain ⟨ad330, e330, hx330_0⟩ := Kd.at_bool (by repeat (first | (with_reducible exact HR329_0.out) | (with_reducible refine Kd.C_alloc ?_ _) | (with_reducible refine Kd.C_drewN ?_ _) | (with_reducible refine Kd.C_drew ?_) | exact HR329_0.out)) a2 p330 q330
          (try rw [← Nbq14.out] at hx330_0)
          cases e330
          replace p330 := eq_true p330
          replace q330 := eq_true q330
          have p339 : 0 ≤ (x8_1 : Int) := of_decide_eq_true (by first | (with_reducible assumption) | assumption)
          have q339 : x8_1 < (l0.length : Int) := of_decide_eq_true (by first | (with_reducible assumption) | assumption)
          obtain ⟨ad339, A339_0, c339_0, e339, hx339_0, hl339_0, hi339_0⟩ := at_Lsbool (Kd.V_reads' HO_0.out).2.2 x8_1 p339 q339
          obtain rfl : ad329 = ad339 := (by injection e339)
          obtain ⟨ce339, hce339, hMe339, hcc339⟩ := Kd.V_get HO_0.out [] x8_1 p339 (by first | exact q339 | exact of_decide_eq_true (by first | (with_reducible assumption) | assumption) | (have e_ := (Kd.V_reads' HO_0.out).1; omega))
          obtain ⟨ua339_0, uc339_0, rfl, ul339_0, ge339_0⟩ := Kd.FK_slice_open hMe339
          have hv339_0 := hcc339 0 _ rfl
          rw [Nat.add_zero, show ((Kd.slice 4 Kd.bool)).sz = 1 from rfl, Nat.mul_one] at hv339_0
          replace hv339_0 := Option.some.inj (hv339_0.symm.trans hx339_0)
          injection hv339_0 with hva_ hvn_ hvc_
          rw [hva_] at ge339_0
          rw [hvc_] at ul339_0
          have HL339_0 := Aside0.mk (show Kd.V Kd.bool 4 _ w.heap.size _ _ (rd_Lsbool l0 x8_1) from Kd.V_mk ul339_0 ge339_0)
          clear hva_ hvn_ hvc_ ge339_0 ul339_0
          clear hcc339 hce339
          have HR339_0 := Aside0.mk hi339_0
          have HC339_0 := Aside0.mk hl339_0
          clear hi339_0 hl339_0
          replace p339 := eq_true p339
          replace q339 := eq_true q339
          have ea_ := Option.some.inj (hx329_0.symm.trans hx339_0)
          injection ea_ with ea_ en_ ec_
          subst ea_
          subst ec_
          clear en_
          go_wp2_with (first | ((with_reducible refine gate_builtin (b := .append) (xs := #[.tmp 40, .tmp 45]) rfl ?_); at_builtin; refine Kd.N_append (Kd.slice 4 Kd.bool) (w0 := w) w.heap.size rfl (.tmp 40) (.tmp 45) 65 23 (.slice none 0 0) 24 rfl Tryd.underlying65 info23 rfl (by decide) (by omega) u7 x7_1 (rd_Lsbool l0 x8_1) [.slice (some ad330) (rd_Lsbool l0 x8_1).length c329_0] (fun k_ => (P0_ k_ ∨ w.heap.size ≤ k_)) (fun k_ => ((fun k_ => (P0_ k_ ∨ w.heap.size ≤ k_))) k_ ∧ some k_ ≠ (u7 : Value).ownBlock) rfl rfl ?aP (fun _ hk => hk) ?aF ?aO ?aB ?aS ?aL ?_; (case aP => exact (Kd.FK_slice_mk (Kd.V_reads' (Kd.V_mono (ok' := (fun k_ => ((fun k_ => (P0_ k_ ∨ w.heap.size ≤ k_))) k_ ∧ some k_ ≠ (u7 : Value).ownBlock)) (HL339_0.out) (fun k_ hk => ⟨hk.1, hk.2⟩))).2.1 (Kd.V_F (Kd.V_mono (ok' := (fun k_ => ((fun k_ => (P0_ k_ ∨ w.heap.size ≤ k_))) k_ ∧ some k_ ≠ (u7 : Value).ownBlock)) (HL339_0.out) (fun k_ hk => ⟨hk.1, hk.2⟩))))); (case aB => exact (by repeat (first | (with_reducible first | exact HB.out | apply below_alloc | apply pw_below_drewN | apply below_drew1) | exact HB.out))); (case aF => exact (fun k_ hk => (.inr (Nat.le_trans (below_size (by repeat (first | (with_reducible first | exact HB.out | apply below_alloc | apply pw_below_drewN | apply below_drew1) | exact HB.out))) hk)))); (case aO => exact (by (with_reducible repeat (first | apply Kd.N_alloc | apply Kd.N_drewN | apply Kd.N_drew)); exact HO_7.out)); (case aS => exact (below_size (by repeat (first | (with_reducible first | exact HB.out | apply below_alloc | apply pw_below_drewN | apply below_drew1) | exact HB.out)))); (case aL => have := LMc24.out; omega); intro v341 w25 ho hb hg hat; rw [← Ny340.out] at ho; have n0_ := Aside0.mk (Kd.V_afterv (ok := (fun k_ => (P0_ k_ ∨ w.heap.size ≤ k_))) (by (with_reducible repeat (first | apply Kd.V_alloc | apply Kd.V_drewN | apply Kd.V_drew)); exact HO_0.out) hg hat); have n1_ := Aside0.mk (Kd.V_afterv (ok := (fun k_ => (P0_ k_ ∨ w.heap.size ≤ k_))) (by (with_reducible repeat (first | apply Kd.V_alloc | apply Kd.V_drewN | apply Kd.V_drew)); exact HL329_0.out) hg hat); have n2_ := Aside0.mk (Kd.V_afterv (ok := (fun k_ => (P0_ k_ ∨ w.heap.size ≤ k_))) (by (with_reducible repeat (first | apply Kd.V_alloc | apply Kd.V_drewN | apply Kd.V_drew)); exact HL339_0.out) hg hat); have n3_ := Aside0.mk (hb); have n4_ := Aside0.mk (ho); clear HO_0; clear HL329_0; clear HL339_0; clear HB; clear HO_7; have HO_0 := n0_; have HL329_0 := n1_; have HL339_0 := n2_; have HB := n3_; have HO342 := n4_; clear n0_ n1_ n2_ n3_ n4_; clear ho hb hg hat))
          go_roundg k1
          case measure => have := HK1.out; omega
          case rel => exact ⟨(y340), (wrap64 (x8_1 + 1)), (by first | rfl | (simp; done) | (simp [*]; done)), H', ⟨by have := HK1.out; omega⟩, ⟨by (with_reducible repeat (first | apply Kd.V_alloc | apply Kd.V_drewN | apply Kd.V_drew)); exact HO_0.out⟩, ⟨by (with_reducible repeat (first | apply Kd.N_alloc | apply Kd.N_drewN | apply Kd.N_drew)); exact HO342.out⟩, ⟨by repeat (first | (with_reducible first | exact HB.out | apply below_alloc | apply pw_below_drewN | apply below_drew1) | exact HB.out)⟩⟩
         ·rw [if_neg c24] at H
          exact absurd H (by simp)
       ·rw [if_neg c13] at H
        exact absurd H (by simp)
      ·rw [if_neg c12] at H
       exact absurd H (by simp)
     ·rw [if_neg c11] at H
      exact absurd H (by simp)
   ·rw [if_neg c6] at H
    have c6b0 : decide (x8_1 < (l0.length : Int)) = false := decide_eq_false c6
    clear c6
    obtain rfl := Option.some.inj H
    go_wp2
    go_ret
    exact ⟨_, by first | rfl | (simp [errW_none, errW_some] <;> rfl) | (simp [*, errW_none, errW_some] <;> rfl), by (with_reducible repeat (first | apply Kd.N_alloc | apply Kd.N_drewN | apply Kd.N_drew)); exact HO_7.out, by repeat (first | (with_reducible first | exact HB.out | apply below_alloc | apply pw_below_drewN | apply below_drew1) | exact HB.out)⟩

end Go.Proofs.YtgocibnmgfmceaaDoor.P
