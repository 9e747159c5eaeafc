-- joined by join.py: ElimMDown PureE1 Px29 Px30
import Derived.Test.YtjmgkknbgffbjaaDoorMElimRanks1
namespace Go.Proofs.YtjmgkknbgffbjaaDoor.P
open Go.RowKit Go.Proofs.YtjmgkknbgffbjaaDoorW.PrintWords Go.Proofs.YtjmgkknbgffbjaaDoorW.PrintLast Go.Proofs.YtjmgkknbgffbjaaDoorW.PrintErr Go.Proofs.YtjmgkknbgffbjaaDoorW.PrintMore
attribute [local go_sem] max2_int min2_int max_two min_two max_three min_three max_four min_four run_eql_errOf run_neq_errOf eqGuard_errOf   -- for this text's walks alone
set_option linter.unusedVariables false
set_option linter.unusedSimpArgs false
mutual
def elimM_down.l0 : Nat → List (S74) → Int → Int → List Int → List Int → Option (List Int × List Int × Int)
 | 0, _, _, _, _, _ => none
 | k + 1, x0, x7, x8, x173000, x173001 => if x8 ≥ 0 then (if 0 < (x0.length : Int) then (elimM_down.j1 k x0 x7 x8 (decide (x8 < ((rd_T74 x0 0).f0))) x173000 x173001) else (none)) else (elimM_down.j1 k x0 x7 x8 false x173000 x173001)
def elimM_down.j1 : Nat → List (S74) → Int → Int → Bool → List Int → List Int → Option (List Int × List Int × Int)
 | 0, _, _, _, _, _, _ => none
 | k + 1, x0, x7, x8, x31, x173000, x173001 => if x31 = true then ((packed_Has.f x173000 x8).bind fun t175 => (if t175 = true then (if 0 < (x0.length : Int) then (if 0 ≤ x8 then (if x8 < (((rd_T74 x0 0).f3).length : Int) then (if (rd ((rd_T74 x0 0).f3) x8) < 0 then (if x7 < 0 then (elimM_down.l0 k x0 x8 (wrap64 (x8 + 1)) x173000 x173001) else (elimM_down.l0 k x0 x7 (wrap64 (x8 + 1)) x173000 x173001)) else (if 0 ≤ (rd ((rd_T74 x0 0).f3) x8) then (if (rd ((rd_T74 x0 0).f3) x8) < (((rd_T74 x0 0).f2).length : Int) then ((packed_Xor.f k x173000 ((rd_T77 ((rd_T74 x0 0).f2) (rd ((rd_T74 x0 0).f3) x8)).f0)).bind fun bt183 => ((symbol_Xor.f k x173001 ((rd_T77 ((rd_T74 x0 0).f2) (rd ((rd_T74 x0 0).f3) x8)).f1)).bind fun bt189 => (elimM_down.l0 k x0 x7 (wrap64 (x8 + 1)) bt183.1 bt189.1))) else (none)) else (none))) else (none)) else (none)) else (none)) else (elimM_down.l0 k x0 x7 (wrap64 (x8 + 1)) x173000 x173001))) else (some (x173000, x173001, x7))
end
def elimM_down.f (k : Nat) (l0 : List (S74)) (l1_0 : List Int) (l1_1 : List Int) : Option (List Int × List Int × Int) := (some (([] : List Int) : List Int)).bind fun y160 => (if y160.length + l1_0.length < 17592186044416 then ((some (y160 ++ l1_0 : List Int)).bind fun y163 => ((some (([] : List Int) : List Int)).bind fun y166 => (if y166.length + l1_1.length < 140737488355328 then ((packed_First.f k y163).bind fun t173 => (elimM_down.l0 k l0 (-1) t173 y163 (y166 ++ l1_1))) else (none)))) else (none))
theorem elimM_down.mono_l : ∀ k, (∀ y0 y1 y2 y3 y4, LeO (elimM_down.l0 k y0 y1 y2 y3 y4) (elimM_down.l0 (k + 1) y0 y1 y2 y3 y4)) ∧ (∀ y0 y1 y2 y3 y4 y5, LeO (elimM_down.j1 k y0 y1 y2 y3 y4 y5) (elimM_down.j1 (k + 1) y0 y1 y2 y3 y4 y5))
 | 0 => ⟨fun _ _ _ _ _ r h => by simp [elimM_down.l0] at h, fun _ _ _ _ _ _ r h => by simp [elimM_down.j1] at h⟩
 | k + 1 => by
  obtain ⟨ih0, ih1⟩ := elimM_down.mono_l k
  refine ⟨?_, ?_⟩
  ·intro y0 y1 y2 y3 y4
   unfold elimM_down.l0
   repeat' first
   | (with_reducible exact ih0 _ _ _ _ _)
   | (with_reducible exact ih1 _ _ _ _ _ _)
   | (with_reducible exact packed_First.mono _ _)
   | (with_reducible exact packed_Xor.mono _ _ _)
   | (with_reducible exact symbol_Xor.mono _ _ _)
   | (with_reducible exact LeO.refl _)
   | (with_reducible exact LeO.none _)
   | (with_reducible refine LeO.ite ?_ ?_)
   | (with_reducible refine LeO.bind ?_ (fun _ => ?_))
   | exact ih0 _ _ _ _ _
   | exact ih1 _ _ _ _ _ _
   | exact packed_First.mono _ _
   | exact packed_Xor.mono _ _ _
   | exact symbol_Xor.mono _ _ _
   | exact LeO.none _
   | refine LeO.ite ?_ ?_
   | refine LeO.bind ?_ (fun _ => ?_)
  ·intro y0 y1 y2 y3 y4 y5
   unfold elimM_down.j1
   repeat' first
   | (with_reducible exact ih0 _ _ _ _ _)
   | (with_reducible exact ih1 _ _ _ _ _ _)
   | (with_reducible exact packed_First.mono _ _)
   | (with_reducible exact packed_Xor.mono _ _ _)
   | (with_reducible exact symbol_Xor.mono _ _ _)
   | (with_reducible exact LeO.refl _)
   | (with_reducible exact LeO.none _)
   | (with_reducible refine LeO.ite ?_ ?_)
   | (with_reducible refine LeO.bind ?_ (fun _ => ?_))
   | exact ih0 _ _ _ _ _
   | exact ih1 _ _ _ _ _ _
   | exact packed_First.mono _ _
   | exact packed_Xor.mono _ _ _
   | exact symbol_Xor.mono _ _ _
   | exact LeO.none _
   | refine LeO.ite ?_ ?_
   | refine LeO.bind ?_ (fun _ => ?_)
theorem elimM_down.mono : ∀ a0 a1 a2 k, LeO (elimM_down.f k a0 a1 a2) (elimM_down.f (k + 1) a0 a1 a2) := by
 intro a0 a1 a2 k
 obtain ⟨ih0, ih1⟩ := elimM_down.mono_l k
 unfold elimM_down.f
 repeat' first
   | (with_reducible exact ih0 _ _ _ _ _)
   | (with_reducible exact ih1 _ _ _ _ _ _)
   | (with_reducible exact packed_First.mono _ _)
   | (with_reducible exact packed_Xor.mono _ _ _)
   | (with_reducible exact symbol_Xor.mono _ _ _)
   | (with_reducible exact LeO.refl _)
   | (with_reducible exact LeO.none _)
   | (with_reducible refine LeO.ite ?_ ?_)
   | (with_reducible refine LeO.bind ?_ (fun _ => ?_))
   | exact ih0 _ _ _ _ _
   | exact ih1 _ _ _ _ _ _
   | exact packed_First.mono _ _
   | exact packed_Xor.mono _ _ _
   | exact symbol_Xor.mono _ _ _
   | exact LeO.none _
   | refine LeO.ite ?_ ?_
   | refine LeO.bind ?_ (fun _ => ?_)
def elimM_down.T1 : Bool × List (List Nat × List Nat) := (true, [([], []), ([], []), ([1], [1]), ([0, 2], [0, 2]), ([], []), ([], []), ([5], [5]), ([4, 6, 3], [4, 6]), ([3, 7], [3, 7]), ([], []), ([9, 8, 7, 0, 1, 2, 3, 4, 5, 6, 7, 8, 9], [8, 9])])
def elimM_down.B1 : List Nat := [0, 0, 2, 7, 0, 0, 32, 127, 255, 0, 1023]
theorem elimM_down.tab1 : rtab .any (opsOf Tryd.f30 1) = elimM_down.T1 := by kernel_rfl
theorem elimM_down.bits1 : waitsOk elimM_down.T1.2 elimM_down.B1 = true := by kernel_rfl
def elimM_down.T10 : Bool × List (List Nat × List Nat) := (true, [([], []), ([0], [0]), ([1], [1]), ([2], [2]), ([], []), ([4], [4]), ([5], [5]), ([6], [6]), ([], []), ([7, 8], [7, 8]), ([9], [9]), ([3, 10], [3, 10]), ([11], [11]), ([], []), ([13, 12, 0, 1, 2, 3, 4, 5, 6, 7, 8, 9, 10, 11, 12, 13], [12, 13])])
def elimM_down.B10 : List Nat := [0, 1, 3, 7, 0, 16, 48, 112, 0, 496, 1008, 2047, 4095, 0, 16383]
theorem elimM_down.tab10 : rtab .any (opsOf Tryd.f30 10) = elimM_down.T10 := by kernel_rfl
theorem elimM_down.bits10 : waitsOk elimM_down.T10.2 elimM_down.B10 = true := by kernel_rfl
set_option maxHeartbeats 8000000 in
set_option maxRecDepth 100000 in
theorem elimM_down.calls (k : Nat) (ad900 : Addr) (l0 : List (S74)) (A1_0 : Option Addr) (c1_0 : Nat) (l1_0 : List Int) (A1_1 : Option Addr) (c1_1 : Nat) (l1_1 : List Int) (r1 : List Int) (r2 : List Int) (r3 : Int) (w : World) (ht : TabIn w) (hr0 : Kd.C k74 w (some ad900) l0.length l0) (hr1_0 : Kd.C (Kd.int .u64) w A1_0 l1_0.length l1_0) (hc1_0 : l1_0.length ≤ c1_0) (hr1_1 : Kd.C (Kd.int .u8) w A1_1 l1_1.length l1_1) (hc1_1 : l1_1.length ≤ c1_1) (h : elimM_down.f k l0 l1_0 l1_1 = some (r1, r2, r3)) :
  Calls Tryd.prog 30 #[.pointer (some ad900), .agg #[.slice A1_0 l1_0.length c1_0, .slice A1_1 l1_1.length c1_1]] w fun e w' => ∃ v0_ v1_ : Value, e = .returned (.tuple #[.agg #[v0_, v1_], .int .i64 r3]) ∧ Kd.R (Kd.int .u64) 35 w' w.heap.size (fun _ => True) v0_ r1 ∧ Kd.R (Kd.int .u8) 5 w' w.heap.size (fun _ => True) v1_ r2 ∧ Below w.heap.size w w' := by
 have hu77 := Tryd.underlying77
 have HR0 := AQ hr0
 clear hr0
 have HR1_0 := AQ hr1_0
 have HC1_0 := AQ hc1_0
 clear hr1_0 hc1_0
 have HR1_1 := AQ hr1_1
 have HC1_1 := AQ hc1_1
 clear hr1_1 hc1_1
 have HB := AQ (Below.refl w.heap.size w)
 have HT := AQ ht
 clear ht
 have H : ((some (([] : List Int) : List Int)).bind fun y160 => (if y160.length + l1_0.length < 17592186044416 then ((some (y160 ++ l1_0 : List Int)).bind fun y163 => ((some (([] : List Int) : List Int)).bind fun y166 => (if y166.length + l1_1.length < 140737488355328 then ((packed_First.f k y163).bind fun t173 => (elimM_down.l0 k l0 (-1) t173 y163 (y166 ++ l1_1))) else (none)))) else (none))) = some (r1, r2, r3) := h
 clear h
 obtain ⟨y160, hy160⟩ : ∃ y_ : List Int, y_ = (([] : List Int)) := ⟨_, rfl⟩
 replace H : (if y160.length + l1_0.length < 17592186044416 then ((some (y160 ++ l1_0 : List Int)).bind fun y163 => ((some (([] : List Int) : List Int)).bind fun y166 => (if y166.length + l1_1.length < 140737488355328 then ((packed_First.f k y163).bind fun t173 => (elimM_down.l0 k l0 (-1) t173 y163 (y166 ++ l1_1))) else (none)))) else (none)) = some (r1, r2, r3) := by first | (rw [hy160]; with_reducible exact H) | (have H2_ := (Option.bind_some _ _).symm.trans H; rw [hy160]; with_reducible exact H2_) | (have H2_ := (Option.bind_some _ _).symm.trans H; with_reducible exact H2_) | with_reducible exact H | (rw [hy160]; exact H) | exact H
 have Ny160 := AQ hy160
 clear hy160
 by_cases c3 : y160.length + l1_0.length < 17592186044416
 ·rw [if_pos c3] at H
  have LMc3 := AQ c3
  clear c3
  obtain ⟨y163, hy163⟩ : ∃ y_ : List Int, y_ = (y160 ++ l1_0) := ⟨_, rfl⟩
  replace H : ((some (([] : List Int) : List Int)).bind fun y166 => (if y166.length + l1_1.length < 140737488355328 then ((packed_First.f k y163).bind fun t173 => (elimM_down.l0 k l0 (-1) t173 y163 (y166 ++ l1_1))) else (none))) = some (r1, r2, r3) := by first | (rw [hy163]; with_reducible exact H) | (have H2_ := (Option.bind_some _ _).symm.trans H; rw [hy163]; with_reducible exact H2_) | (have H2_ := (Option.bind_some _ _).symm.trans H; with_reducible exact H2_) | with_reducible exact H | (rw [hy163]; exact H) | exact H
  have Ny163 := AQ hy163
  clear hy163
  obtain ⟨y166, hy166⟩ : ∃ y_ : List Int, y_ = (([] : List Int)) := ⟨_, rfl⟩
  replace H : (if y166.length + l1_1.length < 140737488355328 then ((packed_First.f k y163).bind fun t173 => (elimM_down.l0 k l0 (-1) t173 y163 (y166 ++ l1_1))) else (none)) = some (r1, r2, r3) := by first | (rw [hy166]; with_reducible exact H) | (have H2_ := (Option.bind_some _ _).symm.trans H; rw [hy166]; with_reducible exact H2_) | (have H2_ := (Option.bind_some _ _).symm.trans H; with_reducible exact H2_) | with_reducible exact H | (rw [hy166]; exact H) | exact H
  have Ny166 := AQ hy166
  clear hy166
  by_cases c4 : y166.length + l1_1.length < 140737488355328
  ·rw [if_pos c4] at H
   have LMc4 := AQ c4
   clear c4
   obtain ⟨y169, hy169⟩ : ∃ y_ : List Int, y_ = (y166 ++ l1_1) := ⟨_, rfl⟩
   replace H : ((packed_First.f k y163).bind fun t173 => (elimM_down.l0 k l0 (-1) t173 y163 y169)) = some (r1, r2, r3) := by first | (rw [hy169]; with_reducible exact H) | (have H2_ := (Option.bind_some _ _).symm.trans H; rw [hy169]; with_reducible exact H2_) | (have H2_ := (Option.bind_some _ _).symm.trans H; with_reducible exact H2_) | with_reducible exact H | (rw [hy169]; exact H) | exact H
   have Ny169 := AQ hy169
   clear hy169
   replace H := Option.bind_eq_some_iff.mp H
   obtain ⟨t173, A50, H⟩ := H
   replace H : (elimM_down.l0 k l0 (-1) t173 y163 y169) = some (r1, r2, r3) := H
   have A5 := AQ A50
   clear A50
   have H' := AQ H
   clear H
   go_enter Tryd.func30, Tryd.ntmps30
   try go_wp2_with (first | ((with_reducible refine gate_dst (N := 3) rfl ?_); refine box_event ?hg (N := 3) ?hd (cs := #[.slice A1_0 l1_0.length c1_0, .slice A1_1 l1_1.length c1_1]) (t := 77) ?hr ?_; (case hd => rfl); (case hg => rfl); (case hr => first | (go_simp; done) | (go_simp; rfl)); intro gb158 hg w6 hbox hb; have n0_ := AQ (below_step (PB HB) hb); have n1_ := AQ (hbox); have n2_ := AQ ((by rw [hg]; exact (below_size (PB HB)) : w.heap.size ≤ gb158)); have n3_ := AQ ((by rw [hg]; exact (below_size (PB HB)) : w.heap.size ≤ gb158)); clear HB; have HB := n0_; have BK158 := n1_; have GW158 := n2_; have GE158 := n3_; clear n0_ n1_ n2_ n3_; clear hb hbox hg) | ((with_reducible refine gate_dst (N := 4) rfl ?_); refine box_event ?hg (N := 4) ?hd (cs := #[.slice none 0 0, .slice none 0 0]) (t := 77) ?hr ?_; (case hd => rfl); (case hg => rfl); (case hr => first | (go_simp; done) | (go_simp; rfl)); intro gb159 hg w7 hbox hb; have n0_ := AQ (blk_below (g := gb158) (o := .cells #[.slice A1_0 l1_0.length c1_0, .slice A1_1 l1_1.length c1_1] 77 (0, 0)) (PK BK158) hb); have n1_ := AQ (below_step (by repeat (first | (with_reducible first | exact HB.out | apply below_alloc | apply pw_below_drewN | apply below_drew1 | refine below_set ?_ GE158.out) | exact HB.out)) hb); have n2_ := AQ (hbox); have n3_ := AQ ((by rw [hg]; exact (below_size (by repeat (first | (with_reducible first | exact HB.out | apply below_alloc | apply pw_below_drewN | apply below_drew1 | refine below_set ?_ GE158.out) | exact HB.out))) : w.heap.size ≤ gb159)); have n4_ := AQ ((by rw [hg]; exact (below_size (by repeat (first | (with_reducible first | exact HB.out | apply below_alloc | apply pw_below_drewN | apply below_drew1 | refine below_set ?_ GE158.out) | exact HB.out))) : w.heap.size ≤ gb159)); have n5_ := AQ ((by rw [hg]; exact Nat.ne_of_lt (blk_lt (g := gb158) (o := .cells #[.slice A1_0 l1_0.length c1_0, .slice A1_1 l1_1.length c1_1] 77 (0, 0)) (PK BK158)) : gb158 ≠ gb159)); have n6_ := AQ ((by rw [hg]; exact Nat.ne_of_gt (blk_lt (g := gb158) (o := .cells #[.slice A1_0 l1_0.length c1_0, .slice A1_1 l1_1.length c1_1] 77 (0, 0)) (PK BK158)) : gb159 ≠ gb158)); clear BK158; clear HB; have BK158 := n0_; have HB := n1_; have BK159 := n2_; have GW159 := n3_; have GE159 := n4_; have NB158_159 := n5_; have NB159_158 := n6_; clear n0_ n1_ n2_ n3_ n4_ n5_ n6_; clear hb hbox hg))
   go_step3
   try go_wp2
   have n0_ := AQ (blk_drew BK158.out)
   have n1_ := AQ (blk_drew BK159.out)
   have n2_ := AQ (below_drew1 HB.out)
   clear BK158
   clear BK159
   clear HB
   have BK158 := n0_
   have BK159 := n1_
   have HB := n2_
   clear n0_ n1_ n2_
   refine start_ (n := 11) (S := fun w' => w'.cell? ⟨gb158, 0, none⟩ = some (.slice A1_0 l1_0.length c1_0) ∧ w'.cell? ⟨gb158, 1, none⟩ = some (.slice A1_1 l1_1.length c1_1)) (ds := []) #[false, false, false, false, false, false, false, false, false, false, false] (by kernel_rfl) rfl rfl ⟨(blk_cell BK158.out 0).trans rfl, (blk_cell BK158.out 1).trans rfl⟩ (fun hHeld => ?_); refine with_tabW elimM_down.tab1 elimM_down.bits1 (fun HT_ HW_ => ?_)
   generalize w7.drew = w8 at BK158 BK159 HB hHeld ⊢
   refine pure_ (i := 1) (N := some 11) (v := ?_) (a' := ?_) #[false, true, false, false, false, false, false, false, false, false, false] rfl rfl (any_of HT_.out (by kernel_rfl)) (fun _ _ _ h => h) (Or.inl ⟨by rfl, ?_⟩) ?_ ?_
   rotate_left
   ·intro w'
    go_simp
    with_reducible rfl
   rotate_left
   ·simp only [Act.put, qT, qZ, qS, i64_w, i32_w]
    rfl
   refine pure_ (i := 5) (N := some 15) (v := ?_) (a' := ?_) #[false, true, false, false, false, true, false, false, false, false, false] rfl rfl (any_of HT_.out (by kernel_rfl)) (fun _ _ _ h => h) (Or.inl ⟨by rfl, ?_⟩) ?_ ?_
   rotate_left
   ·intro w'
    go_simp
    with_reducible rfl
   rotate_left
   ·simp only [Act.put, qT, qZ, qS, i64_w, i32_w]
    rfl
   refine take_ (i := 2) (N := some 12) (v := ?_) (a' := ?_) #[false, true, true, false, false, true, false, false, false, false, false] rfl rfl (take_ofW HT_.out HW_.out (by kernel_rfl)) (fun _ _ _ h => h) (Or.inl ⟨by rfl, ?_⟩) hHeld ?_ ?_
   rotate_left
   ·rintro w' ⟨s0, s1⟩
    go_simp
    with_reducible rfl
   rotate_left
   ·simp only [Act.put, qT, qZ, qS, i64_w, i32_w]
    rfl
   refine take_ (i := 6) (N := some 16) (v := ?_) (a' := ?_) #[false, true, true, false, false, true, true, false, false, false, false] rfl rfl (take_ofW HT_.out HW_.out (by kernel_rfl)) (fun _ _ _ h => h) (Or.inl ⟨by rfl, ?_⟩) hHeld ?_ ?_
   rotate_left
   ·rintro w' ⟨s0, s1⟩
    go_simp
    with_reducible rfl
   rotate_left
   ·simp only [Act.put, qT, qZ, qS, i64_w, i32_w]
    rfl
   refine join_ (σ := Value × Value × Value × Value × Nat) 1 #[true, true, true, true, true, true, true, true, true, true, false] (fun s_ => [(10, s_.1), (13, s_.2.1), (14, s_.2.2.1), (17, s_.2.2.2.1), (6, .pointer (some ⟨s_.2.2.2.2, 0, none⟩)), (18, .agg #[s_.2.1, s_.2.2.2.1])]) (fun s_ w' => (w'.cell? ⟨gb158, 0, none⟩ = some (.slice A1_0 l1_0.length c1_0) ∧ w'.cell? ⟨gb158, 1, none⟩ = some (.slice A1_1 l1_1.length c1_1)) ∧ (Kd.R (Kd.int .u64) 35 w' w.heap.size (fun _ => True) s_.2.1 y163) ∧ (Kd.R (Kd.int .u8) 5 w' w.heap.size (fun _ => True) s_.2.2.2.1 y169) ∧ (w'.heap[gb158]? = some (.cells #[.slice A1_0 l1_0.length c1_0, .slice A1_1 l1_1.length c1_1] 77 (0, 0))) ∧ (w'.heap[gb159]? = some (.cells #[.slice none 0 0, .slice none 0 0] 77 (0, 0))) ∧ (w'.heap[s_.2.2.2.2]? = some (.cells #[.slice none 0 0, .slice none 0 0] 77 (0, 0))) ∧ (w.heap.size ≤ s_.2.2.2.2) ∧ (w.heap.size ≤ s_.2.2.2.2) ∧ (gb158 ≠ s_.2.2.2.2) ∧ (s_.2.2.2.2 ≠ gb158) ∧ (gb159 ≠ s_.2.2.2.2) ∧ (s_.2.2.2.2 ≠ gb159) ∧ (Below w.heap.size w w')) ?_ ?_
   rotate_left
   ·intro hJ0_3_4_7_9
    refine join_ (σ := Value × Value × Value × Value) 2 #[true, true, true, true, true, true, true, true, true, false, false] (fun s_ => [(10, s_.1), (13, s_.2.1), (14, s_.2.2.1), (17, s_.2.2.2), (18, .agg #[s_.2.1, s_.2.2.2])]) (fun s_ w' => (w'.cell? ⟨gb158, 0, none⟩ = some (.slice A1_0 l1_0.length c1_0) ∧ w'.cell? ⟨gb158, 1, none⟩ = some (.slice A1_1 l1_1.length c1_1)) ∧ (Kd.R (Kd.int .u64) 35 w' w.heap.size (fun _ => True) s_.2.1 y163) ∧ (Kd.R (Kd.int .u8) 5 w' w.heap.size (fun _ => True) s_.2.2.2 y169) ∧ (w'.heap[gb158]? = some (.cells #[.slice A1_0 l1_0.length c1_0, .slice A1_1 l1_1.length c1_1] 77 (0, 0))) ∧ (w'.heap[gb159]? = some (.cells #[.slice none 0 0, .slice none 0 0] 77 (0, 0))) ∧ (Below w.heap.size w w')) ?_ ?_
    rotate_left
    ·intro hJ0_3_4_7
     refine join_ (σ := Value × Value × Value × Nat) 3 #[true, true, true, true, true, true, true, false, false, true, false] (fun s_ => [(10, s_.1), (13, s_.2.1), (14, s_.2.2.1), (6, .pointer (some ⟨s_.2.2.2, 0, none⟩))]) (fun s_ w' => (w'.cell? ⟨gb158, 0, none⟩ = some (.slice A1_0 l1_0.length c1_0) ∧ w'.cell? ⟨gb158, 1, none⟩ = some (.slice A1_1 l1_1.length c1_1)) ∧ (Kd.R (Kd.int .u64) 35 w' w.heap.size (fun _ => True) s_.2.1 y163) ∧ (Kd.R (Kd.int .u8) 5 w' w.heap.size (fun _ => True) s_.2.2.1 y166) ∧ (w'.heap[gb158]? = some (.cells #[.slice A1_0 l1_0.length c1_0, .slice A1_1 l1_1.length c1_1] 77 (0, 0))) ∧ (w'.heap[gb159]? = some (.cells #[.slice none 0 0, .slice none 0 0] 77 (0, 0))) ∧ (w'.heap[s_.2.2.2]? = some (.cells #[.slice none 0 0, .slice none 0 0] 77 (0, 0))) ∧ (w.heap.size ≤ s_.2.2.2) ∧ (w.heap.size ≤ s_.2.2.2) ∧ (gb158 ≠ s_.2.2.2) ∧ (s_.2.2.2 ≠ gb158) ∧ (gb159 ≠ s_.2.2.2) ∧ (s_.2.2.2 ≠ gb159) ∧ (Below w.heap.size w w')) ?_ ?_
     rotate_left
     ·intro hJ0_3_4_9
      refine join_ (σ := Value × Value × Value) 4 #[true, true, true, true, true, true, true, false, false, false, false] (fun s_ => [(10, s_.1), (13, s_.2.1), (14, s_.2.2)]) (fun s_ w' => (w'.cell? ⟨gb158, 0, none⟩ = some (.slice A1_0 l1_0.length c1_0) ∧ w'.cell? ⟨gb158, 1, none⟩ = some (.slice A1_1 l1_1.length c1_1)) ∧ (Kd.R (Kd.int .u64) 35 w' w.heap.size (fun _ => True) s_.2.1 y163) ∧ (Kd.R (Kd.int .u8) 5 w' w.heap.size (fun _ => True) s_.2.2 y166) ∧ (w'.heap[gb158]? = some (.cells #[.slice A1_0 l1_0.length c1_0, .slice A1_1 l1_1.length c1_1] 77 (0, 0))) ∧ (w'.heap[gb159]? = some (.cells #[.slice none 0 0, .slice none 0 0] 77 (0, 0))) ∧ (Below w.heap.size w w')) ?_ ?_
      rotate_left
      ·intro hJ0_3_4
       refine join_ (σ := Value × Value × Nat) 4 #[true, true, true, true, false, true, true, false, false, true, false] (fun s_ => [(10, s_.1), (13, s_.2.1), (6, .pointer (some ⟨s_.2.2, 0, none⟩))]) (fun s_ w' => (w'.cell? ⟨gb158, 0, none⟩ = some (.slice A1_0 l1_0.length c1_0) ∧ w'.cell? ⟨gb158, 1, none⟩ = some (.slice A1_1 l1_1.length c1_1)) ∧ (Kd.R (Kd.int .u64) 35 w' w.heap.size (fun _ => True) s_.2.1 y163) ∧ (w'.heap[gb158]? = some (.cells #[.slice A1_0 l1_0.length c1_0, .slice A1_1 l1_1.length c1_1] 77 (0, 0))) ∧ (w'.heap[gb159]? = some (.cells #[.slice none 0 0, .slice none 0 0] 77 (0, 0))) ∧ (w'.heap[s_.2.2]? = some (.cells #[.slice none 0 0, .slice none 0 0] 77 (0, 0))) ∧ (w.heap.size ≤ s_.2.2) ∧ (w.heap.size ≤ s_.2.2) ∧ (gb158 ≠ s_.2.2) ∧ (s_.2.2 ≠ gb158) ∧ (gb159 ≠ s_.2.2) ∧ (s_.2.2 ≠ gb159) ∧ (Below w.heap.size w w')) ?_ ?_
       rotate_left
       ·intro hJ0_3_9
        refine join_ (σ := Value × Value × Nat) 4 #[true, true, true, false, true, true, true, false, false, true, false] (fun s_ => [(10, s_.1), (14, s_.2.1), (6, .pointer (some ⟨s_.2.2, 0, none⟩))]) (fun s_ w' => (w'.cell? ⟨gb158, 0, none⟩ = some (.slice A1_0 l1_0.length c1_0) ∧ w'.cell? ⟨gb158, 1, none⟩ = some (.slice A1_1 l1_1.length c1_1)) ∧ (Kd.R (Kd.int .u64) 35 w' w.heap.size (fun _ => True) s_.1 y160) ∧ (Kd.R (Kd.int .u8) 5 w' w.heap.size (fun _ => True) s_.2.1 y166) ∧ (w'.heap[gb158]? = some (.cells #[.slice A1_0 l1_0.length c1_0, .slice A1_1 l1_1.length c1_1] 77 (0, 0))) ∧ (w'.heap[gb159]? = some (.cells #[.slice none 0 0, .slice none 0 0] 77 (0, 0))) ∧ (w'.heap[s_.2.2]? = some (.cells #[.slice none 0 0, .slice none 0 0] 77 (0, 0))) ∧ (w.heap.size ≤ s_.2.2) ∧ (w.heap.size ≤ s_.2.2) ∧ (gb158 ≠ s_.2.2) ∧ (s_.2.2 ≠ gb158) ∧ (gb159 ≠ s_.2.2) ∧ (s_.2.2 ≠ gb159) ∧ (Below w.heap.size w w')) ?_ ?_
        rotate_left
        ·intro hJ0_4_9
         refine join_ (σ := Value × Value) 5 #[true, true, true, true, false, true, true, false, false, false, false] (fun s_ => [(10, s_.1), (13, s_.2)]) (fun s_ w' => (w'.cell? ⟨gb158, 0, none⟩ = some (.slice A1_0 l1_0.length c1_0) ∧ w'.cell? ⟨gb158, 1, none⟩ = some (.slice A1_1 l1_1.length c1_1)) ∧ (Kd.R (Kd.int .u64) 35 w' w.heap.size (fun _ => True) s_.2 y163) ∧ (w'.heap[gb158]? = some (.cells #[.slice A1_0 l1_0.length c1_0, .slice A1_1 l1_1.length c1_1] 77 (0, 0))) ∧ (w'.heap[gb159]? = some (.cells #[.slice none 0 0, .slice none 0 0] 77 (0, 0))) ∧ (Below w.heap.size w w')) ?_ ?_
         rotate_left
         ·intro hJ0_3
          refine join_ (σ := Value × Value) 5 #[true, true, true, false, true, true, true, false, false, false, false] (fun s_ => [(10, s_.1), (14, s_.2)]) (fun s_ w' => (w'.cell? ⟨gb158, 0, none⟩ = some (.slice A1_0 l1_0.length c1_0) ∧ w'.cell? ⟨gb158, 1, none⟩ = some (.slice A1_1 l1_1.length c1_1)) ∧ (Kd.R (Kd.int .u64) 35 w' w.heap.size (fun _ => True) s_.1 y160) ∧ (Kd.R (Kd.int .u8) 5 w' w.heap.size (fun _ => True) s_.2 y166) ∧ (w'.heap[gb158]? = some (.cells #[.slice A1_0 l1_0.length c1_0, .slice A1_1 l1_1.length c1_1] 77 (0, 0))) ∧ (w'.heap[gb159]? = some (.cells #[.slice none 0 0, .slice none 0 0] 77 (0, 0))) ∧ (Below w.heap.size w w')) ?_ ?_
          rotate_left
          ·intro hJ0_4
           refine join_ (σ := Value × Nat) 5 #[true, true, true, false, false, true, true, false, false, true, false] (fun s_ => [(10, s_.1), (6, .pointer (some ⟨s_.2, 0, none⟩))]) (fun s_ w' => (w'.cell? ⟨gb158, 0, none⟩ = some (.slice A1_0 l1_0.length c1_0) ∧ w'.cell? ⟨gb158, 1, none⟩ = some (.slice A1_1 l1_1.length c1_1)) ∧ (Kd.R (Kd.int .u64) 35 w' w.heap.size (fun _ => True) s_.1 y160) ∧ (w'.heap[gb158]? = some (.cells #[.slice A1_0 l1_0.length c1_0, .slice A1_1 l1_1.length c1_1] 77 (0, 0))) ∧ (w'.heap[gb159]? = some (.cells #[.slice none 0 0, .slice none 0 0] 77 (0, 0))) ∧ (w'.heap[s_.2]? = some (.cells #[.slice none 0 0, .slice none 0 0] 77 (0, 0))) ∧ (w.heap.size ≤ s_.2) ∧ (w.heap.size ≤ s_.2) ∧ (gb158 ≠ s_.2) ∧ (s_.2 ≠ gb158) ∧ (gb159 ≠ s_.2) ∧ (s_.2 ≠ gb159) ∧ (Below w.heap.size w w')) ?_ ?_
           rotate_left
           ·intro hJ0_9
            refine join_ (σ := Value × Nat) 5 #[false, true, true, false, true, true, true, false, false, true, false] (fun s_ => [(14, s_.1), (6, .pointer (some ⟨s_.2, 0, none⟩))]) (fun s_ w' => (w'.cell? ⟨gb158, 0, none⟩ = some (.slice A1_0 l1_0.length c1_0) ∧ w'.cell? ⟨gb158, 1, none⟩ = some (.slice A1_1 l1_1.length c1_1)) ∧ (Kd.R (Kd.int .u8) 5 w' w.heap.size (fun _ => True) s_.1 y166) ∧ (w'.heap[gb158]? = some (.cells #[.slice A1_0 l1_0.length c1_0, .slice A1_1 l1_1.length c1_1] 77 (0, 0))) ∧ (w'.heap[gb159]? = some (.cells #[.slice none 0 0, .slice none 0 0] 77 (0, 0))) ∧ (w'.heap[s_.2]? = some (.cells #[.slice none 0 0, .slice none 0 0] 77 (0, 0))) ∧ (w.heap.size ≤ s_.2) ∧ (w.heap.size ≤ s_.2) ∧ (gb158 ≠ s_.2) ∧ (s_.2 ≠ gb158) ∧ (gb159 ≠ s_.2) ∧ (s_.2 ≠ gb159) ∧ (Below w.heap.size w w')) ?_ ?_
            rotate_left
            ·intro hJ4_9
             refine join_ (σ := Value) 6 #[true, true, true, false, false, true, true, false, false, false, false] (fun s_ => [(10, s_)]) (fun s_ w' => (w'.cell? ⟨gb158, 0, none⟩ = some (.slice A1_0 l1_0.length c1_0) ∧ w'.cell? ⟨gb158, 1, none⟩ = some (.slice A1_1 l1_1.length c1_1)) ∧ (Kd.R (Kd.int .u64) 35 w' w.heap.size (fun _ => True) s_ y160) ∧ (w'.heap[gb158]? = some (.cells #[.slice A1_0 l1_0.length c1_0, .slice A1_1 l1_1.length c1_1] 77 (0, 0))) ∧ (w'.heap[gb159]? = some (.cells #[.slice none 0 0, .slice none 0 0] 77 (0, 0))) ∧ (Below w.heap.size w w')) ?_ ?_
             rotate_left
             ·intro hJ0
              refine join_ (σ := Value) 6 #[false, true, true, false, true, true, true, false, false, false, false] (fun s_ => [(14, s_)]) (fun s_ w' => (w'.cell? ⟨gb158, 0, none⟩ = some (.slice A1_0 l1_0.length c1_0) ∧ w'.cell? ⟨gb158, 1, none⟩ = some (.slice A1_1 l1_1.length c1_1)) ∧ (Kd.R (Kd.int .u8) 5 w' w.heap.size (fun _ => True) s_ y166) ∧ (w'.heap[gb158]? = some (.cells #[.slice A1_0 l1_0.length c1_0, .slice A1_1 l1_1.length c1_1] 77 (0, 0))) ∧ (w'.heap[gb159]? = some (.cells #[.slice none 0 0, .slice none 0 0] 77 (0, 0))) ∧ (Below w.heap.size w w')) ?_ ?_
              rotate_left
              ·intro hJ4
               refine join_ (σ := Nat) 6 #[false, true, true, false, false, true, true, false, false, true, false] (fun s_ => [(6, .pointer (some ⟨s_, 0, none⟩))]) (fun s_ w' => (w'.cell? ⟨gb158, 0, none⟩ = some (.slice A1_0 l1_0.length c1_0) ∧ w'.cell? ⟨gb158, 1, none⟩ = some (.slice A1_1 l1_1.length c1_1)) ∧ (w'.heap[gb158]? = some (.cells #[.slice A1_0 l1_0.length c1_0, .slice A1_1 l1_1.length c1_1] 77 (0, 0))) ∧ (w'.heap[gb159]? = some (.cells #[.slice none 0 0, .slice none 0 0] 77 (0, 0))) ∧ (w'.heap[s_]? = some (.cells #[.slice none 0 0, .slice none 0 0] 77 (0, 0))) ∧ (w.heap.size ≤ s_) ∧ (w.heap.size ≤ s_) ∧ (gb158 ≠ s_) ∧ (s_ ≠ gb158) ∧ (gb159 ≠ s_) ∧ (s_ ≠ gb159) ∧ (Below w.heap.size w w')) ?_ ?_
               rotate_left
               ·intro hJ9
                refine three_ (i := 0) (j := 4) (k := 9) (Ni := some 10) (Nj := some 14) (Nk := some 6) #[true, true, true, false, false, true, true, false, false, false, false] #[false, true, true, false, true, true, true, false, false, false, false] #[false, true, true, false, false, true, true, false, false, true, false] rfl rfl rfl rfl rfl rfl (three_of HT_.out (by kernel_rfl)) (by decide) (by decide) (by decide) (fun K hK => ?_) (fun K hK => ?_) (fun K hK => ?_)
                ·skip
                 refine Kd.R_lit_step (Kd.int .u64) _ 35 ?hg (N := 10) ?hd (xs := ([] : List Int)) (inner := []) (ok := fun _ => True) (okp := fun _ => True) ?hr ?hp (fun _ hk => hk) trivial (Below.refl _ _) (Nat.le_refl _) (by simp) ?_; (case hd => rfl); (case hg => rfl); (case hr => first | (go_simp; done) | (go_simp; rfl)); (case hp => exact (Reps.none _ _))
                 intro v161 w9 ho10 hb hg_ hnew_
                 clear hg_ hnew_
                 (first | rw [← Ny160.out] at ho10 | (simp only [Int.reduceToNat] at ho10; rw [← Ny160.out] at ho10))
                 have n0_ := AQ (Kd.R_lower ho10 (below_size (by repeat (first | (with_reducible first | exact HB.out | apply below_alloc | apply pw_below_drewN | apply below_drew1 | refine below_set ?_ GE158.out | refine below_set ?_ GE159.out) | exact HB.out))))
                 have n1_ := AQ (blk_below (g := gb158) (o := .cells #[.slice A1_0 l1_0.length c1_0, .slice A1_1 l1_1.length c1_1] 77 (0, 0)) (PK BK158) hb)
                 have n2_ := AQ (blk_below (g := gb159) (o := .cells #[.slice none 0 0, .slice none 0 0] 77 (0, 0)) (PK BK159) hb)
                 have n3_ := AQ (below_step (by repeat (first | (with_reducible first | exact HB.out | apply below_alloc | apply pw_below_drewN | apply below_drew1 | refine below_set ?_ GE158.out | refine below_set ?_ GE159.out) | exact HB.out)) hb)
                 clear BK158
                 clear BK159
                 clear HB
                 have HO162 := n0_
                 have BK158 := n1_
                 have BK159 := n2_
                 have HB := n3_
                 clear n0_ n1_ n2_ n3_
                 clear hb ho10
                 refine hK.out _ _ ⟨(blk_cell BK158.out 0).trans rfl, (blk_cell BK158.out 1).trans rfl⟩ (fun hHeld => ?_)
                 clear hK K
                 refine norm_ (a' := ?_) ?_ ?_
                 rotate_left
                 ·show Act.put _ (some 10) _ = _
                  simp only [Act.put, qT, qZ, qS, i64_w, i32_w]
                  rfl
                 exact norm_ (by first | (simp only [putAll, Act.put, List.setIfInBounds_toArray, List.set_cons_zero, List.set_cons_succ]; done) | (simp only [putAll, Act.put, List.setIfInBounds_toArray, List.set_cons_zero, List.set_cons_succ]; rfl)) (hJ0 (v161) _ ⟨hHeld, (PR HO162), (PK BK158), (PK BK159), (by repeat (first | (with_reducible first | exact HB.out | apply below_alloc | apply pw_below_drewN | apply below_drew1 | refine below_set ?_ GE158.out | refine below_set ?_ GE159.out) | exact HB.out))⟩)
                ·skip
                 refine Kd.R_lit_step (Kd.int .u8) _ 5 ?hg (N := 14) ?hd (xs := ([] : List Int)) (inner := []) (ok := fun _ => True) (okp := fun _ => True) ?hr ?hp (fun _ hk => hk) trivial (Below.refl _ _) (Nat.le_refl _) (by simp) ?_; (case hd => rfl); (case hg => rfl); (case hr => first | (go_simp; done) | (go_simp; rfl)); (case hp => exact (Reps.none _ _))
                 intro v167 w9 ho10 hb hg_ hnew_
                 clear hg_ hnew_
                 (first | rw [← Ny166.out] at ho10 | (simp only [Int.reduceToNat] at ho10; rw [← Ny166.out] at ho10))
                 have n0_ := AQ (Kd.R_lower ho10 (below_size (by repeat (first | (with_reducible first | exact HB.out | apply below_alloc | apply pw_below_drewN | apply below_drew1 | refine below_set ?_ GE158.out | refine below_set ?_ GE159.out) | exact HB.out))))
                 have n1_ := AQ (blk_below (g := gb158) (o := .cells #[.slice A1_0 l1_0.length c1_0, .slice A1_1 l1_1.length c1_1] 77 (0, 0)) (PK BK158) hb)
                 have n2_ := AQ (blk_below (g := gb159) (o := .cells #[.slice none 0 0, .slice none 0 0] 77 (0, 0)) (PK BK159) hb)
                 have n3_ := AQ (below_step (by repeat (first | (with_reducible first | exact HB.out | apply below_alloc | apply pw_below_drewN | apply below_drew1 | refine below_set ?_ GE158.out | refine below_set ?_ GE159.out) | exact HB.out)) hb)
                 clear BK158
                 clear BK159
                 clear HB
                 have HO168 := n0_
                 have BK158 := n1_
                 have BK159 := n2_
                 have HB := n3_
                 clear n0_ n1_ n2_ n3_
                 clear hb ho10
                 refine hK.out _ _ ⟨(blk_cell BK158.out 0).trans rfl, (blk_cell BK158.out 1).trans rfl⟩ (fun hHeld => ?_)
                 clear hK K
                 refine norm_ (a' := ?_) ?_ ?_
                 rotate_left
                 ·show Act.put _ (some 14) _ = _
                  simp only [Act.put, qT, qZ, qS, i64_w, i32_w]
                  rfl
                 exact norm_ (by first | (simp only [putAll, Act.put, List.setIfInBounds_toArray, List.set_cons_zero, List.set_cons_succ]; done) | (simp only [putAll, Act.put, List.setIfInBounds_toArray, List.set_cons_zero, List.set_cons_succ]; rfl)) (hJ4 (v167) _ ⟨hHeld, (PR HO168), (PK BK158), (PK BK159), (by repeat (first | (with_reducible first | exact HB.out | apply below_alloc | apply pw_below_drewN | apply below_drew1 | refine below_set ?_ GE158.out | refine below_set ?_ GE159.out) | exact HB.out))⟩)
                ·skip
                 refine box_step ?hg (N := 6) ?hd (cs := #[.slice none 0 0, .slice none 0 0]) (t := 77) ?hr ?_; (case hd => rfl); (case hg => rfl); (case hr => first | (go_simp; done) | (go_simp; rfl))
                 intro gb172 hg w9 hbox hb
                 have n0_ := AQ (blk_below (g := gb158) (o := .cells #[.slice A1_0 l1_0.length c1_0, .slice A1_1 l1_1.length c1_1] 77 (0, 0)) (PK BK158) hb)
                 have n1_ := AQ (blk_below (g := gb159) (o := .cells #[.slice none 0 0, .slice none 0 0] 77 (0, 0)) (PK BK159) hb)
                 have n2_ := AQ (below_step (by repeat (first | (with_reducible first | exact HB.out | apply below_alloc | apply pw_below_drewN | apply below_drew1 | refine below_set ?_ GE158.out | refine below_set ?_ GE159.out) | exact HB.out)) hb)
                 have n3_ := AQ (hbox)
                 have n4_ := AQ ((by rw [hg]; exact (below_size (by repeat (first | (with_reducible first | exact HB.out | apply below_alloc | apply pw_below_drewN | apply below_drew1 | refine below_set ?_ GE158.out | refine below_set ?_ GE159.out) | exact HB.out))) : w.heap.size ≤ gb172))
                 have n5_ := AQ ((by rw [hg]; exact (below_size (by repeat (first | (with_reducible first | exact HB.out | apply below_alloc | apply pw_below_drewN | apply below_drew1 | refine below_set ?_ GE158.out | refine below_set ?_ GE159.out) | exact HB.out))) : w.heap.size ≤ gb172))
                 have n6_ := AQ ((by rw [hg]; exact Nat.ne_of_lt (blk_lt (g := gb158) (o := .cells #[.slice A1_0 l1_0.length c1_0, .slice A1_1 l1_1.length c1_1] 77 (0, 0)) (PK BK158)) : gb158 ≠ gb172))
                 have n7_ := AQ ((by rw [hg]; exact Nat.ne_of_gt (blk_lt (g := gb158) (o := .cells #[.slice A1_0 l1_0.length c1_0, .slice A1_1 l1_1.length c1_1] 77 (0, 0)) (PK BK158)) : gb172 ≠ gb158))
                 have n8_ := AQ ((by rw [hg]; exact Nat.ne_of_lt (blk_lt (g := gb159) (o := .cells #[.slice none 0 0, .slice none 0 0] 77 (0, 0)) (PK BK159)) : gb159 ≠ gb172))
                 have n9_ := AQ ((by rw [hg]; exact Nat.ne_of_gt (blk_lt (g := gb159) (o := .cells #[.slice none 0 0, .slice none 0 0] 77 (0, 0)) (PK BK159)) : gb172 ≠ gb159))
                 clear BK158
                 clear BK159
                 clear HB
                 have BK158 := n0_
                 have BK159 := n1_
                 have HB := n2_
                 have BK172 := n3_
                 have GW172 := n4_
                 have GE172 := n5_
                 have NB158_172 := n6_
                 have NB172_158 := n7_
                 have NB159_172 := n8_
                 have NB172_159 := n9_
                 clear n0_ n1_ n2_ n3_ n4_ n5_ n6_ n7_ n8_ n9_
                 clear hb hbox hg
                 refine hK.out _ _ ⟨(blk_cell BK158.out 0).trans rfl, (blk_cell BK158.out 1).trans rfl⟩ (fun hHeld => ?_)
                 clear hK K
                 refine norm_ (a' := ?_) ?_ ?_
                 rotate_left
                 ·show Act.put _ (some 6) _ = _
                  simp only [Act.put, qT, qZ, qS, i64_w, i32_w]
                  rfl
                 exact norm_ (by first | (simp only [putAll, Act.put, List.setIfInBounds_toArray, List.set_cons_zero, List.set_cons_succ]; done) | (simp only [putAll, Act.put, List.setIfInBounds_toArray, List.set_cons_zero, List.set_cons_succ]; rfl)) (hJ9 (gb172) _ ⟨hHeld, (PK BK158), (PK BK159), (PK BK172), GW172.out, GE172.out, NB158_172.out, NB172_158.out, NB159_172.out, NB172_159.out, (by repeat (first | (with_reducible first | exact HB.out | apply below_alloc | apply pw_below_drewN | apply below_drew1 | refine below_set ?_ GE158.out | refine below_set ?_ GE159.out | refine below_set ?_ GE172.out) | exact HB.out))⟩)
               ·skip
                rintro gb172 w10 ⟨hS_, h0_, h1_, h2_, h3_, h4_, h5_, h6_, h7_, h8_, h9_⟩
                have n0_ : Aside0 (w10.heap[gb158]? = some (.cells #[.slice A1_0 l1_0.length c1_0, .slice A1_1 l1_1.length c1_1] 77 (0, 0))) := ⟨h0_⟩
                have n1_ : Aside0 (w10.heap[gb159]? = some (.cells #[.slice none 0 0, .slice none 0 0] 77 (0, 0))) := ⟨h1_⟩
                have n2_ : Aside0 (w10.heap[gb172]? = some (.cells #[.slice none 0 0, .slice none 0 0] 77 (0, 0))) := ⟨h2_⟩
                have n3_ : Aside0 (w.heap.size ≤ gb172) := ⟨h3_⟩
                have n4_ : Aside0 (w.heap.size ≤ gb172) := ⟨h4_⟩
                have n5_ : Aside0 (gb158 ≠ gb172) := ⟨h5_⟩
                have n6_ : Aside0 (gb172 ≠ gb158) := ⟨h6_⟩
                have n7_ : Aside0 (gb159 ≠ gb172) := ⟨h7_⟩
                have n8_ : Aside0 (gb172 ≠ gb159) := ⟨h8_⟩
                have n9_ : Aside0 (Below w.heap.size w w10) := ⟨h9_⟩
                clear BK158
                clear BK159
                clear HB
                clear h0_ h1_ h2_ h3_ h4_ h5_ h6_ h7_ h8_ h9_
                have BK158 := n0_
                have BK159 := n1_
                have BK172 := n2_
                have GW172 := n3_
                have GE172 := n4_
                have NB158_172 := n5_
                have NB172_158 := n6_
                have NB159_172 := n7_
                have NB172_159 := n8_
                have HB := n9_
                clear n0_ n1_ n2_ n3_ n4_ n5_ n6_ n7_ n8_ n9_
                have hHeld : w10.cell? ⟨gb158, 0, none⟩ = some (.slice A1_0 l1_0.length c1_0) ∧ w10.cell? ⟨gb158, 1, none⟩ = some (.slice A1_1 l1_1.length c1_1) := hS_
                refine norm_ (a' := ?_) ?_ ?_
                rotate_left
                ·simp only [putAll, Act.put, List.setIfInBounds_toArray, List.set_cons_zero, List.set_cons_succ]
                 rfl
                refine two_ (i := 0) (j := 4) (Ni := some 10) (Nj := some 14) #[true, true, true, false, false, true, true, false, false, true, false] #[false, true, true, false, true, true, true, false, false, true, false] rfl rfl rfl rfl (two_of HT_.out (by kernel_rfl)) (by decide) (by decide) (fun K hK => ?_) (fun K hK => ?_)
                ·skip
                 refine Kd.R_lit_step (Kd.int .u64) _ 35 ?hg (N := 10) ?hd (xs := ([] : List Int)) (inner := []) (ok := fun _ => True) (okp := fun _ => True) ?hr ?hp (fun _ hk => hk) trivial (Below.refl _ _) (Nat.le_refl _) (by simp) ?_; (case hd => rfl); (case hg => rfl); (case hr => first | (go_simp; done) | (go_simp; rfl)); (case hp => exact (Reps.none _ _))
                 intro v161 w11 ho12 hb hg_ hnew_
                 clear hg_ hnew_
                 (first | rw [← Ny160.out] at ho12 | (simp only [Int.reduceToNat] at ho12; rw [← Ny160.out] at ho12))
                 have n0_ := AQ (Kd.R_lower ho12 (below_size (by repeat (first | (with_reducible first | exact HB.out | apply below_alloc | apply pw_below_drewN | apply below_drew1 | refine below_set ?_ GE158.out | refine below_set ?_ GE159.out | refine below_set ?_ GE172.out) | exact HB.out))))
                 have n1_ := AQ (blk_below (g := gb158) (o := .cells #[.slice A1_0 l1_0.length c1_0, .slice A1_1 l1_1.length c1_1] 77 (0, 0)) (PK BK158) hb)
                 have n2_ := AQ (blk_below (g := gb159) (o := .cells #[.slice none 0 0, .slice none 0 0] 77 (0, 0)) (PK BK159) hb)
                 have n3_ := AQ (blk_below (g := gb172) (o := .cells #[.slice none 0 0, .slice none 0 0] 77 (0, 0)) (PK BK172) hb)
                 have n4_ := AQ (below_step (by repeat (first | (with_reducible first | exact HB.out | apply below_alloc | apply pw_below_drewN | apply below_drew1 | refine below_set ?_ GE158.out | refine below_set ?_ GE159.out | refine below_set ?_ GE172.out) | exact HB.out)) hb)
                 clear BK158
                 clear BK159
                 clear BK172
                 clear HB
                 have HO162 := n0_
                 have BK158 := n1_
                 have BK159 := n2_
                 have BK172 := n3_
                 have HB := n4_
                 clear n0_ n1_ n2_ n3_ n4_
                 clear hb ho12
                 refine hK.out _ _ ⟨(blk_cell BK158.out 0).trans rfl, (blk_cell BK158.out 1).trans rfl⟩ (fun hHeld => ?_)
                 clear hK K
                 refine norm_ (a' := ?_) ?_ ?_
                 rotate_left
                 ·show Act.put _ (some 10) _ = _
                  simp only [Act.put, qT, qZ, qS, i64_w, i32_w]
                  rfl
                 exact norm_ (by first | (simp only [putAll, Act.put, List.setIfInBounds_toArray, List.set_cons_zero, List.set_cons_succ]; done) | (simp only [putAll, Act.put, List.setIfInBounds_toArray, List.set_cons_zero, List.set_cons_succ]; rfl)) (hJ0_9 (v161, gb172) _ ⟨hHeld, (PR HO162), (PK BK158), (PK BK159), (PK BK172), GW172.out, GE172.out, NB158_172.out, NB172_158.out, NB159_172.out, NB172_159.out, (by repeat (first | (with_reducible first | exact HB.out | apply below_alloc | apply pw_below_drewN | apply below_drew1 | refine below_set ?_ GE158.out | refine below_set ?_ GE159.out | refine below_set ?_ GE172.out) | exact HB.out))⟩)
                ·skip
                 refine Kd.R_lit_step (Kd.int .u8) _ 5 ?hg (N := 14) ?hd (xs := ([] : List Int)) (inner := []) (ok := fun _ => True) (okp := fun _ => True) ?hr ?hp (fun _ hk => hk) trivial (Below.refl _ _) (Nat.le_refl _) (by simp) ?_; (case hd => rfl); (case hg => rfl); (case hr => first | (go_simp; done) | (go_simp; rfl)); (case hp => exact (Reps.none _ _))
                 intro v167 w11 ho12 hb hg_ hnew_
                 clear hg_ hnew_
                 (first | rw [← Ny166.out] at ho12 | (simp only [Int.reduceToNat] at ho12; rw [← Ny166.out] at ho12))
                 have n0_ := AQ (Kd.R_lower ho12 (below_size (by repeat (first | (with_reducible first | exact HB.out | apply below_alloc | apply pw_below_drewN | apply below_drew1 | refine below_set ?_ GE158.out | refine below_set ?_ GE159.out | refine below_set ?_ GE172.out) | exact HB.out))))
                 have n1_ := AQ (blk_below (g := gb158) (o := .cells #[.slice A1_0 l1_0.length c1_0, .slice A1_1 l1_1.length c1_1] 77 (0, 0)) (PK BK158) hb)
                 have n2_ := AQ (blk_below (g := gb159) (o := .cells #[.slice none 0 0, .slice none 0 0] 77 (0, 0)) (PK BK159) hb)
                 have n3_ := AQ (blk_below (g := gb172) (o := .cells #[.slice none 0 0, .slice none 0 0] 77 (0, 0)) (PK BK172) hb)
                 have n4_ := AQ (below_step (by repeat (first | (with_reducible first | exact HB.out | apply below_alloc | apply pw_below_drewN | apply below_drew1 | refine below_set ?_ GE158.out | refine below_set ?_ GE159.out | refine below_set ?_ GE172.out) | exact HB.out)) hb)
                 clear BK158
                 clear BK159
                 clear BK172
                 clear HB
                 have HO168 := n0_
                 have BK158 := n1_
                 have BK159 := n2_
                 have BK172 := n3_
                 have HB := n4_
                 clear n0_ n1_ n2_ n3_ n4_
                 clear hb ho12
                 refine hK.out _ _ ⟨(blk_cell BK158.out 0).trans rfl, (blk_cell BK158.out 1).trans rfl⟩ (fun hHeld => ?_)
                 clear hK K
                 refine norm_ (a' := ?_) ?_ ?_
                 rotate_left
                 ·show Act.put _ (some 14) _ = _
                  simp only [Act.put, qT, qZ, qS, i64_w, i32_w]
                  rfl
                 exact norm_ (by first | (simp only [putAll, Act.put, List.setIfInBounds_toArray, List.set_cons_zero, List.set_cons_succ]; done) | (simp only [putAll, Act.put, List.setIfInBounds_toArray, List.set_cons_zero, List.set_cons_succ]; rfl)) (hJ4_9 (v167, gb172) _ ⟨hHeld, (PR HO168), (PK BK158), (PK BK159), (PK BK172), GW172.out, GE172.out, NB158_172.out, NB172_158.out, NB159_172.out, NB172_159.out, (by repeat (first | (with_reducible first | exact HB.out | apply below_alloc | apply pw_below_drewN | apply below_drew1 | refine below_set ?_ GE158.out | refine below_set ?_ GE159.out | refine below_set ?_ GE172.out) | exact HB.out))⟩)
              ·skip
               rintro v167 w11 ⟨hS_, h0_, h1_, h2_, h3_⟩
               have n0_ : Aside0 (Kd.R (Kd.int .u8) 5 w11 w.heap.size (fun _ => True) v167 y166) := ⟨h0_⟩
               have n1_ : Aside0 (w11.heap[gb158]? = some (.cells #[.slice A1_0 l1_0.length c1_0, .slice A1_1 l1_1.length c1_1] 77 (0, 0))) := ⟨h1_⟩
               have n2_ : Aside0 (w11.heap[gb159]? = some (.cells #[.slice none 0 0, .slice none 0 0] 77 (0, 0))) := ⟨h2_⟩
               have n3_ : Aside0 (Below w.heap.size w w11) := ⟨h3_⟩
               clear BK158
               clear BK159
               clear HB
               clear h0_ h1_ h2_ h3_
               have HO168 := n0_
               have BK158 := n1_
               have BK159 := n2_
               have HB := n3_
               clear n0_ n1_ n2_ n3_
               have hHeld : w11.cell? ⟨gb158, 0, none⟩ = some (.slice A1_0 l1_0.length c1_0) ∧ w11.cell? ⟨gb158, 1, none⟩ = some (.slice A1_1 l1_1.length c1_1) := hS_
               refine norm_ (a' := ?_) ?_ ?_
               rotate_left
               ·simp only [putAll, Act.put, List.setIfInBounds_toArray, List.set_cons_zero, List.set_cons_succ]
                rfl
               refine two_ (i := 0) (j := 9) (Ni := some 10) (Nj := some 6) #[true, true, true, false, true, true, true, false, false, false, false] #[false, true, true, false, true, true, true, false, false, true, false] rfl rfl rfl rfl (two_of HT_.out (by kernel_rfl)) (by decide) (by decide) (fun K hK => ?_) (fun K hK => ?_)
               ·skip
                refine Kd.R_lit_step (Kd.int .u64) _ 35 ?hg (N := 10) ?hd (xs := ([] : List Int)) (inner := []) (ok := fun _ => True) (okp := fun _ => True) ?hr ?hp (fun _ hk => hk) trivial (Below.refl _ _) (Nat.le_refl _) (by simp) ?_; (case hd => rfl); (case hg => rfl); (case hr => first | (go_simp; done) | (go_simp; rfl)); (case hp => exact (Reps.none _ _))
                intro v161 w12 ho13 hb hg_ hnew_
                clear hg_ hnew_
                (first | rw [← Ny160.out] at ho13 | (simp only [Int.reduceToNat] at ho13; rw [← Ny160.out] at ho13))
                have n0_ := AQ (Kd.R_below (PR HO168) hb)
                have n1_ := AQ (Kd.R_lower ho13 (below_size (by repeat (first | (with_reducible first | exact HB.out | apply below_alloc | apply pw_below_drewN | apply below_drew1 | refine below_set ?_ GE158.out | refine below_set ?_ GE159.out) | exact HB.out))))
                have n2_ := AQ (blk_below (g := gb158) (o := .cells #[.slice A1_0 l1_0.length c1_0, .slice A1_1 l1_1.length c1_1] 77 (0, 0)) (PK BK158) hb)
                have n3_ := AQ (blk_below (g := gb159) (o := .cells #[.slice none 0 0, .slice none 0 0] 77 (0, 0)) (PK BK159) hb)
                have n4_ := AQ (below_step (by repeat (first | (with_reducible first | exact HB.out | apply below_alloc | apply pw_below_drewN | apply below_drew1 | refine below_set ?_ GE158.out | refine below_set ?_ GE159.out) | exact HB.out)) hb)
                clear HO168
                clear BK158
                clear BK159
                clear HB
                have HO168 := n0_
                have HO162 := n1_
                have BK158 := n2_
                have BK159 := n3_
                have HB := n4_
                clear n0_ n1_ n2_ n3_ n4_
                clear hb ho13
                refine hK.out _ _ ⟨(blk_cell BK158.out 0).trans rfl, (blk_cell BK158.out 1).trans rfl⟩ (fun hHeld => ?_)
                clear hK K
                refine norm_ (a' := ?_) ?_ ?_
                rotate_left
                ·show Act.put _ (some 10) _ = _
                 simp only [Act.put, qT, qZ, qS, i64_w, i32_w]
                 rfl
                exact norm_ (by first | (simp only [putAll, Act.put, List.setIfInBounds_toArray, List.set_cons_zero, List.set_cons_succ]; done) | (simp only [putAll, Act.put, List.setIfInBounds_toArray, List.set_cons_zero, List.set_cons_succ]; rfl)) (hJ0_4 (v161, v167) _ ⟨hHeld, (PR HO162), (PR HO168), (PK BK158), (PK BK159), (by repeat (first | (with_reducible first | exact HB.out | apply below_alloc | apply pw_below_drewN | apply below_drew1 | refine below_set ?_ GE158.out | refine below_set ?_ GE159.out) | exact HB.out))⟩)
               ·skip
                refine box_step ?hg (N := 6) ?hd (cs := #[.slice none 0 0, .slice none 0 0]) (t := 77) ?hr ?_; (case hd => rfl); (case hg => rfl); (case hr => first | (go_simp; done) | (go_simp; rfl))
                intro gb172 hg w12 hbox hb
                have n0_ := AQ (Kd.R_below (PR HO168) hb)
                have n1_ := AQ (blk_below (g := gb158) (o := .cells #[.slice A1_0 l1_0.length c1_0, .slice A1_1 l1_1.length c1_1] 77 (0, 0)) (PK BK158) hb)
                have n2_ := AQ (blk_below (g := gb159) (o := .cells #[.slice none 0 0, .slice none 0 0] 77 (0, 0)) (PK BK159) hb)
                have n3_ := AQ (below_step (by repeat (first | (with_reducible first | exact HB.out | apply below_alloc | apply pw_below_drewN | apply below_drew1 | refine below_set ?_ GE158.out | refine below_set ?_ GE159.out) | exact HB.out)) hb)
                have n4_ := AQ (hbox)
                have n5_ := AQ ((by rw [hg]; exact (below_size (by repeat (first | (with_reducible first | exact HB.out | apply below_alloc | apply pw_below_drewN | apply below_drew1 | refine below_set ?_ GE158.out | refine below_set ?_ GE159.out) | exact HB.out))) : w.heap.size ≤ gb172))
                have n6_ := AQ ((by rw [hg]; exact (below_size (by repeat (first | (with_reducible first | exact HB.out | apply below_alloc | apply pw_below_drewN | apply below_drew1 | refine below_set ?_ GE158.out | refine below_set ?_ GE159.out) | exact HB.out))) : w.heap.size ≤ gb172))
                have n7_ := AQ ((by rw [hg]; exact Nat.ne_of_lt (blk_lt (g := gb158) (o := .cells #[.slice A1_0 l1_0.length c1_0, .slice A1_1 l1_1.length c1_1] 77 (0, 0)) (PK BK158)) : gb158 ≠ gb172))
                have n8_ := AQ ((by rw [hg]; exact Nat.ne_of_gt (blk_lt (g := gb158) (o := .cells #[.slice A1_0 l1_0.length c1_0, .slice A1_1 l1_1.length c1_1] 77 (0, 0)) (PK BK158)) : gb172 ≠ gb158))
                have n9_ := AQ ((by rw [hg]; exact Nat.ne_of_lt (blk_lt (g := gb159) (o := .cells #[.slice none 0 0, .slice none 0 0] 77 (0, 0)) (PK BK159)) : gb159 ≠ gb172))
                have n10_ := AQ ((by rw [hg]; exact Nat.ne_of_gt (blk_lt (g := gb159) (o := .cells #[.slice none 0 0, .slice none 0 0] 77 (0, 0)) (PK BK159)) : gb172 ≠ gb159))
                clear HO168
                clear BK158
                clear BK159
                clear HB
                have HO168 := n0_
                have BK158 := n1_
                have BK159 := n2_
                have HB := n3_
                have BK172 := n4_
                have GW172 := n5_
                have GE172 := n6_
                have NB158_172 := n7_
                have NB172_158 := n8_
                have NB159_172 := n9_
                have NB172_159 := n10_
                clear n0_ n1_ n2_ n3_ n4_ n5_ n6_ n7_ n8_ n9_ n10_
                clear hb hbox hg
                refine hK.out _ _ ⟨(blk_cell BK158.out 0).trans rfl, (blk_cell BK158.out 1).trans rfl⟩ (fun hHeld => ?_)
                clear hK K
                refine norm_ (a' := ?_) ?_ ?_
                rotate_left
                ·show Act.put _ (some 6) _ = _
                 simp only [Act.put, qT, qZ, qS, i64_w, i32_w]
                 rfl
                exact norm_ (by first | (simp only [putAll, Act.put, List.setIfInBounds_toArray, List.set_cons_zero, List.set_cons_succ]; done) | (simp only [putAll, Act.put, List.setIfInBounds_toArray, List.set_cons_zero, List.set_cons_succ]; rfl)) (hJ4_9 (v167, gb172) _ ⟨hHeld, (PR HO168), (PK BK158), (PK BK159), (PK BK172), GW172.out, GE172.out, NB158_172.out, NB172_158.out, NB159_172.out, NB172_159.out, (by repeat (first | (with_reducible first | exact HB.out | apply below_alloc | apply pw_below_drewN | apply below_drew1 | refine below_set ?_ GE158.out | refine below_set ?_ GE159.out | refine below_set ?_ GE172.out) | exact HB.out))⟩)
             ·skip
              rintro v161 w11 ⟨hS_, h0_, h1_, h2_, h3_⟩
              have n0_ : Aside0 (Kd.R (Kd.int .u64) 35 w11 w.heap.size (fun _ => True) v161 y160) := ⟨h0_⟩
              have n1_ : Aside0 (w11.heap[gb158]? = some (.cells #[.slice A1_0 l1_0.length c1_0, .slice A1_1 l1_1.length c1_1] 77 (0, 0))) := ⟨h1_⟩
              have n2_ : Aside0 (w11.heap[gb159]? = some (.cells #[.slice none 0 0, .slice none 0 0] 77 (0, 0))) := ⟨h2_⟩
              have n3_ : Aside0 (Below w.heap.size w w11) := ⟨h3_⟩
              clear BK158
              clear BK159
              clear HB
              clear h0_ h1_ h2_ h3_
              have HO162 := n0_
              have BK158 := n1_
              have BK159 := n2_
              have HB := n3_
              clear n0_ n1_ n2_ n3_
              have hHeld : w11.cell? ⟨gb158, 0, none⟩ = some (.slice A1_0 l1_0.length c1_0) ∧ w11.cell? ⟨gb158, 1, none⟩ = some (.slice A1_1 l1_1.length c1_1) := hS_
              refine norm_ (a' := ?_) ?_ ?_
              rotate_left
              ·simp only [putAll, Act.put, List.setIfInBounds_toArray, List.set_cons_zero, List.set_cons_succ]
               rfl
              refine three_ (i := 3) (j := 4) (k := 9) (Ni := some 13) (Nj := some 14) (Nk := some 6) #[true, true, true, true, false, true, true, false, false, false, false] #[true, true, true, false, true, true, true, false, false, false, false] #[true, true, true, false, false, true, true, false, false, true, false] rfl rfl rfl rfl rfl rfl (three_of HT_.out (by kernel_rfl)) (by decide) (by decide) (by decide) (fun K hK => ?_) (fun K hK => ?_) (fun K hK => ?_)
              ·skip
               refine Kd.R_append_rows_step (Kd.int .u64) (w0 := w) w.heap.size (by rfl) (.tmp 10) (.tmp 12) 23 35 (.int .u64 0) 8 rfl Tryd.underlying23 info35 rfl (by decide) (by omega) v161 y160 l1_0 _ _ _ (fun _ => True) (fun _ => False) rfl rfl ?aO ?aR (fun _ _ h => h) (fun _ h => h.elim) ?aF ?aB ?aS ?aL ?_
               (case aR => repeat (first | exact (Kd.C_below HR1_0.out HB.out) | (with_reducible refine Kd.C_alloc ?_ _) | (with_reducible refine Kd.C_drewN ?_ _) | (with_reducible refine Kd.C_drew ?_)))
               (case aB => exact (by repeat (first | (with_reducible first | exact HB.out | apply below_alloc | apply pw_below_drewN | apply below_drew1 | refine below_set ?_ GE158.out | refine below_set ?_ GE159.out) | exact HB.out)))
               (case aF => exact (fun _ _ => trivial))
               (case aO => exact (PR HO162))
               (case aS => exact (below_size (by repeat (first | (with_reducible first | exact HB.out | apply below_alloc | apply pw_below_drewN | apply below_drew1 | refine below_set ?_ GE158.out | refine below_set ?_ GE159.out) | exact HB.out))))
               (case aL => have := LMc3.out; omega)
               intro v164 w12 ho hb hg hat
               rw [← Ny163.out] at ho
               have n0_ := AQ (blk_grown (g := gb158) (o := .cells #[.slice A1_0 l1_0.length c1_0, .slice A1_1 l1_1.length c1_1] 77 (0, 0)) (PK BK158) hg (Kd.R_ne HO162.out BK158.out (by decide)))
               have n1_ := AQ (blk_grown (g := gb159) (o := .cells #[.slice none 0 0, .slice none 0 0] 77 (0, 0)) (PK BK159) hg (Kd.R_ne HO162.out BK159.out (by decide)))
               have n2_ := AQ (hb)
               have n3_ := AQ (ho)
               clear BK158
               clear BK159
               clear HB
               clear HO162
               have BK158 := n0_
               have BK159 := n1_
               have HB := n2_
               have HO165 := n3_
               clear n0_ n1_ n2_ n3_
               clear ho hb hg hat
               refine hK.out _ _ ⟨(blk_cell BK158.out 0).trans rfl, (blk_cell BK158.out 1).trans rfl⟩ (fun hHeld => ?_)
               clear hK K
               refine norm_ (a' := ?_) ?_ ?_
               rotate_left
               ·show Act.put _ (some 13) _ = _
                simp only [Act.put, qT, qZ, qS, i64_w, i32_w]
                rfl
               exact norm_ (by first | (simp only [putAll, Act.put, List.setIfInBounds_toArray, List.set_cons_zero, List.set_cons_succ]; done) | (simp only [putAll, Act.put, List.setIfInBounds_toArray, List.set_cons_zero, List.set_cons_succ]; rfl)) (hJ0_3 (v161, v164) _ ⟨hHeld, (PR HO165), (PK BK158), (PK BK159), (by repeat (first | (with_reducible first | exact HB.out | apply below_alloc | apply pw_below_drewN | apply below_drew1 | refine below_set ?_ GE158.out | refine below_set ?_ GE159.out) | exact HB.out))⟩)
              ·skip
               refine Kd.R_lit_step (Kd.int .u8) _ 5 ?hg (N := 14) ?hd (xs := ([] : List Int)) (inner := []) (ok := fun _ => True) (okp := fun _ => True) ?hr ?hp (fun _ hk => hk) trivial (Below.refl _ _) (Nat.le_refl _) (by simp) ?_; (case hd => rfl); (case hg => rfl); (case hr => first | (go_simp; done) | (go_simp; rfl)); (case hp => exact (Reps.none _ _))
               intro v167 w12 ho13 hb hg_ hnew_
               clear hg_ hnew_
               (first | rw [← Ny166.out] at ho13 | (simp only [Int.reduceToNat] at ho13; rw [← Ny166.out] at ho13))
               have n0_ := AQ (Kd.R_below (PR HO162) hb)
               have n1_ := AQ (Kd.R_lower ho13 (below_size (by repeat (first | (with_reducible first | exact HB.out | apply below_alloc | apply pw_below_drewN | apply below_drew1 | refine below_set ?_ GE158.out | refine below_set ?_ GE159.out) | exact HB.out))))
               have n2_ := AQ (blk_below (g := gb158) (o := .cells #[.slice A1_0 l1_0.length c1_0, .slice A1_1 l1_1.length c1_1] 77 (0, 0)) (PK BK158) hb)
               have n3_ := AQ (blk_below (g := gb159) (o := .cells #[.slice none 0 0, .slice none 0 0] 77 (0, 0)) (PK BK159) hb)
               have n4_ := AQ (below_step (by repeat (first | (with_reducible first | exact HB.out | apply below_alloc | apply pw_below_drewN | apply below_drew1 | refine below_set ?_ GE158.out | refine below_set ?_ GE159.out) | exact HB.out)) hb)
               clear HO162
               clear BK158
               clear BK159
               clear HB
               have HO162 := n0_
               have HO168 := n1_
               have BK158 := n2_
               have BK159 := n3_
               have HB := n4_
               clear n0_ n1_ n2_ n3_ n4_
               clear hb ho13
               refine hK.out _ _ ⟨(blk_cell BK158.out 0).trans rfl, (blk_cell BK158.out 1).trans rfl⟩ (fun hHeld => ?_)
               clear hK K
               refine norm_ (a' := ?_) ?_ ?_
               rotate_left
               ·show Act.put _ (some 14) _ = _
                simp only [Act.put, qT, qZ, qS, i64_w, i32_w]
                rfl
               exact norm_ (by first | (simp only [putAll, Act.put, List.setIfInBounds_toArray, List.set_cons_zero, List.set_cons_succ]; done) | (simp only [putAll, Act.put, List.setIfInBounds_toArray, List.set_cons_zero, List.set_cons_succ]; rfl)) (hJ0_4 (v161, v167) _ ⟨hHeld, (PR HO162), (PR HO168), (PK BK158), (PK BK159), (by repeat (first | (with_reducible first | exact HB.out | apply below_alloc | apply pw_below_drewN | apply below_drew1 | refine below_set ?_ GE158.out | refine below_set ?_ GE159.out) | exact HB.out))⟩)
              ·skip
               refine box_step ?hg (N := 6) ?hd (cs := #[.slice none 0 0, .slice none 0 0]) (t := 77) ?hr ?_; (case hd => rfl); (case hg => rfl); (case hr => first | (go_simp; done) | (go_simp; rfl))
               intro gb172 hg w12 hbox hb
               have n0_ := AQ (Kd.R_below (PR HO162) hb)
               have n1_ := AQ (blk_below (g := gb158) (o := .cells #[.slice A1_0 l1_0.length c1_0, .slice A1_1 l1_1.length c1_1] 77 (0, 0)) (PK BK158) hb)
               have n2_ := AQ (blk_below (g := gb159) (o := .cells #[.slice none 0 0, .slice none 0 0] 77 (0, 0)) (PK BK159) hb)
               have n3_ := AQ (below_step (by repeat (first | (with_reducible first | exact HB.out | apply below_alloc | apply pw_below_drewN | apply below_drew1 | refine below_set ?_ GE158.out | refine below_set ?_ GE159.out) | exact HB.out)) hb)
               have n4_ := AQ (hbox)
               have n5_ := AQ ((by rw [hg]; exact (below_size (by repeat (first | (with_reducible first | exact HB.out | apply below_alloc | apply pw_below_drewN | apply below_drew1 | refine below_set ?_ GE158.out | refine below_set ?_ GE159.out) | exact HB.out))) : w.heap.size ≤ gb172))
               have n6_ := AQ ((by rw [hg]; exact (below_size (by repeat (first | (with_reducible first | exact HB.out | apply below_alloc | apply pw_below_drewN | apply below_drew1 | refine below_set ?_ GE158.out | refine below_set ?_ GE159.out) | exact HB.out))) : w.heap.size ≤ gb172))
               have n7_ := AQ ((by rw [hg]; exact Nat.ne_of_lt (blk_lt (g := gb158) (o := .cells #[.slice A1_0 l1_0.length c1_0, .slice A1_1 l1_1.length c1_1] 77 (0, 0)) (PK BK158)) : gb158 ≠ gb172))
               have n8_ := AQ ((by rw [hg]; exact Nat.ne_of_gt (blk_lt (g := gb158) (o := .cells #[.slice A1_0 l1_0.length c1_0, .slice A1_1 l1_1.length c1_1] 77 (0, 0)) (PK BK158)) : gb172 ≠ gb158))
               have n9_ := AQ ((by rw [hg]; exact Nat.ne_of_lt (blk_lt (g := gb159) (o := .cells #[.slice none 0 0, .slice none 0 0] 77 (0, 0)) (PK BK159)) : gb159 ≠ gb172))
               have n10_ := AQ ((by rw [hg]; exact Nat.ne_of_gt (blk_lt (g := gb159) (o := .cells #[.slice none 0 0, .slice none 0 0] 77 (0, 0)) (PK BK159)) : gb172 ≠ gb159))
               clear HO162
               clear BK158
               clear BK159
               clear HB
               have HO162 := n0_
               have BK158 := n1_
               have BK159 := n2_
               have HB := n3_
               have BK172 := n4_
               have GW172 := n5_
               have GE172 := n6_
               have NB158_172 := n7_
               have NB172_158 := n8_
               have NB159_172 := n9_
               have NB172_159 := n10_
               clear n0_ n1_ n2_ n3_ n4_ n5_ n6_ n7_ n8_ n9_ n10_
               clear hb hbox hg
               refine hK.out _ _ ⟨(blk_cell BK158.out 0).trans rfl, (blk_cell BK158.out 1).trans rfl⟩ (fun hHeld => ?_)
               clear hK K
               refine norm_ (a' := ?_) ?_ ?_
               rotate_left
               ·show Act.put _ (some 6) _ = _
                simp only [Act.put, qT, qZ, qS, i64_w, i32_w]
                rfl
               exact norm_ (by first | (simp only [putAll, Act.put, List.setIfInBounds_toArray, List.set_cons_zero, List.set_cons_succ]; done) | (simp only [putAll, Act.put, List.setIfInBounds_toArray, List.set_cons_zero, List.set_cons_succ]; rfl)) (hJ0_9 (v161, gb172) _ ⟨hHeld, (PR HO162), (PK BK158), (PK BK159), (PK BK172), GW172.out, GE172.out, NB158_172.out, NB172_158.out, NB159_172.out, NB172_159.out, (by repeat (first | (with_reducible first | exact HB.out | apply below_alloc | apply pw_below_drewN | apply below_drew1 | refine below_set ?_ GE158.out | refine below_set ?_ GE159.out | refine below_set ?_ GE172.out) | exact HB.out))⟩)
            ·skip
             rintro ⟨v167, gb172⟩ w12 ⟨hS_, h0_, h1_, h2_, h3_, h4_, h5_, h6_, h7_, h8_, h9_, h10_⟩
             have n0_ : Aside0 (Kd.R (Kd.int .u8) 5 w12 w.heap.size (fun _ => True) v167 y166) := ⟨h0_⟩
             have n1_ : Aside0 (w12.heap[gb158]? = some (.cells #[.slice A1_0 l1_0.length c1_0, .slice A1_1 l1_1.length c1_1] 77 (0, 0))) := ⟨h1_⟩
             have n2_ : Aside0 (w12.heap[gb159]? = some (.cells #[.slice none 0 0, .slice none 0 0] 77 (0, 0))) := ⟨h2_⟩
             have n3_ : Aside0 (w12.heap[gb172]? = some (.cells #[.slice none 0 0, .slice none 0 0] 77 (0, 0))) := ⟨h3_⟩
             have n4_ : Aside0 (w.heap.size ≤ gb172) := ⟨h4_⟩
             have n5_ : Aside0 (w.heap.size ≤ gb172) := ⟨h5_⟩
             have n6_ : Aside0 (gb158 ≠ gb172) := ⟨h6_⟩
             have n7_ : Aside0 (gb172 ≠ gb158) := ⟨h7_⟩
             have n8_ : Aside0 (gb159 ≠ gb172) := ⟨h8_⟩
             have n9_ : Aside0 (gb172 ≠ gb159) := ⟨h9_⟩
             have n10_ : Aside0 (Below w.heap.size w w12) := ⟨h10_⟩
             clear BK158
             clear BK159
             clear HB
             clear h0_ h1_ h2_ h3_ h4_ h5_ h6_ h7_ h8_ h9_ h10_
             have HO168 := n0_
             have BK158 := n1_
             have BK159 := n2_
             have BK172 := n3_
             have GW172 := n4_
             have GE172 := n5_
             have NB158_172 := n6_
             have NB172_158 := n7_
             have NB159_172 := n8_
             have NB172_159 := n9_
             have HB := n10_
             clear n0_ n1_ n2_ n3_ n4_ n5_ n6_ n7_ n8_ n9_ n10_
             have hHeld : w12.cell? ⟨gb158, 0, none⟩ = some (.slice A1_0 l1_0.length c1_0) ∧ w12.cell? ⟨gb158, 1, none⟩ = some (.slice A1_1 l1_1.length c1_1) := hS_
             refine norm_ (a' := ?_) ?_ ?_
             rotate_left
             ·simp only [putAll, Act.put, List.setIfInBounds_toArray, List.set_cons_zero, List.set_cons_succ]
              rfl
             refine one_ (i := 0) (N := some 10) #[true, true, true, false, true, true, true, false, false, true, false] rfl rfl (one_of HT_.out (by kernel_rfl)) (by decide) (fun K hK => ?_)
             refine Kd.R_lit_step (Kd.int .u64) _ 35 ?hg (N := 10) ?hd (xs := ([] : List Int)) (inner := []) (ok := fun _ => True) (okp := fun _ => True) ?hr ?hp (fun _ hk => hk) trivial (Below.refl _ _) (Nat.le_refl _) (by simp) ?_; (case hd => rfl); (case hg => rfl); (case hr => first | (go_simp; done) | (go_simp; rfl)); (case hp => exact (Reps.none _ _))
             intro v161 w13 ho14 hb hg_ hnew_
             clear hg_ hnew_
             (first | rw [← Ny160.out] at ho14 | (simp only [Int.reduceToNat] at ho14; rw [← Ny160.out] at ho14))
             have n0_ := AQ (Kd.R_below (PR HO168) hb)
             have n1_ := AQ (Kd.R_lower ho14 (below_size (by repeat (first | (with_reducible first | exact HB.out | apply below_alloc | apply pw_below_drewN | apply below_drew1 | refine below_set ?_ GE158.out | refine below_set ?_ GE159.out | refine below_set ?_ GE172.out) | exact HB.out))))
             have n2_ := AQ (blk_below (g := gb158) (o := .cells #[.slice A1_0 l1_0.length c1_0, .slice A1_1 l1_1.length c1_1] 77 (0, 0)) (PK BK158) hb)
             have n3_ := AQ (blk_below (g := gb159) (o := .cells #[.slice none 0 0, .slice none 0 0] 77 (0, 0)) (PK BK159) hb)
             have n4_ := AQ (blk_below (g := gb172) (o := .cells #[.slice none 0 0, .slice none 0 0] 77 (0, 0)) (PK BK172) hb)
             have n5_ := AQ (below_step (by repeat (first | (with_reducible first | exact HB.out | apply below_alloc | apply pw_below_drewN | apply below_drew1 | refine below_set ?_ GE158.out | refine below_set ?_ GE159.out | refine below_set ?_ GE172.out) | exact HB.out)) hb)
             clear HO168
             clear BK158
             clear BK159
             clear BK172
             clear HB
             have HO168 := n0_
             have HO162 := n1_
             have BK158 := n2_
             have BK159 := n3_
             have BK172 := n4_
             have HB := n5_
             clear n0_ n1_ n2_ n3_ n4_ n5_
             clear hb ho14
             refine hK.out _ _ ⟨(blk_cell BK158.out 0).trans rfl, (blk_cell BK158.out 1).trans rfl⟩ (fun hHeld => ?_)
             clear hK K
             refine norm_ (a' := ?_) ?_ ?_
             rotate_left
             ·show Act.put _ (some 10) _ = _
              simp only [Act.put, qT, qZ, qS, i64_w, i32_w]
              rfl
             exact norm_ (by first | (simp only [putAll, Act.put, List.setIfInBounds_toArray, List.set_cons_zero, List.set_cons_succ]; done) | (simp only [putAll, Act.put, List.setIfInBounds_toArray, List.set_cons_zero, List.set_cons_succ]; rfl)) (hJ0_4_9 (v161, v167, gb172) _ ⟨hHeld, (PR HO162), (PR HO168), (PK BK158), (PK BK159), (PK BK172), GW172.out, GE172.out, NB158_172.out, NB172_158.out, NB159_172.out, NB172_159.out, (by repeat (first | (with_reducible first | exact HB.out | apply below_alloc | apply pw_below_drewN | apply below_drew1 | refine below_set ?_ GE158.out | refine below_set ?_ GE159.out | refine below_set ?_ GE172.out) | exact HB.out))⟩)
           ·skip
            rintro ⟨v161, gb172⟩ w12 ⟨hS_, h0_, h1_, h2_, h3_, h4_, h5_, h6_, h7_, h8_, h9_, h10_⟩
            have n0_ : Aside0 (Kd.R (Kd.int .u64) 35 w12 w.heap.size (fun _ => True) v161 y160) := ⟨h0_⟩
            have n1_ : Aside0 (w12.heap[gb158]? = some (.cells #[.slice A1_0 l1_0.length c1_0, .slice A1_1 l1_1.length c1_1] 77 (0, 0))) := ⟨h1_⟩
            have n2_ : Aside0 (w12.heap[gb159]? = some (.cells #[.slice none 0 0, .slice none 0 0] 77 (0, 0))) := ⟨h2_⟩
            have n3_ : Aside0 (w12.heap[gb172]? = some (.cells #[.slice none 0 0, .slice none 0 0] 77 (0, 0))) := ⟨h3_⟩
            have n4_ : Aside0 (w.heap.size ≤ gb172) := ⟨h4_⟩
            have n5_ : Aside0 (w.heap.size ≤ gb172) := ⟨h5_⟩
            have n6_ : Aside0 (gb158 ≠ gb172) := ⟨h6_⟩
            have n7_ : Aside0 (gb172 ≠ gb158) := ⟨h7_⟩
            have n8_ : Aside0 (gb159 ≠ gb172) := ⟨h8_⟩
            have n9_ : Aside0 (gb172 ≠ gb159) := ⟨h9_⟩
            have n10_ : Aside0 (Below w.heap.size w w12) := ⟨h10_⟩
            clear BK158
            clear BK159
            clear HB
            clear h0_ h1_ h2_ h3_ h4_ h5_ h6_ h7_ h8_ h9_ h10_
            have HO162 := n0_
            have BK158 := n1_
            have BK159 := n2_
            have BK172 := n3_
            have GW172 := n4_
            have GE172 := n5_
            have NB158_172 := n6_
            have NB172_158 := n7_
            have NB159_172 := n8_
            have NB172_159 := n9_
            have HB := n10_
            clear n0_ n1_ n2_ n3_ n4_ n5_ n6_ n7_ n8_ n9_ n10_
            have hHeld : w12.cell? ⟨gb158, 0, none⟩ = some (.slice A1_0 l1_0.length c1_0) ∧ w12.cell? ⟨gb158, 1, none⟩ = some (.slice A1_1 l1_1.length c1_1) := hS_
            refine norm_ (a' := ?_) ?_ ?_
            rotate_left
            ·simp only [putAll, Act.put, List.setIfInBounds_toArray, List.set_cons_zero, List.set_cons_succ]
             rfl
            refine two_ (i := 3) (j := 4) (Ni := some 13) (Nj := some 14) #[true, true, true, true, false, true, true, false, false, true, false] #[true, true, true, false, true, true, true, false, false, true, false] rfl rfl rfl rfl (two_of HT_.out (by kernel_rfl)) (by decide) (by decide) (fun K hK => ?_) (fun K hK => ?_)
            ·skip
             refine Kd.R_append_rows_step (Kd.int .u64) (w0 := w) w.heap.size (by rfl) (.tmp 10) (.tmp 12) 23 35 (.int .u64 0) 8 rfl Tryd.underlying23 info35 rfl (by decide) (by omega) v161 y160 l1_0 _ _ _ (fun _ => True) (fun _ => False) rfl rfl ?aO ?aR (fun _ _ h => h) (fun _ h => h.elim) ?aF ?aB ?aS ?aL ?_
             (case aR => repeat (first | exact (Kd.C_below HR1_0.out HB.out) | (with_reducible refine Kd.C_alloc ?_ _) | (with_reducible refine Kd.C_drewN ?_ _) | (with_reducible refine Kd.C_drew ?_)))
             (case aB => exact (by repeat (first | (with_reducible first | exact HB.out | apply below_alloc | apply pw_below_drewN | apply below_drew1 | refine below_set ?_ GE158.out | refine below_set ?_ GE159.out | refine below_set ?_ GE172.out) | exact HB.out)))
             (case aF => exact (fun _ _ => trivial))
             (case aO => exact (PR HO162))
             (case aS => exact (below_size (by repeat (first | (with_reducible first | exact HB.out | apply below_alloc | apply pw_below_drewN | apply below_drew1 | refine below_set ?_ GE158.out | refine below_set ?_ GE159.out | refine below_set ?_ GE172.out) | exact HB.out))))
             (case aL => have := LMc3.out; omega)
             intro v164 w13 ho hb hg hat
             rw [← Ny163.out] at ho
             have n0_ := AQ (blk_grown (g := gb158) (o := .cells #[.slice A1_0 l1_0.length c1_0, .slice A1_1 l1_1.length c1_1] 77 (0, 0)) (PK BK158) hg (Kd.R_ne HO162.out BK158.out (by decide)))
             have n1_ := AQ (blk_grown (g := gb159) (o := .cells #[.slice none 0 0, .slice none 0 0] 77 (0, 0)) (PK BK159) hg (Kd.R_ne HO162.out BK159.out (by decide)))
             have n2_ := AQ (blk_grown (g := gb172) (o := .cells #[.slice none 0 0, .slice none 0 0] 77 (0, 0)) (PK BK172) hg (Kd.R_ne HO162.out BK172.out (by decide)))
             have n3_ := AQ (hb)
             have n4_ := AQ (ho)
             clear BK158
             clear BK159
             clear BK172
             clear HB
             clear HO162
             have BK158 := n0_
             have BK159 := n1_
             have BK172 := n2_
             have HB := n3_
             have HO165 := n4_
             clear n0_ n1_ n2_ n3_ n4_
             clear ho hb hg hat
             refine hK.out _ _ ⟨(blk_cell BK158.out 0).trans rfl, (blk_cell BK158.out 1).trans rfl⟩ (fun hHeld => ?_)
             clear hK K
             refine norm_ (a' := ?_) ?_ ?_
             rotate_left
             ·show Act.put _ (some 13) _ = _
              simp only [Act.put, qT, qZ, qS, i64_w, i32_w]
              rfl
             exact norm_ (by first | (simp only [putAll, Act.put, List.setIfInBounds_toArray, List.set_cons_zero, List.set_cons_succ]; done) | (simp only [putAll, Act.put, List.setIfInBounds_toArray, List.set_cons_zero, List.set_cons_succ]; rfl)) (hJ0_3_9 (v161, v164, gb172) _ ⟨hHeld, (PR HO165), (PK BK158), (PK BK159), (PK BK172), GW172.out, GE172.out, NB158_172.out, NB172_158.out, NB159_172.out, NB172_159.out, (by repeat (first | (with_reducible first | exact HB.out | apply below_alloc | apply pw_below_drewN | apply below_drew1 | refine below_set ?_ GE158.out | refine below_set ?_ GE159.out | refine below_set ?_ GE172.out) | exact HB.out))⟩)
            ·skip
             refine Kd.R_lit_step (Kd.int .u8) _ 5 ?hg (N := 14) ?hd (xs := ([] : List Int)) (inner := []) (ok := fun _ => True) (okp := fun _ => True) ?hr ?hp (fun _ hk => hk) trivial (Below.refl _ _) (Nat.le_refl _) (by simp) ?_; (case hd => rfl); (case hg => rfl); (case hr => first | (go_simp; done) | (go_simp; rfl)); (case hp => exact (Reps.none _ _))
             intro v167 w13 ho14 hb hg_ hnew_
             clear hg_ hnew_
             (first | rw [← Ny166.out] at ho14 | (simp only [Int.reduceToNat] at ho14; rw [← Ny166.out] at ho14))
             have n0_ := AQ (Kd.R_below (PR HO162) hb)
             have n1_ := AQ (Kd.R_lower ho14 (below_size (by repeat (first | (with_reducible first | exact HB.out | apply below_alloc | apply pw_below_drewN | apply below_drew1 | refine below_set ?_ GE158.out | refine below_set ?_ GE159.out | refine below_set ?_ GE172.out) | exact HB.out))))
             have n2_ := AQ (blk_below (g := gb158) (o := .cells #[.slice A1_0 l1_0.length c1_0, .slice A1_1 l1_1.length c1_1] 77 (0, 0)) (PK BK158) hb)
             have n3_ := AQ (blk_below (g := gb159) (o := .cells #[.slice none 0 0, .slice none 0 0] 77 (0, 0)) (PK BK159) hb)
             have n4_ := AQ (blk_below (g := gb172) (o := .cells #[.slice none 0 0, .slice none 0 0] 77 (0, 0)) (PK BK172) hb)
             have n5_ := AQ (below_step (by repeat (first | (with_reducible first | exact HB.out | apply below_alloc | apply pw_below_drewN | apply below_drew1 | refine below_set ?_ GE158.out | refine below_set ?_ GE159.out | refine below_set ?_ GE172.out) | exact HB.out)) hb)
             clear HO162
             clear BK158
             clear BK159
             clear BK172
             clear HB
             have HO162 := n0_
             have HO168 := n1_
             have BK158 := n2_
             have BK159 := n3_
             have BK172 := n4_
             have HB := n5_
             clear n0_ n1_ n2_ n3_ n4_ n5_
             clear hb ho14
             refine hK.out _ _ ⟨(blk_cell BK158.out 0).trans rfl, (blk_cell BK158.out 1).trans rfl⟩ (fun hHeld => ?_)
             clear hK K
             refine norm_ (a' := ?_) ?_ ?_
             rotate_left
             ·show Act.put _ (some 14) _ = _
              simp only [Act.put, qT, qZ, qS, i64_w, i32_w]
              rfl
             exact norm_ (by first | (simp only [putAll, Act.put, List.setIfInBounds_toArray, List.set_cons_zero, List.set_cons_succ]; done) | (simp only [putAll, Act.put, List.setIfInBounds_toArray, List.set_cons_zero, List.set_cons_succ]; rfl)) (hJ0_4_9 (v161, v167, gb172) _ ⟨hHeld, (PR HO162), (PR HO168), (PK BK158), (PK BK159), (PK BK172), GW172.out, GE172.out, NB158_172.out, NB172_158.out, NB159_172.out, NB172_159.out, (by repeat (first | (with_reducible first | exact HB.out | apply below_alloc | apply pw_below_drewN | apply below_drew1 | refine below_set ?_ GE158.out | refine below_set ?_ GE159.out | refine below_set ?_ GE172.out) | exact HB.out))⟩)
          ·skip
           rintro ⟨v161, v167⟩ w13 ⟨hS_, h0_, h1_, h2_, h3_, h4_⟩
           have n0_ : Aside0 (Kd.R (Kd.int .u64) 35 w13 w.heap.size (fun _ => True) v161 y160) := ⟨h0_⟩
           have n1_ : Aside0 (Kd.R (Kd.int .u8) 5 w13 w.heap.size (fun _ => True) v167 y166) := ⟨h1_⟩
           have n2_ : Aside0 (w13.heap[gb158]? = some (.cells #[.slice A1_0 l1_0.length c1_0, .slice A1_1 l1_1.length c1_1] 77 (0, 0))) := ⟨h2_⟩
           have n3_ : Aside0 (w13.heap[gb159]? = some (.cells #[.slice none 0 0, .slice none 0 0] 77 (0, 0))) := ⟨h3_⟩
           have n4_ : Aside0 (Below w.heap.size w w13) := ⟨h4_⟩
           clear BK158
           clear BK159
           clear HB
           clear h0_ h1_ h2_ h3_ h4_
           have HO162 := n0_
           have HO168 := n1_
           have BK158 := n2_
           have BK159 := n3_
           have HB := n4_
           clear n0_ n1_ n2_ n3_ n4_
           have hHeld : w13.cell? ⟨gb158, 0, none⟩ = some (.slice A1_0 l1_0.length c1_0) ∧ w13.cell? ⟨gb158, 1, none⟩ = some (.slice A1_1 l1_1.length c1_1) := hS_
           refine norm_ (a' := ?_) ?_ ?_
           rotate_left
           ·simp only [putAll, Act.put, List.setIfInBounds_toArray, List.set_cons_zero, List.set_cons_succ]
            rfl
           refine two_ (i := 3) (j := 9) (Ni := some 13) (Nj := some 6) #[true, true, true, true, true, true, true, false, false, false, false] #[true, true, true, false, true, true, true, false, false, true, false] rfl rfl rfl rfl (two_of HT_.out (by kernel_rfl)) (by decide) (by decide) (fun K hK => ?_) (fun K hK => ?_)
           ·skip
            refine Kd.R_append_rows_step (Kd.int .u64) (w0 := w) w.heap.size (by rfl) (.tmp 10) (.tmp 12) 23 35 (.int .u64 0) 8 rfl Tryd.underlying23 info35 rfl (by decide) (by omega) v161 y160 l1_0 _ _ _ (fun _ => True) (fun _ => False) rfl rfl ?aO ?aR (fun _ _ h => h) (fun _ h => h.elim) ?aF ?aB ?aS ?aL ?_
            (case aR => repeat (first | exact (Kd.C_below HR1_0.out HB.out) | (with_reducible refine Kd.C_alloc ?_ _) | (with_reducible refine Kd.C_drewN ?_ _) | (with_reducible refine Kd.C_drew ?_)))
            (case aB => exact (by repeat (first | (with_reducible first | exact HB.out | apply below_alloc | apply pw_below_drewN | apply below_drew1 | refine below_set ?_ GE158.out | refine below_set ?_ GE159.out) | exact HB.out)))
            (case aF => exact (fun _ _ => trivial))
            (case aO => exact (PR HO162))
            (case aS => exact (below_size (by repeat (first | (with_reducible first | exact HB.out | apply below_alloc | apply pw_below_drewN | apply below_drew1 | refine below_set ?_ GE158.out | refine below_set ?_ GE159.out) | exact HB.out))))
            (case aL => have := LMc3.out; omega)
            intro v164 w14 ho hb hg hat
            rw [← Ny163.out] at ho
            have n0_ := AQ (blk_grown (g := gb158) (o := .cells #[.slice A1_0 l1_0.length c1_0, .slice A1_1 l1_1.length c1_1] 77 (0, 0)) (PK BK158) hg (Kd.R_ne HO162.out BK158.out (by decide)))
            have n1_ := AQ (blk_grown (g := gb159) (o := .cells #[.slice none 0 0, .slice none 0 0] 77 (0, 0)) (PK BK159) hg (Kd.R_ne HO162.out BK159.out (by decide)))
            have n2_ := AQ (Kd.R_over' (PR HO168) (Kd.R_typed (PR HO162)) (by decide) hg)
            have n3_ := AQ (hb)
            have n4_ := AQ (ho)
            clear BK158
            clear BK159
            clear HO168
            clear HB
            clear HO162
            have BK158 := n0_
            have BK159 := n1_
            have HO168 := n2_
            have HB := n3_
            have HO165 := n4_
            clear n0_ n1_ n2_ n3_ n4_
            clear ho hb hg hat
            refine hK.out _ _ ⟨(blk_cell BK158.out 0).trans rfl, (blk_cell BK158.out 1).trans rfl⟩ (fun hHeld => ?_)
            clear hK K
            refine norm_ (a' := ?_) ?_ ?_
            rotate_left
            ·show Act.put _ (some 13) _ = _
             simp only [Act.put, qT, qZ, qS, i64_w, i32_w]
             rfl
            exact norm_ (by first | (simp only [putAll, Act.put, List.setIfInBounds_toArray, List.set_cons_zero, List.set_cons_succ]; done) | (simp only [putAll, Act.put, List.setIfInBounds_toArray, List.set_cons_zero, List.set_cons_succ]; rfl)) (hJ0_3_4 (v161, v164, v167) _ ⟨hHeld, (PR HO165), (PR HO168), (PK BK158), (PK BK159), (by repeat (first | (with_reducible first | exact HB.out | apply below_alloc | apply pw_below_drewN | apply below_drew1 | refine below_set ?_ GE158.out | refine below_set ?_ GE159.out) | exact HB.out))⟩)
           ·skip
            refine box_step ?hg (N := 6) ?hd (cs := #[.slice none 0 0, .slice none 0 0]) (t := 77) ?hr ?_; (case hd => rfl); (case hg => rfl); (case hr => first | (go_simp; done) | (go_simp; rfl))
            intro gb172 hg w14 hbox hb
            have n0_ := AQ (Kd.R_below (PR HO162) hb)
            have n1_ := AQ (Kd.R_below (PR HO168) hb)
            have n2_ := AQ (blk_below (g := gb158) (o := .cells #[.slice A1_0 l1_0.length c1_0, .slice A1_1 l1_1.length c1_1] 77 (0, 0)) (PK BK158) hb)
            have n3_ := AQ (blk_below (g := gb159) (o := .cells #[.slice none 0 0, .slice none 0 0] 77 (0, 0)) (PK BK159) hb)
            have n4_ := AQ (below_step (by repeat (first | (with_reducible first | exact HB.out | apply below_alloc | apply pw_below_drewN | apply below_drew1 | refine below_set ?_ GE158.out | refine below_set ?_ GE159.out) | exact HB.out)) hb)
            have n5_ := AQ (hbox)
            have n6_ := AQ ((by rw [hg]; exact (below_size (by repeat (first | (with_reducible first | exact HB.out | apply below_alloc | apply pw_below_drewN | apply below_drew1 | refine below_set ?_ GE158.out | refine below_set ?_ GE159.out) | exact HB.out))) : w.heap.size ≤ gb172))
            have n7_ := AQ ((by rw [hg]; exact (below_size (by repeat (first | (with_reducible first | exact HB.out | apply below_alloc | apply pw_below_drewN | apply below_drew1 | refine below_set ?_ GE158.out | refine below_set ?_ GE159.out) | exact HB.out))) : w.heap.size ≤ gb172))
            have n8_ := AQ ((by rw [hg]; exact Nat.ne_of_lt (blk_lt (g := gb158) (o := .cells #[.slice A1_0 l1_0.length c1_0, .slice A1_1 l1_1.length c1_1] 77 (0, 0)) (PK BK158)) : gb158 ≠ gb172))
            have n9_ := AQ ((by rw [hg]; exact Nat.ne_of_gt (blk_lt (g := gb158) (o := .cells #[.slice A1_0 l1_0.length c1_0, .slice A1_1 l1_1.length c1_1] 77 (0, 0)) (PK BK158)) : gb172 ≠ gb158))
            have n10_ := AQ ((by rw [hg]; exact Nat.ne_of_lt (blk_lt (g := gb159) (o := .cells #[.slice none 0 0, .slice none 0 0] 77 (0, 0)) (PK BK159)) : gb159 ≠ gb172))
            have n11_ := AQ ((by rw [hg]; exact Nat.ne_of_gt (blk_lt (g := gb159) (o := .cells #[.slice none 0 0, .slice none 0 0] 77 (0, 0)) (PK BK159)) : gb172 ≠ gb159))
            clear HO162
            clear HO168
            clear BK158
            clear BK159
            clear HB
            have HO162 := n0_
            have HO168 := n1_
            have BK158 := n2_
            have BK159 := n3_
            have HB := n4_
            have BK172 := n5_
            have GW172 := n6_
            have GE172 := n7_
            have NB158_172 := n8_
            have NB172_158 := n9_
            have NB159_172 := n10_
            have NB172_159 := n11_
            clear n0_ n1_ n2_ n3_ n4_ n5_ n6_ n7_ n8_ n9_ n10_ n11_
            clear hb hbox hg
            refine hK.out _ _ ⟨(blk_cell BK158.out 0).trans rfl, (blk_cell BK158.out 1).trans rfl⟩ (fun hHeld => ?_)
            clear hK K
            refine norm_ (a' := ?_) ?_ ?_
            rotate_left
            ·show Act.put _ (some 6) _ = _
             simp only [Act.put, qT, qZ, qS, i64_w, i32_w]
             rfl
            exact norm_ (by first | (simp only [putAll, Act.put, List.setIfInBounds_toArray, List.set_cons_zero, List.set_cons_succ]; done) | (simp only [putAll, Act.put, List.setIfInBounds_toArray, List.set_cons_zero, List.set_cons_succ]; rfl)) (hJ0_4_9 (v161, v167, gb172) _ ⟨hHeld, (PR HO162), (PR HO168), (PK BK158), (PK BK159), (PK BK172), GW172.out, GE172.out, NB158_172.out, NB172_158.out, NB159_172.out, NB172_159.out, (by repeat (first | (with_reducible first | exact HB.out | apply below_alloc | apply pw_below_drewN | apply below_drew1 | refine below_set ?_ GE158.out | refine below_set ?_ GE159.out | refine below_set ?_ GE172.out) | exact HB.out))⟩)
         ·skip
          rintro ⟨v161, v164⟩ w12 ⟨hS_, h0_, h1_, h2_, h3_⟩
          have n0_ : Aside0 (Kd.R (Kd.int .u64) 35 w12 w.heap.size (fun _ => True) v164 y163) := ⟨h0_⟩
          have n1_ : Aside0 (w12.heap[gb158]? = some (.cells #[.slice A1_0 l1_0.length c1_0, .slice A1_1 l1_1.length c1_1] 77 (0, 0))) := ⟨h1_⟩
          have n2_ : Aside0 (w12.heap[gb159]? = some (.cells #[.slice none 0 0, .slice none 0 0] 77 (0, 0))) := ⟨h2_⟩
          have n3_ : Aside0 (Below w.heap.size w w12) := ⟨h3_⟩
          clear BK158
          clear BK159
          clear HB
          clear h0_ h1_ h2_ h3_
          have HO165 := n0_
          have BK158 := n1_
          have BK159 := n2_
          have HB := n3_
          clear n0_ n1_ n2_ n3_
          have hHeld : w12.cell? ⟨gb158, 0, none⟩ = some (.slice A1_0 l1_0.length c1_0) ∧ w12.cell? ⟨gb158, 1, none⟩ = some (.slice A1_1 l1_1.length c1_1) := hS_
          refine norm_ (a' := ?_) ?_ ?_
          rotate_left
          ·simp only [putAll, Act.put, List.setIfInBounds_toArray, List.set_cons_zero, List.set_cons_succ]
           rfl
          refine two_ (i := 4) (j := 9) (Ni := some 14) (Nj := some 6) #[true, true, true, true, true, true, true, false, false, false, false] #[true, true, true, true, false, true, true, false, false, true, false] rfl rfl rfl rfl (two_of HT_.out (by kernel_rfl)) (by decide) (by decide) (fun K hK => ?_) (fun K hK => ?_)
          ·skip
           refine Kd.R_lit_step (Kd.int .u8) _ 5 ?hg (N := 14) ?hd (xs := ([] : List Int)) (inner := []) (ok := fun _ => True) (okp := fun _ => True) ?hr ?hp (fun _ hk => hk) trivial (Below.refl _ _) (Nat.le_refl _) (by simp) ?_; (case hd => rfl); (case hg => rfl); (case hr => first | (go_simp; done) | (go_simp; rfl)); (case hp => exact (Reps.none _ _))
           intro v167 w13 ho14 hb hg_ hnew_
           clear hg_ hnew_
           (first | rw [← Ny166.out] at ho14 | (simp only [Int.reduceToNat] at ho14; rw [← Ny166.out] at ho14))
           have n0_ := AQ (Kd.R_below (PR HO165) hb)
           have n1_ := AQ (Kd.R_lower ho14 (below_size (by repeat (first | (with_reducible first | exact HB.out | apply below_alloc | apply pw_below_drewN | apply below_drew1 | refine below_set ?_ GE158.out | refine below_set ?_ GE159.out) | exact HB.out))))
           have n2_ := AQ (blk_below (g := gb158) (o := .cells #[.slice A1_0 l1_0.length c1_0, .slice A1_1 l1_1.length c1_1] 77 (0, 0)) (PK BK158) hb)
           have n3_ := AQ (blk_below (g := gb159) (o := .cells #[.slice none 0 0, .slice none 0 0] 77 (0, 0)) (PK BK159) hb)
           have n4_ := AQ (below_step (by repeat (first | (with_reducible first | exact HB.out | apply below_alloc | apply pw_below_drewN | apply below_drew1 | refine below_set ?_ GE158.out | refine below_set ?_ GE159.out) | exact HB.out)) hb)
           clear HO165
           clear BK158
           clear BK159
           clear HB
           have HO165 := n0_
           have HO168 := n1_
           have BK158 := n2_
           have BK159 := n3_
           have HB := n4_
           clear n0_ n1_ n2_ n3_ n4_
           clear hb ho14
           refine hK.out _ _ ⟨(blk_cell BK158.out 0).trans rfl, (blk_cell BK158.out 1).trans rfl⟩ (fun hHeld => ?_)
           clear hK K
           refine norm_ (a' := ?_) ?_ ?_
           rotate_left
           ·show Act.put _ (some 14) _ = _
            simp only [Act.put, qT, qZ, qS, i64_w, i32_w]
            rfl
           exact norm_ (by first | (simp only [putAll, Act.put, List.setIfInBounds_toArray, List.set_cons_zero, List.set_cons_succ]; done) | (simp only [putAll, Act.put, List.setIfInBounds_toArray, List.set_cons_zero, List.set_cons_succ]; rfl)) (hJ0_3_4 (v161, v164, v167) _ ⟨hHeld, (PR HO165), (PR HO168), (PK BK158), (PK BK159), (by repeat (first | (with_reducible first | exact HB.out | apply below_alloc | apply pw_below_drewN | apply below_drew1 | refine below_set ?_ GE158.out | refine below_set ?_ GE159.out) | exact HB.out))⟩)
          ·skip
           refine box_step ?hg (N := 6) ?hd (cs := #[.slice none 0 0, .slice none 0 0]) (t := 77) ?hr ?_; (case hd => rfl); (case hg => rfl); (case hr => first | (go_simp; done) | (go_simp; rfl))
           intro gb172 hg w13 hbox hb
           have n0_ := AQ (Kd.R_below (PR HO165) hb)
           have n1_ := AQ (blk_below (g := gb158) (o := .cells #[.slice A1_0 l1_0.length c1_0, .slice A1_1 l1_1.length c1_1] 77 (0, 0)) (PK BK158) hb)
           have n2_ := AQ (blk_below (g := gb159) (o := .cells #[.slice none 0 0, .slice none 0 0] 77 (0, 0)) (PK BK159) hb)
           have n3_ := AQ (below_step (by repeat (first | (with_reducible first | exact HB.out | apply below_alloc | apply pw_below_drewN | apply below_drew1 | refine below_set ?_ GE158.out | refine below_set ?_ GE159.out) | exact HB.out)) hb)
           have n4_ := AQ (hbox)
           have n5_ := AQ ((by rw [hg]; exact (below_size (by repeat (first | (with_reducible first | exact HB.out | apply below_alloc | apply pw_below_drewN | apply below_drew1 | refine below_set ?_ GE158.out | refine below_set ?_ GE159.out) | exact HB.out))) : w.heap.size ≤ gb172))
           have n6_ := AQ ((by rw [hg]; exact (below_size (by repeat (first | (with_reducible first | exact HB.out | apply below_alloc | apply pw_below_drewN | apply below_drew1 | refine below_set ?_ GE158.out | refine below_set ?_ GE159.out) | exact HB.out))) : w.heap.size ≤ gb172))
           have n7_ := AQ ((by rw [hg]; exact Nat.ne_of_lt (blk_lt (g := gb158) (o := .cells #[.slice A1_0 l1_0.length c1_0, .slice A1_1 l1_1.length c1_1] 77 (0, 0)) (PK BK158)) : gb158 ≠ gb172))
           have n8_ := AQ ((by rw [hg]; exact Nat.ne_of_gt (blk_lt (g := gb158) (o := .cells #[.slice A1_0 l1_0.length c1_0, .slice A1_1 l1_1.length c1_1] 77 (0, 0)) (PK BK158)) : gb172 ≠ gb158))
           have n9_ := AQ ((by rw [hg]; exact Nat.ne_of_lt (blk_lt (g := gb159) (o := .cells #[.slice none 0 0, .slice none 0 0] 77 (0, 0)) (PK BK159)) : gb159 ≠ gb172))
           have n10_ := AQ ((by rw [hg]; exact Nat.ne_of_gt (blk_lt (g := gb159) (o := .cells #[.slice none 0 0, .slice none 0 0] 77 (0, 0)) (PK BK159)) : gb172 ≠ gb159))
           clear HO165
           clear BK158
           clear BK159
           clear HB
           have HO165 := n0_
           have BK158 := n1_
           have BK159 := n2_
           have HB := n3_
           have BK172 := n4_
           have GW172 := n5_
           have GE172 := n6_
           have NB158_172 := n7_
           have NB172_158 := n8_
           have NB159_172 := n9_
           have NB172_159 := n10_
           clear n0_ n1_ n2_ n3_ n4_ n5_ n6_ n7_ n8_ n9_ n10_
           clear hb hbox hg
           refine hK.out _ _ ⟨(blk_cell BK158.out 0).trans rfl, (blk_cell BK158.out 1).trans rfl⟩ (fun hHeld => ?_)
           clear hK K
           refine norm_ (a' := ?_) ?_ ?_
           rotate_left
           ·show Act.put _ (some 6) _ = _
            simp only [Act.put, qT, qZ, qS, i64_w, i32_w]
            rfl
           exact norm_ (by first | (simp only [putAll, Act.put, List.setIfInBounds_toArray, List.set_cons_zero, List.set_cons_succ]; done) | (simp only [putAll, Act.put, List.setIfInBounds_toArray, List.set_cons_zero, List.set_cons_succ]; rfl)) (hJ0_3_9 (v161, v164, gb172) _ ⟨hHeld, (PR HO165), (PK BK158), (PK BK159), (PK BK172), GW172.out, GE172.out, NB158_172.out, NB172_158.out, NB159_172.out, NB172_159.out, (by repeat (first | (with_reducible first | exact HB.out | apply below_alloc | apply pw_below_drewN | apply below_drew1 | refine below_set ?_ GE158.out | refine below_set ?_ GE159.out | refine below_set ?_ GE172.out) | exact HB.out))⟩)
        ·skip
         rintro ⟨v161, v167, gb172⟩ w14 ⟨hS_, h0_, h1_, h2_, h3_, h4_, h5_, h6_, h7_, h8_, h9_, h10_, h11_⟩
         have n0_ : Aside0 (Kd.R (Kd.int .u64) 35 w14 w.heap.size (fun _ => True) v161 y160) := ⟨h0_⟩
         have n1_ : Aside0 (Kd.R (Kd.int .u8) 5 w14 w.heap.size (fun _ => True) v167 y166) := ⟨h1_⟩
         have n2_ : Aside0 (w14.heap[gb158]? = some (.cells #[.slice A1_0 l1_0.length c1_0, .slice A1_1 l1_1.length c1_1] 77 (0, 0))) := ⟨h2_⟩
         have n3_ : Aside0 (w14.heap[gb159]? = some (.cells #[.slice none 0 0, .slice none 0 0] 77 (0, 0))) := ⟨h3_⟩
         have n4_ : Aside0 (w14.heap[gb172]? = some (.cells #[.slice none 0 0, .slice none 0 0] 77 (0, 0))) := ⟨h4_⟩
         have n5_ : Aside0 (w.heap.size ≤ gb172) := ⟨h5_⟩
         have n6_ : Aside0 (w.heap.size ≤ gb172) := ⟨h6_⟩
         have n7_ : Aside0 (gb158 ≠ gb172) := ⟨h7_⟩
         have n8_ : Aside0 (gb172 ≠ gb158) := ⟨h8_⟩
         have n9_ : Aside0 (gb159 ≠ gb172) := ⟨h9_⟩
         have n10_ : Aside0 (gb172 ≠ gb159) := ⟨h10_⟩
         have n11_ : Aside0 (Below w.heap.size w w14) := ⟨h11_⟩
         clear BK158
         clear BK159
         clear HB
         clear h0_ h1_ h2_ h3_ h4_ h5_ h6_ h7_ h8_ h9_ h10_ h11_
         have HO162 := n0_
         have HO168 := n1_
         have BK158 := n2_
         have BK159 := n3_
         have BK172 := n4_
         have GW172 := n5_
         have GE172 := n6_
         have NB158_172 := n7_
         have NB172_158 := n8_
         have NB159_172 := n9_
         have NB172_159 := n10_
         have HB := n11_
         clear n0_ n1_ n2_ n3_ n4_ n5_ n6_ n7_ n8_ n9_ n10_ n11_
         have hHeld : w14.cell? ⟨gb158, 0, none⟩ = some (.slice A1_0 l1_0.length c1_0) ∧ w14.cell? ⟨gb158, 1, none⟩ = some (.slice A1_1 l1_1.length c1_1) := hS_
         refine norm_ (a' := ?_) ?_ ?_
         rotate_left
         ·simp only [putAll, Act.put, List.setIfInBounds_toArray, List.set_cons_zero, List.set_cons_succ]
          rfl
         refine one_ (i := 3) (N := some 13) #[true, true, true, true, true, true, true, false, false, true, false] rfl rfl (one_of HT_.out (by kernel_rfl)) (by decide) (fun K hK => ?_)
         refine Kd.R_append_rows_step (Kd.int .u64) (w0 := w) w.heap.size (by rfl) (.tmp 10) (.tmp 12) 23 35 (.int .u64 0) 8 rfl Tryd.underlying23 info35 rfl (by decide) (by omega) v161 y160 l1_0 _ _ _ (fun _ => True) (fun _ => False) rfl rfl ?aO ?aR (fun _ _ h => h) (fun _ h => h.elim) ?aF ?aB ?aS ?aL ?_
         (case aR => repeat (first | exact (Kd.C_below HR1_0.out HB.out) | (with_reducible refine Kd.C_alloc ?_ _) | (with_reducible refine Kd.C_drewN ?_ _) | (with_reducible refine Kd.C_drew ?_)))
         (case aB => exact (by repeat (first | (with_reducible first | exact HB.out | apply below_alloc | apply pw_below_drewN | apply below_drew1 | refine below_set ?_ GE158.out | refine below_set ?_ GE159.out | refine below_set ?_ GE172.out) | exact HB.out)))
         (case aF => exact (fun _ _ => trivial))
         (case aO => exact (PR HO162))
         (case aS => exact (below_size (by repeat (first | (with_reducible first | exact HB.out | apply below_alloc | apply pw_below_drewN | apply below_drew1 | refine below_set ?_ GE158.out | refine below_set ?_ GE159.out | refine below_set ?_ GE172.out) | exact HB.out))))
         (case aL => have := LMc3.out; omega)
         intro v164 w15 ho hb hg hat
         rw [← Ny163.out] at ho
         have n0_ := AQ (blk_grown (g := gb158) (o := .cells #[.slice A1_0 l1_0.length c1_0, .slice A1_1 l1_1.length c1_1] 77 (0, 0)) (PK BK158) hg (Kd.R_ne HO162.out BK158.out (by decide)))
         have n1_ := AQ (blk_grown (g := gb159) (o := .cells #[.slice none 0 0, .slice none 0 0] 77 (0, 0)) (PK BK159) hg (Kd.R_ne HO162.out BK159.out (by decide)))
         have n2_ := AQ (Kd.R_over' (PR HO168) (Kd.R_typed (PR HO162)) (by decide) hg)
         have n3_ := AQ (blk_grown (g := gb172) (o := .cells #[.slice none 0 0, .slice none 0 0] 77 (0, 0)) (PK BK172) hg (Kd.R_ne HO162.out BK172.out (by decide)))
         have n4_ := AQ (hb)
         have n5_ := AQ (ho)
         clear BK158
         clear BK159
         clear HO168
         clear BK172
         clear HB
         clear HO162
         have BK158 := n0_
         have BK159 := n1_
         have HO168 := n2_
         have BK172 := n3_
         have HB := n4_
         have HO165 := n5_
         clear n0_ n1_ n2_ n3_ n4_ n5_
         clear ho hb hg hat
         refine hK.out _ _ ⟨(blk_cell BK158.out 0).trans rfl, (blk_cell BK158.out 1).trans rfl⟩ (fun hHeld => ?_)
         clear hK K
         refine norm_ (a' := ?_) ?_ ?_
         rotate_left
         ·show Act.put _ (some 13) _ = _
          simp only [Act.put, qT, qZ, qS, i64_w, i32_w]
          rfl
         exact norm_ (by first | (simp only [putAll, Act.put, List.setIfInBounds_toArray, List.set_cons_zero, List.set_cons_succ]; done) | (simp only [putAll, Act.put, List.setIfInBounds_toArray, List.set_cons_zero, List.set_cons_succ]; rfl)) (hJ0_3_4_9 (v161, v164, v167, gb172) _ ⟨hHeld, (PR HO165), (PR HO168), (PK BK158), (PK BK159), (PK BK172), GW172.out, GE172.out, NB158_172.out, NB172_158.out, NB159_172.out, NB172_159.out, (by repeat (first | (with_reducible first | exact HB.out | apply below_alloc | apply pw_below_drewN | apply below_drew1 | refine below_set ?_ GE158.out | refine below_set ?_ GE159.out | refine below_set ?_ GE172.out) | exact HB.out))⟩)
       ·skip
        rintro ⟨v161, v164, gb172⟩ w13 ⟨hS_, h0_, h1_, h2_, h3_, h4_, h5_, h6_, h7_, h8_, h9_, h10_⟩
        have n0_ : Aside0 (Kd.R (Kd.int .u64) 35 w13 w.heap.size (fun _ => True) v164 y163) := ⟨h0_⟩
        have n1_ : Aside0 (w13.heap[gb158]? = some (.cells #[.slice A1_0 l1_0.length c1_0, .slice A1_1 l1_1.length c1_1] 77 (0, 0))) := ⟨h1_⟩
        have n2_ : Aside0 (w13.heap[gb159]? = some (.cells #[.slice none 0 0, .slice none 0 0] 77 (0, 0))) := ⟨h2_⟩
        have n3_ : Aside0 (w13.heap[gb172]? = some (.cells #[.slice none 0 0, .slice none 0 0] 77 (0, 0))) := ⟨h3_⟩
        have n4_ : Aside0 (w.heap.size ≤ gb172) := ⟨h4_⟩
        have n5_ : Aside0 (w.heap.size ≤ gb172) := ⟨h5_⟩
        have n6_ : Aside0 (gb158 ≠ gb172) := ⟨h6_⟩
        have n7_ : Aside0 (gb172 ≠ gb158) := ⟨h7_⟩
        have n8_ : Aside0 (gb159 ≠ gb172) := ⟨h8_⟩
        have n9_ : Aside0 (gb172 ≠ gb159) := ⟨h9_⟩
        have n10_ : Aside0 (Below w.heap.size w w13) := ⟨h10_⟩
        clear BK158
        clear BK159
        clear HB
        clear h0_ h1_ h2_ h3_ h4_ h5_ h6_ h7_ h8_ h9_ h10_
        have HO165 := n0_
        have BK158 := n1_
        have BK159 := n2_
        have BK172 := n3_
        have GW172 := n4_
        have GE172 := n5_
        have NB158_172 := n6_
        have NB172_158 := n7_
        have NB159_172 := n8_
        have NB172_159 := n9_
        have HB := n10_
        clear n0_ n1_ n2_ n3_ n4_ n5_ n6_ n7_ n8_ n9_ n10_
        have hHeld : w13.cell? ⟨gb158, 0, none⟩ = some (.slice A1_0 l1_0.length c1_0) ∧ w13.cell? ⟨gb158, 1, none⟩ = some (.slice A1_1 l1_1.length c1_1) := hS_
        refine norm_ (a' := ?_) ?_ ?_
        rotate_left
        ·simp only [putAll, Act.put, List.setIfInBounds_toArray, List.set_cons_zero, List.set_cons_succ]
         rfl
        refine one_ (i := 4) (N := some 14) #[true, true, true, true, true, true, true, false, false, true, false] rfl rfl (one_of HT_.out (by kernel_rfl)) (by decide) (fun K hK => ?_)
        refine Kd.R_lit_step (Kd.int .u8) _ 5 ?hg (N := 14) ?hd (xs := ([] : List Int)) (inner := []) (ok := fun _ => True) (okp := fun _ => True) ?hr ?hp (fun _ hk => hk) trivial (Below.refl _ _) (Nat.le_refl _) (by simp) ?_; (case hd => rfl); (case hg => rfl); (case hr => first | (go_simp; done) | (go_simp; rfl)); (case hp => exact (Reps.none _ _))
        intro v167 w14 ho15 hb hg_ hnew_
        clear hg_ hnew_
        (first | rw [← Ny166.out] at ho15 | (simp only [Int.reduceToNat] at ho15; rw [← Ny166.out] at ho15))
        have n0_ := AQ (Kd.R_below (PR HO165) hb)
        have n1_ := AQ (Kd.R_lower ho15 (below_size (by repeat (first | (with_reducible first | exact HB.out | apply below_alloc | apply pw_below_drewN | apply below_drew1 | refine below_set ?_ GE158.out | refine below_set ?_ GE159.out | refine below_set ?_ GE172.out) | exact HB.out))))
        have n2_ := AQ (blk_below (g := gb158) (o := .cells #[.slice A1_0 l1_0.length c1_0, .slice A1_1 l1_1.length c1_1] 77 (0, 0)) (PK BK158) hb)
        have n3_ := AQ (blk_below (g := gb159) (o := .cells #[.slice none 0 0, .slice none 0 0] 77 (0, 0)) (PK BK159) hb)
        have n4_ := AQ (blk_below (g := gb172) (o := .cells #[.slice none 0 0, .slice none 0 0] 77 (0, 0)) (PK BK172) hb)
        have n5_ := AQ (below_step (by repeat (first | (with_reducible first | exact HB.out | apply below_alloc | apply pw_below_drewN | apply below_drew1 | refine below_set ?_ GE158.out | refine below_set ?_ GE159.out | refine below_set ?_ GE172.out) | exact HB.out)) hb)
        clear HO165
        clear BK158
        clear BK159
        clear BK172
        clear HB
        have HO165 := n0_
        have HO168 := n1_
        have BK158 := n2_
        have BK159 := n3_
        have BK172 := n4_
        have HB := n5_
        clear n0_ n1_ n2_ n3_ n4_ n5_
        clear hb ho15
        refine hK.out _ _ ⟨(blk_cell BK158.out 0).trans rfl, (blk_cell BK158.out 1).trans rfl⟩ (fun hHeld => ?_)
        clear hK K
        refine norm_ (a' := ?_) ?_ ?_
        rotate_left
        ·show Act.put _ (some 14) _ = _
         simp only [Act.put, qT, qZ, qS, i64_w, i32_w]
         rfl
        exact norm_ (by first | (simp only [putAll, Act.put, List.setIfInBounds_toArray, List.set_cons_zero, List.set_cons_succ]; done) | (simp only [putAll, Act.put, List.setIfInBounds_toArray, List.set_cons_zero, List.set_cons_succ]; rfl)) (hJ0_3_4_9 (v161, v164, v167, gb172) _ ⟨hHeld, (PR HO165), (PR HO168), (PK BK158), (PK BK159), (PK BK172), GW172.out, GE172.out, NB158_172.out, NB172_158.out, NB159_172.out, NB172_159.out, (by repeat (first | (with_reducible first | exact HB.out | apply below_alloc | apply pw_below_drewN | apply below_drew1 | refine below_set ?_ GE158.out | refine below_set ?_ GE159.out | refine below_set ?_ GE172.out) | exact HB.out))⟩)
      ·skip
       rintro ⟨v161, v164, v167⟩ w14 ⟨hS_, h0_, h1_, h2_, h3_, h4_⟩
       have n0_ : Aside0 (Kd.R (Kd.int .u64) 35 w14 w.heap.size (fun _ => True) v164 y163) := ⟨h0_⟩
       have n1_ : Aside0 (Kd.R (Kd.int .u8) 5 w14 w.heap.size (fun _ => True) v167 y166) := ⟨h1_⟩
       have n2_ : Aside0 (w14.heap[gb158]? = some (.cells #[.slice A1_0 l1_0.length c1_0, .slice A1_1 l1_1.length c1_1] 77 (0, 0))) := ⟨h2_⟩
       have n3_ : Aside0 (w14.heap[gb159]? = some (.cells #[.slice none 0 0, .slice none 0 0] 77 (0, 0))) := ⟨h3_⟩
       have n4_ : Aside0 (Below w.heap.size w w14) := ⟨h4_⟩
       clear BK158
       clear BK159
       clear HB
       clear h0_ h1_ h2_ h3_ h4_
       have HO165 := n0_
       have HO168 := n1_
       have BK158 := n2_
       have BK159 := n3_
       have HB := n4_
       clear n0_ n1_ n2_ n3_ n4_
       have hHeld : w14.cell? ⟨gb158, 0, none⟩ = some (.slice A1_0 l1_0.length c1_0) ∧ w14.cell? ⟨gb158, 1, none⟩ = some (.slice A1_1 l1_1.length c1_1) := hS_
       refine norm_ (a' := ?_) ?_ ?_
       rotate_left
       ·simp only [putAll, Act.put, List.setIfInBounds_toArray, List.set_cons_zero, List.set_cons_succ]
        rfl
       refine two_ (i := 7) (j := 9) (Ni := some 17) (Nj := some 6) #[true, true, true, true, true, true, true, true, false, false, false] #[true, true, true, true, true, true, true, false, false, true, false] rfl rfl rfl rfl (two_of HT_.out (by kernel_rfl)) (by decide) (by decide) (fun K hK => ?_) (fun K hK => ?_)
       ·skip
        refine Kd.R_append_rows_step (Kd.int .u8) (w0 := w) w.heap.size (by rfl) (.tmp 14) (.tmp 16) 36 5 (.int .u8 0) 1 rfl Tryd.underlying36 info5 rfl (by decide) (by omega) v167 y166 l1_1 _ _ _ (fun _ => True) (fun _ => False) rfl rfl ?aO ?aR (fun _ _ h => h) (fun _ h => h.elim) ?aF ?aB ?aS ?aL ?_
        (case aR => repeat (first | exact (Kd.C_below HR1_1.out HB.out) | (with_reducible refine Kd.C_alloc ?_ _) | (with_reducible refine Kd.C_drewN ?_ _) | (with_reducible refine Kd.C_drew ?_)))
        (case aB => exact (by repeat (first | (with_reducible first | exact HB.out | apply below_alloc | apply pw_below_drewN | apply below_drew1 | refine below_set ?_ GE158.out | refine below_set ?_ GE159.out) | exact HB.out)))
        (case aF => exact (fun _ _ => trivial))
        (case aO => exact (PR HO168))
        (case aS => exact (below_size (by repeat (first | (with_reducible first | exact HB.out | apply below_alloc | apply pw_below_drewN | apply below_drew1 | refine below_set ?_ GE158.out | refine below_set ?_ GE159.out) | exact HB.out))))
        (case aL => have := LMc4.out; omega)
        intro v170 w15 ho hb hg hat
        rw [← Ny169.out] at ho
        have n0_ := AQ (blk_grown (g := gb158) (o := .cells #[.slice A1_0 l1_0.length c1_0, .slice A1_1 l1_1.length c1_1] 77 (0, 0)) (PK BK158) hg (Kd.R_ne HO168.out BK158.out (by decide)))
        have n1_ := AQ (blk_grown (g := gb159) (o := .cells #[.slice none 0 0, .slice none 0 0] 77 (0, 0)) (PK BK159) hg (Kd.R_ne HO168.out BK159.out (by decide)))
        have n2_ := AQ (Kd.R_over' (PR HO165) (Kd.R_typed (PR HO168)) (by decide) hg)
        have n3_ := AQ (hb)
        have n4_ := AQ (ho)
        clear BK158
        clear BK159
        clear HO165
        clear HB
        clear HO168
        have BK158 := n0_
        have BK159 := n1_
        have HO165 := n2_
        have HB := n3_
        have HO171 := n4_
        clear n0_ n1_ n2_ n3_ n4_
        clear ho hb hg hat
        obtain ⟨Ao16, co16, eo16⟩ := Kd.R_slice HO171.out
        (first | subst eo16 | (injection eo16 with f1_ f2_ f3_; have f4_ := f1_.symm; have f5_ := f3_.symm; clear f1_ f2_ f3_; subst f4_; subst f5_))
        obtain ⟨Ao17, co17, eo17⟩ := Kd.R_slice HO165.out
        (first | subst eo17 | (injection eo17 with f1_ f2_ f3_; have f4_ := f1_.symm; have f5_ := f3_.symm; clear f1_ f2_ f3_; subst f4_; subst f5_))
        refine hK.out _ _ ⟨(blk_cell BK158.out 0).trans rfl, (blk_cell BK158.out 1).trans rfl⟩ (fun hHeld => ?_)
        clear hK K
        refine norm_ (a' := ?_) ?_ ?_
        rotate_left
        ·show Act.put _ (some 17) _ = _
         simp only [Act.put, qT, qZ, qS, i64_w, i32_w]
         rfl
        refine pure_ (i := 8) (N := some 18) (v := ?_) (a' := ?_) #[true, true, true, true, true, true, true, true, true, false, false] rfl rfl (any_of HT_.out (by kernel_rfl)) (fun _ _ _ h => h) (Or.inl ⟨by rfl, ?_⟩) ?_ ?_
        rotate_left
        ·intro w'
         go_simp
         with_reducible rfl
        rotate_left
        ·simp only [Act.put, qT, qZ, qS, i64_w, i32_w]
         rfl
        exact norm_ (by first | (simp only [putAll, Act.put, List.setIfInBounds_toArray, List.set_cons_zero, List.set_cons_succ]; done) | (simp only [putAll, Act.put, List.setIfInBounds_toArray, List.set_cons_zero, List.set_cons_succ]; rfl)) (hJ0_3_4_7 (v161, .slice Ao17 y163.length co17, v167, .slice Ao16 y169.length co16) _ ⟨hHeld, (PR HO165), (PR HO171), (PK BK158), (PK BK159), (by repeat (first | (with_reducible first | exact HB.out | apply below_alloc | apply pw_below_drewN | apply below_drew1 | refine below_set ?_ GE158.out | refine below_set ?_ GE159.out) | exact HB.out))⟩)
       ·skip
        refine box_step ?hg (N := 6) ?hd (cs := #[.slice none 0 0, .slice none 0 0]) (t := 77) ?hr ?_; (case hd => rfl); (case hg => rfl); (case hr => first | (go_simp; done) | (go_simp; rfl))
        intro gb172 hg w15 hbox hb
        have n0_ := AQ (Kd.R_below (PR HO165) hb)
        have n1_ := AQ (Kd.R_below (PR HO168) hb)
        have n2_ := AQ (blk_below (g := gb158) (o := .cells #[.slice A1_0 l1_0.length c1_0, .slice A1_1 l1_1.length c1_1] 77 (0, 0)) (PK BK158) hb)
        have n3_ := AQ (blk_below (g := gb159) (o := .cells #[.slice none 0 0, .slice none 0 0] 77 (0, 0)) (PK BK159) hb)
        have n4_ := AQ (below_step (by repeat (first | (with_reducible first | exact HB.out | apply below_alloc | apply pw_below_drewN | apply below_drew1 | refine below_set ?_ GE158.out | refine below_set ?_ GE159.out) | exact HB.out)) hb)
        have n5_ := AQ (hbox)
        have n6_ := AQ ((by rw [hg]; exact (below_size (by repeat (first | (with_reducible first | exact HB.out | apply below_alloc | apply pw_below_drewN | apply below_drew1 | refine below_set ?_ GE158.out | refine below_set ?_ GE159.out) | exact HB.out))) : w.heap.size ≤ gb172))
        have n7_ := AQ ((by rw [hg]; exact (below_size (by repeat (first | (with_reducible first | exact HB.out | apply below_alloc | apply pw_below_drewN | apply below_drew1 | refine below_set ?_ GE158.out | refine below_set ?_ GE159.out) | exact HB.out))) : w.heap.size ≤ gb172))
        have n8_ := AQ ((by rw [hg]; exact Nat.ne_of_lt (blk_lt (g := gb158) (o := .cells #[.slice A1_0 l1_0.length c1_0, .slice A1_1 l1_1.length c1_1] 77 (0, 0)) (PK BK158)) : gb158 ≠ gb172))
        have n9_ := AQ ((by rw [hg]; exact Nat.ne_of_gt (blk_lt (g := gb158) (o := .cells #[.slice A1_0 l1_0.length c1_0, .slice A1_1 l1_1.length c1_1] 77 (0, 0)) (PK BK158)) : gb172 ≠ gb158))
        have n10_ := AQ ((by rw [hg]; exact Nat.ne_of_lt (blk_lt (g := gb159) (o := .cells #[.slice none 0 0, .slice none 0 0] 77 (0, 0)) (PK BK159)) : gb159 ≠ gb172))
        have n11_ := AQ ((by rw [hg]; exact Nat.ne_of_gt (blk_lt (g := gb159) (o := .cells #[.slice none 0 0, .slice none 0 0] 77 (0, 0)) (PK BK159)) : gb172 ≠ gb159))
        clear HO165
        clear HO168
        clear BK158
        clear BK159
        clear HB
        have HO165 := n0_
        have HO168 := n1_
        have BK158 := n2_
        have BK159 := n3_
        have HB := n4_
        have BK172 := n5_
        have GW172 := n6_
        have GE172 := n7_
        have NB158_172 := n8_
        have NB172_158 := n9_
        have NB159_172 := n10_
        have NB172_159 := n11_
        clear n0_ n1_ n2_ n3_ n4_ n5_ n6_ n7_ n8_ n9_ n10_ n11_
        clear hb hbox hg
        refine hK.out _ _ ⟨(blk_cell BK158.out 0).trans rfl, (blk_cell BK158.out 1).trans rfl⟩ (fun hHeld => ?_)
        clear hK K
        refine norm_ (a' := ?_) ?_ ?_
        rotate_left
        ·show Act.put _ (some 6) _ = _
         simp only [Act.put, qT, qZ, qS, i64_w, i32_w]
         rfl
        exact norm_ (by first | (simp only [putAll, Act.put, List.setIfInBounds_toArray, List.set_cons_zero, List.set_cons_succ]; done) | (simp only [putAll, Act.put, List.setIfInBounds_toArray, List.set_cons_zero, List.set_cons_succ]; rfl)) (hJ0_3_4_9 (v161, v164, v167, gb172) _ ⟨hHeld, (PR HO165), (PR HO168), (PK BK158), (PK BK159), (PK BK172), GW172.out, GE172.out, NB158_172.out, NB172_158.out, NB159_172.out, NB172_159.out, (by repeat (first | (with_reducible first | exact HB.out | apply below_alloc | apply pw_below_drewN | apply below_drew1 | refine below_set ?_ GE158.out | refine below_set ?_ GE159.out | refine below_set ?_ GE172.out) | exact HB.out))⟩)
     ·skip
      rintro ⟨v161, v164, v167, gb172⟩ w15 ⟨hS_, h0_, h1_, h2_, h3_, h4_, h5_, h6_, h7_, h8_, h9_, h10_, h11_⟩
      have n0_ : Aside0 (Kd.R (Kd.int .u64) 35 w15 w.heap.size (fun _ => True) v164 y163) := ⟨h0_⟩
      have n1_ : Aside0 (Kd.R (Kd.int .u8) 5 w15 w.heap.size (fun _ => True) v167 y166) := ⟨h1_⟩
      have n2_ : Aside0 (w15.heap[gb158]? = some (.cells #[.slice A1_0 l1_0.length c1_0, .slice A1_1 l1_1.length c1_1] 77 (0, 0))) := ⟨h2_⟩
      have n3_ : Aside0 (w15.heap[gb159]? = some (.cells #[.slice none 0 0, .slice none 0 0] 77 (0, 0))) := ⟨h3_⟩
      have n4_ : Aside0 (w15.heap[gb172]? = some (.cells #[.slice none 0 0, .slice none 0 0] 77 (0, 0))) := ⟨h4_⟩
      have n5_ : Aside0 (w.heap.size ≤ gb172) := ⟨h5_⟩
      have n6_ : Aside0 (w.heap.size ≤ gb172) := ⟨h6_⟩
      have n7_ : Aside0 (gb158 ≠ gb172) := ⟨h7_⟩
      have n8_ : Aside0 (gb172 ≠ gb158) := ⟨h8_⟩
      have n9_ : Aside0 (gb159 ≠ gb172) := ⟨h9_⟩
      have n10_ : Aside0 (gb172 ≠ gb159) := ⟨h10_⟩
      have n11_ : Aside0 (Below w.heap.size w w15) := ⟨h11_⟩
      clear BK158
      clear BK159
      clear HB
      clear h0_ h1_ h2_ h3_ h4_ h5_ h6_ h7_ h8_ h9_ h10_ h11_
      have HO165 := n0_
      have HO168 := n1_
      have BK158 := n2_
      have BK159 := n3_
      have BK172 := n4_
      have GW172 := n5_
      have GE172 := n6_
      have NB158_172 := n7_
      have NB172_158 := n8_
      have NB159_172 := n9_
      have NB172_159 := n10_
      have HB := n11_
      clear n0_ n1_ n2_ n3_ n4_ n5_ n6_ n7_ n8_ n9_ n10_ n11_
      have hHeld : w15.cell? ⟨gb158, 0, none⟩ = some (.slice A1_0 l1_0.length c1_0) ∧ w15.cell? ⟨gb158, 1, none⟩ = some (.slice A1_1 l1_1.length c1_1) := hS_
      refine norm_ (a' := ?_) ?_ ?_
      rotate_left
      ·simp only [putAll, Act.put, List.setIfInBounds_toArray, List.set_cons_zero, List.set_cons_succ]
       rfl
      refine one_ (i := 7) (N := some 17) #[true, true, true, true, true, true, true, true, false, true, false] rfl rfl (one_of HT_.out (by kernel_rfl)) (by decide) (fun K hK => ?_)
      refine Kd.R_append_rows_step (Kd.int .u8) (w0 := w) w.heap.size (by rfl) (.tmp 14) (.tmp 16) 36 5 (.int .u8 0) 1 rfl Tryd.underlying36 info5 rfl (by decide) (by omega) v167 y166 l1_1 _ _ _ (fun _ => True) (fun _ => False) rfl rfl ?aO ?aR (fun _ _ h => h) (fun _ h => h.elim) ?aF ?aB ?aS ?aL ?_
      (case aR => repeat (first | exact (Kd.C_below HR1_1.out HB.out) | (with_reducible refine Kd.C_alloc ?_ _) | (with_reducible refine Kd.C_drewN ?_ _) | (with_reducible refine Kd.C_drew ?_)))
      (case aB => exact (by repeat (first | (with_reducible first | exact HB.out | apply below_alloc | apply pw_below_drewN | apply below_drew1 | refine below_set ?_ GE158.out | refine below_set ?_ GE159.out | refine below_set ?_ GE172.out) | exact HB.out)))
      (case aF => exact (fun _ _ => trivial))
      (case aO => exact (PR HO168))
      (case aS => exact (below_size (by repeat (first | (with_reducible first | exact HB.out | apply below_alloc | apply pw_below_drewN | apply below_drew1 | refine below_set ?_ GE158.out | refine below_set ?_ GE159.out | refine below_set ?_ GE172.out) | exact HB.out))))
      (case aL => have := LMc4.out; omega)
      intro v170 w16 ho hb hg hat
      rw [← Ny169.out] at ho
      have n0_ := AQ (blk_grown (g := gb158) (o := .cells #[.slice A1_0 l1_0.length c1_0, .slice A1_1 l1_1.length c1_1] 77 (0, 0)) (PK BK158) hg (Kd.R_ne HO168.out BK158.out (by decide)))
      have n1_ := AQ (blk_grown (g := gb159) (o := .cells #[.slice none 0 0, .slice none 0 0] 77 (0, 0)) (PK BK159) hg (Kd.R_ne HO168.out BK159.out (by decide)))
      have n2_ := AQ (Kd.R_over' (PR HO165) (Kd.R_typed (PR HO168)) (by decide) hg)
      have n3_ := AQ (blk_grown (g := gb172) (o := .cells #[.slice none 0 0, .slice none 0 0] 77 (0, 0)) (PK BK172) hg (Kd.R_ne HO168.out BK172.out (by decide)))
      have n4_ := AQ (hb)
      have n5_ := AQ (ho)
      clear BK158
      clear BK159
      clear HO165
      clear BK172
      clear HB
      clear HO168
      have BK158 := n0_
      have BK159 := n1_
      have HO165 := n2_
      have BK172 := n3_
      have HB := n4_
      have HO171 := n5_
      clear n0_ n1_ n2_ n3_ n4_ n5_
      clear ho hb hg hat
      obtain ⟨Ao17, co17, eo17⟩ := Kd.R_slice HO171.out
      (first | subst eo17 | (injection eo17 with f1_ f2_ f3_; have f4_ := f1_.symm; have f5_ := f3_.symm; clear f1_ f2_ f3_; subst f4_; subst f5_))
      obtain ⟨Ao18, co18, eo18⟩ := Kd.R_slice HO165.out
      (first | subst eo18 | (injection eo18 with f1_ f2_ f3_; have f4_ := f1_.symm; have f5_ := f3_.symm; clear f1_ f2_ f3_; subst f4_; subst f5_))
      refine hK.out _ _ ⟨(blk_cell BK158.out 0).trans rfl, (blk_cell BK158.out 1).trans rfl⟩ (fun hHeld => ?_)
      clear hK K
      refine norm_ (a' := ?_) ?_ ?_
      rotate_left
      ·show Act.put _ (some 17) _ = _
       simp only [Act.put, qT, qZ, qS, i64_w, i32_w]
       rfl
      refine pure_ (i := 8) (N := some 18) (v := ?_) (a' := ?_) #[true, true, true, true, true, true, true, true, true, true, false] rfl rfl (any_of HT_.out (by kernel_rfl)) (fun _ _ _ h => h) (Or.inl ⟨by rfl, ?_⟩) ?_ ?_
      rotate_left
      ·intro w'
       go_simp
       with_reducible rfl
      rotate_left
      ·simp only [Act.put, qT, qZ, qS, i64_w, i32_w]
       rfl
      exact norm_ (by first | (simp only [putAll, Act.put, List.setIfInBounds_toArray, List.set_cons_zero, List.set_cons_succ]; done) | (simp only [putAll, Act.put, List.setIfInBounds_toArray, List.set_cons_zero, List.set_cons_succ]; rfl)) (hJ0_3_4_7_9 (v161, .slice Ao18 y163.length co18, v167, .slice Ao17 y169.length co17, gb172) _ ⟨hHeld, (PR HO165), (PR HO171), (PK BK158), (PK BK159), (PK BK172), GW172.out, GE172.out, NB158_172.out, NB172_158.out, NB159_172.out, NB172_159.out, (by repeat (first | (with_reducible first | exact HB.out | apply below_alloc | apply pw_below_drewN | apply below_drew1 | refine below_set ?_ GE158.out | refine below_set ?_ GE159.out | refine below_set ?_ GE172.out) | exact HB.out))⟩)
    ·skip
     rintro ⟨v161, v164, v167, v170⟩ w17 ⟨hS_, h0_, h1_, h2_, h3_, h4_⟩
     have n0_ : Aside0 (Kd.R (Kd.int .u64) 35 w17 w.heap.size (fun _ => True) v164 y163) := ⟨h0_⟩
     have n1_ : Aside0 (Kd.R (Kd.int .u8) 5 w17 w.heap.size (fun _ => True) v170 y169) := ⟨h1_⟩
     have n2_ : Aside0 (w17.heap[gb158]? = some (.cells #[.slice A1_0 l1_0.length c1_0, .slice A1_1 l1_1.length c1_1] 77 (0, 0))) := ⟨h2_⟩
     have n3_ : Aside0 (w17.heap[gb159]? = some (.cells #[.slice none 0 0, .slice none 0 0] 77 (0, 0))) := ⟨h3_⟩
     have n4_ : Aside0 (Below w.heap.size w w17) := ⟨h4_⟩
     clear BK158
     clear BK159
     clear HB
     clear h0_ h1_ h2_ h3_ h4_
     have HO165 := n0_
     have HO171 := n1_
     have BK158 := n2_
     have BK159 := n3_
     have HB := n4_
     clear n0_ n1_ n2_ n3_ n4_
     have hHeld : w17.cell? ⟨gb158, 0, none⟩ = some (.slice A1_0 l1_0.length c1_0) ∧ w17.cell? ⟨gb158, 1, none⟩ = some (.slice A1_1 l1_1.length c1_1) := hS_
     obtain ⟨Ao18, co18, eo18⟩ := Kd.R_slice HO171.out
     (first | subst eo18 | (injection eo18 with f1_ f2_ f3_; have f4_ := f1_.symm; have f5_ := f3_.symm; clear f1_ f2_ f3_; subst f4_; subst f5_))
     obtain ⟨Ao19, co19, eo19⟩ := Kd.R_slice HO165.out
     (first | subst eo19 | (injection eo19 with f1_ f2_ f3_; have f4_ := f1_.symm; have f5_ := f3_.symm; clear f1_ f2_ f3_; subst f4_; subst f5_))
     refine norm_ (a' := ?_) ?_ ?_
     rotate_left
     ·simp only [putAll, Act.put, List.setIfInBounds_toArray, List.set_cons_zero, List.set_cons_succ]
      rfl
     refine one_ (i := 9) (N := some 6) #[true, true, true, true, true, true, true, true, true, true, false] rfl rfl (one_of HT_.out (by kernel_rfl)) (by decide) (fun K hK => ?_)
     refine box_step ?hg (N := 6) ?hd (cs := #[.slice none 0 0, .slice none 0 0]) (t := 77) ?hr ?_; (case hd => rfl); (case hg => rfl); (case hr => first | (go_simp; done) | (go_simp; rfl))
     intro gb172 hg w20 hbox hb
     have n0_ := AQ (Kd.R_below (PR HO165) hb)
     have n1_ := AQ (Kd.R_below (PR HO171) hb)
     have n2_ := AQ (blk_below (g := gb158) (o := .cells #[.slice A1_0 l1_0.length c1_0, .slice A1_1 l1_1.length c1_1] 77 (0, 0)) (PK BK158) hb)
     have n3_ := AQ (blk_below (g := gb159) (o := .cells #[.slice none 0 0, .slice none 0 0] 77 (0, 0)) (PK BK159) hb)
     have n4_ := AQ (below_step (by repeat (first | (with_reducible first | exact HB.out | apply below_alloc | apply pw_below_drewN | apply below_drew1 | refine below_set ?_ GE158.out | refine below_set ?_ GE159.out) | exact HB.out)) hb)
     have n5_ := AQ (hbox)
     have n6_ := AQ ((by rw [hg]; exact (below_size (by repeat (first | (with_reducible first | exact HB.out | apply below_alloc | apply pw_below_drewN | apply below_drew1 | refine below_set ?_ GE158.out | refine below_set ?_ GE159.out) | exact HB.out))) : w.heap.size ≤ gb172))
     have n7_ := AQ ((by rw [hg]; exact (below_size (by repeat (first | (with_reducible first | exact HB.out | apply below_alloc | apply pw_below_drewN | apply below_drew1 | refine below_set ?_ GE158.out | refine below_set ?_ GE159.out) | exact HB.out))) : w.heap.size ≤ gb172))
     have n8_ := AQ ((by rw [hg]; exact Nat.ne_of_lt (blk_lt (g := gb158) (o := .cells #[.slice A1_0 l1_0.length c1_0, .slice A1_1 l1_1.length c1_1] 77 (0, 0)) (PK BK158)) : gb158 ≠ gb172))
     have n9_ := AQ ((by rw [hg]; exact Nat.ne_of_gt (blk_lt (g := gb158) (o := .cells #[.slice A1_0 l1_0.length c1_0, .slice A1_1 l1_1.length c1_1] 77 (0, 0)) (PK BK158)) : gb172 ≠ gb158))
     have n10_ := AQ ((by rw [hg]; exact Nat.ne_of_lt (blk_lt (g := gb159) (o := .cells #[.slice none 0 0, .slice none 0 0] 77 (0, 0)) (PK BK159)) : gb159 ≠ gb172))
     have n11_ := AQ ((by rw [hg]; exact Nat.ne_of_gt (blk_lt (g := gb159) (o := .cells #[.slice none 0 0, .slice none 0 0] 77 (0, 0)) (PK BK159)) : gb172 ≠ gb159))
     clear HO165
     clear HO171
     clear BK158
     clear BK159
     clear HB
     have HO165 := n0_
     have HO171 := n1_
     have BK158 := n2_
     have BK159 := n3_
     have HB := n4_
     have BK172 := n5_
     have GW172 := n6_
     have GE172 := n7_
     have NB158_172 := n8_
     have NB172_158 := n9_
     have NB159_172 := n10_
     have NB172_159 := n11_
     clear n0_ n1_ n2_ n3_ n4_ n5_ n6_ n7_ n8_ n9_ n10_ n11_
     clear hb hbox hg
     refine hK.out _ _ ⟨(blk_cell BK158.out 0).trans rfl, (blk_cell BK158.out 1).trans rfl⟩ (fun hHeld => ?_)
     clear hK K
     refine norm_ (a' := ?_) ?_ ?_
     rotate_left
     ·show Act.put _ (some 6) _ = _
      simp only [Act.put, qT, qZ, qS, i64_w, i32_w]
      rfl
     exact norm_ (by first | (simp only [putAll, Act.put, List.setIfInBounds_toArray, List.set_cons_zero, List.set_cons_succ]; done) | (simp only [putAll, Act.put, List.setIfInBounds_toArray, List.set_cons_zero, List.set_cons_succ]; rfl)) (hJ0_3_4_7_9 (v161, .slice Ao19 y163.length co19, v167, .slice Ao18 y169.length co18, gb172) _ ⟨hHeld, (PR HO165), (PR HO171), (PK BK158), (PK BK159), (PK BK172), GW172.out, GE172.out, NB158_172.out, NB172_158.out, NB159_172.out, NB172_159.out, (by repeat (first | (with_reducible first | exact HB.out | apply below_alloc | apply pw_below_drewN | apply below_drew1 | refine below_set ?_ GE158.out | refine below_set ?_ GE159.out | refine below_set ?_ GE172.out) | exact HB.out))⟩)
   rintro ⟨v161, v164, v167, v170, gb172⟩ w18 ⟨hS_, h0_, h1_, h2_, h3_, h4_, h5_, h6_, h7_, h8_, h9_, h10_, h11_⟩
   have n0_ : Aside0 (Kd.R (Kd.int .u64) 35 w18 w.heap.size (fun _ => True) v164 y163) := ⟨h0_⟩
   have n1_ : Aside0 (Kd.R (Kd.int .u8) 5 w18 w.heap.size (fun _ => True) v170 y169) := ⟨h1_⟩
   have n2_ : Aside0 (w18.heap[gb158]? = some (.cells #[.slice A1_0 l1_0.length c1_0, .slice A1_1 l1_1.length c1_1] 77 (0, 0))) := ⟨h2_⟩
   have n3_ : Aside0 (w18.heap[gb159]? = some (.cells #[.slice none 0 0, .slice none 0 0] 77 (0, 0))) := ⟨h3_⟩
   have n4_ : Aside0 (w18.heap[gb172]? = some (.cells #[.slice none 0 0, .slice none 0 0] 77 (0, 0))) := ⟨h4_⟩
   have n5_ : Aside0 (w.heap.size ≤ gb172) := ⟨h5_⟩
   have n6_ : Aside0 (w.heap.size ≤ gb172) := ⟨h6_⟩
   have n7_ : Aside0 (gb158 ≠ gb172) := ⟨h7_⟩
   have n8_ : Aside0 (gb172 ≠ gb158) := ⟨h8_⟩
   have n9_ : Aside0 (gb159 ≠ gb172) := ⟨h9_⟩
   have n10_ : Aside0 (gb172 ≠ gb159) := ⟨h10_⟩
   have n11_ : Aside0 (Below w.heap.size w w18) := ⟨h11_⟩
   clear BK158
   clear BK159
   clear HB
   clear h0_ h1_ h2_ h3_ h4_ h5_ h6_ h7_ h8_ h9_ h10_ h11_
   have HO165 := n0_
   have HO171 := n1_
   have BK158 := n2_
   have BK159 := n3_
   have BK172 := n4_
   have GW172 := n5_
   have GE172 := n6_
   have NB158_172 := n7_
   have NB172_158 := n8_
   have NB159_172 := n9_
   have NB172_159 := n10_
   have HB := n11_
   clear n0_ n1_ n2_ n3_ n4_ n5_ n6_ n7_ n8_ n9_ n10_ n11_
   have hHeld : w18.cell? ⟨gb158, 0, none⟩ = some (.slice A1_0 l1_0.length c1_0) ∧ w18.cell? ⟨gb158, 1, none⟩ = some (.slice A1_1 l1_1.length c1_1) := hS_
   obtain ⟨Ao19, co19, eo19⟩ := Kd.R_slice HO171.out
   (first | subst eo19 | (injection eo19 with f1_ f2_ f3_; have f4_ := f1_.symm; have f5_ := f3_.symm; clear f1_ f2_ f3_; subst f4_; subst f5_))
   obtain ⟨Ao20, co20, eo20⟩ := Kd.R_slice HO165.out
   (first | subst eo20 | (injection eo20 with f1_ f2_ f3_; have f4_ := f1_.symm; have f5_ := f3_.symm; clear f1_ f2_ f3_; subst f4_; subst f5_))
   refine norm_ (a' := ?_) ?_ ?_
   rotate_left
   ·simp only [putAll, Act.put, List.setIfInBounds_toArray, List.set_cons_zero, List.set_cons_succ]
    rfl
   refine one_ (i := 10) (N := none) #[true, true, true, true, true, true, true, true, true, true, true] rfl rfl (one_of HT_.out (by kernel_rfl)) (by decide) (fun K hK => ?_)
   have hs21 : w18.cell? ⟨gb172, 0, none⟩ = some (.slice none 0 0) := (blk_cell BK172.out 0).trans rfl
   have hfs21 := blk_frozen BK172.out 0
   have hns21_0 := NB158_172.out
   have hns21_1 := NB159_172.out
   have hms21_0 := NB172_158.out
   have hms21_1 := NB172_159.out
   have hs22 : w18.cell? ⟨gb172, 1, none⟩ = some (.slice none 0 0) := (blk_cell BK172.out 1).trans rfl
   have hfs22 := blk_frozen BK172.out 1
   have hns22_0 := NB158_172.out
   have hns22_1 := NB159_172.out
   have hms22_0 := NB172_158.out
   have hms22_1 := NB172_159.out
   refine skip_ (w1 := ?_) (by rfl) rfl ?_ ?_
   rotate_left
   ·go_simp
    rfl
   refine hK.out _ _ ⟨((cell_far (p := ⟨gb172, _, none⟩) NB158_172.out _).trans (((cell_far (p := ⟨gb172, _, none⟩) NB158_172.out _).trans (hHeld.1)))), ((cell_far (p := ⟨gb172, _, none⟩) NB158_172.out _).trans (((cell_far (p := ⟨gb172, _, none⟩) NB158_172.out _).trans (hHeld.2))))⟩ (fun hHeld => ?_)
   clear hK K
   refine done_ (done_of HT_.out (by kernel_rfl)) ?_
   have hnb23 := NB172_158.out
   have hnc23 := NB158_172.out
   have hnb24 := NB172_159.out
   have hnc24 := NB159_172.out
   have hcz25_0 : w18.cell? ⟨gb172, 0, none⟩ = some (.slice none 0 0) := (blk_cell BK172.out 0).trans rfl
   have hcz25_1 : w18.cell? ⟨gb172, 1, none⟩ = some (.slice none 0 0) := (blk_cell BK172.out 1).trans rfl
   have hfz25_0 := blk_frozen BK172.out 0
   have hfz25_1 := blk_frozen BK172.out 1
   go_wp2
   go_step3
   try go_wp2_with (first | ((with_reducible refine gate_callee (f := 47) rfl ?_); refine goesL_ (some 21) rfl rfl Tryd.func47 (by kernel_rfl) rfl #[.slice Ao20 y163.length co20] rfl (by (try simp only [List.map_toArray, List.map_cons, List.map_nil]); first | done | rfl | (simp only [List.length_drop, List.length_take]; rfl)) ?_; (with_reducible refine (packed_First.calls k _ _ y163 t173 _ ?side1 ?side2 ?side3 A5.out).mono ?_); (case side1 => first | exact HT.out | exact TabIn.below HT.out (by repeat (first | (with_reducible first | exact HB.out | apply below_alloc | apply pw_below_drewN | apply below_drew1 | refine below_set ?_ GE158.out | refine below_set ?_ GE159.out | refine below_set ?_ GE172.out) | exact HB.out)) | (repeat (first | apply TabIn.drewN | apply TabIn.drew | exact HT.out))); (case side2 => refine (Kd.R_reads' (e := 35) (base := w.heap.size) (ok := fun k_ => True) (n := y163.length) (c := co20) ?_).2.2; exact (by (with_reducible repeat (first | apply Kd.R_alloc | apply Kd.R_drewN | apply Kd.R_drew)); exact (Kd.R_mono (Kd.R_far (p := ⟨gb172, 1, none⟩) (Kd.R_far (p := ⟨gb172, 0, none⟩) (Kd.R_types HO165.out BK172.out (by decide)) (fun _ hk => hk.2) (.slice Ao20 y163.length co20)) (fun _ hk => hk.2) (.slice Ao19 y169.length co19)) (fun _ h_ => h_.1)))); (case side3 => exact (Kd.R_reads' HO165.out).2.1); rintro e w' ⟨rfl, ⟨nd, rfl⟩⟩; refine ⟨_, rfl, ?_⟩))
   go_loopg [7, 8] k (fun kq v7 v8 w' => ∃ (x7_1 : Int) (x8_1 : Int) (x173000_1 : List Int) (x173001_1 : List Int) (u173000 : Value) (u173001 : Value), v7 = .int .i64 x7_1 ∧ v8 = .int .i64 x8_1 ∧ Aside0 (elimM_down.l0 kq l0 x7_1 x8_1 x173000_1 x173001_1 = some (r1, r2, r3)) ∧ Aside0 (kq ≤ k) ∧ Aside0 (Kd.R (Kd.int .u64) 35 w' w.heap.size (fun _ => True) u173000 x173000_1) ∧ Aside0 (Kd.R (Kd.int .u8) 5 w' w.heap.size (fun _ => True) u173001 x173001_1) ∧ Aside0 (w'.heap[gb158]? = some (.cells #[(.slice A1_0 l1_0.length c1_0), (.slice A1_1 l1_1.length c1_1)] 77 (0, 0))) ∧ Aside0 (w'.heap[gb159]? = some (.cells #[(.slice none 0 0), (.slice none 0 0)] 77 (0, 0))) ∧ Aside0 (w'.heap[gb172]? = some (.cells #[u173000, u173001] 77 (0, 0))) ∧ Aside0 (Below w.heap.size w w'))
   case atStart => exact ⟨((-1)), (t173), (y163), (y169), (.slice Ao20 y163.length co20), (.slice Ao19 y169.length co19), (by first | rfl | (simp; done) | (simp [*]; done)), (by first | rfl | (simp; done) | (simp [*]; done)), H', ⟨Nat.le_refl _⟩, ⟨by (with_reducible repeat (first | apply Kd.R_alloc | apply Kd.R_drewN | apply Kd.R_drew)); exact Kd.R_mono (Kd.R_far (p := ⟨gb172, 1, none⟩) (Kd.R_far (p := ⟨gb172, 0, none⟩) (Kd.R_types HO165.out BK172.out (by decide)) (fun _ hk => hk.2) (.slice Ao20 y163.length co20)) (fun _ hk => hk.2) (.slice Ao19 y169.length co19)) (fun _ hk => trivial)⟩, ⟨by (with_reducible repeat (first | apply Kd.R_alloc | apply Kd.R_drewN | apply Kd.R_drew)); exact Kd.R_mono (Kd.R_far (p := ⟨gb172, 1, none⟩) (Kd.R_far (p := ⟨gb172, 0, none⟩) (Kd.R_types HO171.out BK172.out (by decide)) (fun _ hk => hk.2) (.slice Ao20 y163.length co20)) (fun _ hk => hk.2) (.slice Ao19 y169.length co19)) (fun _ hk => trivial)⟩, ⟨by (with_reducible repeat (first | refine blk_drewN ?_ _ | refine blk_drew ?_ | refine blk_alloc ?_ _)); refine blk_far ?_ NB158_172.out _; (with_reducible repeat (first | refine blk_drewN ?_ _ | refine blk_drew ?_ | refine blk_alloc ?_ _)); refine blk_far ?_ NB158_172.out _; (with_reducible repeat (first | refine blk_drewN ?_ _ | refine blk_drew ?_ | refine blk_alloc ?_ _)); exact BK158.out⟩, ⟨by (with_reducible repeat (first | refine blk_drewN ?_ _ | refine blk_drew ?_ | refine blk_alloc ?_ _)); refine blk_far ?_ NB159_172.out _; (with_reducible repeat (first | refine blk_drewN ?_ _ | refine blk_drew ?_ | refine blk_alloc ?_ _)); refine blk_far ?_ NB159_172.out _; (with_reducible repeat (first | refine blk_drewN ?_ _ | refine blk_drew ?_ | refine blk_alloc ?_ _)); exact BK159.out⟩, ⟨by (with_reducible repeat (first | refine blk_drewN ?_ _ | refine blk_drew ?_ | refine blk_alloc ?_ _)); refine blk_put (cs := #[.slice Ao20 y163.length co20, .slice none 0 0]) ?_ 1 _ rfl; (with_reducible repeat (first | refine blk_drewN ?_ _ | refine blk_drew ?_ | refine blk_alloc ?_ _)); refine blk_put (cs := #[.slice none 0 0, .slice none 0 0]) ?_ 0 _ rfl; (with_reducible repeat (first | refine blk_drewN ?_ _ | refine blk_drew ?_ | refine blk_alloc ?_ _)); exact BK172.out⟩, ⟨by repeat (first | (with_reducible first | exact HB.out | apply below_alloc | apply pw_below_drewN | apply below_drew1 | refine below_set ?_ GE158.out | refine below_set ?_ GE159.out | refine below_set ?_ GE172.out) | exact HB.out)⟩⟩
   case round =>
    clear H'
    try clear c1
    try clear c2
    try clear p2
    try clear c3
    try clear c4
    try clear c23
    try clear c24
    try clear hcz25_0
    try clear hcz25_1
    try clear hfz25_0
    try clear hfz25_1
    obtain ⟨x7_1, x8_1, x173000_1, x173001_1, u173000, u173001, rfl, rfl, HA, HK1, HO_173000, HO_173001, BK158, BK159, BK172, HB⟩ := hrel
    cases gk with
    | zero => exact absurd HA.out (by simp [elimM_down.l0])
    | succ k1 =>
     have H := HA.out
     clear HA
     simp only [elimM_down.l0] at H
     have HC26 := AQ H
     clear H
     go_upto_region 4 with (fail)
     go_cut [31] (fun v31 wc => ∃ (kq : Nat) (x31_25 : Bool), v31 = .bool x31_25 ∧ Aside0 (elimM_down.j1 kq l0 x7_1 x8_1 x31_25 x173000_1 x173001_1 = some (r1, r2, r3)) ∧ Aside0 (kq ≤ k1) ∧ Aside0 (Kd.R (Kd.int .u64) 35 wc w.heap.size (fun _ => True) u173000 x173000_1) ∧ Aside0 (Kd.R (Kd.int .u8) 5 wc w.heap.size (fun _ => True) u173001 x173001_1) ∧ Aside0 (wc.heap[gb158]? = some (.cells #[(.slice A1_0 l1_0.length c1_0), (.slice A1_1 l1_1.length c1_1)] 77 (0, 0))) ∧ Aside0 (wc.heap[gb159]? = some (.cells #[(.slice none 0 0), (.slice none 0 0)] 77 (0, 0))) ∧ Aside0 (wc.heap[gb172]? = some (.cells #[u173000, u173001] 77 (0, 0))) ∧ Aside0 (Below w.heap.size w wc))
     case first =>
      have H := HC26.out
      clear HC26
      by_cases c27 : x8_1 ≥ 0
      ·rw [if_pos c27] at H
       have c27b0 : decide (0 ≤ x8_1) = true := decide_eq_true c27
       clear c27
       (first | rw [c27b0] | rw [c27b1] | (simp only [i64_w, i32_w]; rw [c27b0]) | skip)
       by_cases c28 : 0 < (l0.length : Int)
       ·rw [if_pos c28] at H
        have c28b0 : decide (0 < (l0.length : Int)) = true := decide_eq_true c28
        have c28b1 : decide (0 < l0.length) = true := decide_eq_true (by omega)
        clear c28
        have H' := AQ H
        clear H
        have p174 : 0 ≤ (0 : Int) := (by omega)
        have q174 : 0 < (l0.length : Int) := of_decide_eq_true (by first | (with_reducible assumption) | assumption)
        obtain ⟨ad174, A174_2, c174_2, A174_3, c174_3, e174, hx174_0, hx174_1, hx174_2, hx174_3, hx174_4, hl174_2, hi174_2, hl174_3, hi174_3⟩ := at_T74 HR0.out 0 p174 q174
        obtain rfl : ad900 = ad174 := (by injection e174)
        have qi174 : (0 < l0.length) = True := eq_true (by omega)
        (try rw [show ((0 : Int)).toNat = 0 from rfl] at hx174_0)
        (try rw [show 0 * 5 = 0 from rfl] at hx174_0)
        (try rw [Addr.add_zero'] at hx174_0)
        (try rw [show ((0 : Int)).toNat = 0 from rfl] at hx174_1)
        (try rw [show 0 * 5 = 0 from rfl] at hx174_1)
        (try rw [Addr.add_zero'] at hx174_1)
        (try rw [show ((0 : Int)).toNat = 0 from rfl] at hx174_2)
        (try rw [show 0 * 5 = 0 from rfl] at hx174_2)
        (try rw [Addr.add_zero'] at hx174_2)
        (try rw [show ((0 : Int)).toNat = 0 from rfl] at hx174_3)
        (try rw [show 0 * 5 = 0 from rfl] at hx174_3)
        (try rw [Addr.add_zero'] at hx174_3)
        (try rw [show ((0 : Int)).toNat = 0 from rfl] at hx174_4)
        (try rw [show 0 * 5 = 0 from rfl] at hx174_4)
        (try rw [Addr.add_zero'] at hx174_4)
        (first | replace hx174_0 := (HB.out.cell (World.block_lt_of_cell? w _ hx174_0)).trans hx174_0 | skip)
        (first | replace hx174_1 := (HB.out.cell (World.block_lt_of_cell? w _ hx174_1)).trans hx174_1 | skip)
        (first | replace hx174_2 := (HB.out.cell (World.block_lt_of_cell? w _ hx174_2)).trans hx174_2 | skip)
        (first | replace hx174_3 := (HB.out.cell (World.block_lt_of_cell? w _ hx174_3)).trans hx174_3 | skip)
        (first | replace hx174_4 := (HB.out.cell (World.block_lt_of_cell? w _ hx174_4)).trans hx174_4 | skip)
        have HR174_2 := AQ hi174_2
        have HC174_2 := AQ hl174_2
        clear hi174_2 hl174_2
        have HR174_3 := AQ hi174_3
        have HC174_3 := AQ hl174_3
        clear hi174_3 hl174_3
        replace p174 := eq_true p174
        replace q174 := eq_true q174
        go_wp2
        go_meet
        case rel => exact ⟨_, (decide (x8_1 < ((rd_T74 l0 0).f0))), (by first | rfl | (simp; done) | (simp [*]; done)), H', ⟨by have := HK1.out; first | omega | exact Nat.le_refl _⟩, ⟨PR HO_173000⟩, ⟨PR HO_173001⟩, ⟨PK BK158⟩, ⟨PK BK159⟩, ⟨PK BK172⟩, ⟨by repeat (first | (with_reducible first | exact HB.out | apply below_alloc | apply pw_below_drewN | apply below_drew1 | refine below_set ?_ GE158.out | refine below_set ?_ GE159.out | refine below_set ?_ GE172.out) | exact HB.out)⟩⟩
       ·rw [if_neg c28] at H
        exact absurd H (by simp)
      ·rw [if_neg c27] at H
       have c27b0 : decide (0 ≤ x8_1) = false := decide_eq_false c27
       clear c27
       (first | rw [c27b0] | rw [c27b1] | (simp only [i64_w, i32_w]; rw [c27b0]) | skip)
       have H' := AQ H
       clear H
       go_wp2
       go_meet
       case rel => exact ⟨_, (false), (by first | rfl | (simp; done) | (simp [*]; done)), H', ⟨by have := HK1.out; first | omega | exact Nat.le_refl _⟩, ⟨PR HO_173000⟩, ⟨PR HO_173001⟩, ⟨PK BK158⟩, ⟨PK BK159⟩, ⟨PK BK172⟩, ⟨by repeat (first | (with_reducible first | exact HB.out | apply below_alloc | apply pw_below_drewN | apply below_drew1 | refine below_set ?_ GE158.out | refine below_set ?_ GE159.out | refine below_set ?_ GE172.out) | exact HB.out)⟩⟩
     case rest =>
      clear HC26
      try clear c1
      try clear p1
      try clear q1
      try clear hx1
      try clear qi1
      try clear c2
      try clear p2
      try clear c3
      try clear c4
      try clear c17
      try clear p17
      try clear q17
      try clear hx17
      try clear qi17
      try clear c23
      try clear c24
      try clear c27
      try clear c27b0
      try clear c27b1
      try clear c28
      try clear c28b0
      try clear c28b1
      try clear hcz25_0
      try clear hcz25_1
      try clear hfz25_0
      try clear hfz25_1
      try clear hx174_0
      try clear hx174_1
      try clear hx174_2
      try clear hx174_3
      try clear hx174_4
      try clear p174
      try clear p2
      try clear q174
      obtain ⟨kq, x31_25, rfl, HA, HJ25, HO_173000, HO_173001, BK158, BK159, BK172, HB⟩ := hcut
      cases kq with
      | zero => exact absurd HA.out (by simp [elimM_down.j1])
      | succ kj25 =>
       have H := HA.out
       clear HA
       simp only [elimM_down.j1] at H
       by_cases c29 : x31_25 = true
       ·subst c29
        have H1 : ((packed_Has.f x173000_1 x8_1).bind fun t175 => (if t175 = true then (if 0 < (l0.length : Int) then (if 0 ≤ x8_1 then (if x8_1 < (((rd_T74 l0 0).f3).length : Int) then (if (rd ((rd_T74 l0 0).f3) x8_1) < 0 then (if x7_1 < 0 then (elimM_down.l0 kj25 l0 x8_1 (wrap64 (x8_1 + 1)) x173000_1 x173001_1) else (elimM_down.l0 kj25 l0 x7_1 (wrap64 (x8_1 + 1)) x173000_1 x173001_1)) else (if 0 ≤ (rd ((rd_T74 l0 0).f3) x8_1) then (if (rd ((rd_T74 l0 0).f3) x8_1) < (((rd_T74 l0 0).f2).length : Int) then ((packed_Xor.f kj25 x173000_1 ((rd_T77 ((rd_T74 l0 0).f2) (rd ((rd_T74 l0 0).f3) x8_1)).f0)).bind fun bt183 => ((symbol_Xor.f kj25 x173001_1 ((rd_T77 ((rd_T74 l0 0).f2) (rd ((rd_T74 l0 0).f3) x8_1)).f1)).bind fun bt189 => (elimM_down.l0 kj25 l0 x7_1 (wrap64 (x8_1 + 1)) bt183.1 bt189.1))) else (none)) else (none))) else (none)) else (none)) else (none)) else (elimM_down.l0 kj25 l0 x7_1 (wrap64 (x8_1 + 1)) x173000_1 x173001_1))) = some (r1, r2, r3) := by rw [if_pos rfl] at H; exact H
        clear H
        have H := H1
        clear H1
        replace H := Option.bind_eq_some_iff.mp H
        obtain ⟨t175, A300, H⟩ := H
        replace H : (if t175 = true then (if 0 < (l0.length : Int) then (if 0 ≤ x8_1 then (if x8_1 < (((rd_T74 l0 0).f3).length : Int) then (if (rd ((rd_T74 l0 0).f3) x8_1) < 0 then (if x7_1 < 0 then (elimM_down.l0 kj25 l0 x8_1 (wrap64 (x8_1 + 1)) x173000_1 x173001_1) else (elimM_down.l0 kj25 l0 x7_1 (wrap64 (x8_1 + 1)) x173000_1 x173001_1)) else (if 0 ≤ (rd ((rd_T74 l0 0).f3) x8_1) then (if (rd ((rd_T74 l0 0).f3) x8_1) < (((rd_T74 l0 0).f2).length : Int) then ((packed_Xor.f kj25 x173000_1 ((rd_T77 ((rd_T74 l0 0).f2) (rd ((rd_T74 l0 0).f3) x8_1)).f0)).bind fun bt183 => ((symbol_Xor.f kj25 x173001_1 ((rd_T77 ((rd_T74 l0 0).f2) (rd ((rd_T74 l0 0).f3) x8_1)).f1)).bind fun bt189 => (elimM_down.l0 kj25 l0 x7_1 (wrap64 (x8_1 + 1)) bt183.1 bt189.1))) else (none)) else (none))) else (none)) else (none)) else (none)) else (elimM_down.l0 kj25 l0 x7_1 (wrap64 (x8_1 + 1)) x173000_1 x173001_1)) = some (r1, r2, r3) := H
        have A30 := AQ A300
        clear A300
        by_cases c31 : t175 = true
        ·subst c31
         have H1 : (if 0 < (l0.length : Int) then (if 0 ≤ x8_1 then (if x8_1 < (((rd_T74 l0 0).f3).length : Int) then (if (rd ((rd_T74 l0 0).f3) x8_1) < 0 then (if x7_1 < 0 then (elimM_down.l0 kj25 l0 x8_1 (wrap64 (x8_1 + 1)) x173000_1 x173001_1) else (elimM_down.l0 kj25 l0 x7_1 (wrap64 (x8_1 + 1)) x173000_1 x173001_1)) else (if 0 ≤ (rd ((rd_T74 l0 0).f3) x8_1) then (if (rd ((rd_T74 l0 0).f3) x8_1) < (((rd_T74 l0 0).f2).length : Int) then ((packed_Xor.f kj25 x173000_1 ((rd_T77 ((rd_T74 l0 0).f2) (rd ((rd_T74 l0 0).f3) x8_1)).f0)).bind fun bt183 => ((symbol_Xor.f kj25 x173001_1 ((rd_T77 ((rd_T74 l0 0).f2) (rd ((rd_T74 l0 0).f3) x8_1)).f1)).bind fun bt189 => (elimM_down.l0 kj25 l0 x7_1 (wrap64 (x8_1 + 1)) bt183.1 bt189.1))) else (none)) else (none))) else (none)) else (none)) else (none)) = some (r1, r2, r3) := by rw [if_pos rfl] at H; exact H
         clear H
         have H := H1
         clear H1
         by_cases c32 : 0 < (l0.length : Int)
         ·rw [if_pos c32] at H
          have c32b0 : decide (0 < (l0.length : Int)) = true := decide_eq_true c32
          have c32b1 : decide (0 < l0.length) = true := decide_eq_true (by omega)
          clear c32
          by_cases c33 : 0 ≤ x8_1
          ·rw [if_pos c33] at H
           have c33b0 : decide (0 ≤ x8_1) = true := decide_eq_true c33
           clear c33
           by_cases c34 : x8_1 < (((rd_T74 l0 0).f3).length : Int)
           ·rw [if_pos c34] at H
            have c34b0 : decide (x8_1 < (((rd_T74 l0 0).f3).length : Int)) = true := decide_eq_true c34
            clear c34
            by_cases c35 : (rd ((rd_T74 l0 0).f3) x8_1) < 0
            ·rw [if_pos c35] at H
             have c35b0 : decide ((rd ((rd_T74 l0 0).f3) x8_1) < 0) = true := decide_eq_true c35
             clear c35
             by_cases c36 : x7_1 < 0
             ·rw [if_pos c36] at H
              have c36b0 : decide (x7_1 < 0) = true := decide_eq_true c36
              clear c36
              have H' := AQ H
              clear H
              have hnb37 := NB172_158.out
              have hnc37 := NB158_172.out
              have hnb38 := NB172_159.out
              have hnc38 := NB159_172.out
              have hcz39_0 : wc.cell? ⟨gb172, 0, none⟩ = some (u173000) := (blk_cell BK172.out 0).trans rfl
              have hcz39_1 : wc.cell? ⟨gb172, 1, none⟩ = some (u173001) := (blk_cell BK172.out 1).trans rfl
              have hfz39_0 := blk_frozen BK172.out 0
              have hfz39_1 := blk_frozen BK172.out 1
              obtain ⟨Ao40, co40, eo40⟩ := Kd.R_slice HO_173000.out
              subst eo40
              go_wp2_with (first | ((with_reducible refine gate_callee (f := 48) rfl ?_); refine goesL_ (some 37) rfl rfl Tryd.func48 (by kernel_rfl) rfl #[.slice Ao40 x173000_1.length co40, .int .i64 x8_1] rfl (by (try simp only [List.map_toArray, List.map_cons, List.map_nil]); first | done | rfl | (simp only [List.length_drop, List.length_take]; rfl)) ?_; (with_reducible refine (packed_Has.calls _ _ x173000_1 x8_1 true _ ?side1 ?side2 A30.out).mono ?_); (case side1 => exact QC HO_173000); (case side2 => exact (Kd.R_reads' HO_173000.out).2.1); rintro e w' ⟨rfl, ⟨nd, rfl⟩⟩; refine ⟨_, rfl, ?_⟩; have p176 : 0 ≤ (0 : Int) := (by omega); have q176 : 0 < (l0.length : Int) := of_decide_eq_true (by first | (with_reducible assumption) | assumption); obtain ⟨ad176, A176_2, c176_2, A176_3, c176_3, e176, hx176_0, hx176_1, hx176_2, hx176_3, hx176_4, hl176_2, hi176_2, hl176_3, hi176_3⟩ := at_T74 HR0.out 0 p176 q176; obtain rfl : ad900 = ad176 := (by injection e176); have qi176 : (0 < l0.length) = True := eq_true (by omega); (try rw [show ((0 : Int)).toNat = 0 from rfl] at hx176_0); (try rw [show 0 * 5 = 0 from rfl] at hx176_0); (try rw [Addr.add_zero'] at hx176_0); (try rw [show ((0 : Int)).toNat = 0 from rfl] at hx176_1); (try rw [show 0 * 5 = 0 from rfl] at hx176_1); (try rw [Addr.add_zero'] at hx176_1); (try rw [show ((0 : Int)).toNat = 0 from rfl] at hx176_2); (try rw [show 0 * 5 = 0 from rfl] at hx176_2); (try rw [Addr.add_zero'] at hx176_2); (try rw [show ((0 : Int)).toNat = 0 from rfl] at hx176_3); (try rw [show 0 * 5 = 0 from rfl] at hx176_3); (try rw [Addr.add_zero'] at hx176_3); (try rw [show ((0 : Int)).toNat = 0 from rfl] at hx176_4); (try rw [show 0 * 5 = 0 from rfl] at hx176_4); (try rw [Addr.add_zero'] at hx176_4); (first | replace hx176_0 := (HB.out.cell (World.block_lt_of_cell? w _ hx176_0)).trans hx176_0 | skip); (first | replace hx176_1 := (HB.out.cell (World.block_lt_of_cell? w _ hx176_1)).trans hx176_1 | skip); (first | replace hx176_2 := (HB.out.cell (World.block_lt_of_cell? w _ hx176_2)).trans hx176_2 | skip); (first | replace hx176_3 := (HB.out.cell (World.block_lt_of_cell? w _ hx176_3)).trans hx176_3 | skip); (first | replace hx176_4 := (HB.out.cell (World.block_lt_of_cell? w _ hx176_4)).trans hx176_4 | skip); have HR176_2 := AQ hi176_2; have HC176_2 := AQ hl176_2; clear hi176_2 hl176_2; have HR176_3 := AQ hi176_3; have HC176_3 := AQ hl176_3; clear hi176_3 hl176_3; replace p176 := eq_true p176; replace q176 := eq_true q176; have p177 : 0 ≤ (x8_1 : Int) := of_decide_eq_true (by first | (with_reducible assumption) | assumption); have q177 : x8_1 < (((rd_T74 l0 0).f3).length : Int) := of_decide_eq_true (by first | (with_reducible assumption) | assumption); obtain ⟨ad177, e177, hx177_0⟩ := Kd.at_int HR176_3.out x8_1 p177 q177; cases e177; (first | replace hx177_0 := (HB.out.cell (World.block_lt_of_cell? w _ hx177_0)).trans hx177_0 | skip); replace p177 := eq_true p177; replace q177 := eq_true q177))
              go_roundg kj25
              case measure => have := HK1.out; have := HJ25.out; omega
              case rel => exact ⟨(x8_1), (wrap64 (x8_1 + 1)), (x173000_1), (x173001_1), (.slice Ao40 x173000_1.length co40), (u173001), (by first | rfl | (simp; done) | (simp [*]; done)), (by first | rfl | (simp; done) | (simp [*]; done)), H', ⟨by have := HK1.out; have := HJ25.out; omega⟩, ⟨PR HO_173000⟩, ⟨PR HO_173001⟩, ⟨PK BK158⟩, ⟨PK BK159⟩, ⟨PK BK172⟩, ⟨by repeat (first | (with_reducible first | exact HB.out | apply below_alloc | apply pw_below_drewN | apply below_drew1 | refine below_set ?_ GE158.out | refine below_set ?_ GE159.out | refine below_set ?_ GE172.out) | exact HB.out)⟩⟩
             ·rw [if_neg c36] at H
              have c36b0 : decide (x7_1 < 0) = false := decide_eq_false c36
              clear c36
              have H' := AQ H
              clear H
              have hnb41 := NB172_158.out
              have hnc41 := NB158_172.out
              have hnb42 := NB172_159.out
              have hnc42 := NB159_172.out
              have hcz43_0 : wc.cell? ⟨gb172, 0, none⟩ = some (u173000) := (blk_cell BK172.out 0).trans rfl
              have hcz43_1 : wc.cell? ⟨gb172, 1, none⟩ = some (u173001) := (blk_cell BK172.out 1).trans rfl
              have hfz43_0 := blk_frozen BK172.out 0
              have hfz43_1 := blk_frozen BK172.out 1
              obtain ⟨Ao44, co44, eo44⟩ := Kd.R_slice HO_173000.out
              subst eo44
              go_wp2_with (first | ((with_reducible refine gate_callee (f := 48) rfl ?_); refine goesL_ (some 37) rfl rfl Tryd.func48 (by kernel_rfl) rfl #[.slice Ao44 x173000_1.length co44, .int .i64 x8_1] rfl (by (try simp only [List.map_toArray, List.map_cons, List.map_nil]); first | done | rfl | (simp only [List.length_drop, List.length_take]; rfl)) ?_; (with_reducible refine (packed_Has.calls _ _ x173000_1 x8_1 true _ ?side1 ?side2 A30.out).mono ?_); (case side1 => exact QC HO_173000); (case side2 => exact (Kd.R_reads' HO_173000.out).2.1); rintro e w' ⟨rfl, ⟨nd, rfl⟩⟩; refine ⟨_, rfl, ?_⟩; have p176 : 0 ≤ (0 : Int) := (by omega); have q176 : 0 < (l0.length : Int) := of_decide_eq_true (by first | (with_reducible assumption) | assumption); obtain ⟨ad176, A176_2, c176_2, A176_3, c176_3, e176, hx176_0, hx176_1, hx176_2, hx176_3, hx176_4, hl176_2, hi176_2, hl176_3, hi176_3⟩ := at_T74 HR0.out 0 p176 q176; obtain rfl : ad900 = ad176 := (by injection e176); have qi176 : (0 < l0.length) = True := eq_true (by omega); (try rw [show ((0 : Int)).toNat = 0 from rfl] at hx176_0); (try rw [show 0 * 5 = 0 from rfl] at hx176_0); (try rw [Addr.add_zero'] at hx176_0); (try rw [show ((0 : Int)).toNat = 0 from rfl] at hx176_1); (try rw [show 0 * 5 = 0 from rfl] at hx176_1); (try rw [Addr.add_zero'] at hx176_1); (try rw [show ((0 : Int)).toNat = 0 from rfl] at hx176_2); (try rw [show 0 * 5 = 0 from rfl] at hx176_2); (try rw [Addr.add_zero'] at hx176_2); (try rw [show ((0 : Int)).toNat = 0 from rfl] at hx176_3); (try rw [show 0 * 5 = 0 from rfl] at hx176_3); (try rw [Addr.add_zero'] at hx176_3); (try rw [show ((0 : Int)).toNat = 0 from rfl] at hx176_4); (try rw [show 0 * 5 = 0 from rfl] at hx176_4); (try rw [Addr.add_zero'] at hx176_4); (first | replace hx176_0 := (HB.out.cell (World.block_lt_of_cell? w _ hx176_0)).trans hx176_0 | skip); (first | replace hx176_1 := (HB.out.cell (World.block_lt_of_cell? w _ hx176_1)).trans hx176_1 | skip); (first | replace hx176_2 := (HB.out.cell (World.block_lt_of_cell? w _ hx176_2)).trans hx176_2 | skip); (first | replace hx176_3 := (HB.out.cell (World.block_lt_of_cell? w _ hx176_3)).trans hx176_3 | skip); (first | replace hx176_4 := (HB.out.cell (World.block_lt_of_cell? w _ hx176_4)).trans hx176_4 | skip); have HR176_2 := AQ hi176_2; have HC176_2 := AQ hl176_2; clear hi176_2 hl176_2; have HR176_3 := AQ hi176_3; have HC176_3 := AQ hl176_3; clear hi176_3 hl176_3; replace p176 := eq_true p176; replace q176 := eq_true q176; have p177 : 0 ≤ (x8_1 : Int) := of_decide_eq_true (by first | (with_reducible assumption) | assumption); have q177 : x8_1 < (((rd_T74 l0 0).f3).length : Int) := of_decide_eq_true (by first | (with_reducible assumption) | assumption); obtain ⟨ad177, e177, hx177_0⟩ := Kd.at_int HR176_3.out x8_1 p177 q177; cases e177; (first | replace hx177_0 := (HB.out.cell (World.block_lt_of_cell? w _ hx177_0)).trans hx177_0 | skip); replace p177 := eq_true p177; replace q177 := eq_true q177))
              go_roundg kj25
              case measure => have := HK1.out; have := HJ25.out; omega
              case rel => exact ⟨(x7_1), (wrap64 (x8_1 + 1)), (x173000_1), (x173001_1), (.slice Ao44 x173000_1.length co44), (u173001), (by first | rfl | (simp; done) | (simp [*]; done)), (by first | rfl | (simp; done) | (simp [*]; done)), H', ⟨by have := HK1.out; have := HJ25.out; omega⟩, ⟨PR HO_173000⟩, ⟨PR HO_173001⟩, ⟨PK BK158⟩, ⟨PK BK159⟩, ⟨PK BK172⟩, ⟨by repeat (first | (with_reducible first | exact HB.out | apply below_alloc | apply pw_below_drewN | apply below_drew1 | refine below_set ?_ GE158.out | refine below_set ?_ GE159.out | refine below_set ?_ GE172.out) | exact HB.out)⟩⟩
            ·rw [if_neg c35] at H
             have c35b0 : decide ((rd ((rd_T74 l0 0).f3) x8_1) < 0) = false := decide_eq_false c35
             clear c35
             by_cases c45 : 0 ≤ (rd ((rd_T74 l0 0).f3) x8_1)
             ·rw [if_pos c45] at H
              have c45b0 : decide (0 ≤ (rd ((rd_T74 l0 0).f3) x8_1)) = true := decide_eq_true c45
              clear c45
              by_cases c46 : (rd ((rd_T74 l0 0).f3) x8_1) < (((rd_T74 l0 0).f2).length : Int)
              ·rw [if_pos c46] at H
               have c46b0 : decide ((rd ((rd_T74 l0 0).f3) x8_1) < (((rd_T74 l0 0).f2).length : Int)) = true := decide_eq_true c46
               clear c46
               replace H := Option.bind_eq_some_iff.mp H
               obtain ⟨⟨t183, t184⟩, A470, H⟩ := H
               replace H : ((symbol_Xor.f kj25 x173001_1 ((rd_T77 ((rd_T74 l0 0).f2) (rd ((rd_T74 l0 0).f3) x8_1)).f1)).bind fun bt189 => (elimM_down.l0 kj25 l0 x7_1 (wrap64 (x8_1 + 1)) t183 bt189.1)) = some (r1, r2, r3) := H
               have A47 := AQ A470
               clear A470
               replace H := Option.bind_eq_some_iff.mp H
               obtain ⟨⟨t189, t192⟩, A480, H⟩ := H
               replace H : (elimM_down.l0 kj25 l0 x7_1 (wrap64 (x8_1 + 1)) t183 t189) = some (r1, r2, r3) := H
               have A48 := AQ A480
               clear A480
               have H' := AQ H
               clear H
               have hnb49 := NB172_158.out
               have hnc49 := NB158_172.out
               have hnb50 := NB172_159.out
               have hnc50 := NB159_172.out
               have hcz51_0 : wc.cell? ⟨gb172, 0, none⟩ = some (u173000) := (blk_cell BK172.out 0).trans rfl
               have hcz51_1 : wc.cell? ⟨gb172, 1, none⟩ = some (u173001) := (blk_cell BK172.out 1).trans rfl
               have hfz51_0 := blk_frozen BK172.out 0
               have hfz51_1 := blk_frozen BK172.out 1
               obtain ⟨Ao52, co52, eo52⟩ := Kd.R_slice HO_173000.out
               subst eo52
               try go_wp2_with (first | ((with_reducible refine gate_callee (f := 48) rfl ?_); refine goesL_ (some 37) rfl rfl Tryd.func48 (by kernel_rfl) rfl #[.slice Ao52 x173000_1.length co52, .int .i64 x8_1] rfl (by (try simp only [List.map_toArray, List.map_cons, List.map_nil]); first | done | rfl | (simp only [List.length_drop, List.length_take]; rfl)) ?_; (with_reducible refine (packed_Has.calls _ _ x173000_1 x8_1 true _ ?side1 ?side2 A30.out).mono ?_); (case side1 => exact QC HO_173000); (case side2 => exact (Kd.R_reads' HO_173000.out).2.1); rintro e w' ⟨rfl, ⟨nd, rfl⟩⟩; refine ⟨_, rfl, ?_⟩; (try (rw [drewN_self wc]; generalize hq_ : World.drewN wc _ = wc; have n0_ : Aside0 (Kd.R (Kd.int .u64) 35 wc w.heap.size (fun _ => True) (.slice Ao52 x173000_1.length co52) x173000_1) := ⟨by rw [← hq_]; exact (PR HO_173000)⟩; have n1_ : Aside0 (Kd.R (Kd.int .u8) 5 wc w.heap.size (fun _ => True) u173001 x173001_1) := ⟨by rw [← hq_]; exact (PR HO_173001)⟩; have n2_ : Aside0 (wc.heap[gb158]? = some (.cells #[.slice A1_0 l1_0.length c1_0, .slice A1_1 l1_1.length c1_1] 77 (0, 0))) := ⟨by rw [← hq_]; exact (PK BK158)⟩; have n3_ : Aside0 (wc.heap[gb159]? = some (.cells #[.slice none 0 0, .slice none 0 0] 77 (0, 0))) := ⟨by rw [← hq_]; exact (PK BK159)⟩; have n4_ : Aside0 (wc.heap[gb172]? = some (.cells #[.slice Ao52 x173000_1.length co52, u173001] 77 (0, 0))) := ⟨by rw [← hq_]; exact (PK BK172)⟩; have n5_ : Aside0 (Below w.heap.size w wc) := ⟨by rw [← hq_]; exact (by repeat (first | (with_reducible first | exact HB.out | apply below_alloc | apply pw_below_drewN | apply below_drew1 | refine below_set ?_ GE158.out | refine below_set ?_ GE159.out | refine below_set ?_ GE172.out) | exact HB.out))⟩; clear HO_173000 HO_173001 BK158 BK159 BK172 HB hq_; have HO_173000 := n0_; have HO_173001 := n1_; have BK158 := n2_; have BK159 := n3_; have BK172 := n4_; have HB := n5_; clear n0_ n1_ n2_ n3_ n4_ n5_)); have p176 : 0 ≤ (0 : Int) := (by omega); have q176 : 0 < (l0.length : Int) := of_decide_eq_true (by first | (with_reducible assumption) | assumption); obtain ⟨ad176, A176_2, c176_2, A176_3, c176_3, e176, hx176_0, hx176_1, hx176_2, hx176_3, hx176_4, hl176_2, hi176_2, hl176_3, hi176_3⟩ := at_T74 HR0.out 0 p176 q176; obtain rfl : ad900 = ad176 := (by injection e176); have qi176 : (0 < l0.length) = True := eq_true (by omega); (try rw [show ((0 : Int)).toNat = 0 from rfl] at hx176_0); (try rw [show 0 * 5 = 0 from rfl] at hx176_0); (try rw [Addr.add_zero'] at hx176_0); (try rw [show ((0 : Int)).toNat = 0 from rfl] at hx176_1); (try rw [show 0 * 5 = 0 from rfl] at hx176_1); (try rw [Addr.add_zero'] at hx176_1); (try rw [show ((0 : Int)).toNat = 0 from rfl] at hx176_2); (try rw [show 0 * 5 = 0 from rfl] at hx176_2); (try rw [Addr.add_zero'] at hx176_2); (try rw [show ((0 : Int)).toNat = 0 from rfl] at hx176_3); (try rw [show 0 * 5 = 0 from rfl] at hx176_3); (try rw [Addr.add_zero'] at hx176_3); (try rw [show ((0 : Int)).toNat = 0 from rfl] at hx176_4); (try rw [show 0 * 5 = 0 from rfl] at hx176_4); (try rw [Addr.add_zero'] at hx176_4); (first | replace hx176_0 := (HB.out.cell (World.block_lt_of_cell? w _ hx176_0)).trans hx176_0 | skip); (first | replace hx176_1 := (HB.out.cell (World.block_lt_of_cell? w _ hx176_1)).trans hx176_1 | skip); (first | replace hx176_2 := (HB.out.cell (World.block_lt_of_cell? w _ hx176_2)).trans hx176_2 | skip); (first | replace hx176_3 := (HB.out.cell (World.block_lt_of_cell? w _ hx176_3)).trans hx176_3 | skip); (first | replace hx176_4 := (HB.out.cell (World.block_lt_of_cell? w _ hx176_4)).trans hx176_4 | skip); have HR176_2 := AQ hi176_2; have HC176_2 := AQ hl176_2; clear hi176_2 hl176_2; have HR176_3 := AQ hi176_3; have HC176_3 := AQ hl176_3; clear hi176_3 hl176_3; replace p176 := eq_true p176; replace q176 := eq_true q176; have p177 : 0 ≤ (x8_1 : Int) := of_decide_eq_true (by first | (with_reducible assumption) | assumption); have q177 : x8_1 < (((rd_T74 l0 0).f3).length : Int) := of_decide_eq_true (by first | (with_reducible assumption) | assumption); obtain ⟨ad177, e177, hx177_0⟩ := Kd.at_int HR176_3.out x8_1 p177 q177; cases e177; (first | replace hx177_0 := (HB.out.cell (World.block_lt_of_cell? w _ hx177_0)).trans hx177_0 | skip); replace p177 := eq_true p177; replace q177 := eq_true q177))
               have n0_ := AQ (Kd.R_drew HO_173000.out)
               have n1_ := AQ (Kd.R_drew HO_173001.out)
               have n2_ := AQ (blk_drew BK158.out)
               have n3_ := AQ (blk_drew BK159.out)
               have n4_ := AQ (blk_drew BK172.out)
               have n5_ := AQ (below_drew1 HB.out)
               clear HO_173000
               clear HO_173001
               clear BK158
               clear BK159
               clear BK172
               clear HB
               have HO_173000 := n0_
               have HO_173001 := n1_
               have BK158 := n2_
               have BK159 := n3_
               have BK172 := n4_
               have HB := n5_
               clear n0_ n1_ n2_ n3_ n4_ n5_
               have p178 : 0 ≤ (0 : Int) := (by omega)
               have q178 : 0 < (l0.length : Int) := of_decide_eq_true (by first | (with_reducible assumption) | assumption)
               obtain ⟨ad178, A178_2, c178_2, A178_3, c178_3, e178, hx178_0, hx178_1, hx178_2, hx178_3, hx178_4, hl178_2, hi178_2, hl178_3, hi178_3⟩ := at_T74 HR0.out 0 p178 q178
               have hw178_4 := hx178_4
               (try rw [show ((0 : Int)).toNat = 0 from rfl] at hw178_4)
               (try rw [show 0 * 5 = 0 from rfl] at hw178_4)
               (try rw [Addr.add_zero'] at hw178_4)
               have hw178_3 := hx178_3
               (try rw [show ((0 : Int)).toNat = 0 from rfl] at hw178_3)
               (try rw [show 0 * 5 = 0 from rfl] at hw178_3)
               (try rw [Addr.add_zero'] at hw178_3)
               have hw178_2 := hx178_2
               (try rw [show ((0 : Int)).toNat = 0 from rfl] at hw178_2)
               (try rw [show 0 * 5 = 0 from rfl] at hw178_2)
               (try rw [Addr.add_zero'] at hw178_2)
               have hw178_1 := hx178_1
               (try rw [show ((0 : Int)).toNat = 0 from rfl] at hw178_1)
               (try rw [show 0 * 5 = 0 from rfl] at hw178_1)
               (try rw [Addr.add_zero'] at hw178_1)
               have hw178_0 := hx178_0
               (try rw [show ((0 : Int)).toNat = 0 from rfl] at hw178_0)
               (try rw [show 0 * 5 = 0 from rfl] at hw178_0)
               (try rw [Addr.add_zero'] at hw178_0)
               obtain rfl : ad900 = ad178 := (by injection e178)
               have qi178 : (0 < l0.length) = True := eq_true (by omega)
               (try rw [show ((0 : Int)).toNat = 0 from rfl] at hx178_0)
               (try rw [show 0 * 5 = 0 from rfl] at hx178_0)
               (try rw [Addr.add_zero'] at hx178_0)
               (try rw [show ((0 : Int)).toNat = 0 from rfl] at hx178_1)
               (try rw [show 0 * 5 = 0 from rfl] at hx178_1)
               (try rw [Addr.add_zero'] at hx178_1)
               (try rw [show ((0 : Int)).toNat = 0 from rfl] at hx178_2)
               (try rw [show 0 * 5 = 0 from rfl] at hx178_2)
               (try rw [Addr.add_zero'] at hx178_2)
               (try rw [show ((0 : Int)).toNat = 0 from rfl] at hx178_3)
               (try rw [show 0 * 5 = 0 from rfl] at hx178_3)
               (try rw [Addr.add_zero'] at hx178_3)
               (try rw [show ((0 : Int)).toNat = 0 from rfl] at hx178_4)
               (try rw [show 0 * 5 = 0 from rfl] at hx178_4)
               (try rw [Addr.add_zero'] at hx178_4)
               (first | replace hx178_0 := (HB.out.cell (World.block_lt_of_cell? w _ hx178_0)).trans hx178_0 | skip)
               (first | replace hx178_1 := (HB.out.cell (World.block_lt_of_cell? w _ hx178_1)).trans hx178_1 | skip)
               (first | replace hx178_2 := (HB.out.cell (World.block_lt_of_cell? w _ hx178_2)).trans hx178_2 | skip)
               (first | replace hx178_3 := (HB.out.cell (World.block_lt_of_cell? w _ hx178_3)).trans hx178_3 | skip)
               (first | replace hx178_4 := (HB.out.cell (World.block_lt_of_cell? w _ hx178_4)).trans hx178_4 | skip)
               have HR178_2 := AQ hi178_2
               have HC178_2 := AQ hl178_2
               clear hi178_2 hl178_2
               have HR178_3 := AQ hi178_3
               have HC178_3 := AQ hl178_3
               clear hi178_3 hl178_3
               replace p178 := eq_true p178
               replace q178 := eq_true q178
               have p179 : 0 ≤ (0 : Int) := (by omega)
               have q179 : 0 < (l0.length : Int) := of_decide_eq_true (by first | (with_reducible assumption) | assumption)
               obtain ⟨ad179, A179_2, c179_2, A179_3, c179_3, e179, hx179_0, hx179_1, hx179_2, hx179_3, hx179_4, hl179_2, hi179_2, hl179_3, hi179_3⟩ := at_T74 HR0.out 0 p179 q179
               have hw179_4 := hx179_4
               (try rw [show ((0 : Int)).toNat = 0 from rfl] at hw179_4)
               (try rw [show 0 * 5 = 0 from rfl] at hw179_4)
               (try rw [Addr.add_zero'] at hw179_4)
               have hw179_3 := hx179_3
               (try rw [show ((0 : Int)).toNat = 0 from rfl] at hw179_3)
               (try rw [show 0 * 5 = 0 from rfl] at hw179_3)
               (try rw [Addr.add_zero'] at hw179_3)
               have hw179_2 := hx179_2
               (try rw [show ((0 : Int)).toNat = 0 from rfl] at hw179_2)
               (try rw [show 0 * 5 = 0 from rfl] at hw179_2)
               (try rw [Addr.add_zero'] at hw179_2)
               have hw179_1 := hx179_1
               (try rw [show ((0 : Int)).toNat = 0 from rfl] at hw179_1)
               (try rw [show 0 * 5 = 0 from rfl] at hw179_1)
               (try rw [Addr.add_zero'] at hw179_1)
               have hw179_0 := hx179_0
               (try rw [show ((0 : Int)).toNat = 0 from rfl] at hw179_0)
               (try rw [show 0 * 5 = 0 from rfl] at hw179_0)
               (try rw [Addr.add_zero'] at hw179_0)
               obtain rfl : ad900 = ad179 := (by injection e179)
               have qi179 : (0 < l0.length) = True := eq_true (by omega)
               (try rw [show ((0 : Int)).toNat = 0 from rfl] at hx179_0)
               (try rw [show 0 * 5 = 0 from rfl] at hx179_0)
               (try rw [Addr.add_zero'] at hx179_0)
               (try rw [show ((0 : Int)).toNat = 0 from rfl] at hx179_1)
               (try rw [show 0 * 5 = 0 from rfl] at hx179_1)
               (try rw [Addr.add_zero'] at hx179_1)
               (try rw [show ((0 : Int)).toNat = 0 from rfl] at hx179_2)
               (try rw [show 0 * 5 = 0 from rfl] at hx179_2)
               (try rw [Addr.add_zero'] at hx179_2)
               (try rw [show ((0 : Int)).toNat = 0 from rfl] at hx179_3)
               (try rw [show 0 * 5 = 0 from rfl] at hx179_3)
               (try rw [Addr.add_zero'] at hx179_3)
               (try rw [show ((0 : Int)).toNat = 0 from rfl] at hx179_4)
               (try rw [show 0 * 5 = 0 from rfl] at hx179_4)
               (try rw [Addr.add_zero'] at hx179_4)
               (first | replace hx179_0 := (HB.out.cell (World.block_lt_of_cell? w _ hx179_0)).trans hx179_0 | skip)
               (first | replace hx179_1 := (HB.out.cell (World.block_lt_of_cell? w _ hx179_1)).trans hx179_1 | skip)
               (first | replace hx179_2 := (HB.out.cell (World.block_lt_of_cell? w _ hx179_2)).trans hx179_2 | skip)
               (first | replace hx179_3 := (HB.out.cell (World.block_lt_of_cell? w _ hx179_3)).trans hx179_3 | skip)
               (first | replace hx179_4 := (HB.out.cell (World.block_lt_of_cell? w _ hx179_4)).trans hx179_4 | skip)
               have HR179_2 := AQ hi179_2
               have HC179_2 := AQ hl179_2
               clear hi179_2 hl179_2
               have HR179_3 := AQ hi179_3
               have HC179_3 := AQ hl179_3
               clear hi179_3 hl179_3
               replace p179 := eq_true p179
               replace q179 := eq_true q179
               have ea_ := Option.some.inj (hx178_2.symm.trans hx179_2)
               injection ea_ with ea_ en_ ec_
               subst ea_
               subst ec_
               clear en_
               have ea_ := Option.some.inj (hx178_3.symm.trans hx179_3)
               injection ea_ with ea_ en_ ec_
               subst ea_
               subst ec_
               clear en_
               have p180 : 0 ≤ (x8_1 : Int) := of_decide_eq_true (by first | (with_reducible assumption) | assumption)
               have q180 : x8_1 < (((rd_T74 l0 0).f3).length : Int) := of_decide_eq_true (by first | (with_reducible assumption) | assumption)
               obtain ⟨ad180, e180, hx180_0⟩ := Kd.at_int HR179_3.out x8_1 p180 q180
               have hw180_0 := hx180_0
               cases e180
               (first | replace hx180_0 := (HB.out.cell (World.block_lt_of_cell? w _ hx180_0)).trans hx180_0 | skip)
               replace p180 := eq_true p180
               replace q180 := eq_true q180
               have p181 : 0 ≤ ((rd ((rd_T74 l0 0).f3) x8_1) : Int) := of_decide_eq_true (by first | (with_reducible assumption) | assumption)
               have q181 : (rd ((rd_T74 l0 0).f3) x8_1) < (((rd_T74 l0 0).f2).length : Int) := of_decide_eq_true (by first | (with_reducible assumption) | assumption)
               obtain ⟨ad181, A181_0, c181_0, A181_1, c181_1, e181, hx181_0, hx181_1, hl181_0, hi181_0, hl181_1, hi181_1⟩ := at_T77 HR178_2.out (rd ((rd_T74 l0 0).f3) x8_1) p181 q181
               have hw181_1 := hx181_1
               have hw181_0 := hx181_0
               cases e181
               (first | replace hx181_0 := (HB.out.cell (World.block_lt_of_cell? w _ hx181_0)).trans hx181_0 | skip)
               (first | replace hx181_1 := (HB.out.cell (World.block_lt_of_cell? w _ hx181_1)).trans hx181_1 | skip)
               have HR181_0 := AQ hi181_0
               have HC181_0 := AQ hl181_0
               clear hi181_0 hl181_0
               have HR181_1 := AQ hi181_1
               have HC181_1 := AQ hl181_1
               clear hi181_1 hl181_1
               replace p181 := eq_true p181
               replace q181 := eq_true q181
               refine start_ (n := 15) (S := fun w' => w'.cell? ad900 = some (.int .i64 ((rd_T74 l0 0).f0)) ∧ w'.cell? ⟨ad900.block, ad900.off + 1, none⟩ = some (.int .i64 ((rd_T74 l0 0).f1)) ∧ w'.cell? ⟨ad900.block, ad900.off + 2, none⟩ = some (.slice (some ad181) ((rd_T74 l0 0).f2).length c178_2) ∧ w'.cell? ⟨ad900.block, ad900.off + 3, none⟩ = some (.slice (some ad180) ((rd_T74 l0 0).f3).length c178_3) ∧ w'.cell? ⟨ad900.block, ad900.off + 4, none⟩ = some (.bool ((rd_T74 l0 0).f4)) ∧ w'.cell? ad900 = some (.int .i64 ((rd_T74 l0 0).f0)) ∧ w'.cell? ⟨ad900.block, ad900.off + 1, none⟩ = some (.int .i64 ((rd_T74 l0 0).f1)) ∧ w'.cell? ⟨ad900.block, ad900.off + 2, none⟩ = some (.slice (some ad181) ((rd_T74 l0 0).f2).length c178_2) ∧ w'.cell? ⟨ad900.block, ad900.off + 3, none⟩ = some (.slice (some ad180) ((rd_T74 l0 0).f3).length c178_3) ∧ w'.cell? ⟨ad900.block, ad900.off + 4, none⟩ = some (.bool ((rd_T74 l0 0).f4)) ∧ w'.cell? (ad180.add (x8_1).toNat) = some (.int .i64 (rd ((rd_T74 l0 0).f3) x8_1)) ∧ w'.cell? (ad181.add (((rd ((rd_T74 l0 0).f3) x8_1)).toNat * 2)) = some (.slice A181_0 ((rd_T77 ((rd_T74 l0 0).f2) (rd ((rd_T74 l0 0).f3) x8_1)).f0).length c181_0) ∧ w'.cell? ⟨(ad181.add (((rd ((rd_T74 l0 0).f3) x8_1)).toNat * 2)).block, (ad181.add (((rd ((rd_T74 l0 0).f3) x8_1)).toNat * 2)).off + 1, none⟩ = some (.slice A181_1 ((rd_T77 ((rd_T74 l0 0).f2) (rd ((rd_T74 l0 0).f3) x8_1)).f1).length c181_1)) (ds := []) #[false, false, false, false, false, false, false, false, false, false, false, false, false, false, false] (by kernel_rfl) rfl rfl ⟨((HB.out.cell (World.block_lt_of_cell? w _ hw178_0)).trans hw178_0), ((HB.out.cell (World.block_lt_of_cell? w _ hw178_1)).trans hw178_1), ((HB.out.cell (World.block_lt_of_cell? w _ hw178_2)).trans hw178_2), ((HB.out.cell (World.block_lt_of_cell? w _ hw178_3)).trans hw178_3), ((HB.out.cell (World.block_lt_of_cell? w _ hw178_4)).trans hw178_4), ((HB.out.cell (World.block_lt_of_cell? w _ hw179_0)).trans hw179_0), ((HB.out.cell (World.block_lt_of_cell? w _ hw179_1)).trans hw179_1), ((HB.out.cell (World.block_lt_of_cell? w _ hw179_2)).trans hw179_2), ((HB.out.cell (World.block_lt_of_cell? w _ hw179_3)).trans hw179_3), ((HB.out.cell (World.block_lt_of_cell? w _ hw179_4)).trans hw179_4), ((HB.out.cell (World.block_lt_of_cell? w _ hw180_0)).trans hw180_0), ((HB.out.cell (World.block_lt_of_cell? w _ hw181_0)).trans hw181_0), ((HB.out.cell (World.block_lt_of_cell? w _ hw181_1)).trans hw181_1)⟩ (fun hHeld => ?_); refine with_tabW elimM_down.tab10 elimM_down.bits10 (fun HT_ HW_ => ?_)
               generalize wc.drew = w53 at HO_173000 HO_173001 BK158 BK159 BK172 HB HR178_2 HR178_3 HR179_2 HR179_3 HR181_0 HR181_1 hx178_0 hx178_1 hx178_2 hx178_3 hx178_4 hx179_0 hx179_1 hx179_2 hx179_3 hx179_4 hx180_0 hx181_0 hx181_1 hHeld ⊢
               refine pure_ (i := 0) (N := some 50) (v := ?_) (a' := ?_) #[true, false, false, false, false, false, false, false, false, false, false, false, false, false, false] rfl rfl (any_of HT_.out (by kernel_rfl)) (fun _ _ _ h => h) (Or.inl ⟨by rfl, ?_⟩) ?_ ?_
               rotate_left
               ·intro w'
                go_simp
                with_reducible rfl
               rotate_left
               ·simp only [Act.put, qT, qZ, qS, i64_w, i32_w]
                rfl
               refine pure_ (i := 1) (N := some 51) (v := ?_) (a' := ?_) #[true, true, false, false, false, false, false, false, false, false, false, false, false, false, false] rfl rfl (any_of HT_.out (by kernel_rfl)) (fun _ _ _ h => h) (Or.inl ⟨by rfl, ?_⟩) ?_ ?_
               rotate_left
               ·intro w'
                go_simp
                with_reducible rfl
               rotate_left
               ·simp only [Act.put, qT, qZ, qS, i64_w, i32_w]
                rfl
               refine pure_ (i := 2) (N := some 52) (v := ?_) (a' := ?_) #[true, true, true, false, false, false, false, false, false, false, false, false, false, false, false] rfl rfl (any_of HT_.out (by kernel_rfl)) (fun _ _ _ h => h) (Or.inl ⟨by rfl, ?_⟩) ?_ ?_
               rotate_left
               ·intro w'
                go_simp
                with_reducible rfl
               rotate_left
               ·simp only [Act.put, qT, qZ, qS, i64_w, i32_w]
                rfl
               refine pure_ (i := 4) (N := some 54) (v := ?_) (a' := ?_) #[true, true, true, false, true, false, false, false, false, false, false, false, false, false, false] rfl rfl (any_of HT_.out (by kernel_rfl)) (fun _ _ _ h => h) (Or.inl ⟨by rfl, ?_⟩) ?_ ?_
               rotate_left
               ·intro w'
                go_simp
                with_reducible rfl
               rotate_left
               ·simp only [Act.put, qT, qZ, qS, i64_w, i32_w]
                rfl
               refine pure_ (i := 5) (N := some 55) (v := ?_) (a' := ?_) #[true, true, true, false, true, true, false, false, false, false, false, false, false, false, false] rfl rfl (any_of HT_.out (by kernel_rfl)) (fun _ _ _ h => h) (Or.inl ⟨by rfl, ?_⟩) ?_ ?_
               rotate_left
               ·intro w'
                go_simp
                with_reducible rfl
               rotate_left
               ·simp only [Act.put, qT, qZ, qS, i64_w, i32_w]
                rfl
               refine pure_ (i := 6) (N := some 56) (v := ?_) (a' := ?_) #[true, true, true, false, true, true, true, false, false, false, false, false, false, false, false] rfl rfl (any_of HT_.out (by kernel_rfl)) (fun _ _ _ h => h) (Or.inl ⟨by rfl, ?_⟩) ?_ ?_
               rotate_left
               ·intro w'
                go_simp
                with_reducible rfl
               rotate_left
               ·simp only [Act.put, qT, qZ, qS, i64_w, i32_w]
                rfl
               refine pure_ (i := 8) (N := some 58) (v := ?_) (a' := ?_) #[true, true, true, false, true, true, true, false, true, false, false, false, false, false, false] rfl rfl (any_of HT_.out (by kernel_rfl)) (fun _ _ _ h => h) (Or.inl ⟨by rfl, ?_⟩) ?_ ?_
               rotate_left
               ·intro w'
                go_simp
                with_reducible rfl
               rotate_left
               ·simp only [Act.put, qT, qZ, qS, i64_w, i32_w]
                rfl
               refine take_ (i := 3) (N := some 53) (v := ?_) (a' := ?_) #[true, true, true, true, true, true, true, false, true, false, false, false, false, false, false] rfl rfl (take_ofW HT_.out HW_.out (by kernel_rfl)) (fun _ _ _ h => h) (Or.inl ⟨by rfl, ?_⟩) hHeld ?_ ?_
               rotate_left
               ·rintro w' ⟨s0, s1, s2, s3, s4, s5, s6, s7, s8, s9, s10, s11, s12⟩
                go_simp
                with_reducible rfl
               rotate_left
               ·simp only [Act.put, qT, qZ, qS, i64_w, i32_w]
                rfl
               refine take_ (i := 7) (N := some 57) (v := ?_) (a' := ?_) #[true, true, true, true, true, true, true, true, true, false, false, false, false, false, false] rfl rfl (take_ofW HT_.out HW_.out (by kernel_rfl)) (fun _ _ _ h => h) (Or.inl ⟨by rfl, ?_⟩) hHeld ?_ ?_
               rotate_left
               ·rintro w' ⟨s0, s1, s2, s3, s4, s5, s6, s7, s8, s9, s10, s11, s12⟩
                go_simp
                with_reducible rfl
               rotate_left
               ·simp only [Act.put, qT, qZ, qS, i64_w, i32_w]
                rfl
               refine pure_ (i := 9) (N := some 59) (v := ?_) (a' := ?_) #[true, true, true, true, true, true, true, true, true, true, false, false, false, false, false] rfl rfl (any_of HT_.out (by kernel_rfl)) (fun _ _ _ h => h) (Or.inl ⟨by rfl, ?_⟩) ?_ ?_
               rotate_left
               ·intro w'
                go_simp
                with_reducible rfl
               rotate_left
               ·simp only [Act.put, qT, qZ, qS, i64_w, i32_w]
                rfl
               refine take_ (i := 10) (N := some 60) (v := ?_) (a' := ?_) #[true, true, true, true, true, true, true, true, true, true, true, false, false, false, false] rfl rfl (take_ofW HT_.out HW_.out (by kernel_rfl)) (fun _ _ _ h => h) (Or.inl ⟨by rfl, ?_⟩) hHeld ?_ ?_
               rotate_left
               ·rintro w' ⟨s0, s1, s2, s3, s4, s5, s6, s7, s8, s9, s10, s11, s12⟩
                go_simp
                with_reducible rfl
               rotate_left
               ·simp only [Act.put, qT, qZ, qS, i64_w, i32_w]
                rfl
               refine pure_ (i := 11) (N := some 61) (v := ?_) (a' := ?_) #[true, true, true, true, true, true, true, true, true, true, true, true, false, false, false] rfl rfl (any_of HT_.out (by kernel_rfl)) (fun _ _ _ h => h) (Or.inl ⟨by rfl, ?_⟩) ?_ ?_
               rotate_left
               ·intro w'
                go_simp
                with_reducible rfl
               rotate_left
               ·simp only [Act.put, qT, qZ, qS, i64_w, i32_w]
                rfl
               refine take_ (i := 12) (N := some 62) (v := ?_) (a' := ?_) #[true, true, true, true, true, true, true, true, true, true, true, true, true, false, false] rfl rfl (take_ofW HT_.out HW_.out (by kernel_rfl)) (fun _ _ _ h => h) (Or.inl ⟨by rfl, ?_⟩) hHeld ?_ ?_
               rotate_left
               ·rintro w' ⟨s0, s1, s2, s3, s4, s5, s6, s7, s8, s9, s10, s11, s12⟩
                go_simp
                with_reducible rfl
               rotate_left
               ·simp only [Act.put, qT, qZ, qS, i64_w, i32_w]
                rfl
               refine one_ (i := 13) (N := some 9) #[true, true, true, true, true, true, true, true, true, true, true, true, true, true, false] rfl rfl (one_of HT_.out (by kernel_rfl)) (by decide) (fun K hK => ?_)
               refine box_step ?hg (N := 9) ?hd (cs := #[.slice none 0 0, .slice none 0 0]) (t := 77) ?hr ?_; (case hd => rfl); (case hg => rfl); (case hr => first | (go_simp; done) | (go_simp; rfl))
               intro gb182 hg w54 hbox hb
               have n0_ := AQ (Kd.R_below (PR HO_173000) hb)
               have n1_ := AQ (Kd.R_below (PR HO_173001) hb)
               have n2_ := AQ (blk_below (g := gb158) (o := .cells #[.slice A1_0 l1_0.length c1_0, .slice A1_1 l1_1.length c1_1] 77 (0, 0)) (PK BK158) hb)
               have n3_ := AQ (blk_below (g := gb159) (o := .cells #[.slice none 0 0, .slice none 0 0] 77 (0, 0)) (PK BK159) hb)
               have n4_ := AQ (blk_below (g := gb172) (o := .cells #[.slice Ao52 x173000_1.length co52, u173001] 77 (0, 0)) (PK BK172) hb)
               have n5_ := AQ (below_step (by repeat (first | (with_reducible first | exact HB.out | apply below_alloc | apply pw_below_drewN | apply below_drew1 | refine below_set ?_ GE158.out | refine below_set ?_ GE159.out | refine below_set ?_ GE172.out) | exact HB.out)) hb)
               have n6_ := AQ (hbox)
               have n7_ := AQ ((by rw [hg]; exact (below_size (by repeat (first | (with_reducible first | exact HB.out | apply below_alloc | apply pw_below_drewN | apply below_drew1 | refine below_set ?_ GE158.out | refine below_set ?_ GE159.out | refine below_set ?_ GE172.out) | exact HB.out))) : w.heap.size ≤ gb182))
               have n8_ := AQ ((by rw [hg]; exact (below_size (by repeat (first | (with_reducible first | exact HB.out | apply below_alloc | apply pw_below_drewN | apply below_drew1 | refine below_set ?_ GE158.out | refine below_set ?_ GE159.out | refine below_set ?_ GE172.out) | exact HB.out))) : w.heap.size ≤ gb182))
               have n9_ := AQ ((by rw [hg]; exact Nat.ne_of_lt (blk_lt (g := gb158) (o := .cells #[.slice A1_0 l1_0.length c1_0, .slice A1_1 l1_1.length c1_1] 77 (0, 0)) (PK BK158)) : gb158 ≠ gb182))
               have n10_ := AQ ((by rw [hg]; exact Nat.ne_of_gt (blk_lt (g := gb158) (o := .cells #[.slice A1_0 l1_0.length c1_0, .slice A1_1 l1_1.length c1_1] 77 (0, 0)) (PK BK158)) : gb182 ≠ gb158))
               have n11_ := AQ ((by rw [hg]; exact Nat.ne_of_lt (blk_lt (g := gb159) (o := .cells #[.slice none 0 0, .slice none 0 0] 77 (0, 0)) (PK BK159)) : gb159 ≠ gb182))
               have n12_ := AQ ((by rw [hg]; exact Nat.ne_of_gt (blk_lt (g := gb159) (o := .cells #[.slice none 0 0, .slice none 0 0] 77 (0, 0)) (PK BK159)) : gb182 ≠ gb159))
               have n13_ := AQ ((by rw [hg]; exact Nat.ne_of_lt (blk_lt (g := gb172) (o := .cells #[.slice Ao52 x173000_1.length co52, u173001] 77 (0, 0)) (PK BK172)) : gb172 ≠ gb182))
               have n14_ := AQ ((by rw [hg]; exact Nat.ne_of_gt (blk_lt (g := gb172) (o := .cells #[.slice Ao52 x173000_1.length co52, u173001] 77 (0, 0)) (PK BK172)) : gb182 ≠ gb172))
               clear HO_173000
               clear HO_173001
               clear BK158
               clear BK159
               clear BK172
               clear HB
               have HO_173000 := n0_
               have HO_173001 := n1_
               have BK158 := n2_
               have BK159 := n3_
               have BK172 := n4_
               have HB := n5_
               have BK182 := n6_
               have GW182 := n7_
               have GE182 := n8_
               have NB158_182 := n9_
               have NB182_158 := n10_
               have NB159_182 := n11_
               have NB182_159 := n12_
               have NB172_182 := n13_
               have NB182_172 := n14_
               clear n0_ n1_ n2_ n3_ n4_ n5_ n6_ n7_ n8_ n9_ n10_ n11_ n12_ n13_ n14_
               clear hb hbox hg
               refine hK.out _ _ ⟨((HB.out.cell (World.block_lt_of_cell? w _ hw178_0)).trans hw178_0), ((HB.out.cell (World.block_lt_of_cell? w _ hw178_1)).trans hw178_1), ((HB.out.cell (World.block_lt_of_cell? w _ hw178_2)).trans hw178_2), ((HB.out.cell (World.block_lt_of_cell? w _ hw178_3)).trans hw178_3), ((HB.out.cell (World.block_lt_of_cell? w _ hw178_4)).trans hw178_4), ((HB.out.cell (World.block_lt_of_cell? w _ hw179_0)).trans hw179_0), ((HB.out.cell (World.block_lt_of_cell? w _ hw179_1)).trans hw179_1), ((HB.out.cell (World.block_lt_of_cell? w _ hw179_2)).trans hw179_2), ((HB.out.cell (World.block_lt_of_cell? w _ hw179_3)).trans hw179_3), ((HB.out.cell (World.block_lt_of_cell? w _ hw179_4)).trans hw179_4), ((HB.out.cell (World.block_lt_of_cell? w _ hw180_0)).trans hw180_0), ((HB.out.cell (World.block_lt_of_cell? w _ hw181_0)).trans hw181_0), ((HB.out.cell (World.block_lt_of_cell? w _ hw181_1)).trans hw181_1)⟩ (fun hHeld => ?_)
               clear hK K
               refine norm_ (a' := ?_) ?_ ?_
               rotate_left
               ·show Act.put _ (some 9) _ = _
                simp only [Act.put, qT, qZ, qS, i64_w, i32_w]
                rfl
               refine one_ (i := 14) (N := none) #[true, true, true, true, true, true, true, true, true, true, true, true, true, true, true] rfl rfl (one_of HT_.out (by kernel_rfl)) (by decide) (fun K hK => ?_)
               have hs55 : w54.cell? ⟨gb182, 0, none⟩ = some (.slice none 0 0) := (blk_cell BK182.out 0).trans rfl
               have hfs55 := blk_frozen BK182.out 0
               have hns55_0 := NB158_182.out
               have hns55_1 := NB159_182.out
               have hns55_2 := NB172_182.out
               have hms55_0 := NB182_158.out
               have hms55_1 := NB182_159.out
               have hms55_2 := NB182_172.out
               have hs56 : w54.cell? ⟨gb182, 1, none⟩ = some (.slice none 0 0) := (blk_cell BK182.out 1).trans rfl
               have hfs56 := blk_frozen BK182.out 1
               have hns56_0 := NB158_182.out
               have hns56_1 := NB159_182.out
               have hns56_2 := NB172_182.out
               have hms56_0 := NB182_158.out
               have hms56_1 := NB182_159.out
               have hms56_2 := NB182_172.out
               refine skip_ (w1 := ?_) (by rfl) rfl ?_ ?_
               rotate_left
               ·go_simp
                rfl
               refine hK.out _ _ ⟨((cell_far (p := ⟨gb182, _, none⟩) (by first | exact Nat.ne_of_lt (Nat.lt_of_lt_of_le (by have := World.block_lt_of_cell? _ _ hw178_0; first | rwa [add_block] at this | exact this) GW182.out) | (rw [add_block]; exact Nat.ne_of_lt (Nat.lt_of_lt_of_le (by have := World.block_lt_of_cell? _ _ hw178_0; first | rwa [add_block] at this | exact this) GW182.out)) | (show (Addr.add _ _).block ≠ _; rw [add_block]; exact Nat.ne_of_lt (Nat.lt_of_lt_of_le (by have := World.block_lt_of_cell? _ _ hw178_0; first | rwa [add_block] at this | exact this) GW182.out)) | (dsimp only; exact Nat.ne_of_lt (Nat.lt_of_lt_of_le (by have := World.block_lt_of_cell? _ _ hw178_0; first | rwa [add_block] at this | exact this) GW182.out))) _).trans (((cell_far (p := ⟨gb182, _, none⟩) (by first | exact Nat.ne_of_lt (Nat.lt_of_lt_of_le (by have := World.block_lt_of_cell? _ _ hw178_0; first | rwa [add_block] at this | exact this) GW182.out) | (rw [add_block]; exact Nat.ne_of_lt (Nat.lt_of_lt_of_le (by have := World.block_lt_of_cell? _ _ hw178_0; first | rwa [add_block] at this | exact this) GW182.out)) | (show (Addr.add _ _).block ≠ _; rw [add_block]; exact Nat.ne_of_lt (Nat.lt_of_lt_of_le (by have := World.block_lt_of_cell? _ _ hw178_0; first | rwa [add_block] at this | exact this) GW182.out)) | (dsimp only; exact Nat.ne_of_lt (Nat.lt_of_lt_of_le (by have := World.block_lt_of_cell? _ _ hw178_0; first | rwa [add_block] at this | exact this) GW182.out))) _).trans (hHeld.1)))), ((cell_far (p := ⟨gb182, _, none⟩) (by first | exact Nat.ne_of_lt (Nat.lt_of_lt_of_le (by have := World.block_lt_of_cell? _ _ hw178_1; first | rwa [add_block] at this | exact this) GW182.out) | (rw [add_block]; exact Nat.ne_of_lt (Nat.lt_of_lt_of_le (by have := World.block_lt_of_cell? _ _ hw178_1; first | rwa [add_block] at this | exact this) GW182.out)) | (show (Addr.add _ _).block ≠ _; rw [add_block]; exact Nat.ne_of_lt (Nat.lt_of_lt_of_le (by have := World.block_lt_of_cell? _ _ hw178_1; first | rwa [add_block] at this | exact this) GW182.out)) | (dsimp only; exact Nat.ne_of_lt (Nat.lt_of_lt_of_le (by have := World.block_lt_of_cell? _ _ hw178_1; first | rwa [add_block] at this | exact this) GW182.out))) _).trans (((cell_far (p := ⟨gb182, _, none⟩) (by first | exact Nat.ne_of_lt (Nat.lt_of_lt_of_le (by have := World.block_lt_of_cell? _ _ hw178_1; first | rwa [add_block] at this | exact this) GW182.out) | (rw [add_block]; exact Nat.ne_of_lt (Nat.lt_of_lt_of_le (by have := World.block_lt_of_cell? _ _ hw178_1; first | rwa [add_block] at this | exact this) GW182.out)) | (show (Addr.add _ _).block ≠ _; rw [add_block]; exact Nat.ne_of_lt (Nat.lt_of_lt_of_le (by have := World.block_lt_of_cell? _ _ hw178_1; first | rwa [add_block] at this | exact this) GW182.out)) | (dsimp only; exact Nat.ne_of_lt (Nat.lt_of_lt_of_le (by have := World.block_lt_of_cell? _ _ hw178_1; first | rwa [add_block] at this | exact this) GW182.out))) _).trans (hHeld.2.1)))), ((cell_far (p := ⟨gb182, _, none⟩) (by first | exact Nat.ne_of_lt (Nat.lt_of_lt_of_le (by have := World.block_lt_of_cell? _ _ hw178_2; first | rwa [add_block] at this | exact this) GW182.out) | (rw [add_block]; exact Nat.ne_of_lt (Nat.lt_of_lt_of_le (by have := World.block_lt_of_cell? _ _ hw178_2; first | rwa [add_block] at this | exact this) GW182.out)) | (show (Addr.add _ _).block ≠ _; rw [add_block]; exact Nat.ne_of_lt (Nat.lt_of_lt_of_le (by have := World.block_lt_of_cell? _ _ hw178_2; first | rwa [add_block] at this | exact this) GW182.out)) | (dsimp only; exact Nat.ne_of_lt (Nat.lt_of_lt_of_le (by have := World.block_lt_of_cell? _ _ hw178_2; first | rwa [add_block] at this | exact this) GW182.out))) _).trans (((cell_far (p := ⟨gb182, _, none⟩) (by first | exact Nat.ne_of_lt (Nat.lt_of_lt_of_le (by have := World.block_lt_of_cell? _ _ hw178_2; first | rwa [add_block] at this | exact this) GW182.out) | (rw [add_block]; exact Nat.ne_of_lt (Nat.lt_of_lt_of_le (by have := World.block_lt_of_cell? _ _ hw178_2; first | rwa [add_block] at this | exact this) GW182.out)) | (show (Addr.add _ _).block ≠ _; rw [add_block]; exact Nat.ne_of_lt (Nat.lt_of_lt_of_le (by have := World.block_lt_of_cell? _ _ hw178_2; first | rwa [add_block] at this | exact this) GW182.out)) | (dsimp only; exact Nat.ne_of_lt (Nat.lt_of_lt_of_le (by have := World.block_lt_of_cell? _ _ hw178_2; first | rwa [add_block] at this | exact this) GW182.out))) _).trans (hHeld.2.2.1)))), ((cell_far (p := ⟨gb182, _, none⟩) (by first | exact Nat.ne_of_lt (Nat.lt_of_lt_of_le (by have := World.block_lt_of_cell? _ _ hw178_3; first | rwa [add_block] at this | exact this) GW182.out) | (rw [add_block]; exact Nat.ne_of_lt (Nat.lt_of_lt_of_le (by have := World.block_lt_of_cell? _ _ hw178_3; first | rwa [add_block] at this | exact this) GW182.out)) | (show (Addr.add _ _).block ≠ _; rw [add_block]; exact Nat.ne_of_lt (Nat.lt_of_lt_of_le (by have := World.block_lt_of_cell? _ _ hw178_3; first | rwa [add_block] at this | exact this) GW182.out)) | (dsimp only; exact Nat.ne_of_lt (Nat.lt_of_lt_of_le (by have := World.block_lt_of_cell? _ _ hw178_3; first | rwa [add_block] at this | exact this) GW182.out))) _).trans (((cell_far (p := ⟨gb182, _, none⟩) (by first | exact Nat.ne_of_lt (Nat.lt_of_lt_of_le (by have := World.block_lt_of_cell? _ _ hw178_3; first | rwa [add_block] at this | exact this) GW182.out) | (rw [add_block]; exact Nat.ne_of_lt (Nat.lt_of_lt_of_le (by have := World.block_lt_of_cell? _ _ hw178_3; first | rwa [add_block] at this | exact this) GW182.out)) | (show (Addr.add _ _).block ≠ _; rw [add_block]; exact Nat.ne_of_lt (Nat.lt_of_lt_of_le (by have := World.block_lt_of_cell? _ _ hw178_3; first | rwa [add_block] at this | exact this) GW182.out)) | (dsimp only; exact Nat.ne_of_lt (Nat.lt_of_lt_of_le (by have := World.block_lt_of_cell? _ _ hw178_3; first | rwa [add_block] at this | exact this) GW182.out))) _).trans (hHeld.2.2.2.1)))), ((cell_far (p := ⟨gb182, _, none⟩) (by first | exact Nat.ne_of_lt (Nat.lt_of_lt_of_le (by have := World.block_lt_of_cell? _ _ hw178_4; first | rwa [add_block] at this | exact this) GW182.out) | (rw [add_block]; exact Nat.ne_of_lt (Nat.lt_of_lt_of_le (by have := World.block_lt_of_cell? _ _ hw178_4; first | rwa [add_block] at this | exact this) GW182.out)) | (show (Addr.add _ _).block ≠ _; rw [add_block]; exact Nat.ne_of_lt (Nat.lt_of_lt_of_le (by have := World.block_lt_of_cell? _ _ hw178_4; first | rwa [add_block] at this | exact this) GW182.out)) | (dsimp only; exact Nat.ne_of_lt (Nat.lt_of_lt_of_le (by have := World.block_lt_of_cell? _ _ hw178_4; first | rwa [add_block] at this | exact this) GW182.out))) _).trans (((cell_far (p := ⟨gb182, _, none⟩) (by first | exact Nat.ne_of_lt (Nat.lt_of_lt_of_le (by have := World.block_lt_of_cell? _ _ hw178_4; first | rwa [add_block] at this | exact this) GW182.out) | (rw [add_block]; exact Nat.ne_of_lt (Nat.lt_of_lt_of_le (by have := World.block_lt_of_cell? _ _ hw178_4; first | rwa [add_block] at this | exact this) GW182.out)) | (show (Addr.add _ _).block ≠ _; rw [add_block]; exact Nat.ne_of_lt (Nat.lt_of_lt_of_le (by have := World.block_lt_of_cell? _ _ hw178_4; first | rwa [add_block] at this | exact this) GW182.out)) | (dsimp only; exact Nat.ne_of_lt (Nat.lt_of_lt_of_le (by have := World.block_lt_of_cell? _ _ hw178_4; first | rwa [add_block] at this | exact this) GW182.out))) _).trans (hHeld.2.2.2.2.1)))), ((cell_far (p := ⟨gb182, _, none⟩) (by first | exact Nat.ne_of_lt (Nat.lt_of_lt_of_le (by have := World.block_lt_of_cell? _ _ hw179_0; first | rwa [add_block] at this | exact this) GW182.out) | (rw [add_block]; exact Nat.ne_of_lt (Nat.lt_of_lt_of_le (by have := World.block_lt_of_cell? _ _ hw179_0; first | rwa [add_block] at this | exact this) GW182.out)) | (show (Addr.add _ _).block ≠ _; rw [add_block]; exact Nat.ne_of_lt (Nat.lt_of_lt_of_le (by have := World.block_lt_of_cell? _ _ hw179_0; first | rwa [add_block] at this | exact this) GW182.out)) | (dsimp only; exact Nat.ne_of_lt (Nat.lt_of_lt_of_le (by have := World.block_lt_of_cell? _ _ hw179_0; first | rwa [add_block] at this | exact this) GW182.out))) _).trans (((cell_far (p := ⟨gb182, _, none⟩) (by first | exact Nat.ne_of_lt (Nat.lt_of_lt_of_le (by have := World.block_lt_of_cell? _ _ hw179_0; first | rwa [add_block] at this | exact this) GW182.out) | (rw [add_block]; exact Nat.ne_of_lt (Nat.lt_of_lt_of_le (by have := World.block_lt_of_cell? _ _ hw179_0; first | rwa [add_block] at this | exact this) GW182.out)) | (show (Addr.add _ _).block ≠ _; rw [add_block]; exact Nat.ne_of_lt (Nat.lt_of_lt_of_le (by have := World.block_lt_of_cell? _ _ hw179_0; first | rwa [add_block] at this | exact this) GW182.out)) | (dsimp only; exact Nat.ne_of_lt (Nat.lt_of_lt_of_le (by have := World.block_lt_of_cell? _ _ hw179_0; first | rwa [add_block] at this | exact this) GW182.out))) _).trans (hHeld.2.2.2.2.2.1)))), ((cell_far (p := ⟨gb182, _, none⟩) (by first | exact Nat.ne_of_lt (Nat.lt_of_lt_of_le (by have := World.block_lt_of_cell? _ _ hw179_1; first | rwa [add_block] at this | exact this) GW182.out) | (rw [add_block]; exact Nat.ne_of_lt (Nat.lt_of_lt_of_le (by have := World.block_lt_of_cell? _ _ hw179_1; first | rwa [add_block] at this | exact this) GW182.out)) | (show (Addr.add _ _).block ≠ _; rw [add_block]; exact Nat.ne_of_lt (Nat.lt_of_lt_of_le (by have := World.block_lt_of_cell? _ _ hw179_1; first | rwa [add_block] at this | exact this) GW182.out)) | (dsimp only; exact Nat.ne_of_lt (Nat.lt_of_lt_of_le (by have := World.block_lt_of_cell? _ _ hw179_1; first | rwa [add_block] at this | exact this) GW182.out))) _).trans (((cell_far (p := ⟨gb182, _, none⟩) (by first | exact Nat.ne_of_lt (Nat.lt_of_lt_of_le (by have := World.block_lt_of_cell? _ _ hw179_1; first | rwa [add_block] at this | exact this) GW182.out) | (rw [add_block]; exact Nat.ne_of_lt (Nat.lt_of_lt_of_le (by have := World.block_lt_of_cell? _ _ hw179_1; first | rwa [add_block] at this | exact this) GW182.out)) | (show (Addr.add _ _).block ≠ _; rw [add_block]; exact Nat.ne_of_lt (Nat.lt_of_lt_of_le (by have := World.block_lt_of_cell? _ _ hw179_1; first | rwa [add_block] at this | exact this) GW182.out)) | (dsimp only; exact Nat.ne_of_lt (Nat.lt_of_lt_of_le (by have := World.block_lt_of_cell? _ _ hw179_1; first | rwa [add_block] at this | exact this) GW182.out))) _).trans (hHeld.2.2.2.2.2.2.1)))), ((cell_far (p := ⟨gb182, _, none⟩) (by first | exact Nat.ne_of_lt (Nat.lt_of_lt_of_le (by have := World.block_lt_of_cell? _ _ hw179_2; first | rwa [add_block] at this | exact this) GW182.out) | (rw [add_block]; exact Nat.ne_of_lt (Nat.lt_of_lt_of_le (by have := World.block_lt_of_cell? _ _ hw179_2; first | rwa [add_block] at this | exact this) GW182.out)) | (show (Addr.add _ _).block ≠ _; rw [add_block]; exact Nat.ne_of_lt (Nat.lt_of_lt_of_le (by have := World.block_lt_of_cell? _ _ hw179_2; first | rwa [add_block] at this | exact this) GW182.out)) | (dsimp only; exact Nat.ne_of_lt (Nat.lt_of_lt_of_le (by have := World.block_lt_of_cell? _ _ hw179_2; first | rwa [add_block] at this | exact this) GW182.out))) _).trans (((cell_far (p := ⟨gb182, _, none⟩) (by first | exact Nat.ne_of_lt (Nat.lt_of_lt_of_le (by have := World.block_lt_of_cell? _ _ hw179_2; first | rwa [add_block] at this | exact this) GW182.out) | (rw [add_block]; exact Nat.ne_of_lt (Nat.lt_of_lt_of_le (by have := World.block_lt_of_cell? _ _ hw179_2; first | rwa [add_block] at this | exact this) GW182.out)) | (show (Addr.add _ _).block ≠ _; rw [add_block]; exact Nat.ne_of_lt (Nat.lt_of_lt_of_le (by have := World.block_lt_of_cell? _ _ hw179_2; first | rwa [add_block] at this | exact this) GW182.out)) | (dsimp only; exact Nat.ne_of_lt (Nat.lt_of_lt_of_le (by have := World.block_lt_of_cell? _ _ hw179_2; first | rwa [add_block] at this | exact this) GW182.out))) _).trans (hHeld.2.2.2.2.2.2.2.1)))), ((cell_far (p := ⟨gb182, _, none⟩) (by first | exact Nat.ne_of_lt (Nat.lt_of_lt_of_le (by have := World.block_lt_of_cell? _ _ hw179_3; first | rwa [add_block] at this | exact this) GW182.out) | (rw [add_block]; exact Nat.ne_of_lt (Nat.lt_of_lt_of_le (by have := World.block_lt_of_cell? _ _ hw179_3; first | rwa [add_block] at this | exact this) GW182.out)) | (show (Addr.add _ _).block ≠ _; rw [add_block]; exact Nat.ne_of_lt (Nat.lt_of_lt_of_le (by have := World.block_lt_of_cell? _ _ hw179_3; first | rwa [add_block] at this | exact this) GW182.out)) | (dsimp only; exact Nat.ne_of_lt (Nat.lt_of_lt_of_le (by have := World.block_lt_of_cell? _ _ hw179_3; first | rwa [add_block] at this | exact this) GW182.out))) _).trans (((cell_far (p := ⟨gb182, _, none⟩) (by first | exact Nat.ne_of_lt (Nat.lt_of_lt_of_le (by have := World.block_lt_of_cell? _ _ hw179_3; first | rwa [add_block] at this | exact this) GW182.out) | (rw [add_block]; exact Nat.ne_of_lt (Nat.lt_of_lt_of_le (by have := World.block_lt_of_cell? _ _ hw179_3; first | rwa [add_block] at this | exact this) GW182.out)) | (show (Addr.add _ _).block ≠ _; rw [add_block]; exact Nat.ne_of_lt (Nat.lt_of_lt_of_le (by have := World.block_lt_of_cell? _ _ hw179_3; first | rwa [add_block] at this | exact this) GW182.out)) | (dsimp only; exact Nat.ne_of_lt (Nat.lt_of_lt_of_le (by have := World.block_lt_of_cell? _ _ hw179_3; first | rwa [add_block] at this | exact this) GW182.out))) _).trans (hHeld.2.2.2.2.2.2.2.2.1)))), ((cell_far (p := ⟨gb182, _, none⟩) (by first | exact Nat.ne_of_lt (Nat.lt_of_lt_of_le (by have := World.block_lt_of_cell? _ _ hw179_4; first | rwa [add_block] at this | exact this) GW182.out) | (rw [add_block]; exact Nat.ne_of_lt (Nat.lt_of_lt_of_le (by have := World.block_lt_of_cell? _ _ hw179_4; first | rwa [add_block] at this | exact this) GW182.out)) | (show (Addr.add _ _).block ≠ _; rw [add_block]; exact Nat.ne_of_lt (Nat.lt_of_lt_of_le (by have := World.block_lt_of_cell? _ _ hw179_4; first | rwa [add_block] at this | exact this) GW182.out)) | (dsimp only; exact Nat.ne_of_lt (Nat.lt_of_lt_of_le (by have := World.block_lt_of_cell? _ _ hw179_4; first | rwa [add_block] at this | exact this) GW182.out))) _).trans (((cell_far (p := ⟨gb182, _, none⟩) (by first | exact Nat.ne_of_lt (Nat.lt_of_lt_of_le (by have := World.block_lt_of_cell? _ _ hw179_4; first | rwa [add_block] at this | exact this) GW182.out) | (rw [add_block]; exact Nat.ne_of_lt (Nat.lt_of_lt_of_le (by have := World.block_lt_of_cell? _ _ hw179_4; first | rwa [add_block] at this | exact this) GW182.out)) | (show (Addr.add _ _).block ≠ _; rw [add_block]; exact Nat.ne_of_lt (Nat.lt_of_lt_of_le (by have := World.block_lt_of_cell? _ _ hw179_4; first | rwa [add_block] at this | exact this) GW182.out)) | (dsimp only; exact Nat.ne_of_lt (Nat.lt_of_lt_of_le (by have := World.block_lt_of_cell? _ _ hw179_4; first | rwa [add_block] at this | exact this) GW182.out))) _).trans (hHeld.2.2.2.2.2.2.2.2.2.1)))), ((cell_far (p := ⟨gb182, _, none⟩) (by first | exact Nat.ne_of_lt (Nat.lt_of_lt_of_le (by have := World.block_lt_of_cell? _ _ hw180_0; first | rwa [add_block] at this | exact this) GW182.out) | (rw [add_block]; exact Nat.ne_of_lt (Nat.lt_of_lt_of_le (by have := World.block_lt_of_cell? _ _ hw180_0; first | rwa [add_block] at this | exact this) GW182.out)) | (show (Addr.add _ _).block ≠ _; rw [add_block]; exact Nat.ne_of_lt (Nat.lt_of_lt_of_le (by have := World.block_lt_of_cell? _ _ hw180_0; first | rwa [add_block] at this | exact this) GW182.out)) | (dsimp only; exact Nat.ne_of_lt (Nat.lt_of_lt_of_le (by have := World.block_lt_of_cell? _ _ hw180_0; first | rwa [add_block] at this | exact this) GW182.out))) _).trans (((cell_far (p := ⟨gb182, _, none⟩) (by first | exact Nat.ne_of_lt (Nat.lt_of_lt_of_le (by have := World.block_lt_of_cell? _ _ hw180_0; first | rwa [add_block] at this | exact this) GW182.out) | (rw [add_block]; exact Nat.ne_of_lt (Nat.lt_of_lt_of_le (by have := World.block_lt_of_cell? _ _ hw180_0; first | rwa [add_block] at this | exact this) GW182.out)) | (show (Addr.add _ _).block ≠ _; rw [add_block]; exact Nat.ne_of_lt (Nat.lt_of_lt_of_le (by have := World.block_lt_of_cell? _ _ hw180_0; first | rwa [add_block] at this | exact this) GW182.out)) | (dsimp only; exact Nat.ne_of_lt (Nat.lt_of_lt_of_le (by have := World.block_lt_of_cell? _ _ hw180_0; first | rwa [add_block] at this | exact this) GW182.out))) _).trans (hHeld.2.2.2.2.2.2.2.2.2.2.1)))), ((cell_far (p := ⟨gb182, _, none⟩) (by first | exact Nat.ne_of_lt (Nat.lt_of_lt_of_le (by have := World.block_lt_of_cell? _ _ hw181_0; first | rwa [add_block] at this | exact this) GW182.out) | (rw [add_block]; exact Nat.ne_of_lt (Nat.lt_of_lt_of_le (by have := World.block_lt_of_cell? _ _ hw181_0; first | rwa [add_block] at this | exact this) GW182.out)) | (show (Addr.add _ _).block ≠ _; rw [add_block]; exact Nat.ne_of_lt (Nat.lt_of_lt_of_le (by have := World.block_lt_of_cell? _ _ hw181_0; first | rwa [add_block] at this | exact this) GW182.out)) | (dsimp only; exact Nat.ne_of_lt (Nat.lt_of_lt_of_le (by have := World.block_lt_of_cell? _ _ hw181_0; first | rwa [add_block] at this | exact this) GW182.out))) _).trans (((cell_far (p := ⟨gb182, _, none⟩) (by first | exact Nat.ne_of_lt (Nat.lt_of_lt_of_le (by have := World.block_lt_of_cell? _ _ hw181_0; first | rwa [add_block] at this | exact this) GW182.out) | (rw [add_block]; exact Nat.ne_of_lt (Nat.lt_of_lt_of_le (by have := World.block_lt_of_cell? _ _ hw181_0; first | rwa [add_block] at this | exact this) GW182.out)) | (show (Addr.add _ _).block ≠ _; rw [add_block]; exact Nat.ne_of_lt (Nat.lt_of_lt_of_le (by have := World.block_lt_of_cell? _ _ hw181_0; first | rwa [add_block] at this | exact this) GW182.out)) | (dsimp only; exact Nat.ne_of_lt (Nat.lt_of_lt_of_le (by have := World.block_lt_of_cell? _ _ hw181_0; first | rwa [add_block] at this | exact this) GW182.out))) _).trans (hHeld.2.2.2.2.2.2.2.2.2.2.2.1)))), ((cell_far (p := ⟨gb182, _, none⟩) (by first | exact Nat.ne_of_lt (Nat.lt_of_lt_of_le (by have := World.block_lt_of_cell? _ _ hw181_1; first | rwa [add_block] at this | exact this) GW182.out) | (rw [add_block]; exact Nat.ne_of_lt (Nat.lt_of_lt_of_le (by have := World.block_lt_of_cell? _ _ hw181_1; first | rwa [add_block] at this | exact this) GW182.out)) | (show (Addr.add _ _).block ≠ _; rw [add_block]; exact Nat.ne_of_lt (Nat.lt_of_lt_of_le (by have := World.block_lt_of_cell? _ _ hw181_1; first | rwa [add_block] at this | exact this) GW182.out)) | (dsimp only; exact Nat.ne_of_lt (Nat.lt_of_lt_of_le (by have := World.block_lt_of_cell? _ _ hw181_1; first | rwa [add_block] at this | exact this) GW182.out))) _).trans (((cell_far (p := ⟨gb182, _, none⟩) (by first | exact Nat.ne_of_lt (Nat.lt_of_lt_of_le (by have := World.block_lt_of_cell? _ _ hw181_1; first | rwa [add_block] at this | exact this) GW182.out) | (rw [add_block]; exact Nat.ne_of_lt (Nat.lt_of_lt_of_le (by have := World.block_lt_of_cell? _ _ hw181_1; first | rwa [add_block] at this | exact this) GW182.out)) | (show (Addr.add _ _).block ≠ _; rw [add_block]; exact Nat.ne_of_lt (Nat.lt_of_lt_of_le (by have := World.block_lt_of_cell? _ _ hw181_1; first | rwa [add_block] at this | exact this) GW182.out)) | (dsimp only; exact Nat.ne_of_lt (Nat.lt_of_lt_of_le (by have := World.block_lt_of_cell? _ _ hw181_1; first | rwa [add_block] at this | exact this) GW182.out))) _).trans (hHeld.2.2.2.2.2.2.2.2.2.2.2.2))))⟩ (fun hHeld => ?_)
               clear hK K
               refine done_ (done_of HT_.out (by kernel_rfl)) ?_
               have hnb57 := NB172_182.out
               have hnc57 := NB182_172.out
               have hcz58_0 : w54.cell? ⟨gb172, 0, none⟩ = some (.slice Ao52 x173000_1.length co52) := (blk_cell BK172.out 0).trans rfl
               have hcz58_1 : w54.cell? ⟨gb172, 1, none⟩ = some (u173001) := (blk_cell BK172.out 1).trans rfl
               have hfz58_0 := blk_frozen BK172.out 0
               have hfz58_1 := blk_frozen BK172.out 1
               have hnb59 := NB182_158.out
               have hnc59 := NB158_182.out
               have hnb60 := NB182_159.out
               have hnc60 := NB159_182.out
               have hcz61_0 : w54.cell? ⟨gb182, 0, none⟩ = some (.slice none 0 0) := (blk_cell BK182.out 0).trans rfl
               have hcz61_1 : w54.cell? ⟨gb182, 1, none⟩ = some (.slice none 0 0) := (blk_cell BK182.out 1).trans rfl
               have hfz61_0 := blk_frozen BK182.out 0
               have hfz61_1 := blk_frozen BK182.out 1
               try go_wp2_with (first | ((with_reducible refine gate_callee (f := 49) rfl ?_); refine goesL_ (some 68) rfl rfl Tryd.func49 (by kernel_rfl) rfl #[.slice Ao52 x173000_1.length co52, .slice A181_0 ((rd_T77 ((rd_T74 l0 0).f2) (rd ((rd_T74 l0 0).f3) x8_1)).f0).length c181_0] rfl (by (try simp only [List.map_toArray, List.map_cons, List.map_nil]); first | done | rfl | (simp only [List.length_drop, List.length_take]; rfl)) ?_; (with_reducible refine (packed_Xor.calls kj25 _ _ x173000_1 _ _ ((rd_T77 ((rd_T74 l0 0).f2) (rd ((rd_T74 l0 0).f3) x8_1)).f0) t183 t184 _ ?side1 ?side2 ?side3 ?side4 A47.out).mono ?_); (case side1 => refine (Kd.R_reads' (e := 35) (base := w.heap.size) (ok := fun k_ => True) (n := x173000_1.length) (c := co52) ?_).2.2; exact (by (with_reducible repeat (first | apply Kd.R_alloc | apply Kd.R_drewN | apply Kd.R_drew)); exact (Kd.R_mono (Kd.R_far (p := ⟨gb182, 1, none⟩) (Kd.R_far (p := ⟨gb182, 0, none⟩) (Kd.R_types HO_173000.out BK182.out (by decide)) (fun _ hk => hk.2) (.slice A181_0 ((rd_T77 ((rd_T74 l0 0).f2) (rd ((rd_T74 l0 0).f3) x8_1)).f0).length c181_0)) (fun _ hk => hk.2) (.slice A181_1 ((rd_T77 ((rd_T74 l0 0).f2) (rd ((rd_T74 l0 0).f3) x8_1)).f1).length c181_1)) (fun _ h_ => h_.1)))); (case side2 => exact (Kd.R_reads' HO_173000.out).2.1); (case side3 => exact Kd.C_below HR181_0.out (by repeat (first | (with_reducible first | exact HB.out | apply below_alloc | apply pw_below_drewN | apply below_drew1 | refine below_set ?_ GE158.out | refine below_set ?_ GE159.out | refine below_set ?_ GE172.out | refine below_set ?_ GE182.out) | exact HB.out))); (case side4 => exact HC181_0.out); rintro e w62 ⟨v185, v187, rfl, ho0, ho1, hb⟩; refine ⟨_, rfl, ?_⟩; have n0_ := AQ (Kd.R_elder' (by (with_reducible repeat (first | apply Kd.R_alloc | apply Kd.R_drewN | apply Kd.R_drew)); exact (Kd.R_mono (Kd.R_far (p := ⟨gb182, 1, none⟩) (Kd.R_far (p := ⟨gb182, 0, none⟩) (Kd.R_types HO_173000.out BK182.out (by decide)) (fun _ hk => hk.2) (.slice A181_0 ((rd_T77 ((rd_T74 l0 0).f2) (rd ((rd_T74 l0 0).f3) x8_1)).f0).length c181_0)) (fun _ hk => hk.2) (.slice A181_1 ((rd_T77 ((rd_T74 l0 0).f2) (rd ((rd_T74 l0 0).f3) x8_1)).f1).length c181_1)) (fun _ h_ => h_.1))) (Kd.R_base ho0) hb); have n1_ := AQ (Kd.R_below (by (with_reducible repeat (first | apply Kd.R_alloc | apply Kd.R_drewN | apply Kd.R_drew)); exact (Kd.R_mono (Kd.R_far (p := ⟨gb182, 1, none⟩) (Kd.R_far (p := ⟨gb182, 0, none⟩) (Kd.R_types HO_173001.out BK182.out (by decide)) (fun _ hk => hk.2) (.slice A181_0 ((rd_T77 ((rd_T74 l0 0).f2) (rd ((rd_T74 l0 0).f3) x8_1)).f0).length c181_0)) (fun _ hk => hk.2) (.slice A181_1 ((rd_T77 ((rd_T74 l0 0).f2) (rd ((rd_T74 l0 0).f3) x8_1)).f1).length c181_1)) (fun _ h_ => h_.1))) hb); have n2_ := AQ (Kd.R_lower (Kd.R_new' ho0 (Kd.R_lt (by (with_reducible repeat (first | apply Kd.R_alloc | apply Kd.R_drewN | apply Kd.R_drew)); exact (Kd.R_mono (Kd.R_far (p := ⟨gb182, 1, none⟩) (Kd.R_far (p := ⟨gb182, 0, none⟩) (Kd.R_types HO_173000.out BK182.out (by decide)) (fun _ hk => hk.2) (.slice A181_0 ((rd_T77 ((rd_T74 l0 0).f2) (rd ((rd_T74 l0 0).f3) x8_1)).f0).length c181_0)) (fun _ hk => hk.2) (.slice A181_1 ((rd_T77 ((rd_T74 l0 0).f2) (rd ((rd_T74 l0 0).f3) x8_1)).f1).length c181_1)) (fun _ h_ => h_.1))))) (below_size (by repeat (first | (with_reducible first | exact HB.out | apply below_alloc | apply pw_below_drewN | apply below_drew1 | refine below_set ?_ GE158.out | refine below_set ?_ GE159.out | refine below_set ?_ GE172.out | refine below_set ?_ GE182.out) | exact HB.out)))); have n3_ := AQ (Kd.R_lower ho1 (below_size (by repeat (first | (with_reducible first | exact HB.out | apply below_alloc | apply pw_below_drewN | apply below_drew1 | refine below_set ?_ GE158.out | refine below_set ?_ GE159.out | refine below_set ?_ GE172.out | refine below_set ?_ GE182.out) | exact HB.out)))); have n4_ := AQ (blk_below (g := gb158) (o := .cells #[.slice A1_0 l1_0.length c1_0, .slice A1_1 l1_1.length c1_1] 77 (0, 0)) (by (with_reducible repeat (first | refine blk_drewN ?_ _ | refine blk_drew ?_ | refine blk_alloc ?_ _)); refine blk_far ?_ NB158_182.out _; (with_reducible repeat (first | refine blk_drewN ?_ _ | refine blk_drew ?_ | refine blk_alloc ?_ _)); refine blk_far ?_ NB158_182.out _; exact PK BK158) hb); have n5_ := AQ (blk_below (g := gb159) (o := .cells #[.slice none 0 0, .slice none 0 0] 77 (0, 0)) (by (with_reducible repeat (first | refine blk_drewN ?_ _ | refine blk_drew ?_ | refine blk_alloc ?_ _)); refine blk_far ?_ NB159_182.out _; (with_reducible repeat (first | refine blk_drewN ?_ _ | refine blk_drew ?_ | refine blk_alloc ?_ _)); refine blk_far ?_ NB159_182.out _; exact PK BK159) hb); have n6_ := AQ (blk_below (g := gb172) (o := .cells #[.slice Ao52 x173000_1.length co52, u173001] 77 (0, 0)) (by (with_reducible repeat (first | refine blk_drewN ?_ _ | refine blk_drew ?_ | refine blk_alloc ?_ _)); refine blk_far ?_ NB172_182.out _; (with_reducible repeat (first | refine blk_drewN ?_ _ | refine blk_drew ?_ | refine blk_alloc ?_ _)); refine blk_far ?_ NB172_182.out _; exact PK BK172) hb); have n7_ := AQ (blk_below (g := gb182) (o := .cells #[.slice A181_0 ((rd_T77 ((rd_T74 l0 0).f2) (rd ((rd_T74 l0 0).f3) x8_1)).f0).length c181_0, .slice A181_1 ((rd_T77 ((rd_T74 l0 0).f2) (rd ((rd_T74 l0 0).f3) x8_1)).f1).length c181_1] 77 (0, 0)) (by (with_reducible repeat (first | refine blk_drewN ?_ _ | refine blk_drew ?_ | refine blk_alloc ?_ _)); refine blk_put (cs := #[.slice A181_0 ((rd_T77 ((rd_T74 l0 0).f2) (rd ((rd_T74 l0 0).f3) x8_1)).f0).length c181_0, .slice none 0 0]) ?_ 1 _ rfl; (with_reducible repeat (first | refine blk_drewN ?_ _ | refine blk_drew ?_ | refine blk_alloc ?_ _)); refine blk_put (cs := #[.slice none 0 0, .slice none 0 0]) ?_ 0 _ rfl; exact PK BK182) hb); have n8_ := AQ (below_step (by repeat (first | (with_reducible first | exact HB.out | apply below_alloc | apply pw_below_drewN | apply below_drew1 | refine below_set ?_ GE158.out | refine below_set ?_ GE159.out | refine below_set ?_ GE172.out | refine below_set ?_ GE182.out) | exact HB.out)) hb); clear HO_173000; clear HO_173001; clear BK158; clear BK159; clear BK172; clear BK182; clear HB; have HO_173000 := n0_; have HO_173001 := n1_; have HO186 := n2_; have HO188 := n3_; have BK158 := n4_; have BK159 := n5_; have BK172 := n6_; have BK182 := n7_; have HB := n8_; clear n0_ n1_ n2_ n3_ n4_ n5_ n6_ n7_ n8_; (try clear hb); (try clear hb2); (try clear hk); (try clear hi); (try clear ho0); (try clear ho1); obtain ⟨Ao63, co63, eo63⟩ := Kd.R_slice HO186.out; subst eo63; have hcz64_0 : w62.cell? ⟨gb172, 0, none⟩ = some (.slice Ao52 x173000_1.length co52) := (blk_cell BK172.out 0).trans rfl; have hcz64_1 : w62.cell? ⟨gb172, 1, none⟩ = some (u173001) := (blk_cell BK172.out 1).trans rfl; have hfz64_0 := blk_frozen BK172.out 0; have hfz64_1 := blk_frozen BK172.out 1) | ((with_reducible refine gate_store (t := 23) (p := 71) rfl ?_); refine store_event (t := 23) (p := 71) (v := ?vo_w65) (w1 := (w62.setCell ⟨gb172, 0, none⟩ (.slice Ao63 t183.length co63))) ?hg ?ho ?hn ?hr ?_; (case ho => rfl); (case hg => rfl); (case hn => rfl); (case hr => first | (go_simp; done) | (go_simp; rfl)); intro w65 hw; have n0_ : Aside0 (Kd.R (Kd.int .u64) 35 w65 w.heap.size (fun k_ => some k_ ≠ (.slice Ao63 t183.length co63 : Value).ownBlock) (.slice Ao52 x173000_1.length co52) x173000_1) := ⟨(by rw [hw]; exact (by (with_reducible repeat (first | apply Kd.R_alloc | apply Kd.R_drewN | apply Kd.R_drew)); exact Kd.R_mono (Kd.R_far (p := ⟨gb172, 0, none⟩) (Kd.R_types HO_173000.out BK172.out (by decide)) (fun _ hk => hk.2) (.slice Ao63 t183.length co63)) (fun _ hk => hk.1.2)))⟩; have n1_ : Aside0 (Kd.R (Kd.int .u8) 5 w65 w.heap.size (fun _ => True) u173001 x173001_1) := ⟨(by rw [hw]; exact (by (with_reducible repeat (first | apply Kd.R_alloc | apply Kd.R_drewN | apply Kd.R_drew)); exact Kd.R_mono (Kd.R_far (p := ⟨gb172, 0, none⟩) (Kd.R_types HO_173001.out BK172.out (by decide)) (fun _ hk => hk.2) (.slice Ao63 t183.length co63)) (fun _ hk => trivial)))⟩; have n2_ : Aside0 (Kd.R (Kd.int .u64) 35 w65 w.heap.size (fun k_ => some k_ ≠ (.slice Ao52 x173000_1.length co52 : Value).ownBlock) (.slice Ao63 t183.length co63) t183) := ⟨(by rw [hw]; exact (by (with_reducible repeat (first | apply Kd.R_alloc | apply Kd.R_drewN | apply Kd.R_drew)); exact Kd.R_mono (Kd.R_far (p := ⟨gb172, 0, none⟩) (Kd.R_types HO186.out BK172.out (by decide)) (fun _ hk => hk.2) (.slice Ao63 t183.length co63)) (fun _ hk => hk.1.2)))⟩; have n3_ : Aside0 (Kd.R kF 95 w65 w.heap.size (fun _ => True) v187 t184) := ⟨(by rw [hw]; exact (by (with_reducible repeat (first | apply Kd.R_alloc | apply Kd.R_drewN | apply Kd.R_drew)); exact Kd.R_mono (Kd.R_far (p := ⟨gb172, 0, none⟩) (Kd.R_types HO188.out BK172.out (by decide)) (fun _ hk => hk.2) (.slice Ao63 t183.length co63)) (fun _ hk => trivial)))⟩; have n4_ : Aside0 (w65.heap[gb158]? = some (.cells #[.slice A1_0 l1_0.length c1_0, .slice A1_1 l1_1.length c1_1] 77 (0, 0))) := ⟨(by rw [hw]; exact (by (with_reducible repeat (first | refine blk_drewN ?_ _ | refine blk_drew ?_ | refine blk_alloc ?_ _)); refine blk_far ?_ NB158_172.out _; exact PK BK158))⟩; have n5_ : Aside0 (w65.heap[gb159]? = some (.cells #[.slice none 0 0, .slice none 0 0] 77 (0, 0))) := ⟨(by rw [hw]; exact (by (with_reducible repeat (first | refine blk_drewN ?_ _ | refine blk_drew ?_ | refine blk_alloc ?_ _)); refine blk_far ?_ NB159_172.out _; exact PK BK159))⟩; have n6_ : Aside0 (w65.heap[gb172]? = some (.cells #[.slice Ao63 t183.length co63, u173001] 77 (0, 0))) := ⟨(by rw [hw]; exact (by (with_reducible repeat (first | refine blk_drewN ?_ _ | refine blk_drew ?_ | refine blk_alloc ?_ _)); refine blk_put (cs := #[.slice Ao52 x173000_1.length co52, u173001]) ?_ 0 _ rfl; exact PK BK172))⟩; have n7_ : Aside0 (w65.heap[gb182]? = some (.cells #[.slice A181_0 ((rd_T77 ((rd_T74 l0 0).f2) (rd ((rd_T74 l0 0).f3) x8_1)).f0).length c181_0, .slice A181_1 ((rd_T77 ((rd_T74 l0 0).f2) (rd ((rd_T74 l0 0).f3) x8_1)).f1).length c181_1] 77 (0, 0))) := ⟨(by rw [hw]; exact (by (with_reducible repeat (first | refine blk_drewN ?_ _ | refine blk_drew ?_ | refine blk_alloc ?_ _)); refine blk_far ?_ NB182_172.out _; exact PK BK182))⟩; have n8_ : Aside0 (Below w.heap.size w w65) := ⟨(by rw [hw]; exact (by repeat (first | (with_reducible first | exact HB.out | apply below_alloc | apply pw_below_drewN | apply below_drew1 | refine below_set ?_ GE158.out | refine below_set ?_ GE159.out | refine below_set ?_ GE172.out | refine below_set ?_ GE182.out) | exact HB.out)))⟩; clear hw; clear HO_173000; clear HO_173001; clear HO186; clear HO188; clear BK158; clear BK159; clear BK172; clear BK182; clear HB; have HO_173000 := n0_; have HO_173001 := n1_; have HO186 := n2_; have HO188 := n3_; have BK158 := n4_; have BK159 := n5_; have BK172 := n6_; have BK182 := n7_; have HB := n8_; clear n0_ n1_ n2_ n3_ n4_ n5_ n6_ n7_ n8_; have hcz66_0 : w65.cell? ⟨gb172, 0, none⟩ = some (.slice Ao63 t183.length co63) := (blk_cell BK172.out 0).trans rfl; have hcz66_1 : w65.cell? ⟨gb172, 1, none⟩ = some (u173001) := (blk_cell BK172.out 1).trans rfl; have hfz66_0 := blk_frozen BK172.out 0; have hfz66_1 := blk_frozen BK172.out 1; have hcz67_0 : w65.cell? ⟨gb182, 0, none⟩ = some (.slice A181_0 ((rd_T77 ((rd_T74 l0 0).f2) (rd ((rd_T74 l0 0).f3) x8_1)).f0).length c181_0) := (blk_cell BK182.out 0).trans rfl; have hcz67_1 : w65.cell? ⟨gb182, 1, none⟩ = some (.slice A181_1 ((rd_T77 ((rd_T74 l0 0).f2) (rd ((rd_T74 l0 0).f3) x8_1)).f1).length c181_1) := (blk_cell BK182.out 1).trans rfl; have hfz67_0 := blk_frozen BK182.out 0; have hfz67_1 := blk_frozen BK182.out 1; obtain ⟨Ao68, co68, eo68⟩ := Kd.R_slice HO_173001.out; subst eo68) | ((with_reducible refine gate_callee (f := 50) rfl ?_); refine goesL_ (some 77) rfl rfl Tryd.func50 (by kernel_rfl) rfl #[.slice Ao68 x173001_1.length co68, .slice A181_1 ((rd_T77 ((rd_T74 l0 0).f2) (rd ((rd_T74 l0 0).f3) x8_1)).f1).length c181_1] rfl (by (try simp only [List.map_toArray, List.map_cons, List.map_nil]); first | done | rfl | (simp only [List.length_drop, List.length_take]; rfl)) ?_; (with_reducible refine (symbol_Xor.calls kj25 _ _ x173001_1 (fun k_ => k_ < w.heap.size) _ _ ((rd_T77 ((rd_T74 l0 0).f2) (rd ((rd_T74 l0 0).f3) x8_1)).f1) t189 t192 _ ?side1 ?side2 ?side3 A48.out).mono ?_); (case side1 => exact QC HO_173001); (case side2 => exact (Kd.R_reads' HO_173001.out).2.1); (case side3 => exact Kd.V_mk HC181_1.out (Kd.F_below (Kd.C_F (Kd.heap_int .u8) HR181_1.out) (by repeat (first | (with_reducible first | exact HB.out | apply below_alloc | apply pw_below_drewN | apply below_drew1 | refine below_set ?_ GE158.out | refine below_set ?_ GE159.out | refine below_set ?_ GE172.out | refine below_set ?_ GE182.out) | exact HB.out)))); rintro e w69 ⟨v190, v193, rfl, ho0, ho1, hb⟩; refine ⟨_, rfl, ?_⟩; have n0_ := AQ (Kd.R_below (PR HO_173000) hb); have n1_ := AQ (Kd.R_elder' (PR HO_173001) (Kd.R_base ho0) hb); have n2_ := AQ (Kd.R_below (PR HO186) hb); have n3_ := AQ (Kd.R_below (PR HO188) hb); have n4_ := AQ (Kd.R_lower (Kd.R_new' (Kd.R_mono (ok' := fun k_ => True) ho0 (fun _ hk_ => trivial)) (Kd.R_lt (PR HO_173001))) (below_size (by repeat (first | (with_reducible first | exact HB.out | apply below_alloc | apply pw_below_drewN | apply below_drew1 | refine below_set ?_ GE158.out | refine below_set ?_ GE159.out | refine below_set ?_ GE172.out | refine below_set ?_ GE182.out) | exact HB.out)))); have n5_ := AQ (Kd.R_lower (Kd.R_mono (ok' := fun k_ => True) ho1 (fun _ hk_ => trivial)) (below_size (by repeat (first | (with_reducible first | exact HB.out | apply below_alloc | apply pw_below_drewN | apply below_drew1 | refine below_set ?_ GE158.out | refine below_set ?_ GE159.out | refine below_set ?_ GE172.out | refine below_set ?_ GE182.out) | exact HB.out)))); have n6_ := AQ (blk_below (g := gb158) (o := .cells #[.slice A1_0 l1_0.length c1_0, .slice A1_1 l1_1.length c1_1] 77 (0, 0)) (PK BK158) hb); have n7_ := AQ (blk_below (g := gb159) (o := .cells #[.slice none 0 0, .slice none 0 0] 77 (0, 0)) (PK BK159) hb); have n8_ := AQ (blk_below (g := gb172) (o := .cells #[.slice Ao63 t183.length co63, .slice Ao68 x173001_1.length co68] 77 (0, 0)) (PK BK172) hb); have n9_ := AQ (blk_below (g := gb182) (o := .cells #[.slice A181_0 ((rd_T77 ((rd_T74 l0 0).f2) (rd ((rd_T74 l0 0).f3) x8_1)).f0).length c181_0, .slice A181_1 ((rd_T77 ((rd_T74 l0 0).f2) (rd ((rd_T74 l0 0).f3) x8_1)).f1).length c181_1] 77 (0, 0)) (PK BK182) hb); have n10_ := AQ (below_step (by repeat (first | (with_reducible first | exact HB.out | apply below_alloc | apply pw_below_drewN | apply below_drew1 | refine below_set ?_ GE158.out | refine below_set ?_ GE159.out | refine below_set ?_ GE172.out | refine below_set ?_ GE182.out) | exact HB.out)) hb); clear HO_173000; clear HO_173001; clear HO186; clear HO188; clear BK158; clear BK159; clear BK172; clear BK182; clear HB; have HO_173000 := n0_; have HO_173001 := n1_; have HO186 := n2_; have HO188 := n3_; have HO191 := n4_; have HO194 := n5_; have BK158 := n6_; have BK159 := n7_; have BK172 := n8_; have BK182 := n9_; have HB := n10_; clear n0_ n1_ n2_ n3_ n4_ n5_ n6_ n7_ n8_ n9_ n10_; (try clear hb); (try clear hb2); (try clear hk); (try clear hi); (try clear ho0); (try clear ho1); obtain ⟨Ao70, co70, eo70⟩ := Kd.R_slice HO191.out; subst eo70; have hcz71_0 : w69.cell? ⟨gb172, 0, none⟩ = some (.slice Ao63 t183.length co63) := (blk_cell BK172.out 0).trans rfl; have hcz71_1 : w69.cell? ⟨gb172, 1, none⟩ = some (.slice Ao68 x173001_1.length co68) := (blk_cell BK172.out 1).trans rfl; have hfz71_0 := blk_frozen BK172.out 0; have hfz71_1 := blk_frozen BK172.out 1))
               go_roundg kj25
               case measure => have := HK1.out; have := HJ25.out; omega
               case rel => exact ⟨(x7_1), (wrap64 (x8_1 + 1)), (t183), (t189), (.slice Ao63 t183.length co63), (.slice Ao70 t189.length co70), (by first | rfl | (simp; done) | (simp [*]; done)), (by first | rfl | (simp; done) | (simp [*]; done)), H', ⟨by have := HK1.out; have := HJ25.out; omega⟩, ⟨by (with_reducible repeat (first | apply Kd.R_alloc | apply Kd.R_drewN | apply Kd.R_drew)); exact Kd.R_mono (Kd.R_far (p := ⟨gb172, 1, none⟩) (Kd.R_types HO186.out BK172.out (by decide)) (fun _ hk => hk.2) (.slice Ao70 t189.length co70)) (fun _ hk => trivial)⟩, ⟨by (with_reducible repeat (first | apply Kd.R_alloc | apply Kd.R_drewN | apply Kd.R_drew)); exact Kd.R_mono (Kd.R_far (p := ⟨gb172, 1, none⟩) (Kd.R_types HO191.out BK172.out (by decide)) (fun _ hk => hk.2) (.slice Ao70 t189.length co70)) (fun _ hk => trivial)⟩, ⟨by (with_reducible repeat (first | refine blk_drewN ?_ _ | refine blk_drew ?_ | refine blk_alloc ?_ _)); refine blk_far ?_ NB158_172.out _; (with_reducible repeat (first | refine blk_drewN ?_ _ | refine blk_drew ?_ | refine blk_alloc ?_ _)); exact BK158.out⟩, ⟨by (with_reducible repeat (first | refine blk_drewN ?_ _ | refine blk_drew ?_ | refine blk_alloc ?_ _)); refine blk_far ?_ NB159_172.out _; (with_reducible repeat (first | refine blk_drewN ?_ _ | refine blk_drew ?_ | refine blk_alloc ?_ _)); exact BK159.out⟩, ⟨by (with_reducible repeat (first | refine blk_drewN ?_ _ | refine blk_drew ?_ | refine blk_alloc ?_ _)); refine blk_put (cs := #[.slice Ao63 t183.length co63, .slice Ao68 x173001_1.length co68]) ?_ 1 _ rfl; (with_reducible repeat (first | refine blk_drewN ?_ _ | refine blk_drew ?_ | refine blk_alloc ?_ _)); exact BK172.out⟩, ⟨by repeat (first | (with_reducible first | exact HB.out | apply below_alloc | apply pw_below_drewN | apply below_drew1 | refine below_set ?_ GE158.out | refine below_set ?_ GE159.out | refine below_set ?_ GE172.out | refine below_set ?_ GE182.out) | exact HB.out)⟩⟩
              ·rw [if_neg c46] at H
               exact absurd H (by simp)
             ·rw [if_neg c45] at H
              exact absurd H (by simp)
           ·rw [if_neg c34] at H
            exact absurd H (by simp)
          ·rw [if_neg c33] at H
           exact absurd H (by simp)
         ·rw [if_neg c32] at H
          exact absurd H (by simp)
        ·replace c31 := Bool.eq_false_iff.mpr c31
         subst c31
         have H1 : (elimM_down.l0 kj25 l0 x7_1 (wrap64 (x8_1 + 1)) x173000_1 x173001_1) = some (r1, r2, r3) := by rw [if_neg (show ¬ (false = true) by decide)] at H; exact H
         clear H
         have H := H1
         clear H1
         have H' := AQ H
         clear H
         have hnb72 := NB172_158.out
         have hnc72 := NB158_172.out
         have hnb73 := NB172_159.out
         have hnc73 := NB159_172.out
         have hcz74_0 : wc.cell? ⟨gb172, 0, none⟩ = some (u173000) := (blk_cell BK172.out 0).trans rfl
         have hcz74_1 : wc.cell? ⟨gb172, 1, none⟩ = some (u173001) := (blk_cell BK172.out 1).trans rfl
         have hfz74_0 := blk_frozen BK172.out 0
         have hfz74_1 := blk_frozen BK172.out 1
         obtain ⟨Ao75, co75, eo75⟩ := Kd.R_slice HO_173000.out
         subst eo75
         go_wp2_with (first | ((with_reducible refine gate_callee (f := 48) rfl ?_); refine goesL_ (some 37) rfl rfl Tryd.func48 (by kernel_rfl) rfl #[.slice Ao75 x173000_1.length co75, .int .i64 x8_1] rfl (by (try simp only [List.map_toArray, List.map_cons, List.map_nil]); first | done | rfl | (simp only [List.length_drop, List.length_take]; rfl)) ?_; (with_reducible refine (packed_Has.calls _ _ x173000_1 x8_1 false _ ?side1 ?side2 A30.out).mono ?_); (case side1 => exact QC HO_173000); (case side2 => exact (Kd.R_reads' HO_173000.out).2.1); rintro e w' ⟨rfl, ⟨nd, rfl⟩⟩; refine ⟨_, rfl, ?_⟩))
         go_roundg kj25
         case measure => have := HK1.out; have := HJ25.out; omega
         case rel => exact ⟨(x7_1), (wrap64 (x8_1 + 1)), (x173000_1), (x173001_1), (.slice Ao75 x173000_1.length co75), (u173001), (by first | rfl | (simp; done) | (simp [*]; done)), (by first | rfl | (simp; done) | (simp [*]; done)), H', ⟨by have := HK1.out; have := HJ25.out; omega⟩, ⟨PR HO_173000⟩, ⟨PR HO_173001⟩, ⟨PK BK158⟩, ⟨PK BK159⟩, ⟨PK BK172⟩, ⟨by repeat (first | (with_reducible first | exact HB.out | apply below_alloc | apply pw_below_drewN | apply below_drew1 | refine below_set ?_ GE158.out | refine below_set ?_ GE159.out | refine below_set ?_ GE172.out) | exact HB.out)⟩⟩
       ·replace c29 := Bool.eq_false_iff.mpr c29
        subst c29
        have H1 : (some (x173000_1, x173001_1, x7_1)) = some (r1, r2, r3) := by rw [if_neg (show ¬ (false = true) by decide)] at H; exact H
        clear H
        have H := H1
        clear H1
        simp only [Option.some.injEq, Prod.mk.injEq] at H
        obtain ⟨rfl, rfl, rfl⟩ := H
        have hnb76 := NB172_158.out
        have hnc76 := NB158_172.out
        have hnb77 := NB172_159.out
        have hnc77 := NB159_172.out
        have hcz78_0 : wc.cell? ⟨gb172, 0, none⟩ = some (u173000) := (blk_cell BK172.out 0).trans rfl
        have hcz78_1 : wc.cell? ⟨gb172, 1, none⟩ = some (u173001) := (blk_cell BK172.out 1).trans rfl
        have hfz78_0 := blk_frozen BK172.out 0
        have hfz78_1 := blk_frozen BK172.out 1
        obtain ⟨Ao79, co79, eo79⟩ := Kd.R_slice HO_173000.out
        subst eo79
        have hnb80 := NB159_158.out
        have hnc80 := NB158_159.out
        have hcz81_0 : wc.cell? ⟨gb159, 0, none⟩ = some (.slice none 0 0) := (blk_cell BK159.out 0).trans rfl
        have hcz81_1 : wc.cell? ⟨gb159, 1, none⟩ = some (.slice none 0 0) := (blk_cell BK159.out 1).trans rfl
        have hfz81_0 := blk_frozen BK159.out 0
        have hfz81_1 := blk_frozen BK159.out 1
        obtain ⟨Ao82, co82, eo82⟩ := Kd.R_slice HO_173001.out
        subst eo82
        go_wp2
        refine bodyPost_ret (results_ct rfl _ _ gb159 77 #[.slice Ao79 x173000_1.length co79, .slice Ao82 x173001_1.length co82] (0, 0) _ rfl (by (with_reducible repeat (first | refine blk_drewN ?_ _ | refine blk_drew ?_ | refine blk_alloc ?_ _)); refine blk_put (cs := #[.slice Ao79 x173000_1.length co79, .slice none 0 0]) ?_ 1 _ rfl; (with_reducible repeat (first | refine blk_drewN ?_ _ | refine blk_drew ?_ | refine blk_alloc ?_ _)); refine blk_put (cs := #[.slice none 0 0, .slice none 0 0]) ?_ 0 _ rfl; exact PK BK159) Tryd.underlying77 rfl (by kernel_rfl)) rfl ?_
        exact ⟨_, _, by first | rfl | (simp [errW_none, errW_some] <;> rfl) | (simp [*, errW_none, errW_some] <;> rfl), by (with_reducible repeat (first | apply Kd.R_alloc | apply Kd.R_drewN | apply Kd.R_drew)); exact Kd.R_mono (Kd.R_far (p := ⟨gb159, 1, none⟩) (Kd.R_far (p := ⟨gb159, 0, none⟩) (Kd.R_types HO_173000.out BK159.out (by decide)) (fun _ hk => hk.2) (.slice Ao79 x173000_1.length co79)) (fun _ hk => hk.2) (.slice Ao82 x173001_1.length co82)) (fun _ hk => trivial), by (with_reducible repeat (first | apply Kd.R_alloc | apply Kd.R_drewN | apply Kd.R_drew)); exact Kd.R_mono (Kd.R_far (p := ⟨gb159, 1, none⟩) (Kd.R_far (p := ⟨gb159, 0, none⟩) (Kd.R_types HO_173001.out BK159.out (by decide)) (fun _ hk => hk.2) (.slice Ao79 x173000_1.length co79)) (fun _ hk => hk.2) (.slice Ao82 x173001_1.length co82)) (fun _ hk => trivial), by repeat (first | (with_reducible first | exact HB.out | apply below_alloc | apply pw_below_drewN | apply below_drew1 | refine below_set ?_ GE158.out | refine below_set ?_ GE159.out | refine below_set ?_ GE172.out) | exact HB.out)⟩
  ·rw [if_neg c4] at H
   exact absurd H (by simp)
 ·rw [if_neg c3] at H
  exact absurd H (by simp)
end Go.Proofs.YtjmgkknbgffbjaaDoor.P
namespace Go.Proofs.YtjmgkknbgffbjaaDoor.Pure
open Go.RowKit Go.Proofs.YtjmgkknbgffbjaaDoor.P Go.Proofs.YtjmgkknbgffbjaaDoorW.PrintWords Go.Proofs.YtjmgkknbgffbjaaDoorW.PrintLast Go.Proofs.YtjmgkknbgffbjaaDoorW.PrintErr Go.Proofs.YtjmgkknbgffbjaaDoorW.PrintMore Go.Proofs.YtjmgkknbgffbjaaDoor.Lin
set_option linter.unusedVariables false
set_option linter.unusedSimpArgs false
structure RowOK (n : Nat) (r : List Int) : Prop where
  len : r.length = nW (n : Int)
  u : ∀ x ∈ r, U64 x
  hi : ∀ c, n ≤ c → hasB r c = false
structure SymOK (m : Nat) (s : List Int) : Prop where
  len : s.length = m
  b : ∀ x ∈ s, 0 ≤ x ∧ x ≤ 255
def byB (s : List Int) (p : Nat) : Bool := (s.getD (p / 8) 0).toNat.testBit (p % 8)
def J (n : Nat) (r s : List Int) : V := fun c => if c < n then hasB r c else byB s (c - n)
theorem bvb_toNat {a : Int} (h0 : 0 ≤ a) (h1 : a ≤ 255) : (bvb a).toNat = a.toNat := by
  unfold bvb
  rw [BitVec.toNat_ofInt]
  congr 1
  show a % 256 = a
  omega
theorem bxor_test {a b : Int} (ha : 0 ≤ a ∧ a ≤ 255) (hb : 0 ≤ b ∧ b ≤ 255) (j : Nat) : (bxor a b).toNat.testBit j = (a.toNat.testBit j != b.toNat.testBit j) := by
  rw [bxor_bv, Int.toNat_natCast, BitVec.toNat_xor, bvb_toNat ha.1 ha.2, bvb_toNat hb.1 hb.2, Nat.testBit_xor]
theorem getD_rng {s : List Int} (h : ∀ x ∈ s, 0 ≤ x ∧ x ≤ 255) (i : Nat) : 0 ≤ s.getD i 0 ∧ s.getD i 0 ≤ 255 := by
  by_cases hi : i < s.length
  · rw [List.getD_eq_getElem?_getD, List.getElem?_eq_getElem hi]
    exact h _ (List.getElem_mem hi)
  · rw [List.getD_eq_getElem?_getD, List.getElem?_eq_none (by omega)]
    exact ⟨Int.le_refl _, by decide⟩
theorem getD_addB (s t : List Int) (h : t.length = s.length) (i : Nat) : (addB s t).getD i 0 = bxor (s.getD i 0) (t.getD i 0) := by
  by_cases hi : i < s.length
  · have h2 : i < t.length := by omega
    have h3 : i < (addB s t).length := by rw [addB_length s t h]; exact hi
    rw [List.getD_eq_getElem?_getD, List.getElem?_eq_getElem h3, List.getD_eq_getElem?_getD, List.getElem?_eq_getElem hi, List.getD_eq_getElem?_getD, List.getElem?_eq_getElem h2]
    simp [addB]
  · rw [List.getD_eq_getElem?_getD, List.getElem?_eq_none (by rw [addB_length s t h]; omega), List.getD_eq_getElem?_getD, List.getElem?_eq_none (by omega), List.getD_eq_getElem?_getD, List.getElem?_eq_none (by omega)]
    decide
theorem byB_add {m : Nat} {s t : List Int} (hs : SymOK m s) (ht : SymOK m t) (p : Nat) : byB (addB s t) p = (byB s p != byB t p) := by
  unfold byB
  rw [getD_addB s t (by rw [hs.len, ht.len]), bxor_test (getD_rng hs.b _) (getD_rng ht.b _)]
theorem RowOK.xor {n : Nat} {r s : List Int} (h : RowOK n r) (k : RowOK n s) : RowOK n (xorW r s) :=
  ⟨by rw [xorW_len r s (by rw [h.len, k.len]), h.len], xorW_u64 r s, fun c hc => by rw [hasB_xor r s (by rw [h.len, k.len]) h.u k.u, h.hi c hc, k.hi c hc]; rfl⟩
theorem SymOK.add {m : Nat} {s t : List Int} (h : SymOK m s) (k : SymOK m t) : SymOK m (addB s t) :=
  ⟨by rw [addB_length s t (by rw [h.len, k.len]), h.len], fun x hx => by
    unfold addB at hx
    rw [List.mem_iff_getElem] at hx
    obtain ⟨i, hi, rfl⟩ := hx
    simp only [List.getElem_zipWith]
    exact bxor_range _ _⟩
theorem J_add {n m : Nat} {r s r' s' : List Int} (hr : RowOK n r) (hs : SymOK m s) (hr' : RowOK n r') (hs' : SymOK m s') : J n (xorW r r') (addB s s') = vx (J n r s) (J n r' s') := by
  funext c
  show (if c < n then hasB (xorW r r') c else byB (addB s s') (c - n)) = ((if c < n then hasB r c else byB s (c - n)) != (if c < n then hasB r' c else byB s' (c - n)))
  by_cases hc : c < n
  · rw [if_pos hc, if_pos hc, if_pos hc, hasB_xor r r' (by rw [hr.len, hr'.len]) hr.u hr'.u]
  · rw [if_neg hc, if_neg hc, if_neg hc, byB_add hs hs']
structure SI (x : S74) (n m : Nat) : Prop where
  n1 : 1 ≤ n
  n2 : n ≤ 4096
  m1 : 1 ≤ m
  m2 : m ≤ 64
  f0 : x.f0 = (n : Int)
  f1 : x.f1 = (m : Int)
  alen : x.f3.length = n
  kept : ∀ e ∈ x.f2, RowOK n e.f0 ∧ SymOK m e.f1
  at_ : ∀ c, c < n → rd x.f3 (c : Int) = -1 ∨ ∃ i : Nat, i < x.f2.length ∧ rd x.f3 (c : Int) = (i : Int) ∧ hasB (rd_T77 x.f2 (i : Int)).f0 c = true ∧ ∀ c', c' < c → hasB (rd_T77 x.f2 (i : Int)).f0 c' = false
def KV (n : Nat) (x : S74) : List V := x.f2.map fun e => J n e.f0 e.f1
theorem rd77_mem {l : List S77} {i : Nat} (h : i < l.length) : rd_T77 l (i : Int) ∈ l := by
  unfold rd_T77
  rw [Int.toNat_natCast, List.getD_eq_getElem?_getD, List.getElem?_eq_getElem h]
  exact List.getElem_mem h
theorem hd_sys (x : S74) : rd_T74 [x] 0 = x := rfl
def DI (x : S74) (c : Nat) (row : List Int) (first : Int) : Prop :=
  (∀ c', c' < c → 0 ≤ rd x.f3 (c' : Int) → hasB row c' = false) ∧ ((first = -1 ∧ ∀ c', c' < c → hasB row c' = false) ∨ ∃ c0 : Nat, first = (c0 : Int) ∧ c0 < c ∧ rd x.f3 (c0 : Int) < 0 ∧ hasB row c0 = true ∧ ∀ c', c' < c0 → hasB row c' = false)
theorem nW_pos {n : Nat} (h : n ≤ 4096) : nW (n : Int) ≤ 64 := by unfold nW; rw [Int.toNat_natCast]; omega
theorem down_l0 {x : S74} {n m : Nat} (hI : SI x n m) : ∀ (d c : Nat) (row sym : List Int) (first : Int), c + d = n → RowOK n row → SymOK m sym → DI x c row first →
    ∃ row' sym' first', Ev (fun k => elimM_down.l0 k [x] first (c : Int) row sym) (row', sym', first') ∧ RowOK n row' ∧ SymOK m sym' ∧ Sp (KV n x) (vx (J n row sym) (J n row' sym')) ∧ DI x n row' first' := by
  have hn2 := hI.n2
  intro d
  induction d with
  | zero =>
    intro c row sym first hc hr hs hD
    obtain rfl : c = n := by omega
    refine ⟨row, sym, first, ?_, hr, hs, by rw [vx_self]; exact Sp.zero, hD⟩
    refine Ev.step (f := fun k => elimM_down.j1 k [x] first (c : Int) false row sym) (fun k => ?_) (Ev.step (f := fun _ => some (row, sym, first)) (fun k => ?_) (Ev.now _))
    · rw [elimM_down.l0, if_pos (show (c : Int) ≥ 0 by omega), if_pos (by simp), hd_sys, hI.f0, show decide ((c : Int) < (c : Int)) = false from decide_eq_false (by omega)]
    · rw [elimM_down.j1, if_neg (by decide)]
  | succ d ih =>
    intro c row sym first hc hr hs hD
    have hcn : c < n := by omega
    have hw : wrap64 ((c : Int) + 1) = ((c + 1 : Nat) : Int) := by rw [w64s (by omega) (by omega)]; rfl
    have hh := has_eq row hr.u c (by omega)
    have go1 : ∀ {r}, Ev (fun k => elimM_down.j1 k [x] first (c : Int) true row sym) r → Ev (fun k => elimM_down.l0 k [x] first (c : Int) row sym) r := fun h => Ev.step (fun k => by
      rw [elimM_down.l0, if_pos (show (c : Int) ≥ 0 by omega), if_pos (by simp), hd_sys, hI.f0, show decide ((c : Int) < (n : Int)) = true from decide_eq_true (by omega)]) h
    by_cases hb : hasB row c = true
    · rw [hb] at hh
      rcases hI.at_ c hcn with ha | ⟨i, hi, ha, hk1, hk2⟩
      · -- none begins here
        by_cases hf : first < 0
        · have hf0 : ∀ c', c' < c → hasB row c' = false := by
            rcases hD.2 with ⟨_, h⟩ | ⟨c0, e, _⟩
            · exact h
            · omega
          obtain ⟨row', sym', first', he, h1, h2, h3, h4⟩ := ih (c + 1) row sym (c : Int) (by omega) hr hs ⟨fun c' hc' h0 => by
            by_cases e : c' = c
            · subst e; omega
            · exact hD.1 c' (by omega) h0, .inr ⟨c, rfl, by omega, by rw [ha]; omega, hb, hf0⟩⟩
          refine ⟨row', sym', first', go1 (Ev.step (fun k => ?_) he), h1, h2, h3, h4⟩
          rw [elimM_down.j1, if_pos rfl, hh]
          simp only [Option.bind_some, if_true]
          rw [if_pos (by simp), if_pos (by omega), hd_sys, hI.alen, if_pos (by omega), ha, if_pos (by omega), if_pos hf, hw]
        · obtain ⟨c0, e0, h0, h1, h2, h3⟩ : ∃ c0 : Nat, first = (c0 : Int) ∧ c0 < c ∧ rd x.f3 (c0 : Int) < 0 ∧ hasB row c0 = true ∧ ∀ c', c' < c0 → hasB row c' = false := by
            rcases hD.2 with ⟨e, _⟩ | h
            · omega
            · exact h
          obtain ⟨row', sym', first', he, g1, g2, g3, g4⟩ := ih (c + 1) row sym first (by omega) hr hs ⟨fun c' hc' h0 => by
            by_cases e : c' = c
            · subst e; omega
            · exact hD.1 c' (by omega) h0, .inr ⟨c0, e0, by omega, h1, h2, h3⟩⟩
          refine ⟨row', sym', first', go1 (Ev.step (fun k => ?_) he), g1, g2, g3, g4⟩
          rw [elimM_down.j1, if_pos rfl, hh]
          simp only [Option.bind_some, if_true]
          rw [if_pos (by simp), if_pos (by omega), hd_sys, hI.alen, if_pos (by omega), ha, if_pos (by omega), if_neg hf, hw]
      · -- one begins here
        have hmem := rd77_mem hi
        obtain ⟨ro, so⟩ := hI.kept _ hmem
        have hnw := nW_pos hn2
        have hm2 := hI.m2
        have x1 := wxor_ev row (rd_T77 x.f2 (i : Int)).f0 (by rw [hr.len, ro.len]) (by rw [hr.len]; omega)
        have x2 := xor_ev sym (rd_T77 x.f2 (i : Int)).f1 (by rw [hs.len]; omega)
        have e2 : xorR sym (rd_T77 x.f2 (i : Int)).f1 = (addB sym (rd_T77 x.f2 (i : Int)).f1, []) := by unfold xorR; rw [if_pos (by rw [hs.len, so.len])]
        rw [e2] at x2
        have low : ∀ c', c' < c → hasB (xorW row (rd_T77 x.f2 (i : Int)).f0) c' = hasB row c' := fun c' hc' => by
          rw [hasB_xor row _ (by rw [hr.len, ro.len]) hr.u ro.u, hk2 c' hc']; cases hasB row c' <;> rfl
        have own : hasB (xorW row (rd_T77 x.f2 (i : Int)).f0) c = false := by
          rw [hasB_xor row _ (by rw [hr.len, ro.len]) hr.u ro.u, hb, hk1]; rfl
        obtain ⟨row', sym', first', he, g1, g2, g3, g4⟩ := ih (c + 1) (xorW row (rd_T77 x.f2 (i : Int)).f0) (addB sym (rd_T77 x.f2 (i : Int)).f1) first (by omega) (hr.xor ro) (hs.add so) ⟨fun c' hc' h0 => by
          by_cases e : c' = c
          · subst e; exact own
          · rw [low c' (by omega)]; exact hD.1 c' (by omega) h0, by
          rcases hD.2 with ⟨e, h⟩ | ⟨c0, e0, h0, h1, h2, h3⟩
          · exact .inl ⟨e, fun c' hc' => by
              by_cases e : c' = c
              · subst e; exact own
              · rw [low c' (by omega)]; exact h c' (by omega)⟩
          · exact .inr ⟨c0, e0, by omega, h1, by rw [low c0 h0]; exact h2, fun c' hc' => by rw [low c' (by omega)]; exact h3 c' hc'⟩⟩
        refine ⟨row', sym', first', go1 ?_, g1, g2, ?_, g4⟩
        · refine Ev.step (f := fun k => (packed_Xor.f k row (rd_T77 x.f2 (i : Int)).f0).bind fun bt183 => ((symbol_Xor.f k sym (rd_T77 x.f2 (i : Int)).f1).bind fun bt189 => elimM_down.l0 k [x] first ((c + 1 : Nat) : Int) bt183.1 bt189.1)) (fun k => ?_) (Ev.bind x1 (Ev.bind x2 he))
          rw [elimM_down.j1, if_pos rfl, hh]
          simp only [Option.bind_some, if_true]
          rw [if_pos (by simp), if_pos (by omega), hd_sys, hI.alen, if_pos (by omega), ha, if_neg (by omega), if_pos (by omega), if_pos (by omega), hw]
        · have e3 : vx (J n row sym) (J n row' sym') = vx (J n (rd_T77 x.f2 (i : Int)).f0 (rd_T77 x.f2 (i : Int)).f1) (vx (J n (xorW row (rd_T77 x.f2 (i : Int)).f0) (addB sym (rd_T77 x.f2 (i : Int)).f1)) (J n row' sym')) := by
            rw [J_add hr hs ro so, ← vx_assoc, ← vx_assoc, vx_comm (J n _ _) (J n row sym), vx_assoc (J n row sym), vx_self, vx_zero]
          rw [e3]
          exact Sp.add (List.mem_map_of_mem hmem) g3
    · have hb' : hasB row c = false := by simpa using hb
      rw [hb'] at hh
      obtain ⟨row', sym', first', he, h1, h2, h3, h4⟩ := ih (c + 1) row sym first (by omega) hr hs ⟨fun c' hc' h0 => by
        by_cases e : c' = c
        · subst e; exact hb'
        · exact hD.1 c' (by omega) h0, by
        rcases hD.2 with ⟨e, h⟩ | ⟨c0, e0, h0, h1, h2, h3⟩
        · exact .inl ⟨e, fun c' hc' => by
            by_cases e : c' = c
            · subst e; exact hb'
            · exact h c' (by omega)⟩
        · exact .inr ⟨c0, e0, by omega, h1, h2, h3⟩⟩
      refine ⟨row', sym', first', go1 (Ev.step (fun k => ?_) he), h1, h2, h3, h4⟩
      rw [elimM_down.j1, if_pos rfl, hh]
      simp only [Option.bind_some, Bool.false_eq_true, if_false]
      rw [hw]
theorem down_ev {x : S74} {n m : Nat} (hI : SI x n m) {row sym : List Int} (hr : RowOK n row) (hs : SymOK m sym) :
    ∃ row' sym' first', Ev (fun k => elimM_down.f k [x] row sym) (row', sym', first') ∧ RowOK n row' ∧ SymOK m sym' ∧ Sp (KV n x) (vx (J n row sym) (J n row' sym')) ∧ DI x n row' first' := by
  have hnw := nW_pos hI.n2
  have hm2 := hI.m2
  have hf := fst_ev row hr.u (by rw [hr.len]; omega)
  have key : ∀ {r}, Ev (fun k => elimM_down.l0 k [x] (-1) (fstI row) row sym) r → Ev (fun k => elimM_down.f k [x] row sym) r := fun h => by
    refine Ev.congr (f := fun k => (packed_First.f k row).bind fun t => elimM_down.l0 k [x] (-1) t row sym) (fun k => ?_) (Ev.bind hf h)
    unfold elimM_down.f
    simp only [Option.bind_some, List.nil_append, List.length_nil, Nat.zero_add]
    rw [if_pos (by rw [hr.len]; omega), if_pos (by rw [hs.len]; omega)]
  rcases fstI_is row with ⟨e0, h1⟩ | ⟨c0, e0, h1, h2, h3⟩
  · have hz : ∀ c, hasB row c = false := fun c => by
      by_cases hc : c < 64 * row.length
      · exact h1 c hc
      · exact hasB_big (by omega)
    refine ⟨row, sym, -1, key ?_, hr, hs, by rw [vx_self]; exact Sp.zero, fun c _ _ => hz c, .inl ⟨rfl, fun c _ => hz c⟩⟩
    rw [e0]
    refine Ev.step (f := fun k => elimM_down.j1 k [x] (-1) (-1) false row sym) (fun k => ?_) (Ev.step (f := fun _ => some (row, sym, -1)) (fun k => ?_) (Ev.now _))
    · rw [elimM_down.l0, if_neg (by omega)]
    · rw [elimM_down.j1, if_neg (by decide)]
  · have hc0 : c0 < n := by
      rcases Nat.lt_or_ge c0 n with h | h
      · exact h
      · rw [hr.hi c0 h] at h2; cases h2
    obtain ⟨row', sym', first', he, g⟩ := down_l0 hI (n - c0) c0 row sym (-1) (by omega) hr hs ⟨fun c hc _ => h3 c hc, .inl ⟨rfl, h3⟩⟩
    rw [← e0] at he
    exact ⟨row', sym', first', key he, g⟩
end Go.Proofs.YtjmgkknbgffbjaaDoor.Pure
namespace Go.Proofs.YtjmgkknbgffbjaaDoor.P
open Go.RowKit Go.Proofs.YtjmgkknbgffbjaaDoorW.PrintWords Go.Proofs.YtjmgkknbgffbjaaDoorW.PrintLast Go.Proofs.YtjmgkknbgffbjaaDoorW.PrintErr Go.Proofs.YtjmgkknbgffbjaaDoorW.PrintMore
attribute [local go_sem] max2_int min2_int max_two min_two max_three min_three max_four min_four run_eql_errOf run_neq_errOf eqGuard_errOf run_eql_ptrOf run_neq_ptrOf eqGuard_ptrOf   -- for this text's walks alone
set_option linter.unusedVariables false
set_option linter.unusedSimpArgs false
def geyserref03_pivot.l0 : Nat → List (List Bool) → Int → Int → Option (Int)
 | 0, _, _, _ => none
 | k + 1, x0, x2, x7 => if x7 < (x0.length : Int) then (if 0 ≤ x7 then (if 0 ≤ x2 then (if x2 < ((rd_Lsbool x0 x7).length : Int) then (if rdOf false (rd_Lsbool x0 x7) x2 = true then (some x7) else (geyserref03_pivot.l0 k x0 x2 (wrap64 (x7 + 1)))) else (none)) else (none)) else (none)) else (some (-1))
def geyserref03_pivot.f (k : Nat) (l0 : List (List Bool)) (a1 : Int) (a2 : Int) : Option (Int) := geyserref03_pivot.l0 k l0 a2 a1
theorem geyserref03_pivot.mono_l : ∀ k, (∀ y0 y1 y2, LeO (geyserref03_pivot.l0 k y0 y1 y2) (geyserref03_pivot.l0 (k + 1) y0 y1 y2))
 | 0 => fun _ _ _ r h => by simp [geyserref03_pivot.l0] at h
 | k + 1 => by
  have ih0 := geyserref03_pivot.mono_l k
  ·intro y0 y1 y2
   unfold geyserref03_pivot.l0
   repeat' first
   | (with_reducible exact ih0 _ _ _)
   | (with_reducible exact LeO.refl _)
   | (with_reducible exact LeO.none _)
   | (with_reducible refine LeO.ite ?_ ?_)
   | (with_reducible refine LeO.bind ?_ (fun _ => ?_))
   | exact ih0 _ _ _
   | exact LeO.none _
   | refine LeO.ite ?_ ?_
   | refine LeO.bind ?_ (fun _ => ?_)
theorem geyserref03_pivot.mono : ∀ a0 a1 a2 k, LeO (geyserref03_pivot.f k a0 a1 a2) (geyserref03_pivot.f (k + 1) a0 a1 a2) := by
 intro a0 a1 a2 k
 have ih0 := geyserref03_pivot.mono_l k
 unfold geyserref03_pivot.f
 repeat' first
   | (with_reducible exact ih0 _ _ _)
   | (with_reducible exact LeO.refl _)
   | (with_reducible exact LeO.none _)
   | (with_reducible refine LeO.ite ?_ ?_)
   | (with_reducible refine LeO.bind ?_ (fun _ => ?_))
   | exact ih0 _ _ _
   | exact LeO.none _
   | refine LeO.ite ?_ ?_
   | refine LeO.bind ?_ (fun _ => ?_)
set_option maxHeartbeats 8000000 in
set_option maxRecDepth 100000 in
theorem geyserref03_pivot.calls (k : Nat) (A0 : Option Addr) (c0 : Nat) (l0 : List (List Bool)) (a1 : Int) (a2 : Int) (r : Int) (w : World) (hr0 : Kd.C (Kd.slice 4 Kd.bool) w A0 l0.length l0) (hc0 : l0.length ≤ c0) (h : geyserref03_pivot.f k l0 a1 a2 = some r) :
  Calls Tryd.prog 54 #[.slice A0 l0.length c0, .int .i64 a1, .int .i64 a2] w fun e w' => e = .returned (.int .i64 r) ∧ Drawn0 w w' := by
 have HR0 := AQ hr0
 have HC0 := AQ hc0
 clear hr0 hc0
 have H : (geyserref03_pivot.l0 k l0 a2 a1) = some r := h
 clear h
 have H' := AQ H
 clear H
 go_enter Tryd.func54, Tryd.ntmps54
 go_wp2
 go_loopg [7] k (fun kq v7 w' => ∃ (x7_1 : Int), v7 = .int .i64 x7_1 ∧ Aside0 (geyserref03_pivot.l0 kq l0 a2 x7_1 = some r) ∧ Aside0 (kq ≤ k) ∧ Drawn0 w w')
 case atStart => exact ⟨(a1), (by first | rfl | (simp; done) | (simp [*]; done)), H', ⟨Nat.le_refl _⟩, by repeat (first | exact Drawn0.refl _ | apply Drawn0.step)⟩
 case round =>
  clear H'
  try clear p2
  obtain ⟨x7_1, rfl, HA, HK1, ⟨m1, rfl⟩⟩ := hrel
  cases gk with
  | zero => exact absurd HA.out (by simp [geyserref03_pivot.l0])
  | succ k1 =>
   have H := HA.out
   clear HA
   simp only [geyserref03_pivot.l0] at H
   by_cases c4 : x7_1 < (l0.length : Int)
   ·rw [if_pos c4] at H
    have c4b0 : decide (x7_1 < (l0.length : Int)) = true := decide_eq_true c4
    clear c4
    by_cases c5 : 0 ≤ x7_1
    ·rw [if_pos c5] at H
     have c5b0 : decide (0 ≤ x7_1) = true := decide_eq_true c5
     clear c5
     by_cases c6 : 0 ≤ a2
     ·rw [if_pos c6] at H
      have c6b0 : decide (0 ≤ a2) = true := decide_eq_true c6
      clear c6
      by_cases c7 : a2 < ((rd_Lsbool l0 x7_1).length : Int)
      ·rw [if_pos c7] at H
       have c7b0 : decide (a2 < ((rd_Lsbool l0 x7_1).length : Int)) = true := decide_eq_true c7
       clear c7
       obtain ⟨bq8, hbq8⟩ : ∃ b_ : Bool, b_ = (rdOf false (rd_Lsbool l0 x7_1) a2) := ⟨_, rfl⟩
       replace H : (if bq8 = true then (some x7_1) else (geyserref03_pivot.l0 k1 l0 a2 (wrap64 (x7_1 + 1)))) = some r := by rw [← hbq8] at H; exact H
       have Nbq8 := AQ hbq8
       clear hbq8
       by_cases c9 : bq8 = true
       ·subst c9
        have H1 : (some x7_1) = some r := by rw [if_pos rfl] at H; exact H
        clear H
        have H := H1
        clear H1
        obtain rfl := Option.some.inj H
        have p343 : 0 ≤ (x7_1 : Int) := of_decide_eq_true (by first | (with_reducible assumption) | assumption)
        have q343 : x7_1 < (l0.length : Int) := of_decide_eq_true (by first | (with_reducible assumption) | assumption)
        obtain ⟨ad343, A343_0, c343_0, e343, hx343_0, hl343_0, hi343_0⟩ := at_Lsbool HR0.out x7_1 p343 q343
        cases e343
        have HR343_0 := AQ hi343_0
        have HC343_0 := AQ hl343_0
        clear hi343_0 hl343_0
        replace p343 := eq_true p343
        replace q343 := eq_true q343
        have p344 : 0 ≤ (a2 : Int) := of_decide_eq_true (by first | (with_reducible assumption) | assumption)
        have q344 : a2 < ((rd_Lsbool l0 x7_1).length : Int) := of_decide_eq_true (by first | (with_reducible assumption) | assumption)
        obtain ⟨ad344, e344, hx344_0⟩ := Kd.at_bool HR343_0.out a2 p344 q344
        (try rw [← Nbq8.out] at hx344_0)
        cases e344
        replace p344 := eq_true p344
        replace q344 := eq_true q344
        go_wp2
        go_ret
        exact ⟨by first | rfl | (simp; done) | (simp [*]; done), by repeat (first | exact Drawn0.refl _ | apply Drawn0.step)⟩
       ·replace c9 := Bool.eq_false_iff.mpr c9
        subst c9
        have H1 : (geyserref03_pivot.l0 k1 l0 a2 (wrap64 (x7_1 + 1))) = some r := by rw [if_neg (show ¬ (false = true) by decide)] at H; exact H
        clear H
        have H := H1
        clear H1
        have H' := AQ H
        clear H
        have p343 : 0 ≤ (x7_1 : Int) := of_decide_eq_true (by first | (with_reducible assumption) | assumption)
        have q343 : x7_1 < (l0.length : Int) := of_decide_eq_true (by first | (with_reducible assumption) | assumption)
        obtain ⟨ad343, A343_0, c343_0, e343, hx343_0, hl343_0, hi343_0⟩ := at_Lsbool HR0.out x7_1 p343 q343
        cases e343
        have HR343_0 := AQ hi343_0
        have HC343_0 := AQ hl343_0
        clear hi343_0 hl343_0
        replace p343 := eq_true p343
        replace q343 := eq_true q343
        have p344 : 0 ≤ (a2 : Int) := of_decide_eq_true (by first | (with_reducible assumption) | assumption)
        have q344 : a2 < ((rd_Lsbool l0 x7_1).length : Int) := of_decide_eq_true (by first | (with_reducible assumption) | assumption)
        obtain ⟨ad344, e344, hx344_0⟩ := Kd.at_bool HR343_0.out a2 p344 q344
        (try rw [← Nbq8.out] at hx344_0)
        cases e344
        replace p344 := eq_true p344
        replace q344 := eq_true q344
        go_wp2
        go_roundg k1
        case measure => have := HK1.out; omega
        case rel => exact ⟨(wrap64 (x7_1 + 1)), (by first | rfl | (simp; done) | (simp [*]; done)), H', ⟨by have := HK1.out; omega⟩, by repeat (first | exact Drawn0.refl _ | apply Drawn0.step)⟩
      ·rw [if_neg c7] at H
       exact absurd H (by simp)
     ·rw [if_neg c6] at H
      exact absurd H (by simp)
    ·rw [if_neg c5] at H
     exact absurd H (by simp)
   ·rw [if_neg c4] at H
    have c4b0 : decide (x7_1 < (l0.length : Int)) = false := decide_eq_false c4
    clear c4
    obtain rfl := Option.some.inj H
    go_wp2
    go_ret
    exact ⟨by first | rfl | (simp; done) | (simp [*]; done), by repeat (first | exact Drawn0.refl _ | apply Drawn0.step)⟩
end Go.Proofs.YtjmgkknbgffbjaaDoor.P
namespace Go.Proofs.YtjmgkknbgffbjaaDoor.P
open Go.RowKit Go.Proofs.YtjmgkknbgffbjaaDoorW.PrintWords Go.Proofs.YtjmgkknbgffbjaaDoorW.PrintLast Go.Proofs.YtjmgkknbgffbjaaDoorW.PrintErr Go.Proofs.YtjmgkknbgffbjaaDoorW.PrintMore
attribute [local go_sem] max2_int min2_int max_two min_two max_three min_three max_four min_four run_eql_errOf run_neq_errOf eqGuard_errOf run_eql_ptrOf run_neq_ptrOf eqGuard_ptrOf   -- for this text's walks alone
set_option linter.unusedVariables false
set_option linter.unusedSimpArgs false
def geyserref03_sum.l0 : Nat → List Bool → List Bool → List Bool → Int → Option (List Bool)
 | 0, _, _, _, _ => none
 | k + 1, x0, x1, x5, x6 => if x6 < (x0.length : Int) then (if 0 ≤ x6 then (if x6 < (x1.length : Int) then (if x6 < (x5.length : Int) then (geyserref03_sum.l0 k x0 x1 (x5.set (x6 : Int).toNat ((rdOf false x0 x6) != (rdOf false x1 x6))) (wrap64 (x6 + 1))) else (none)) else (none)) else (none)) else (some x5)
def geyserref03_sum.f (k : Nat) (l0 : List Bool) (l1 : List Bool) : Option (List Bool) := if 0 ≤ (l0.length : Int) then (if ((l0.length : Int) : Int).toNat ≤ 281474976710656 then (geyserref03_sum.l0 k l0 l1 (List.replicate ((l0.length : Int) : Int).toNat false) 0) else (none)) else (none)
theorem geyserref03_sum.mono_l : ∀ k, (∀ y0 y1 y2 y3, LeO (geyserref03_sum.l0 k y0 y1 y2 y3) (geyserref03_sum.l0 (k + 1) y0 y1 y2 y3))
 | 0 => fun _ _ _ _ r h => by simp [geyserref03_sum.l0] at h
 | k + 1 => by
  have ih0 := geyserref03_sum.mono_l k
  ·intro y0 y1 y2 y3
   unfold geyserref03_sum.l0
   repeat' first
   | (with_reducible exact ih0 _ _ _ _)
   | (with_reducible exact LeO.refl _)
   | (with_reducible exact LeO.none _)
   | (with_reducible refine LeO.ite ?_ ?_)
   | (with_reducible refine LeO.bind ?_ (fun _ => ?_))
   | exact ih0 _ _ _ _
   | exact LeO.none _
   | refine LeO.ite ?_ ?_
   | refine LeO.bind ?_ (fun _ => ?_)
theorem geyserref03_sum.mono : ∀ a0 a1 k, LeO (geyserref03_sum.f k a0 a1) (geyserref03_sum.f (k + 1) a0 a1) := by
 intro a0 a1 k
 have ih0 := geyserref03_sum.mono_l k
 unfold geyserref03_sum.f
 repeat' first
   | (with_reducible exact ih0 _ _ _ _)
   | (with_reducible exact LeO.refl _)
   | (with_reducible exact LeO.none _)
   | (with_reducible refine LeO.ite ?_ ?_)
   | (with_reducible refine LeO.bind ?_ (fun _ => ?_))
   | exact ih0 _ _ _ _
   | exact LeO.none _
   | refine LeO.ite ?_ ?_
   | refine LeO.bind ?_ (fun _ => ?_)
def geyserref03_sum.T5 : Bool × List (List Nat × List Nat) := (true, [([], []), ([], []), ([], []), ([], []), ([2, 3], [2, 3]), ([4], [4]), ([], []), ([], []), ([6, 7], [6, 7]), ([8], [8]), ([5, 9], [5, 9]), ([0, 1, 0, 1, 2, 3, 4, 5, 6, 7, 8, 9, 10], [0, 1]), ([11, 10, 0, 1, 2, 3, 4, 5, 6, 7, 8, 9, 10], [10, 11])])
def geyserref03_sum.B5 : List Nat := [0, 0, 0, 0, 12, 28, 0, 0, 192, 448, 1020, 2047, 4095]
theorem geyserref03_sum.tab5 : rtab .any (opsOf Tryd.f71 5) = geyserref03_sum.T5 := by kernel_rfl
theorem geyserref03_sum.bits5 : waitsOk geyserref03_sum.T5.2 geyserref03_sum.B5 = true := by kernel_rfl
set_option maxHeartbeats 8000000 in
set_option maxRecDepth 100000 in
theorem geyserref03_sum.calls (k : Nat) (A0 : Option Addr) (c0 : Nat) (l0 : List Bool) (A1 : Option Addr) (c1 : Nat) (l1 : List Bool) (r : List Bool) (w : World) (hr0 : Kd.C Kd.bool w A0 l0.length l0) (hc0 : l0.length ≤ c0) (hr1 : Kd.C Kd.bool w A1 l1.length l1) (hc1 : l1.length ≤ c1) (h : geyserref03_sum.f k l0 l1 = some r) :
  Calls Tryd.prog 71 #[.slice A0 l0.length c0, .slice A1 l1.length c1] w fun e w' => ∃ v0_ : Value, e = .returned (v0_) ∧ Kd.R Kd.bool 4 w' w.heap.size (fun _ => True) v0_ r ∧ Below w.heap.size w w' := by
 have HR0 := AQ hr0
 have HC0 := AQ hc0
 clear hr0 hc0
 have HR1 := AQ hr1
 have HC1 := AQ hc1
 clear hr1 hc1
 have HB := AQ (Below.refl w.heap.size w)
 have H : (if 0 ≤ (l0.length : Int) then (if ((l0.length : Int) : Int).toNat ≤ 281474976710656 then (geyserref03_sum.l0 k l0 l1 (List.replicate ((l0.length : Int) : Int).toNat false) 0) else (none)) else (none)) = some r := h
 clear h
 by_cases c3 : 0 ≤ (l0.length : Int)
 ·rw [if_pos c3] at H
  have c3b0 := eq_true c3
  have c3b1 : decide (0 ≤ (l0.length : Int)) = true := decide_eq_true c3
  clear c3
  by_cases c4 : ((l0.length : Int) : Int).toNat ≤ 281474976710656
  ·rw [if_pos c4] at H
   have c4b0 := eq_true c4
   have c4b1 : decide (((l0.length : Int) : Int).toNat ≤ 281474976710656) = true := decide_eq_true c4
   clear c4
   obtain ⟨y345, hy345⟩ : ∃ y_ : List Bool, y_ = (List.replicate ((l0.length : Int) : Int).toNat false) := ⟨_, rfl⟩
   replace H : (geyserref03_sum.l0 k l0 l1 y345 0) = some r := by first | (rw [hy345]; with_reducible exact H) | (have H2_ := (Option.bind_some _ _).symm.trans H; rw [hy345]; with_reducible exact H2_) | (have H2_ := (Option.bind_some _ _).symm.trans H; with_reducible exact H2_) | with_reducible exact H | (rw [hy345]; exact H) | exact H
   have Ny345 := AQ hy345
   clear hy345
   have H' := AQ H
   clear H
   go_enter Tryd.func71, Tryd.ntmps71
   go_wp2_with (first | ((with_reducible refine gate_dst (N := 9) rfl ?_); refine Kd.R_make Kd.bool _ 4 rfl (N := 9) rfl 49 _ _ rfl (l0.length : Int) rfl rfl Tryd.underlying49 (.bool false) 1 info4 rfl (by decide) (by omega) false (ok := fun _ => True) (okp := fun _ => True) rfl (fun _ hk => hk) trivial (of_decide_eq_true (by first | (with_reducible assumption) | assumption)) (Nat.le_trans (Nat.mul_le_mul_right _ (of_decide_eq_true (by first | (with_reducible assumption) | assumption) : (l0.length : Int).toNat ≤ 281474976710656)) (by omega)) (Below.refl _ _) (Nat.le_refl _) ?_; intro v346 w5 ho6 hb hg_ hnew_; clear hg_ hnew_; (first | rw [← Ny345.out] at ho6 | (simp only [Int.reduceToNat] at ho6; rw [← Ny345.out] at ho6)); have n0_ := AQ (Kd.R_lower ho6 (below_size (PB HB))); have n1_ := AQ (below_step (PB HB) hb); clear HB; have HO347 := n0_; have HB := n1_; clear n0_ n1_; clear hb ho6))
   go_loopg [6] k (fun kq v6 w' => ∃ (x5_1 : List Bool) (x6_1 : Int), v6 = .int .i64 x6_1 ∧ Aside0 (geyserref03_sum.l0 kq l0 l1 x5_1 x6_1 = some r) ∧ Aside0 (kq ≤ k) ∧ Aside0 (Kd.R Kd.bool 4 w' w.heap.size (fun _ => True) v346 x5_1) ∧ Aside0 (Below w.heap.size w w'))
   case atStart => exact ⟨(y345), (0), (by first | rfl | (simp; done) | (simp [*]; done)), H', ⟨Nat.le_refl _⟩, ⟨PR HO347⟩, ⟨PB HB⟩⟩
   case round =>
    clear H'
    try clear c1
    try clear p2
    try clear c3
    try clear c3b0
    try clear c3b1
    try clear c4
    try clear c4b0
    try clear c4b1
    obtain ⟨x5_1, x6_1, rfl, HA, HK1, HO_5, HB⟩ := hrel
    cases gk with
    | zero => exact absurd HA.out (by simp [geyserref03_sum.l0])
    | succ k1 =>
     have H := HA.out
     clear HA
     simp only [geyserref03_sum.l0] at H
     by_cases c7 : x6_1 < (l0.length : Int)
     ·rw [if_pos c7] at H
      have c7b0 : decide (x6_1 < (l0.length : Int)) = true := decide_eq_true c7
      clear c7
      by_cases c8 : 0 ≤ x6_1
      ·rw [if_pos c8] at H
       have c8b0 : decide (0 ≤ x6_1) = true := decide_eq_true c8
       clear c8
       by_cases c9 : x6_1 < (l1.length : Int)
       ·rw [if_pos c9] at H
        have c9b0 : decide (x6_1 < (l1.length : Int)) = true := decide_eq_true c9
        clear c9
        by_cases c10 : x6_1 < (x5_1.length : Int)
        ·rw [if_pos c10] at H
         have c10b0 : decide (x6_1 < (x5_1.length : Int)) = true := decide_eq_true c10
         clear c10
         obtain ⟨y350, hy350⟩ : ∃ y_ : List Bool, y_ = (x5_1.set (x6_1 : Int).toNat ((rdOf false l0 x6_1) != (rdOf false l1 x6_1))) := ⟨_, rfl⟩
         replace H : (geyserref03_sum.l0 k1 l0 l1 y350 (wrap64 (x6_1 + 1))) = some r := by first | (rw [hy350]; with_reducible exact H) | (have H2_ := (Option.bind_some _ _).symm.trans H; rw [hy350]; with_reducible exact H2_) | (have H2_ := (Option.bind_some _ _).symm.trans H; with_reducible exact H2_) | with_reducible exact H | (rw [hy350]; exact H) | exact H
         have Ny350 := AQ hy350
         clear hy350
         have H' := AQ H
         clear H
         try go_wp2
         have n0_ := AQ (Kd.R_drew HO_5.out)
         have n1_ := AQ (below_drew1 HB.out)
         clear HO_5
         clear HB
         have HO_5 := n0_
         have HB := n1_
         clear n0_ n1_
         have p348 : 0 ≤ (x6_1 : Int) := of_decide_eq_true (by first | (with_reducible assumption) | assumption)
         have q348 : x6_1 < (l0.length : Int) := of_decide_eq_true (by first | (with_reducible assumption) | assumption)
         obtain ⟨ad348, e348, hx348_0⟩ := Kd.at_bool HR0.out x6_1 p348 q348
         have hw348_0 := hx348_0
         cases e348
         (first | replace hx348_0 := (HB.out.cell (World.block_lt_of_cell? w _ hx348_0)).trans hx348_0 | skip)
         replace p348 := eq_true p348
         replace q348 := eq_true q348
         have p349 : 0 ≤ (x6_1 : Int) := of_decide_eq_true (by first | (with_reducible assumption) | assumption)
         have q349 : x6_1 < (l1.length : Int) := of_decide_eq_true (by first | (with_reducible assumption) | assumption)
         obtain ⟨ad349, e349, hx349_0⟩ := Kd.at_bool HR1.out x6_1 p349 q349
         have hw349_0 := hx349_0
         cases e349
         (first | replace hx349_0 := (HB.out.cell (World.block_lt_of_cell? w _ hx349_0)).trans hx349_0 | skip)
         replace p349 := eq_true p349
         replace q349 := eq_true q349
         have p11 : 0 ≤ (x6_1 : Int) := of_decide_eq_true (by first | (with_reducible assumption) | assumption)
         have q11 : (x6_1 : Int) < ((x5_1.length : Int) : Int) := of_decide_eq_true (by first | (with_reducible assumption) | assumption)
         obtain ⟨go11, co11, eo11, gb11, gl11, cl11, HG11⟩ := Kd.R_form HO_5.out (by omega)
         (first | cases eo11 | (injection eo11 with ea_ en_ ec_; (first | subst ea_ | (injection ea_ with ea_; subst ea_)); subst ec_; clear en_))
         have GB11 := AQ gb11
         have GG11 := AQ HG11
         clear gb11 gl11 HG11
         obtain ⟨hx11_0, hf11_0⟩ := Kd.R_celln false HO_5.out (x6_1 : Int) p11 q11
         replace p11 := eq_true p11
         replace q11 := eq_true q11
         have HP13 := Kd.R_putn HO_5.out (x6_1 : Int) ((rdOf false l0 x6_1) != (rdOf false l1 x6_1))
         rw [← Ny350.out] at HP13
         have HQ13 := AQ HP13
         clear HP13
         refine start_ (n := 13) (S := fun w' => w'.cell? (ad348.add (x6_1).toNat) = some (.bool (rdOf false l0 x6_1)) ∧ w'.cell? (ad349.add (x6_1).toNat) = some (.bool (rdOf false l1 x6_1))) (ds := [12]) #[false, false, false, false, false, false, false, false, false, false, false, false, false] (by kernel_rfl) rfl rfl ⟨((HB.out.cell (World.block_lt_of_cell? w _ hw348_0)).trans hw348_0), ((HB.out.cell (World.block_lt_of_cell? w _ hw349_0)).trans hw349_0)⟩ (fun hHeld => ?_); refine with_tabW geyserref03_sum.tab5 geyserref03_sum.bits5 (fun HT_ HW_ => ?_)
         generalize wr.drew = w12 at HO_5 HB GG11 HQ13 hf11_0 hx11_0 hx348_0 hx349_0 hHeld ⊢
         refine pure_ (i := 0) (N := some 16) (v := ?_) (a' := ?_) #[true, false, false, false, false, false, false, false, false, false, false, false, false] rfl rfl (any_of HT_.out (by kernel_rfl)) (fun _ _ _ h => h) (Or.inl ⟨by rfl, ?_⟩) ?_ ?_
         rotate_left
         ·intro w'
          go_simp
          with_reducible rfl
         rotate_left
         ·simp only [Act.put, qT, qZ, qS, i64_w, i32_w]
          rfl
         refine pure_ (i := 1) (N := some 17) (v := ?_) (a' := ?_) #[true, true, false, false, false, false, false, false, false, false, false, false, false] rfl rfl (any_of HT_.out (by kernel_rfl)) (fun _ _ _ h => h) (Or.inl ⟨by rfl, ?_⟩) ?_ ?_
         rotate_left
         ·intro w'
          go_simp
          with_reducible rfl
         rotate_left
         ·simp only [Act.put, qT, qZ, qS, i64_w, i32_w]
          rfl
         refine pure_ (i := 2) (N := some 18) (v := ?_) (a' := ?_) #[true, true, true, false, false, false, false, false, false, false, false, false, false] rfl rfl (any_of HT_.out (by kernel_rfl)) (fun _ _ _ h => h) (Or.inl ⟨by rfl, ?_⟩) ?_ ?_
         rotate_left
         ·intro w'
          go_simp
          with_reducible rfl
         rotate_left
         ·simp only [Act.put, qT, qZ, qS, i64_w, i32_w]
          rfl
         refine pure_ (i := 3) (N := some 19) (v := ?_) (a' := ?_) #[true, true, true, true, false, false, false, false, false, false, false, false, false] rfl rfl (any_of HT_.out (by kernel_rfl)) (fun _ _ _ h => h) (Or.inl ⟨by rfl, ?_⟩) ?_ ?_
         rotate_left
         ·intro w'
          go_simp
          with_reducible rfl
         rotate_left
         ·simp only [Act.put, qT, qZ, qS, i64_w, i32_w]
          rfl
         refine pure_ (i := 4) (N := some 20) (v := ?_) (a' := ?_) #[true, true, true, true, true, false, false, false, false, false, false, false, false] rfl rfl (any_of HT_.out (by kernel_rfl)) (fun _ _ _ h => h) (Or.inl ⟨by rfl, ?_⟩) ?_ ?_
         rotate_left
         ·intro w'
          go_simp
          with_reducible rfl
         rotate_left
         ·simp only [Act.put, qT, qZ, qS, i64_w, i32_w]
          rfl
         refine pure_ (i := 6) (N := some 22) (v := ?_) (a' := ?_) #[true, true, true, true, true, false, true, false, false, false, false, false, false] rfl rfl (any_of HT_.out (by kernel_rfl)) (fun _ _ _ h => h) (Or.inl ⟨by rfl, ?_⟩) ?_ ?_
         rotate_left
         ·intro w'
          go_simp
          with_reducible rfl
         rotate_left
         ·simp only [Act.put, qT, qZ, qS, i64_w, i32_w]
          rfl
         refine pure_ (i := 7) (N := some 23) (v := ?_) (a' := ?_) #[true, true, true, true, true, false, true, true, false, false, false, false, false] rfl rfl (any_of HT_.out (by kernel_rfl)) (fun _ _ _ h => h) (Or.inl ⟨by rfl, ?_⟩) ?_ ?_
         rotate_left
         ·intro w'
          go_simp
          with_reducible rfl
         rotate_left
         ·simp only [Act.put, qT, qZ, qS, i64_w, i32_w]
          rfl
         refine pure_ (i := 8) (N := some 24) (v := ?_) (a' := ?_) #[true, true, true, true, true, false, true, true, true, false, false, false, false] rfl rfl (any_of HT_.out (by kernel_rfl)) (fun _ _ _ h => h) (Or.inl ⟨by rfl, ?_⟩) ?_ ?_
         rotate_left
         ·intro w'
          go_simp
          with_reducible rfl
         rotate_left
         ·simp only [Act.put, qT, qZ, qS, i64_w, i32_w]
          rfl
         refine take_ (i := 5) (N := some 21) (v := ?_) (a' := ?_) #[true, true, true, true, true, true, true, true, true, false, false, false, false] rfl rfl (take_ofW HT_.out HW_.out (by kernel_rfl)) (fun _ _ _ h => h) (Or.inl ⟨by rfl, ?_⟩) hHeld ?_ ?_
         rotate_left
         ·rintro w' ⟨s0, s1⟩
          go_simp
          with_reducible rfl
         rotate_left
         ·simp only [Act.put, qT, qZ, qS, i64_w, i32_w]
          rfl
         refine take_ (i := 9) (N := some 25) (v := ?_) (a' := ?_) #[true, true, true, true, true, true, true, true, true, true, false, false, false] rfl rfl (take_ofW HT_.out HW_.out (by kernel_rfl)) (fun _ _ _ h => h) (Or.inl ⟨by rfl, ?_⟩) hHeld ?_ ?_
         rotate_left
         ·rintro w' ⟨s0, s1⟩
          go_simp
          with_reducible rfl
         rotate_left
         ·simp only [Act.put, qT, qZ, qS, i64_w, i32_w]
          rfl
         refine pure_ (i := 10) (N := some 26) (v := ?_) (a' := ?_) #[true, true, true, true, true, true, true, true, true, true, true, false, false] rfl rfl (any_of HT_.out (by kernel_rfl)) (fun _ _ _ h => h) (Or.inl ⟨by rfl, ?_⟩) ?_ ?_
         rotate_left
         ·intro w'
          go_simp
          with_reducible rfl
         rotate_left
         ·simp only [Act.put, qT, qZ, qS, i64_w, i32_w]
          rfl
         refine pure_ (i := 11) (N := some 27) (v := ?_) (a' := ?_) #[true, true, true, true, true, true, true, true, true, true, true, true, false] rfl rfl (any_of HT_.out (by kernel_rfl)) (fun _ _ _ h => h) (Or.inl ⟨by rfl, ?_⟩) ?_ ?_
         rotate_left
         ·intro w'
          go_simp
          with_reducible rfl
         rotate_left
         ·simp only [Act.put, qT, qZ, qS, i64_w, i32_w]
          rfl
         refine last_ (i := 12) (N := none) #[true, true, true, true, true, true, true, true, true, true, true, true, true] rfl rfl (one_of HT_.out (by kernel_rfl)) (by decide) (fun K hK => ?_)
         refine skip_ (w1 := ?_) (by rfl) rfl ?_ ?_
         rotate_left
         ·go_simp
          rfl
         refine hK.out _ _ ?_
         clear hK K
         refine done_ (done_of HT_.out (by kernel_rfl)) ?_
         try go_wp2
         go_roundg k1
         case measure => have := HK1.out; omega
         case rel => exact ⟨(y350), (wrap64 (x6_1 + 1)), (by first | rfl | (simp; done) | (simp [*]; done)), H', ⟨by have := HK1.out; omega⟩, ⟨PR HQ13⟩, ⟨by repeat (first | (with_reducible first | exact HB.out | apply below_alloc | apply pw_below_drewN | apply below_drew1 | refine below_set ?_ GB11.out) | exact HB.out)⟩⟩
        ·rw [if_neg c10] at H
         exact absurd H (by simp)
       ·rw [if_neg c9] at H
        exact absurd H (by simp)
      ·rw [if_neg c8] at H
       exact absurd H (by simp)
     ·rw [if_neg c7] at H
      have c7b0 : decide (x6_1 < (l0.length : Int)) = false := decide_eq_false c7
      clear c7
      obtain rfl := Option.some.inj H
      go_wp2
      go_ret
      exact ⟨_, by first | rfl | (simp [errW_none, errW_some] <;> rfl) | (simp [*, errW_none, errW_some] <;> rfl), PR HO_5, PB HB⟩
  ·rw [if_neg c4] at H
   exact absurd H (by simp)
 ·rw [if_neg c3] at H
  exact absurd H (by simp)
end Go.Proofs.YtjmgkknbgffbjaaDoor.P
