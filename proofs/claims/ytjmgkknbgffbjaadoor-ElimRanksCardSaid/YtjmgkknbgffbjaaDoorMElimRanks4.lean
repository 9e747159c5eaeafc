-- joined by join.py: Px1 Px21 PureE3 Px22 Px23 ElimMValue Px24 ElimMWhole Px26
import Derived.Test.YtjmgkknbgffbjaaDoorMElimRanks3
namespace Go.Proofs.YtjmgkknbgffbjaaDoor.P
open Go.RowKit Go.Proofs.YtjmgkknbgffbjaaDoorW.PrintWords Go.Proofs.YtjmgkknbgffbjaaDoorW.PrintLast Go.Proofs.YtjmgkknbgffbjaaDoorW.PrintErr Go.Proofs.YtjmgkknbgffbjaaDoorW.PrintMore
attribute [local go_sem] max2_int min2_int max_two min_two max_three min_three max_four min_four run_eql_errOf run_neq_errOf eqGuard_errOf run_eql_ptrOf run_neq_ptrOf eqGuard_ptrOf   -- for this text's walks alone
set_option linter.unusedVariables false
set_option linter.unusedSimpArgs false
mutual
def geyserlaw05_fit.j1 : Nat → Int → Int → List (List Int) → List Int → Int → List (List Int) → Option (Int × (List (List Int)) × List Int)
 | 0, _, _, _, _, _, _ => none
 | k + 1, x3, x102000, x102001, x102002, x104000, x104001 => if (x104001.length : Int) = 0 then (if 0 ≤ x3 then (if (x3 : Int).toNat ≤ 281474976710656 then (geyserlaw05_fit.j2 k x102000 x102001 x102002 x104000 (([(List.replicate (x3 : Int).toNat 0)] : List (List Int)))) else (none)) else (none)) else (geyserlaw05_fit.j2 k x102000 x102001 x102002 x104000 x104001)
def geyserlaw05_fit.j2 : Nat → Int → List (List Int) → List Int → Int → List (List Int) → Option (Int × (List (List Int)) × List Int)
 | 0, _, _, _, _, _ => none
 | k + 1, x102000, x102001, x102002, x104000, x104001 => geyserlaw05_fit.l1 k 0 x102000 x102001 x102002 x104000 x104001 ([] : List Int)
def geyserlaw05_fit.l1 : Nat → Int → Int → List (List Int) → List Int → Int → List (List Int) → List Int → Option (Int × (List (List Int)) × List Int)
 | 0, _, _, _, _, _, _, _ => none
 | k + 1, x7, x102000, x102001, x102002, x104000, x104001, x104002 => if x7 < (x102002.length : Int) then (if x7 < 24 then (if 0 ≤ x7 then (if 0 ≤ (IntKind.u64.wrap ((x104001.length : Int))) then (if x104002.length < 17592186044416 then (geyserlaw05_fit.l1 k (wrap64 (x7 + 1)) x102000 x102001 x102002 x104000 x104001 (x104002 ++ [Go.bits .and .u64 (rd x102002 x7) (IntKind.u64.wrap ((shl .u64 1 (IntKind.u64.wrap ((x104001.length : Int)))) - 1))])) else (none)) else (none)) else (none)) else (some (x104000, x104001, x104002))) else (some (x104000, x104001, x104002))
def geyserlaw05_fit.l0 : Nat → Int → Int → Int → List (List Int) → List Int → Int → List (List Int) → Option (Int × (List (List Int)) × List Int)
 | 0, _, _, _, _, _, _, _ => none
 | k + 1, x3, x5, x102000, x102001, x102002, x104000, x104001 => if x5 < (x102001.length : Int) then (if x5 < 12 then (if 0 ≤ x3 then (if (x3 : Int).toNat ≤ 281474976710656 then (if 0 ≤ x5 then (if x104001.length < 5864062014805 then (geyserlaw05_fit.l0 k x3 (wrap64 (x5 + 1)) x102000 x102001 x102002 x104000 (x104001 ++ [(copyL (List.replicate (x3 : Int).toNat 0) (rd_Lsu8 x102001 x5))])) else (none)) else (none)) else (none)) else (none)) else (geyserlaw05_fit.j1 k x3 x102000 x102001 x102002 x104000 x104001)) else (geyserlaw05_fit.j1 k x3 x102000 x102001 x102002 x104000 x104001)
end
def geyserlaw05_fit.f (k : Nat) (a0_0 : Int) (l0_1 : List (List Int)) (l0_2 : List Int) : Option (Int × (List (List Int)) × List Int) := geyserlaw05_fit.l0 k (wrap64 (1 + (wrap64 (Int.tmod (IntKind.u64.wrap (a0_0)) 4)))) 0 a0_0 l0_1 l0_2 (wrap64 (1 + (wrap64 (Int.tmod (IntKind.u64.wrap (a0_0)) 4)))) ([] : List (List Int))
theorem geyserlaw05_fit.mono_l : ∀ k, (∀ y0 y1 y2 y3 y4 y5, LeO (geyserlaw05_fit.j1 k y0 y1 y2 y3 y4 y5) (geyserlaw05_fit.j1 (k + 1) y0 y1 y2 y3 y4 y5)) ∧ (∀ y0 y1 y2 y3 y4, LeO (geyserlaw05_fit.j2 k y0 y1 y2 y3 y4) (geyserlaw05_fit.j2 (k + 1) y0 y1 y2 y3 y4)) ∧ (∀ y0 y1 y2 y3 y4 y5 y6, LeO (geyserlaw05_fit.l1 k y0 y1 y2 y3 y4 y5 y6) (geyserlaw05_fit.l1 (k + 1) y0 y1 y2 y3 y4 y5 y6)) ∧ (∀ y0 y1 y2 y3 y4 y5 y6, LeO (geyserlaw05_fit.l0 k y0 y1 y2 y3 y4 y5 y6) (geyserlaw05_fit.l0 (k + 1) y0 y1 y2 y3 y4 y5 y6))
 | 0 => ⟨fun _ _ _ _ _ _ r h => by simp [geyserlaw05_fit.j1] at h, fun _ _ _ _ _ r h => by simp [geyserlaw05_fit.j2] at h, fun _ _ _ _ _ _ _ r h => by simp [geyserlaw05_fit.l1] at h, fun _ _ _ _ _ _ _ r h => by simp [geyserlaw05_fit.l0] at h⟩
 | k + 1 => by
  obtain ⟨ih0, ih1, ih2, ih3⟩ := geyserlaw05_fit.mono_l k
  refine ⟨?_, ?_, ?_, ?_⟩
  ·intro y0 y1 y2 y3 y4 y5
   unfold geyserlaw05_fit.j1
   repeat' first
   | (with_reducible exact ih0 _ _ _ _ _ _)
   | (with_reducible exact ih1 _ _ _ _ _)
   | (with_reducible exact ih2 _ _ _ _ _ _ _)
   | (with_reducible exact ih3 _ _ _ _ _ _ _)
   | (with_reducible exact LeO.refl _)
   | (with_reducible exact LeO.none _)
   | (with_reducible refine LeO.ite ?_ ?_)
   | (with_reducible refine LeO.bind ?_ (fun _ => ?_))
   | exact ih0 _ _ _ _ _ _
   | exact ih1 _ _ _ _ _
   | exact ih2 _ _ _ _ _ _ _
   | exact ih3 _ _ _ _ _ _ _
   | exact LeO.none _
   | refine LeO.ite ?_ ?_
   | refine LeO.bind ?_ (fun _ => ?_)
  ·intro y0 y1 y2 y3 y4
   unfold geyserlaw05_fit.j2
   repeat' first
   | (with_reducible exact ih0 _ _ _ _ _ _)
   | (with_reducible exact ih1 _ _ _ _ _)
   | (with_reducible exact ih2 _ _ _ _ _ _ _)
   | (with_reducible exact ih3 _ _ _ _ _ _ _)
   | (with_reducible exact LeO.refl _)
   | (with_reducible exact LeO.none _)
   | (with_reducible refine LeO.ite ?_ ?_)
   | (with_reducible refine LeO.bind ?_ (fun _ => ?_))
   | exact ih0 _ _ _ _ _ _
   | exact ih1 _ _ _ _ _
   | exact ih2 _ _ _ _ _ _ _
   | exact ih3 _ _ _ _ _ _ _
   | exact LeO.none _
   | refine LeO.ite ?_ ?_
   | refine LeO.bind ?_ (fun _ => ?_)
  ·intro y0 y1 y2 y3 y4 y5 y6
   unfold geyserlaw05_fit.l1
   repeat' first
   | (with_reducible exact ih0 _ _ _ _ _ _)
   | (with_reducible exact ih1 _ _ _ _ _)
   | (with_reducible exact ih2 _ _ _ _ _ _ _)
   | (with_reducible exact ih3 _ _ _ _ _ _ _)
   | (with_reducible exact LeO.refl _)
   | (with_reducible exact LeO.none _)
   | (with_reducible refine LeO.ite ?_ ?_)
   | (with_reducible refine LeO.bind ?_ (fun _ => ?_))
   | exact ih0 _ _ _ _ _ _
   | exact ih1 _ _ _ _ _
   | exact ih2 _ _ _ _ _ _ _
   | exact ih3 _ _ _ _ _ _ _
   | exact LeO.none _
   | refine LeO.ite ?_ ?_
   | refine LeO.bind ?_ (fun _ => ?_)
  ·intro y0 y1 y2 y3 y4 y5 y6
   unfold geyserlaw05_fit.l0
   repeat' first
   | (with_reducible exact ih0 _ _ _ _ _ _)
   | (with_reducible exact ih1 _ _ _ _ _)
   | (with_reducible exact ih2 _ _ _ _ _ _ _)
   | (with_reducible exact ih3 _ _ _ _ _ _ _)
   | (with_reducible exact LeO.refl _)
   | (with_reducible exact LeO.none _)
   | (with_reducible refine LeO.ite ?_ ?_)
   | (with_reducible refine LeO.bind ?_ (fun _ => ?_))
   | exact ih0 _ _ _ _ _ _
   | exact ih1 _ _ _ _ _
   | exact ih2 _ _ _ _ _ _ _
   | exact ih3 _ _ _ _ _ _ _
   | exact LeO.none _
   | refine LeO.ite ?_ ?_
   | refine LeO.bind ?_ (fun _ => ?_)
theorem geyserlaw05_fit.mono : ∀ a0 a1 a2 k, LeO (geyserlaw05_fit.f k a0 a1 a2) (geyserlaw05_fit.f (k + 1) a0 a1 a2) := by
 intro a0 a1 a2 k
 obtain ⟨ih0, ih1, ih2, ih3⟩ := geyserlaw05_fit.mono_l k
 unfold geyserlaw05_fit.f
 repeat' first
   | (with_reducible exact ih0 _ _ _ _ _ _)
   | (with_reducible exact ih1 _ _ _ _ _)
   | (with_reducible exact ih2 _ _ _ _ _ _ _)
   | (with_reducible exact ih3 _ _ _ _ _ _ _)
   | (with_reducible exact LeO.refl _)
   | (with_reducible exact LeO.none _)
   | (with_reducible refine LeO.ite ?_ ?_)
   | (with_reducible refine LeO.bind ?_ (fun _ => ?_))
   | exact ih0 _ _ _ _ _ _
   | exact ih1 _ _ _ _ _
   | exact ih2 _ _ _ _ _ _ _
   | exact ih3 _ _ _ _ _ _ _
   | exact LeO.none _
   | refine LeO.ite ?_ ?_
   | refine LeO.bind ?_ (fun _ => ?_)
def geyserlaw05_fit.T14 : Bool × List (List Nat × List Nat) := (true, [([], []), ([0], [0]), ([], []), ([2], [2]), ([], []), ([3, 4], [3, 4]), ([5], [5]), ([], []), ([7], [7]), ([8], [8]), ([9], [9]), ([10], [10]), ([11], [11]), ([6, 12], [6, 12]), ([13], [13]), ([1, 14], [1, 14]), ([0, 1, 2, 3, 4, 5, 6, 7, 8, 9, 10, 11, 12, 13, 14, 15], []), ([16, 15, 15, 0, 1, 2, 3, 4, 5, 6, 7, 8, 9, 10, 11, 12, 13, 14, 15], [15, 16])])
def geyserlaw05_fit.B14 : List Nat := [0, 1, 0, 4, 0, 28, 60, 0, 128, 384, 896, 1920, 3968, 8188, 16380, 32767, 65535, 131071]
theorem geyserlaw05_fit.tab14 : rtab .any (opsOf Tryd.f9 14) = geyserlaw05_fit.T14 := by kernel_rfl
theorem geyserlaw05_fit.bits14 : waitsOk geyserlaw05_fit.T14.2 geyserlaw05_fit.B14 = true := by kernel_rfl
set_option maxHeartbeats 8000000 in
set_option maxRecDepth 100000 in
theorem geyserlaw05_fit.calls (k : Nat) (a0_0 : Int) (A0_1 : Option Addr) (c0_1 : Nat) (l0_1 : List (List Int)) (A0_2 : Option Addr) (c0_2 : Nat) (l0_2 : List Int) (r1 : Int) (r2 : List (List Int)) (r3 : List Int) (w : World) (hr0_1 : Kd.C (Kd.slice 5 (Kd.int .u8)) w A0_1 l0_1.length l0_1) (hc0_1 : l0_1.length ≤ c0_1) (hr0_2 : Kd.C (Kd.int .u64) w A0_2 l0_2.length l0_2) (hc0_2 : l0_2.length ≤ c0_2) (h : geyserlaw05_fit.f k a0_0 l0_1 l0_2 = some (r1, r2, r3)) :
  Calls Tryd.prog 9 #[.agg #[.int .i64 a0_0, .slice A0_1 l0_1.length c0_1, .slice A0_2 l0_2.length c0_2]] w fun e w' => ∃ v1_ v2_ : Value, e = .returned (.agg #[.int .i64 r1, v1_, v2_]) ∧ Kd.S (Kd.slice 5 (Kd.int .u8)) 36 w' w.heap.size (fun _ => True) v1_ r2 ∧ Kd.R (Kd.int .u64) 35 w' w.heap.size (fun _ => True) v2_ r3 ∧ Below w.heap.size w w' := by
 have hu25 := Tryd.underlying25
 have HR0_1 := AQ hr0_1
 have HC0_1 := AQ hc0_1
 clear hr0_1 hc0_1
 have HR0_2 := AQ hr0_2
 have HC0_2 := AQ hc0_2
 clear hr0_2 hc0_2
 have HB := AQ (Below.refl w.heap.size w)
 have H : (geyserlaw05_fit.l0 k (wrap64 (1 + (wrap64 (Int.tmod (IntKind.u64.wrap (a0_0)) 4)))) 0 a0_0 l0_1 l0_2 (wrap64 (1 + (wrap64 (Int.tmod (IntKind.u64.wrap (a0_0)) 4)))) ([] : List (List Int))) = some (r1, r2, r3) := h
 clear h
 have HC2 := AQ H
 clear H
 go_enter Tryd.func9, Tryd.ntmps9
 go_upto_block 0 with (first | ((with_reducible refine gate_dst (N := 1) rfl ?_); refine box_event ?hg (N := 1) ?hd (cs := #[.int .i64 a0_0, .slice A0_1 l0_1.length c0_1, .slice A0_2 l0_2.length c0_2]) (t := 25) ?hr ?_; (case hd => rfl); (case hg => rfl); (case hr => first | (go_simp; done) | (go_simp; rfl)); intro gb101 hg w3 hbox hb; have n0_ := AQ (below_step (PB HB) hb); have n1_ := AQ (hbox); have n2_ := AQ ((by rw [hg]; exact (below_size (PB HB)) : w.heap.size ≤ gb101)); have n3_ := AQ ((by rw [hg]; exact (below_size (PB HB)) : w.heap.size ≤ gb101)); clear HB; have HB := n0_; have BK101 := n1_; have GW101 := n2_; have GE101 := n3_; clear n0_ n1_ n2_ n3_; clear hb hbox hg) | ((with_reducible refine gate_dst (N := 2) rfl ?_); refine box_event ?hg (N := 2) ?hd (cs := #[.int .i64 0, .slice none 0 0, .slice none 0 0]) (t := 25) ?hr ?_; (case hd => rfl); (case hg => rfl); (case hr => first | (go_simp; done) | (go_simp; rfl)); intro gb102 hg w4 hbox hb; have n0_ := AQ (blk_below (g := gb101) (o := .cells #[.int .i64 a0_0, .slice A0_1 l0_1.length c0_1, .slice A0_2 l0_2.length c0_2] 25 (0, 0)) (PK BK101) hb); have n1_ := AQ (below_step (by repeat (first | (with_reducible first | exact HB.out | apply below_alloc | apply pw_below_drewN | apply below_drew1 | refine below_set ?_ GE101.out) | exact HB.out)) hb); have n2_ := AQ (hbox); have n3_ := AQ ((by rw [hg]; exact (below_size (by repeat (first | (with_reducible first | exact HB.out | apply below_alloc | apply pw_below_drewN | apply below_drew1 | refine below_set ?_ GE101.out) | exact HB.out))) : w.heap.size ≤ gb102)); have n4_ := AQ ((by rw [hg]; exact (below_size (by repeat (first | (with_reducible first | exact HB.out | apply below_alloc | apply pw_below_drewN | apply below_drew1 | refine below_set ?_ GE101.out) | exact HB.out))) : w.heap.size ≤ gb102)); have n5_ := AQ ((by rw [hg]; exact Nat.ne_of_lt (blk_lt (g := gb101) (o := .cells #[.int .i64 a0_0, .slice A0_1 l0_1.length c0_1, .slice A0_2 l0_2.length c0_2] 25 (0, 0)) (PK BK101)) : gb101 ≠ gb102)); have n6_ := AQ ((by rw [hg]; exact Nat.ne_of_gt (blk_lt (g := gb101) (o := .cells #[.int .i64 a0_0, .slice A0_1 l0_1.length c0_1, .slice A0_2 l0_2.length c0_2] 25 (0, 0)) (PK BK101)) : gb102 ≠ gb101)); clear BK101; clear HB; have BK101 := n0_; have HB := n1_; have BK102 := n2_; have GW102 := n3_; have GE102 := n4_; have NB101_102 := n5_; have NB102_101 := n6_; clear n0_ n1_ n2_ n3_ n4_ n5_ n6_; clear hb hbox hg; have hnb5 := NB101_102.out; have hnc5 := NB102_101.out; have hcz6_0 : w4.cell? ⟨gb101, 0, none⟩ = some (.int .i64 a0_0) := (blk_cell BK101.out 0).trans rfl; have hcz6_1 : w4.cell? ⟨gb101, 1, none⟩ = some (.slice A0_1 l0_1.length c0_1) := (blk_cell BK101.out 1).trans rfl; have hcz6_2 : w4.cell? ⟨gb101, 2, none⟩ = some (.slice A0_2 l0_2.length c0_2) := (blk_cell BK101.out 2).trans rfl; have hfz6_0 := blk_frozen BK101.out 0; have hfz6_1 := blk_frozen BK101.out 1; have hfz6_2 := blk_frozen BK101.out 2) | ((with_reducible refine gate_dst (N := 4) rfl ?_); refine box_event ?hg (N := 4) ?hd (cs := #[.int .i64 0, .slice none 0 0, .slice none 0 0]) (t := 25) ?hr ?_; (case hd => rfl); (case hg => rfl); (case hr => first | (go_simp; done) | (go_simp; rfl)); intro gb103 hg w7 hbox hb; have n0_ := AQ (blk_below (g := gb101) (o := .cells #[.int .i64 a0_0, .slice A0_1 l0_1.length c0_1, .slice A0_2 l0_2.length c0_2] 25 (0, 0)) (PK BK101) hb); have n1_ := AQ (blk_below (g := gb102) (o := .cells #[.int .i64 0, .slice none 0 0, .slice none 0 0] 25 (0, 0)) (PK BK102) hb); have n2_ := AQ (below_step (by repeat (first | (with_reducible first | exact HB.out | apply below_alloc | apply pw_below_drewN | apply below_drew1 | refine below_set ?_ GE101.out | refine below_set ?_ GE102.out) | exact HB.out)) hb); have n3_ := AQ (hbox); have n4_ := AQ ((by rw [hg]; exact (below_size (by repeat (first | (with_reducible first | exact HB.out | apply below_alloc | apply pw_below_drewN | apply below_drew1 | refine below_set ?_ GE101.out | refine below_set ?_ GE102.out) | exact HB.out))) : w.heap.size ≤ gb103)); have n5_ := AQ ((by rw [hg]; exact (below_size (by repeat (first | (with_reducible first | exact HB.out | apply below_alloc | apply pw_below_drewN | apply below_drew1 | refine below_set ?_ GE101.out | refine below_set ?_ GE102.out) | exact HB.out))) : w.heap.size ≤ gb103)); have n6_ := AQ ((by rw [hg]; exact Nat.ne_of_lt (blk_lt (g := gb101) (o := .cells #[.int .i64 a0_0, .slice A0_1 l0_1.length c0_1, .slice A0_2 l0_2.length c0_2] 25 (0, 0)) (PK BK101)) : gb101 ≠ gb103)); have n7_ := AQ ((by rw [hg]; exact Nat.ne_of_gt (blk_lt (g := gb101) (o := .cells #[.int .i64 a0_0, .slice A0_1 l0_1.length c0_1, .slice A0_2 l0_2.length c0_2] 25 (0, 0)) (PK BK101)) : gb103 ≠ gb101)); have n8_ := AQ ((by rw [hg]; exact Nat.ne_of_lt (blk_lt (g := gb102) (o := .cells #[.int .i64 0, .slice none 0 0, .slice none 0 0] 25 (0, 0)) (PK BK102)) : gb102 ≠ gb103)); have n9_ := AQ ((by rw [hg]; exact Nat.ne_of_gt (blk_lt (g := gb102) (o := .cells #[.int .i64 0, .slice none 0 0, .slice none 0 0] 25 (0, 0)) (PK BK102)) : gb103 ≠ gb102)); clear BK101; clear BK102; clear HB; have BK101 := n0_; have BK102 := n1_; have HB := n2_; have BK103 := n3_; have GW103 := n4_; have GE103 := n5_; have NB101_103 := n6_; have NB103_101 := n7_; have NB102_103 := n8_; have NB103_102 := n9_; clear n0_ n1_ n2_ n3_ n4_ n5_ n6_ n7_ n8_ n9_; clear hb hbox hg; have hnb8 := NB103_101.out; have hnc8 := NB101_103.out; have hnb9 := NB103_102.out; have hnc9 := NB102_103.out; have hcz10_0 : w7.cell? ⟨gb103, 0, none⟩ = some (.int .i64 0) := (blk_cell BK103.out 0).trans rfl; have hcz10_1 : w7.cell? ⟨gb103, 1, none⟩ = some (.slice none 0 0) := (blk_cell BK103.out 1).trans rfl; have hcz10_2 : w7.cell? ⟨gb103, 2, none⟩ = some (.slice none 0 0) := (blk_cell BK103.out 2).trans rfl; have hfz10_0 := blk_frozen BK103.out 0; have hfz10_1 := blk_frozen BK103.out 1; have hfz10_2 := blk_frozen BK103.out 2))
 (try simp only [Act.put, List.setIfInBounds_toArray, List.set_cons_zero, List.set_cons_succ])
 go_cut [] (fun wc => ∃ (kq : Nat) (x104001_1 : List (List Int)) (u104001 : Value), Aside0 (geyserlaw05_fit.j1 kq (wrap64 (1 + (wrap64 (Int.tmod (IntKind.u64.wrap (a0_0)) 4)))) a0_0 l0_1 l0_2 (wrap64 (1 + (wrap64 (Int.tmod (IntKind.u64.wrap (a0_0)) 4)))) x104001_1 = some (r1, r2, r3)) ∧ Aside0 (kq ≤ k) ∧ Aside0 (Kd.S (Kd.slice 5 (Kd.int .u8)) 36 wc w.heap.size (fun _ => True) u104001 x104001_1) ∧ Aside0 (wc.heap[gb101]? = some (.cells #[.int .i64 a0_0, (.slice A0_1 l0_1.length c0_1), (.slice A0_2 l0_2.length c0_2)] 25 (0, 0))) ∧ Aside0 (wc.heap[gb102]? = some (.cells #[.int .i64 0, (.slice none 0 0), (.slice none 0 0)] 25 (0, 0))) ∧ Aside0 (wc.heap[gb103]? = some (.cells #[.int .i64 (wrap64 (1 + (wrap64 (Int.tmod (IntKind.u64.wrap (a0_0)) 4)))), u104001, (.slice none 0 0)] 25 (0, 0))) ∧ Aside0 (Below w.heap.size w wc))
 case first =>
  have H := HC2.out
  clear HC2
  have H' := AQ H
  clear H
  go_wp2
  go_loopg [5] k (fun kq v5 w' => ∃ (x5_1 : Int) (x104001_1 : List (List Int)) (u104001 : Value), v5 = .int .i64 x5_1 ∧ Aside0 (geyserlaw05_fit.l0 kq (wrap64 (1 + (wrap64 (Int.tmod (IntKind.u64.wrap (a0_0)) 4)))) x5_1 a0_0 l0_1 l0_2 (wrap64 (1 + (wrap64 (Int.tmod (IntKind.u64.wrap (a0_0)) 4)))) x104001_1 = some (r1, r2, r3)) ∧ Aside0 (kq ≤ k) ∧ Aside0 (Kd.S (Kd.slice 5 (Kd.int .u8)) 36 w' w.heap.size (fun _ => True) u104001 x104001_1) ∧ Aside0 (w'.heap[gb101]? = some (.cells #[.int .i64 a0_0, (.slice A0_1 l0_1.length c0_1), (.slice A0_2 l0_2.length c0_2)] 25 (0, 0))) ∧ Aside0 (w'.heap[gb102]? = some (.cells #[.int .i64 0, (.slice none 0 0), (.slice none 0 0)] 25 (0, 0))) ∧ Aside0 (w'.heap[gb103]? = some (.cells #[.int .i64 (wrap64 (1 + (wrap64 (Int.tmod (IntKind.u64.wrap (a0_0)) 4)))), u104001, (.slice none 0 0)] 25 (0, 0))) ∧ Aside0 (Below w.heap.size w w'))
  case atStart => exact ⟨(0), (([] : List (List Int))), (.slice none 0 0), (by first | rfl | (simp; done) | (simp [*]; done)), H', ⟨Nat.le_refl _⟩, ⟨by first | exact Kd.S_nil _ _ _ _ _ | exact Kd.N_nil _ _ _ _ _ | exact Kd.V_nil _ _ _ _ _ | exact Kd.Q_nil _ _ _ _ _ | exact Kd.R_nil _ _ _ _ _⟩, ⟨by (with_reducible repeat (first | refine blk_drewN ?_ _ | refine blk_drew ?_ | refine blk_alloc ?_ _)); refine blk_far ?_ NB101_103.out _; (with_reducible repeat (first | refine blk_drewN ?_ _ | refine blk_drew ?_ | refine blk_alloc ?_ _)); refine blk_far ?_ NB101_103.out _; (with_reducible repeat (first | refine blk_drewN ?_ _ | refine blk_drew ?_ | refine blk_alloc ?_ _)); refine blk_far ?_ NB101_103.out _; (with_reducible repeat (first | refine blk_drewN ?_ _ | refine blk_drew ?_ | refine blk_alloc ?_ _)); exact BK101.out⟩, ⟨by (with_reducible repeat (first | refine blk_drewN ?_ _ | refine blk_drew ?_ | refine blk_alloc ?_ _)); refine blk_far ?_ NB102_103.out _; (with_reducible repeat (first | refine blk_drewN ?_ _ | refine blk_drew ?_ | refine blk_alloc ?_ _)); refine blk_far ?_ NB102_103.out _; (with_reducible repeat (first | refine blk_drewN ?_ _ | refine blk_drew ?_ | refine blk_alloc ?_ _)); refine blk_far ?_ NB102_103.out _; (with_reducible repeat (first | refine blk_drewN ?_ _ | refine blk_drew ?_ | refine blk_alloc ?_ _)); exact BK102.out⟩, ⟨by (with_reducible repeat (first | refine blk_drewN ?_ _ | refine blk_drew ?_ | refine blk_alloc ?_ _)); refine blk_put (cs := #[.int .i64 (wrap64 (1 + (wrap64 (Int.tmod (IntKind.u64.wrap (a0_0)) 4)))), .slice none 0 0, .slice none 0 0]) ?_ 2 _ rfl; (with_reducible repeat (first | refine blk_drewN ?_ _ | refine blk_drew ?_ | refine blk_alloc ?_ _)); refine blk_put (cs := #[.int .i64 (wrap64 (1 + (wrap64 (Int.tmod (IntKind.u64.wrap (a0_0)) 4)))), .slice none 0 0, .slice none 0 0]) ?_ 1 _ rfl; (with_reducible repeat (first | refine blk_drewN ?_ _ | refine blk_drew ?_ | refine blk_alloc ?_ _)); refine blk_put (cs := #[.int .i64 0, .slice none 0 0, .slice none 0 0]) ?_ 0 _ rfl; (with_reducible repeat (first | refine blk_drewN ?_ _ | refine blk_drew ?_ | refine blk_alloc ?_ _)); exact BK103.out⟩, ⟨by repeat (first | (with_reducible first | exact HB.out | apply below_alloc | apply pw_below_drewN | apply below_drew1 | refine below_set ?_ GE101.out | refine below_set ?_ GE102.out | refine below_set ?_ GE103.out) | exact HB.out)⟩⟩
  case round =>
   clear H'
   try clear p2
   try clear c5
   try clear p6
   try clear c8
   try clear c9
   try clear hcz10_0
   try clear hcz10_1
   try clear hcz10_2
   try clear hcz6_0
   try clear hcz6_1
   try clear hcz6_2
   try clear hfz10_0
   try clear hfz10_1
   try clear hfz10_2
   try clear hfz6_0
   try clear hfz6_1
   try clear hfz6_2
   obtain ⟨x5_1, x104001_1, u104001, rfl, HA, HK1, HO_104001, BK101, BK102, BK103, HB⟩ := hrel
   cases gk with
   | zero => exact absurd HA.out (by simp [geyserlaw05_fit.l0])
   | succ k1 =>
    have H := HA.out
    clear HA
    simp only [geyserlaw05_fit.l0] at H
    by_cases c11 : x5_1 < (l0_1.length : Int)
    ·rw [if_pos c11] at H
     have c11b0 : decide (x5_1 < (l0_1.length : Int)) = true := decide_eq_true c11
     clear c11
     (first | rw [c11b0] | rw [c11b1] | (simp only [i64_w, i32_w]; rw [c11b0]) | skip)
     by_cases c12 : x5_1 < 12
     ·rw [if_pos c12] at H
      have c12b0 : decide (x5_1 < 12) = true := decide_eq_true c12
      clear c12
      by_cases c13 : 0 ≤ (wrap64 (1 + (wrap64 (Int.tmod (IntKind.u64.wrap (a0_0)) 4))))
      ·rw [if_pos c13] at H
       have c13b0 := eq_true c13
       have c13b1 : decide (0 ≤ (wrap64 (1 + (wrap64 (Int.tmod (IntKind.u64.wrap (a0_0)) 4))))) = true := decide_eq_true c13
       by_cases c14 : ((wrap64 (1 + (wrap64 (Int.tmod (IntKind.u64.wrap (a0_0)) 4)))) : Int).toNat ≤ 281474976710656
       ·rw [if_pos c14] at H
        have c14b0 := eq_true c14
        have c14b1 : decide (((wrap64 (1 + (wrap64 (Int.tmod (IntKind.u64.wrap (a0_0)) 4)))) : Int).toNat ≤ 281474976710656) = true := decide_eq_true c14
        obtain ⟨y104, hy104⟩ : ∃ y_ : List Int, y_ = (List.replicate ((wrap64 (1 + (wrap64 (Int.tmod (IntKind.u64.wrap (a0_0)) 4)))) : Int).toNat 0) := ⟨_, rfl⟩
        replace H : (if 0 ≤ x5_1 then (if x104001_1.length < 5864062014805 then (geyserlaw05_fit.l0 k1 (wrap64 (1 + (wrap64 (Int.tmod (IntKind.u64.wrap (a0_0)) 4)))) (wrap64 (x5_1 + 1)) a0_0 l0_1 l0_2 (wrap64 (1 + (wrap64 (Int.tmod (IntKind.u64.wrap (a0_0)) 4)))) (x104001_1 ++ [(copyL y104 (rd_Lsu8 l0_1 x5_1))])) else (none)) else (none)) = some (r1, r2, r3) := by first | (rw [hy104]; with_reducible exact H) | (have H2_ := (Option.bind_some _ _).symm.trans H; rw [hy104]; with_reducible exact H2_) | (have H2_ := (Option.bind_some _ _).symm.trans H; with_reducible exact H2_) | with_reducible exact H | (rw [hy104]; exact H) | exact H
        have Ny104 := AQ hy104
        clear hy104
        by_cases c15 : 0 ≤ x5_1
        ·rw [if_pos c15] at H
         have c15b0 : decide (0 ≤ x5_1) = true := decide_eq_true c15
         clear c15
         obtain ⟨y108, hy108⟩ : ∃ y_ : List Int, y_ = (copyL y104 (rd_Lsu8 l0_1 x5_1)) := ⟨_, rfl⟩
         replace H : (if x104001_1.length < 5864062014805 then (geyserlaw05_fit.l0 k1 (wrap64 (1 + (wrap64 (Int.tmod (IntKind.u64.wrap (a0_0)) 4)))) (wrap64 (x5_1 + 1)) a0_0 l0_1 l0_2 (wrap64 (1 + (wrap64 (Int.tmod (IntKind.u64.wrap (a0_0)) 4)))) (x104001_1 ++ [y108])) else (none)) = some (r1, r2, r3) := by first | (rw [hy108]; with_reducible exact H) | (have H2_ := (Option.bind_some _ _).symm.trans H; rw [hy108]; with_reducible exact H2_) | (have H2_ := (Option.bind_some _ _).symm.trans H; with_reducible exact H2_) | with_reducible exact H | (rw [hy108]; exact H) | exact H
         have Ny108 := AQ hy108
         clear hy108
         by_cases c16 : x104001_1.length < 5864062014805
         ·rw [if_pos c16] at H
          have LMc16 := AQ c16
          clear c16
          obtain ⟨y109, hy109⟩ : ∃ y_ : List (List Int), y_ = (x104001_1 ++ [y108]) := ⟨_, rfl⟩
          replace H : (geyserlaw05_fit.l0 k1 (wrap64 (1 + (wrap64 (Int.tmod (IntKind.u64.wrap (a0_0)) 4)))) (wrap64 (x5_1 + 1)) a0_0 l0_1 l0_2 (wrap64 (1 + (wrap64 (Int.tmod (IntKind.u64.wrap (a0_0)) 4)))) y109) = some (r1, r2, r3) := by first | (rw [hy109]; with_reducible exact H) | (have H2_ := (Option.bind_some _ _).symm.trans H; rw [hy109]; with_reducible exact H2_) | (have H2_ := (Option.bind_some _ _).symm.trans H; with_reducible exact H2_) | with_reducible exact H | (rw [hy109]; exact H) | exact H
          have Ny109 := AQ hy109
          clear hy109
          have H' := AQ H
          clear H
          have hnb17 := NB101_102.out
          have hnc17 := NB102_101.out
          have hnb18 := NB101_103.out
          have hnc18 := NB103_101.out
          have hcz19_0 : wr.cell? ⟨gb101, 0, none⟩ = some (.int .i64 a0_0) := (blk_cell BK101.out 0).trans rfl
          have hcz19_1 : wr.cell? ⟨gb101, 1, none⟩ = some (.slice A0_1 l0_1.length c0_1) := (blk_cell BK101.out 1).trans rfl
          have hcz19_2 : wr.cell? ⟨gb101, 2, none⟩ = some (.slice A0_2 l0_2.length c0_2) := (blk_cell BK101.out 2).trans rfl
          have hfz19_0 := blk_frozen BK101.out 0
          have hfz19_1 := blk_frozen BK101.out 1
          have hfz19_2 := blk_frozen BK101.out 2
          go_wp2_with (first | ((with_reducible refine gate_dst (N := 28) rfl ?_); refine Kd.R_make (Kd.int .u8) _ 5 rfl (N := 28) rfl 36 _ _ rfl (wrap64 (1 + (wrap64 (Int.tmod (IntKind.u64.wrap (a0_0)) 4)))) rfl rfl Tryd.underlying36 (.int .u8 0) 1 info5 rfl (by decide) (by omega) 0 (ok := fun _ => True) (okp := fun _ => True) rfl (fun _ hk => hk) trivial (of_decide_eq_true (by first | (with_reducible assumption) | assumption)) (Nat.le_trans (Nat.mul_le_mul_right _ (of_decide_eq_true (by first | (with_reducible assumption) | assumption) : (wrap64 (1 + (wrap64 (Int.tmod (IntKind.u64.wrap (a0_0)) 4)))).toNat ≤ 281474976710656)) (by omega)) (Below.refl _ _) (Nat.le_refl _) ?_; intro v105 w20 ho21 hb hg_ hnew_; clear hg_ hnew_; (first | rw [← Ny104.out] at ho21 | (simp only [Int.reduceToNat] at ho21; rw [← Ny104.out] at ho21)); have n0_ := AQ (Kd.S_elder' (PS HO_104001) (Kd.R_base ho21) hb); have n1_ := AQ (Kd.R_lower ho21 (below_size (by repeat (first | (with_reducible first | exact HB.out | apply below_alloc | apply pw_below_drewN | apply below_drew1 | refine below_set ?_ GE101.out | refine below_set ?_ GE102.out | refine below_set ?_ GE103.out) | exact HB.out)))); have n2_ := AQ (blk_below (g := gb101) (o := .cells #[.int .i64 a0_0, .slice A0_1 l0_1.length c0_1, .slice A0_2 l0_2.length c0_2] 25 (0, 0)) (PK BK101) hb); have n3_ := AQ (blk_below (g := gb102) (o := .cells #[.int .i64 0, .slice none 0 0, .slice none 0 0] 25 (0, 0)) (PK BK102) hb); have n4_ := AQ (blk_below (g := gb103) (o := .cells #[.int .i64 (wrap64 (1 + (wrap64 (Int.tmod (IntKind.u64.wrap (a0_0)) 4)))), u104001, .slice none 0 0] 25 (0, 0)) (PK BK103) hb); have n5_ := AQ (below_step (by repeat (first | (with_reducible first | exact HB.out | apply below_alloc | apply pw_below_drewN | apply below_drew1 | refine below_set ?_ GE101.out | refine below_set ?_ GE102.out | refine below_set ?_ GE103.out) | exact HB.out)) hb); clear HO_104001; clear BK101; clear BK102; clear BK103; clear HB; have HO_104001 := n0_; have HO106 := n1_; have BK101 := n2_; have BK102 := n3_; have BK103 := n4_; have HB := n5_; clear n0_ n1_ n2_ n3_ n4_ n5_; clear hb ho21; have hcz22_0 : w20.cell? ⟨gb101, 0, none⟩ = some (.int .i64 a0_0) := (blk_cell BK101.out 0).trans rfl; have hcz22_1 : w20.cell? ⟨gb101, 1, none⟩ = some (.slice A0_1 l0_1.length c0_1) := (blk_cell BK101.out 1).trans rfl; have hcz22_2 : w20.cell? ⟨gb101, 2, none⟩ = some (.slice A0_2 l0_2.length c0_2) := (blk_cell BK101.out 2).trans rfl; have hfz22_0 := blk_frozen BK101.out 0; have hfz22_1 := blk_frozen BK101.out 1; have hfz22_2 := blk_frozen BK101.out 2; have p107 : 0 ≤ (x5_1 : Int) := of_decide_eq_true (by first | (with_reducible assumption) | assumption); have q107 : x5_1 < (l0_1.length : Int) := of_decide_eq_true (by first | (with_reducible assumption) | assumption); obtain ⟨ad107, A107_0, c107_0, e107, hx107_0, hl107_0, hi107_0⟩ := at_Lsu8 HR0_1.out x5_1 p107 q107; cases e107; (first | replace hx107_0 := (HB.out.cell (World.block_lt_of_cell? w _ hx107_0)).trans hx107_0 | skip); have HR107_0 := AQ hi107_0; have HC107_0 := AQ hl107_0; clear hi107_0 hl107_0; replace p107 := eq_true p107; replace q107 := eq_true q107; obtain ⟨Ao23, co23, eo23⟩ := Kd.R_slice HO106.out; subst eo23) | ((with_reducible refine gate_builtin (b := .copy) (xs := #[.tmp 29, .tmp 34]) rfl ?_); refine R_copy_event (w0 := w) w.heap.size rfl (.tmp 29) (.tmp 34) 36 36 rfl 5 Tryd.underlying36 (by kernel_rfl) (.slice Ao23 y104.length co23) y104 A107_0 _ c107_0 (rd_Lsu8 l0_1 x5_1) (fun _ => True) rfl rfl (PR HO106) ?cS (by repeat (first | (with_reducible first | exact HB.out | apply below_alloc | apply pw_below_drewN | apply below_drew1 | refine below_set ?_ GE101.out | refine below_set ?_ GE102.out | refine below_set ?_ GE103.out) | exact HB.out)) ?_; (case cS => repeat (first | exact (Kd.C_below HR107_0.out HB.out) | (with_reducible refine Kd.C_alloc ?_ _) | (with_reducible refine Kd.C_drewN ?_ _) | (with_reducible refine Kd.C_drew ?_))); intro w25 hp_ hb_ hg; rw [← Ny108.out] at hp_; have hw := True.intro; have n0_ := AQ (Kd.S_after (v := (.slice Ao23 y104.length co23)) (v1 := (.slice Ao23 y104.length co23)) (ok := (fun _ => True)) (PS HO_104001) hg (.inl rfl)); have n1_ := AQ (blk_grown (g := gb101) (o := .cells #[.int .i64 a0_0, .slice (some ad107) l0_1.length c0_1, .slice A0_2 l0_2.length c0_2] 25 (0, 0)) (PK BK101) hg (Kd.R_ne HO106.out BK101.out (by decide))); have n2_ := AQ (blk_grown (g := gb102) (o := .cells #[.int .i64 0, .slice none 0 0, .slice none 0 0] 25 (0, 0)) (PK BK102) hg (Kd.R_ne HO106.out BK102.out (by decide))); have n3_ := AQ (blk_grown (g := gb103) (o := .cells #[.int .i64 (wrap64 (1 + (wrap64 (Int.tmod (IntKind.u64.wrap (a0_0)) 4)))), u104001, .slice none 0 0] 25 (0, 0)) (PK BK103) hg (Kd.R_ne HO106.out BK103.out (by decide))); have n4_ := AQ (hp_); have n5_ := AQ (hb_); clear HO_104001; clear BK101; clear BK102; clear BK103; clear HO106; clear HB; have HO_104001 := n0_; have BK101 := n1_; have BK102 := n2_; have BK103 := n3_; have HO106 := n4_; have HB := n5_; clear n0_ n1_ n2_ n3_ n4_ n5_; clear hg hw hp_ hb_; have hnb26 := NB103_102.out; have hnc26 := NB102_103.out; have hcz27_0 : w25.cell? ⟨gb103, 0, none⟩ = some (.int .i64 (wrap64 (1 + (wrap64 (Int.tmod (IntKind.u64.wrap (a0_0)) 4))))) := (blk_cell BK103.out 0).trans rfl; have hcz27_1 : w25.cell? ⟨gb103, 1, none⟩ = some (u104001) := (blk_cell BK103.out 1).trans rfl; have hcz27_2 : w25.cell? ⟨gb103, 2, none⟩ = some (.slice none 0 0) := (blk_cell BK103.out 2).trans rfl; have hfz27_0 := blk_frozen BK103.out 0; have hfz27_1 := blk_frozen BK103.out 1; have hfz27_2 := blk_frozen BK103.out 2) | ((with_reducible refine gate_builtin (b := .append) (xs := #[.tmp 37, .tmp 39]) rfl ?_); at_builtin; refine Kd.S_append (Kd.slice 5 (Kd.int .u8)) (w0 := w) w.heap.size rfl (.tmp 37) (.tmp 39) 22 36 (.slice none 0 0) 24 rfl Tryd.underlying22 info36 rfl (by decide) (by omega) u104001 x104001_1 y108 [.slice Ao23 y104.length co23] (fun _ => True) (fun k_ => some k_ = (.slice Ao23 y104.length co23 : Value).ownBlock) rfl rfl ?aP (fun k_ hk_ => ((Kd.R_mono (ok' := fun k_ => ((fun _ => True)) k_ ∧ some k_ ≠ (u104001 : Value).ownBlock) (Kd.R_apart' (HO106.out) (Kd.S_typed HO_104001.out) (by decide)) (fun k_ hk => ⟨trivial, hk.2⟩))).1 k_ hk_.symm) ?aF ?aO ?aB ?aS ?aL ?_; (case aP => exact Kd.M_row (Kd.R_mono (Kd.R_tight rfl (Kd.R_mono (ok' := fun k_ => ((fun _ => True)) k_ ∧ some k_ ≠ (u104001 : Value).ownBlock) (Kd.R_apart' (HO106.out) (Kd.S_typed HO_104001.out) (by decide)) (fun k_ hk => ⟨trivial, hk.2⟩))) (fun _ h_ => h_))); (case aB => exact (by repeat (first | (with_reducible first | exact HB.out | apply below_alloc | apply pw_below_drewN | apply below_drew1 | refine below_set ?_ GE101.out | refine below_set ?_ GE102.out | refine below_set ?_ GE103.out) | exact HB.out))); (case aF => exact (fun _ _ => trivial)); (case aO => exact (by (with_reducible repeat (first | apply Kd.S_alloc | apply Kd.S_drewN | apply Kd.S_drew)); exact Kd.S_mono HO_104001.out (fun k_ hk => ⟨trivial, fun e_ => hk.2 e_⟩))); (case aS => exact (below_size (by repeat (first | (with_reducible first | exact HB.out | apply below_alloc | apply pw_below_drewN | apply below_drew1 | refine below_set ?_ GE101.out | refine below_set ?_ GE102.out | refine below_set ?_ GE103.out) | exact HB.out)))); (case aL => have := LMc16.out; omega); intro v110 w28 ho hb hg hat; rw [← Ny109.out] at ho; have n0_ := AQ (blk_grown (g := gb101) (o := .cells #[.int .i64 a0_0, .slice (some ad107) l0_1.length c0_1, .slice A0_2 l0_2.length c0_2] 25 (0, 0)) (PK BK101) hg (Kd.S_ne HO_104001.out BK101.out (by decide))); have n1_ := AQ (blk_grown (g := gb102) (o := .cells #[.int .i64 0, .slice none 0 0, .slice none 0 0] 25 (0, 0)) (PK BK102) hg (Kd.S_ne HO_104001.out BK102.out (by decide))); have n2_ := AQ (blk_grown (g := gb103) (o := .cells #[.int .i64 (wrap64 (1 + (wrap64 (Int.tmod (IntKind.u64.wrap (a0_0)) 4)))), u104001, .slice none 0 0] 25 (0, 0)) (PK BK103) hg (Kd.S_ne HO_104001.out BK103.out (by decide))); have n3_ := AQ (hb); have n4_ := AQ (ho); clear BK101; clear BK102; clear BK103; clear HB; clear HO_104001; clear HO106; have BK101 := n0_; have BK102 := n1_; have BK103 := n2_; have HB := n3_; have HO111 := n4_; clear n0_ n1_ n2_ n3_ n4_; clear ho hb hg hat; obtain ⟨Ao29, co29, eo29⟩ := Kd.S_slice HO111.out; subst eo29; have hcz30_0 : w28.cell? ⟨gb103, 0, none⟩ = some (.int .i64 (wrap64 (1 + (wrap64 (Int.tmod (IntKind.u64.wrap (a0_0)) 4))))) := (blk_cell BK103.out 0).trans rfl; have hcz30_1 : w28.cell? ⟨gb103, 1, none⟩ = some (u104001) := (blk_cell BK103.out 1).trans rfl; have hcz30_2 : w28.cell? ⟨gb103, 2, none⟩ = some (.slice none 0 0) := (blk_cell BK103.out 2).trans rfl; have hfz30_0 := blk_frozen BK103.out 0; have hfz30_1 := blk_frozen BK103.out 1; have hfz30_2 := blk_frozen BK103.out 2))
          go_roundg k1
          case measure => have := HK1.out; omega
          case rel => exact ⟨(wrap64 (x5_1 + 1)), (y109), (.slice Ao29 y109.length co29), (by first | rfl | (simp; done) | (simp [*]; done)), H', ⟨by have := HK1.out; omega⟩, ⟨by (with_reducible repeat (first | apply Kd.S_alloc | apply Kd.S_drewN | apply Kd.S_drew)); exact Kd.S_mono (Kd.S_far (p := ⟨gb103, 1, none⟩) (Kd.S_types HO111.out BK103.out (by decide)) (fun _ hk => hk.2) (.slice Ao29 y109.length co29)) (fun _ hk => trivial)⟩, ⟨by (with_reducible repeat (first | refine blk_drewN ?_ _ | refine blk_drew ?_ | refine blk_alloc ?_ _)); refine blk_far ?_ NB101_103.out _; (with_reducible repeat (first | refine blk_drewN ?_ _ | refine blk_drew ?_ | refine blk_alloc ?_ _)); exact BK101.out⟩, ⟨by (with_reducible repeat (first | refine blk_drewN ?_ _ | refine blk_drew ?_ | refine blk_alloc ?_ _)); refine blk_far ?_ NB102_103.out _; (with_reducible repeat (first | refine blk_drewN ?_ _ | refine blk_drew ?_ | refine blk_alloc ?_ _)); exact BK102.out⟩, ⟨by (with_reducible repeat (first | refine blk_drewN ?_ _ | refine blk_drew ?_ | refine blk_alloc ?_ _)); refine blk_put (cs := #[.int .i64 (wrap64 (1 + (wrap64 (Int.tmod (IntKind.u64.wrap (a0_0)) 4)))), u104001, .slice none 0 0]) ?_ 1 _ rfl; (with_reducible repeat (first | refine blk_drewN ?_ _ | refine blk_drew ?_ | refine blk_alloc ?_ _)); exact BK103.out⟩, ⟨by repeat (first | (with_reducible first | exact HB.out | apply below_alloc | apply pw_below_drewN | apply below_drew1 | refine below_set ?_ GE101.out | refine below_set ?_ GE102.out | refine below_set ?_ GE103.out) | exact HB.out)⟩⟩
         ·rw [if_neg c16] at H
          exact absurd H (by simp)
        ·rw [if_neg c15] at H
         exact absurd H (by simp)
       ·rw [if_neg c14] at H
        exact absurd H (by simp)
      ·rw [if_neg c13] at H
       exact absurd H (by simp)
     ·rw [if_neg c12] at H
      have c12b0 : decide (x5_1 < 12) = false := decide_eq_false c12
      clear c12
      have H' := AQ H
      clear H
      have hnb31 := NB101_102.out
      have hnc31 := NB102_101.out
      have hnb32 := NB101_103.out
      have hnc32 := NB103_101.out
      have hcz33_0 : wr.cell? ⟨gb101, 0, none⟩ = some (.int .i64 a0_0) := (blk_cell BK101.out 0).trans rfl
      have hcz33_1 : wr.cell? ⟨gb101, 1, none⟩ = some (.slice A0_1 l0_1.length c0_1) := (blk_cell BK101.out 1).trans rfl
      have hcz33_2 : wr.cell? ⟨gb101, 2, none⟩ = some (.slice A0_2 l0_2.length c0_2) := (blk_cell BK101.out 2).trans rfl
      have hfz33_0 := blk_frozen BK101.out 0
      have hfz33_1 := blk_frozen BK101.out 1
      have hfz33_2 := blk_frozen BK101.out 2
      go_wp2
      go_meet
      case rel => exact ⟨_, (x104001_1), (u104001), H', ⟨by have := HK1.out; first | omega | exact Nat.le_refl _⟩, ⟨PS HO_104001⟩, ⟨PK BK101⟩, ⟨PK BK102⟩, ⟨PK BK103⟩, ⟨by repeat (first | (with_reducible first | exact HB.out | apply below_alloc | apply pw_below_drewN | apply below_drew1 | refine below_set ?_ GE101.out | refine below_set ?_ GE102.out | refine below_set ?_ GE103.out) | exact HB.out)⟩⟩
    ·rw [if_neg c11] at H
     have c11b0 : decide (x5_1 < (l0_1.length : Int)) = false := decide_eq_false c11
     clear c11
     (first | rw [c11b0] | rw [c11b1] | (simp only [i64_w, i32_w]; rw [c11b0]) | skip)
     have H' := AQ H
     clear H
     have hnb34 := NB101_102.out
     have hnc34 := NB102_101.out
     have hnb35 := NB101_103.out
     have hnc35 := NB103_101.out
     have hcz36_0 : wr.cell? ⟨gb101, 0, none⟩ = some (.int .i64 a0_0) := (blk_cell BK101.out 0).trans rfl
     have hcz36_1 : wr.cell? ⟨gb101, 1, none⟩ = some (.slice A0_1 l0_1.length c0_1) := (blk_cell BK101.out 1).trans rfl
     have hcz36_2 : wr.cell? ⟨gb101, 2, none⟩ = some (.slice A0_2 l0_2.length c0_2) := (blk_cell BK101.out 2).trans rfl
     have hfz36_0 := blk_frozen BK101.out 0
     have hfz36_1 := blk_frozen BK101.out 1
     have hfz36_2 := blk_frozen BK101.out 2
     go_wp2
     go_meet
     case rel => exact ⟨_, (x104001_1), (u104001), H', ⟨by have := HK1.out; first | omega | exact Nat.le_refl _⟩, ⟨PS HO_104001⟩, ⟨PK BK101⟩, ⟨PK BK102⟩, ⟨PK BK103⟩, ⟨by repeat (first | (with_reducible first | exact HB.out | apply below_alloc | apply pw_below_drewN | apply below_drew1 | refine below_set ?_ GE101.out | refine below_set ?_ GE102.out | refine below_set ?_ GE103.out) | exact HB.out)⟩⟩
 case rest =>
  clear HC2
  try clear c1
  try clear p1
  try clear q1
  try clear hx1
  try clear c2
  try clear p2
  try clear c3
  try clear c5
  try clear p6
  try clear c8
  try clear c9
  try clear c10
  try clear p10
  try clear q10
  try clear hx10
  try clear c11
  try clear c11b0
  try clear c11b1
  try clear c12
  try clear c12b0
  try clear c13
  try clear c13b0
  try clear c13b1
  try clear c14
  try clear c14b0
  try clear c14b1
  try clear c15
  try clear c15b0
  try clear c16
  try clear c17
  try clear c18
  try clear c26
  try clear c31
  try clear c32
  try clear c34
  try clear c35
  try clear hcz10_0
  try clear hcz10_1
  try clear hcz10_2
  try clear hcz19_0
  try clear hcz19_1
  try clear hcz19_2
  try clear hcz22_0
  try clear hcz22_1
  try clear hcz22_2
  try clear hcz27_0
  try clear hcz27_1
  try clear hcz27_2
  try clear hcz30_0
  try clear hcz30_1
  try clear hcz30_2
  try clear hcz33_0
  try clear hcz33_1
  try clear hcz33_2
  try clear hcz36_0
  try clear hcz36_1
  try clear hcz36_2
  try clear hcz6_0
  try clear hcz6_1
  try clear hcz6_2
  try clear hfz10_0
  try clear hfz10_1
  try clear hfz10_2
  try clear hfz19_0
  try clear hfz19_1
  try clear hfz19_2
  try clear hfz22_0
  try clear hfz22_1
  try clear hfz22_2
  try clear hfz27_0
  try clear hfz27_1
  try clear hfz27_2
  try clear hfz30_0
  try clear hfz30_1
  try clear hfz30_2
  try clear hfz33_0
  try clear hfz33_1
  try clear hfz33_2
  try clear hfz36_0
  try clear hfz36_1
  try clear hfz36_2
  try clear hfz6_0
  try clear hfz6_1
  try clear hfz6_2
  try clear hx107_0
  try clear p107
  try clear p2
  try clear p6
  try clear q107
  obtain ⟨kq, x104001_1, u104001, HA, HJ1, HO_104001, BK101, BK102, BK103, HB⟩ := hcut
  cases kq with
  | zero => exact absurd HA.out (by simp [geyserlaw05_fit.j1])
  | succ kj1 =>
   have H := HA.out
   clear HA
   simp only [geyserlaw05_fit.j1] at H
   have HC37 := AQ H
   clear H
   have hnb38 := NB103_101.out
   have hnc38 := NB101_103.out
   have hnb39 := NB103_102.out
   have hnc39 := NB102_103.out
   have hcz40_0 : wc.cell? ⟨gb103, 0, none⟩ = some (.int .i64 (wrap64 (1 + (wrap64 (Int.tmod (IntKind.u64.wrap (a0_0)) 4))))) := (blk_cell BK103.out 0).trans rfl
   have hcz40_1 : wc.cell? ⟨gb103, 1, none⟩ = some (u104001) := (blk_cell BK103.out 1).trans rfl
   have hcz40_2 : wc.cell? ⟨gb103, 2, none⟩ = some (.slice none 0 0) := (blk_cell BK103.out 2).trans rfl
   have hfz40_0 := blk_frozen BK103.out 0
   have hfz40_1 := blk_frozen BK103.out 1
   have hfz40_2 := blk_frozen BK103.out 2
   obtain ⟨Ao41, co41, eo41⟩ := Kd.S_slice HO_104001.out
   subst eo41
   go_upto_if 45 with (fail)
   go_cut [] (fun wc => ∃ (kq : Nat) (x104001_36 : List (List Int)) (u104001 : Value), Aside0 (geyserlaw05_fit.j2 kq a0_0 l0_1 l0_2 (wrap64 (1 + (wrap64 (Int.tmod (IntKind.u64.wrap (a0_0)) 4)))) x104001_36 = some (r1, r2, r3)) ∧ Aside0 (kq ≤ kj1) ∧ Aside0 (Kd.S (Kd.slice 5 (Kd.int .u8)) 36 wc w.heap.size (fun _ => True) u104001 x104001_36) ∧ Aside0 (wc.heap[gb101]? = some (.cells #[.int .i64 a0_0, (.slice A0_1 l0_1.length c0_1), (.slice A0_2 l0_2.length c0_2)] 25 (0, 0))) ∧ Aside0 (wc.heap[gb102]? = some (.cells #[.int .i64 0, (.slice none 0 0), (.slice none 0 0)] 25 (0, 0))) ∧ Aside0 (wc.heap[gb103]? = some (.cells #[.int .i64 (wrap64 (1 + (wrap64 (Int.tmod (IntKind.u64.wrap (a0_0)) 4)))), u104001, (.slice none 0 0)] 25 (0, 0))) ∧ Aside0 (Below w.heap.size w wc))
   case first =>
    have H := HC37.out
    clear HC37
    by_cases c42 : (x104001_1.length : Int) = 0
    ·rw [if_pos c42] at H
     have c42b0 : ((x104001_1.length : Int) == 0) = true := beq_iff_eq.mpr c42
     have c42b1 : ((x104001_1.length : Int) != 0) = false := bne_eq_false_iff_eq.mpr c42
     clear c42
     (first | rw [c42b0] | rw [c42b1] | (simp only [i64_w, i32_w]; rw [c42b0]) | skip)
     by_cases c43 : 0 ≤ (wrap64 (1 + (wrap64 (Int.tmod (IntKind.u64.wrap (a0_0)) 4))))
     ·rw [if_pos c43] at H
      have c43b0 := eq_true c43
      have c43b1 : decide (0 ≤ (wrap64 (1 + (wrap64 (Int.tmod (IntKind.u64.wrap (a0_0)) 4))))) = true := decide_eq_true c43
      by_cases c44 : ((wrap64 (1 + (wrap64 (Int.tmod (IntKind.u64.wrap (a0_0)) 4)))) : Int).toNat ≤ 281474976710656
      ·rw [if_pos c44] at H
       have c44b0 := eq_true c44
       have c44b1 : decide (((wrap64 (1 + (wrap64 (Int.tmod (IntKind.u64.wrap (a0_0)) 4)))) : Int).toNat ≤ 281474976710656) = true := decide_eq_true c44
       obtain ⟨y112, hy112⟩ : ∃ y_ : List Int, y_ = (List.replicate ((wrap64 (1 + (wrap64 (Int.tmod (IntKind.u64.wrap (a0_0)) 4)))) : Int).toNat 0) := ⟨_, rfl⟩
       replace H : (geyserlaw05_fit.j2 kj1 a0_0 l0_1 l0_2 (wrap64 (1 + (wrap64 (Int.tmod (IntKind.u64.wrap (a0_0)) 4)))) (([y112] : List (List Int)))) = some (r1, r2, r3) := by first | (rw [hy112]; with_reducible exact H) | (have H2_ := (Option.bind_some _ _).symm.trans H; rw [hy112]; with_reducible exact H2_) | (have H2_ := (Option.bind_some _ _).symm.trans H; with_reducible exact H2_) | with_reducible exact H | (rw [hy112]; exact H) | exact H
       have Ny112 := AQ hy112
       clear hy112
       obtain ⟨y115, hy115⟩ : ∃ y_ : List (List Int), y_ = (([y112] : List (List Int))) := ⟨_, rfl⟩
       replace H : (geyserlaw05_fit.j2 kj1 a0_0 l0_1 l0_2 (wrap64 (1 + (wrap64 (Int.tmod (IntKind.u64.wrap (a0_0)) 4)))) y115) = some (r1, r2, r3) := by first | (rw [hy115]; with_reducible exact H) | (have H2_ := (Option.bind_some _ _).symm.trans H; rw [hy115]; with_reducible exact H2_) | (have H2_ := (Option.bind_some _ _).symm.trans H; with_reducible exact H2_) | with_reducible exact H | (rw [hy115]; exact H) | exact H
       have Ny115 := AQ hy115
       clear hy115
       have H' := AQ H
       clear H
       go_wp2_with (first | ((with_reducible refine gate_dst (N := 47) rfl ?_); refine Kd.R_make (Kd.int .u8) _ 5 rfl (N := 47) rfl 36 _ _ rfl (wrap64 (1 + (wrap64 (Int.tmod (IntKind.u64.wrap (a0_0)) 4)))) rfl rfl Tryd.underlying36 (.int .u8 0) 1 info5 rfl (by decide) (by omega) 0 (ok := fun _ => True) (okp := fun _ => True) rfl (fun _ hk => hk) trivial (of_decide_eq_true (by first | (with_reducible assumption) | assumption)) (Nat.le_trans (Nat.mul_le_mul_right _ (of_decide_eq_true (by first | (with_reducible assumption) | assumption) : (wrap64 (1 + (wrap64 (Int.tmod (IntKind.u64.wrap (a0_0)) 4)))).toNat ≤ 281474976710656)) (by omega)) (Below.refl _ _) (Nat.le_refl _) ?_; intro v113 w45 ho46 hb hg_ hnew_; clear hg_ hnew_; (first | rw [← Ny112.out] at ho46 | (simp only [Int.reduceToNat] at ho46; rw [← Ny112.out] at ho46)); have n0_ := AQ (Kd.S_elder' (PS HO_104001) (Kd.R_base ho46) hb); have n1_ := AQ (Kd.R_lower ho46 (below_size (by repeat (first | (with_reducible first | exact HB.out | apply below_alloc | apply pw_below_drewN | apply below_drew1 | refine below_set ?_ GE101.out | refine below_set ?_ GE102.out | refine below_set ?_ GE103.out) | exact HB.out)))); have n2_ := AQ (blk_below (g := gb101) (o := .cells #[.int .i64 a0_0, .slice A0_1 l0_1.length c0_1, .slice A0_2 l0_2.length c0_2] 25 (0, 0)) (PK BK101) hb); have n3_ := AQ (blk_below (g := gb102) (o := .cells #[.int .i64 0, .slice none 0 0, .slice none 0 0] 25 (0, 0)) (PK BK102) hb); have n4_ := AQ (blk_below (g := gb103) (o := .cells #[.int .i64 (wrap64 (1 + (wrap64 (Int.tmod (IntKind.u64.wrap (a0_0)) 4)))), .slice Ao41 x104001_1.length co41, .slice none 0 0] 25 (0, 0)) (PK BK103) hb); have n5_ := AQ (below_step (by repeat (first | (with_reducible first | exact HB.out | apply below_alloc | apply pw_below_drewN | apply below_drew1 | refine below_set ?_ GE101.out | refine below_set ?_ GE102.out | refine below_set ?_ GE103.out) | exact HB.out)) hb); clear HO_104001; clear BK101; clear BK102; clear BK103; clear HB; have HO_104001 := n0_; have HO114 := n1_; have BK101 := n2_; have BK102 := n3_; have BK103 := n4_; have HB := n5_; clear n0_ n1_ n2_ n3_ n4_ n5_; clear hb ho46; obtain ⟨Ao47, co47, eo47⟩ := Kd.R_slice HO114.out; subst eo47) | ((with_reducible refine gate_dst (N := 48) rfl ?_); refine Kd.S_lit1 (Kd.int .u8) 36 5 w.heap.size ?hg (N := 48) ?hd (x := y112) (v := (.slice Ao47 y112.length co47)) (ok := (fun k_ => some k_ ≠ (.slice Ao41 x104001_1.length co41 : Value).ownBlock)) (okp := (fun k_ => some k_ ≠ (.slice Ao41 x104001_1.length co41 : Value).ownBlock)) ?hr ?hp ?h1 ?h2 ?h3 ?_; (case hd => rfl); (case hg => rfl); (case hr => first | (go_simp; done) | (go_simp; rfl)); (case hp => (with_reducible repeat (first | apply Kd.R_alloc | apply Kd.R_drewN | apply Kd.R_drew)); exact Kd.R_mono (Kd.R_apart' HO114.out (Kd.S_typed HO_104001.out) (by decide)) (fun k_ hk_ => hk_.2)); (case h1 => exact (fun _ hk => hk)); (case h2 => exact (Kd.fresh' (Kd.S_lt (PS HO_104001)) _ (Nat.le_refl _))); (case h3 => exact (below_size (by repeat (first | (with_reducible first | exact HB.out | apply below_alloc | apply pw_below_drewN | apply below_drew1 | refine below_set ?_ GE101.out | refine below_set ?_ GE102.out | refine below_set ?_ GE103.out) | exact HB.out)))); intro v116 w48 ho49 hfr_ hb; rw [← Ny115.out] at ho49; have n0_ := AQ (Kd.S_elder' (PS HO_104001) hfr_ hb); have n1_ := AQ (ho49); have n2_ := AQ (blk_below (g := gb101) (o := .cells #[.int .i64 a0_0, .slice A0_1 l0_1.length c0_1, .slice A0_2 l0_2.length c0_2] 25 (0, 0)) (PK BK101) hb); have n3_ := AQ (blk_below (g := gb102) (o := .cells #[.int .i64 0, .slice none 0 0, .slice none 0 0] 25 (0, 0)) (PK BK102) hb); have n4_ := AQ (blk_below (g := gb103) (o := .cells #[.int .i64 (wrap64 (1 + (wrap64 (Int.tmod (IntKind.u64.wrap (a0_0)) 4)))), .slice Ao41 x104001_1.length co41, .slice none 0 0] 25 (0, 0)) (PK BK103) hb); have n5_ := AQ (below_step (by repeat (first | (with_reducible first | exact HB.out | apply below_alloc | apply pw_below_drewN | apply below_drew1 | refine below_set ?_ GE101.out | refine below_set ?_ GE102.out | refine below_set ?_ GE103.out) | exact HB.out)) hb); clear HO_104001; clear BK101; clear BK102; clear BK103; clear HB; clear HO114; have HO_104001 := n0_; have HO117 := n1_; have BK101 := n2_; have BK102 := n3_; have BK103 := n4_; have HB := n5_; clear n0_ n1_ n2_ n3_ n4_ n5_; clear hb hfr_ ho49; obtain ⟨Ao50, co50, eo50⟩ := Kd.S_slice HO117.out; subst eo50; have hnb51 := NB103_101.out; have hnc51 := NB101_103.out; have hnb52 := NB103_102.out; have hnc52 := NB102_103.out; have hcz53_0 : w48.cell? ⟨gb103, 0, none⟩ = some (.int .i64 (wrap64 (1 + (wrap64 (Int.tmod (IntKind.u64.wrap (a0_0)) 4))))) := (blk_cell BK103.out 0).trans rfl; have hcz53_1 : w48.cell? ⟨gb103, 1, none⟩ = some (.slice Ao41 x104001_1.length co41) := (blk_cell BK103.out 1).trans rfl; have hcz53_2 : w48.cell? ⟨gb103, 2, none⟩ = some (.slice none 0 0) := (blk_cell BK103.out 2).trans rfl; have hfz53_0 := blk_frozen BK103.out 0; have hfz53_1 := blk_frozen BK103.out 1; have hfz53_2 := blk_frozen BK103.out 2))
       go_meet
       case rel => exact ⟨_, (y115), (.slice Ao50 y115.length co50), H', ⟨by have := HJ1.out; first | omega | exact Nat.le_refl _⟩, ⟨by (with_reducible repeat (first | apply Kd.S_alloc | apply Kd.S_drewN | apply Kd.S_drew)); exact Kd.S_mono (Kd.S_far (p := ⟨gb103, 1, none⟩) (Kd.S_types HO117.out BK103.out (by decide)) (fun _ hk => hk.2) (.slice Ao50 y115.length co50)) (fun _ hk => trivial)⟩, ⟨by (with_reducible repeat (first | refine blk_drewN ?_ _ | refine blk_drew ?_ | refine blk_alloc ?_ _)); refine blk_far ?_ NB101_103.out _; (with_reducible repeat (first | refine blk_drewN ?_ _ | refine blk_drew ?_ | refine blk_alloc ?_ _)); exact BK101.out⟩, ⟨by (with_reducible repeat (first | refine blk_drewN ?_ _ | refine blk_drew ?_ | refine blk_alloc ?_ _)); refine blk_far ?_ NB102_103.out _; (with_reducible repeat (first | refine blk_drewN ?_ _ | refine blk_drew ?_ | refine blk_alloc ?_ _)); exact BK102.out⟩, ⟨by (with_reducible repeat (first | refine blk_drewN ?_ _ | refine blk_drew ?_ | refine blk_alloc ?_ _)); refine blk_put (cs := #[.int .i64 (wrap64 (1 + (wrap64 (Int.tmod (IntKind.u64.wrap (a0_0)) 4)))), .slice Ao41 x104001_1.length co41, .slice none 0 0]) ?_ 1 _ rfl; (with_reducible repeat (first | refine blk_drewN ?_ _ | refine blk_drew ?_ | refine blk_alloc ?_ _)); exact BK103.out⟩, ⟨by repeat (first | (with_reducible first | exact HB.out | apply below_alloc | apply pw_below_drewN | apply below_drew1 | refine below_set ?_ GE101.out | refine below_set ?_ GE102.out | refine below_set ?_ GE103.out) | exact HB.out)⟩⟩
      ·rw [if_neg c44] at H
       exact absurd H (by simp)
     ·rw [if_neg c43] at H
      exact absurd H (by simp)
    ·rw [if_neg c42] at H
     have c42b0 : ((x104001_1.length : Int) == 0) = false := beq_eq_false_iff_ne.mpr c42
     have c42b1 : ((x104001_1.length : Int) != 0) = true := bne_iff_ne.mpr c42
     have c42b2 : ¬ (x104001_1 = []) := fun h_ => c42 (by rw [h_]; rfl)
     (first | rw [c42b0] | rw [c42b1] | (simp only [i64_w, i32_w]; rw [c42b0]) | skip)
     have H' := AQ H
     clear H
     go_wp2
     go_meet
     case rel => exact ⟨_, (x104001_1), (.slice Ao41 x104001_1.length co41), H', ⟨by have := HJ1.out; first | omega | exact Nat.le_refl _⟩, ⟨PS HO_104001⟩, ⟨PK BK101⟩, ⟨PK BK102⟩, ⟨PK BK103⟩, ⟨by repeat (first | (with_reducible first | exact HB.out | apply below_alloc | apply pw_below_drewN | apply below_drew1 | refine below_set ?_ GE101.out | refine below_set ?_ GE102.out | refine below_set ?_ GE103.out) | exact HB.out)⟩⟩
   case rest =>
    clear HC37
    try clear c1
    try clear p1
    try clear q1
    try clear hx1
    try clear c2
    try clear p2
    try clear c3
    try clear c4
    try clear c5
    try clear p6
    try clear c8
    try clear c9
    try clear c10
    try clear p10
    try clear q10
    try clear hx10
    try clear c11
    try clear c11b0
    try clear c11b1
    try clear c12
    try clear c12b0
    try clear c13
    try clear c13b0
    try clear c13b1
    try clear c14
    try clear c14b0
    try clear c14b1
    try clear c15
    try clear c15b0
    try clear c16
    try clear c17
    try clear c18
    try clear c26
    try clear c31
    try clear c32
    try clear c34
    try clear c35
    try clear c38
    try clear c39
    try clear c42
    try clear c42b0
    try clear c42b1
    try clear c42b2
    try clear c43
    try clear c43b0
    try clear c43b1
    try clear c44
    try clear c44b0
    try clear c44b1
    try clear c51
    try clear c52
    try clear hcz10_0
    try clear hcz10_1
    try clear hcz10_2
    try clear hcz19_0
    try clear hcz19_1
    try clear hcz19_2
    try clear hcz22_0
    try clear hcz22_1
    try clear hcz22_2
    try clear hcz27_0
    try clear hcz27_1
    try clear hcz27_2
    try clear hcz30_0
    try clear hcz30_1
    try clear hcz30_2
    try clear hcz33_0
    try clear hcz33_1
    try clear hcz33_2
    try clear hcz36_0
    try clear hcz36_1
    try clear hcz36_2
    try clear hcz40_0
    try clear hcz40_1
    try clear hcz40_2
    try clear hcz53_0
    try clear hcz53_1
    try clear hcz53_2
    try clear hcz6_0
    try clear hcz6_1
    try clear hcz6_2
    try clear hfz10_0
    try clear hfz10_1
    try clear hfz10_2
    try clear hfz19_0
    try clear hfz19_1
    try clear hfz19_2
    try clear hfz22_0
    try clear hfz22_1
    try clear hfz22_2
    try clear hfz27_0
    try clear hfz27_1
    try clear hfz27_2
    try clear hfz30_0
    try clear hfz30_1
    try clear hfz30_2
    try clear hfz33_0
    try clear hfz33_1
    try clear hfz33_2
    try clear hfz36_0
    try clear hfz36_1
    try clear hfz36_2
    try clear hfz40_0
    try clear hfz40_1
    try clear hfz40_2
    try clear hfz53_0
    try clear hfz53_1
    try clear hfz53_2
    try clear hfz6_0
    try clear hfz6_1
    try clear hfz6_2
    try clear hx107_0
    try clear p1
    try clear p10
    try clear p107
    try clear p2
    try clear p6
    try clear q1
    try clear q10
    try clear q107
    obtain ⟨kq, x104001_36, u104001, HA, HJ36, HO_104001, BK101, BK102, BK103, HB⟩ := hcut
    cases kq with
    | zero => exact absurd HA.out (by simp [geyserlaw05_fit.j2])
    | succ kj36 =>
     have H := HA.out
     clear HA
     simp only [geyserlaw05_fit.j2] at H
     have H' := AQ H
     clear H
     go_wp2
     go_loopg [7] kj36 (fun kq v7 w' => ∃ (x7_3 : Int) (x104002_3 : List Int) (u104002 : Value), v7 = .int .i64 x7_3 ∧ Aside0 (geyserlaw05_fit.l1 kq x7_3 a0_0 l0_1 l0_2 (wrap64 (1 + (wrap64 (Int.tmod (IntKind.u64.wrap (a0_0)) 4)))) x104001_36 x104002_3 = some (r1, r2, r3)) ∧ Aside0 (kq ≤ kj36) ∧ Aside0 (Kd.S (Kd.slice 5 (Kd.int .u8)) 36 w' w.heap.size (fun _ => True) u104001 x104001_36) ∧ Aside0 (Kd.R (Kd.int .u64) 35 w' w.heap.size (fun _ => True) u104002 x104002_3) ∧ Aside0 (w'.heap[gb101]? = some (.cells #[.int .i64 a0_0, (.slice A0_1 l0_1.length c0_1), (.slice A0_2 l0_2.length c0_2)] 25 (0, 0))) ∧ Aside0 (w'.heap[gb102]? = some (.cells #[.int .i64 0, (.slice none 0 0), (.slice none 0 0)] 25 (0, 0))) ∧ Aside0 (w'.heap[gb103]? = some (.cells #[.int .i64 (wrap64 (1 + (wrap64 (Int.tmod (IntKind.u64.wrap (a0_0)) 4)))), u104001, u104002] 25 (0, 0))) ∧ Aside0 (Below w.heap.size w w'))
     case atStart => exact ⟨(0), (([] : List Int)), (.slice none 0 0), (by first | rfl | (simp; done) | (simp [*]; done)), H', ⟨Nat.le_refl _⟩, ⟨PS HO_104001⟩, ⟨by first | exact Kd.R_nil _ _ _ _ _ | exact Kd.N_nil _ _ _ _ _ | exact Kd.V_nil _ _ _ _ _ | exact Kd.Q_nil _ _ _ _ _ | exact Kd.S_nil _ _ _ _ _⟩, ⟨PK BK101⟩, ⟨PK BK102⟩, ⟨PK BK103⟩, ⟨by repeat (first | (with_reducible first | exact HB.out | apply below_alloc | apply pw_below_drewN | apply below_drew1 | refine below_set ?_ GE101.out | refine below_set ?_ GE102.out | refine below_set ?_ GE103.out) | exact HB.out)⟩⟩
     case round =>
      clear H'
      try clear c1
      try clear p1
      try clear q1
      try clear hx1
      try clear c2
      try clear p2
      try clear c3
      try clear c4
      try clear c5
      try clear p6
      try clear c8
      try clear c9
      try clear c10
      try clear p10
      try clear q10
      try clear hx10
      try clear c11
      try clear c11b0
      try clear c11b1
      try clear c12
      try clear c12b0
      try clear c13
      try clear c13b0
      try clear c13b1
      try clear c14
      try clear c14b0
      try clear c14b1
      try clear c15
      try clear c15b0
      try clear c16
      try clear c17
      try clear c18
      try clear c26
      try clear c31
      try clear c32
      try clear c34
      try clear c35
      try clear c38
      try clear c39
      try clear c42
      try clear c42b0
      try clear c42b1
      try clear c42b2
      try clear c43
      try clear c43b0
      try clear c43b1
      try clear c44
      try clear c44b0
      try clear c44b1
      try clear c51
      try clear c52
      try clear hcz10_0
      try clear hcz10_1
      try clear hcz10_2
      try clear hcz19_0
      try clear hcz19_1
      try clear hcz19_2
      try clear hcz22_0
      try clear hcz22_1
      try clear hcz22_2
      try clear hcz27_0
      try clear hcz27_1
      try clear hcz27_2
      try clear hcz30_0
      try clear hcz30_1
      try clear hcz30_2
      try clear hcz33_0
      try clear hcz33_1
      try clear hcz33_2
      try clear hcz36_0
      try clear hcz36_1
      try clear hcz36_2
      try clear hcz40_0
      try clear hcz40_1
      try clear hcz40_2
      try clear hcz53_0
      try clear hcz53_1
      try clear hcz53_2
      try clear hcz6_0
      try clear hcz6_1
      try clear hcz6_2
      try clear hfz10_0
      try clear hfz10_1
      try clear hfz10_2
      try clear hfz19_0
      try clear hfz19_1
      try clear hfz19_2
      try clear hfz22_0
      try clear hfz22_1
      try clear hfz22_2
      try clear hfz27_0
      try clear hfz27_1
      try clear hfz27_2
      try clear hfz30_0
      try clear hfz30_1
      try clear hfz30_2
      try clear hfz33_0
      try clear hfz33_1
      try clear hfz33_2
      try clear hfz36_0
      try clear hfz36_1
      try clear hfz36_2
      try clear hfz40_0
      try clear hfz40_1
      try clear hfz40_2
      try clear hfz53_0
      try clear hfz53_1
      try clear hfz53_2
      try clear hfz6_0
      try clear hfz6_1
      try clear hfz6_2
      try clear hx107_0
      try clear p1
      try clear p10
      try clear p107
      try clear p2
      try clear p6
      try clear q1
      try clear q10
      try clear q107
      obtain ⟨x7_3, x104002_3, u104002, rfl, HA, HK3, HO_104001, HO_104002, BK101, BK102, BK103, HB⟩ := hrel
      cases gk with
      | zero => exact absurd HA.out (by simp [geyserlaw05_fit.l1])
      | succ k3 =>
       have H := HA.out
       clear HA
       simp only [geyserlaw05_fit.l1] at H
       by_cases c54 : x7_3 < (l0_2.length : Int)
       ·rw [if_pos c54] at H
        have c54b0 : decide (x7_3 < (l0_2.length : Int)) = true := decide_eq_true c54
        clear c54
        by_cases c55 : x7_3 < 24
        ·rw [if_pos c55] at H
         have c55b0 : decide (x7_3 < 24) = true := decide_eq_true c55
         clear c55
         by_cases c56 : 0 ≤ x7_3
         ·rw [if_pos c56] at H
          have c56b0 : decide (0 ≤ x7_3) = true := decide_eq_true c56
          clear c56
          by_cases c57 : 0 ≤ (IntKind.u64.wrap ((x104001_36.length : Int)))
          ·rw [if_pos c57] at H
           have c57b0 := eq_true c57
           have c57b1 : decide (0 ≤ (IntKind.u64.wrap ((x104001_36.length : Int)))) = true := decide_eq_true c57
           clear c57
           obtain ⟨ji58, hji58⟩ : ∃ j_ : Int, (shl .u64 1 (IntKind.u64.wrap ((x104001_36.length : Int)))) = j_ := ⟨_, rfl⟩
           replace H : (if x104002_3.length < 17592186044416 then (geyserlaw05_fit.l1 k3 (wrap64 (x7_3 + 1)) a0_0 l0_1 l0_2 (wrap64 (1 + (wrap64 (Int.tmod (IntKind.u64.wrap (a0_0)) 4)))) x104001_36 (x104002_3 ++ [Go.bits .and .u64 (rd l0_2 x7_3) (IntKind.u64.wrap ((ji58) - 1))])) else (none)) = some (r1, r2, r3) := by first | (rw [hji58] at H; exact H) | (simp only [hji58] at H ⊢; exact H)
           have hji58_ : (IntKind.u64.wrap (1 * 2 ^ min (IntKind.u64.wrap ((x104001_36.length : Int))).toNat 64)) = ji58 := hji58
           have hji58z : (IntKind.u64.wrap ((x104001_36.length : Int))) ≤ 64 → (IntKind.u64.wrap (1 * 2 ^ (IntKind.u64.wrap ((x104001_36.length : Int))).toNat)) = ji58 := shl_small hji58
           have hji58u : (IntKind.u64.wrap (2 ^ min (IntKind.u64.wrap ((x104001_36.length : Int))).toNat 64)) = ji58 := by have h_ := hji58_; rw [Int.one_mul] at h_; exact h_
           have hji58v : (IntKind.u64.wrap ((x104001_36.length : Int))) ≤ 64 → (IntKind.u64.wrap (2 ^ (IntKind.u64.wrap ((x104001_36.length : Int))).toNat)) = ji58 := fun hle_ => by have h_ := hji58z hle_; rw [Int.one_mul] at h_; exact h_
           by_cases c59 : x104002_3.length < 17592186044416
           ·rw [if_pos c59] at H
            have LMc59 := AQ c59
            clear c59
            obtain ⟨y119, hy119⟩ : ∃ y_ : List Int, y_ = (x104002_3 ++ [Go.bits .and .u64 (rd l0_2 x7_3) (IntKind.u64.wrap ((ji58) - 1))]) := ⟨_, rfl⟩
            replace H : (geyserlaw05_fit.l1 k3 (wrap64 (x7_3 + 1)) a0_0 l0_1 l0_2 (wrap64 (1 + (wrap64 (Int.tmod (IntKind.u64.wrap (a0_0)) 4)))) x104001_36 y119) = some (r1, r2, r3) := by first | (rw [hy119]; with_reducible exact H) | (have H2_ := (Option.bind_some _ _).symm.trans H; rw [hy119]; with_reducible exact H2_) | (have H2_ := (Option.bind_some _ _).symm.trans H; with_reducible exact H2_) | with_reducible exact H | (rw [hy119]; exact H) | exact H
            have Ny119 := AQ hy119
            clear hy119
            have H' := AQ H
            clear H
            have hnb60 := NB101_102.out
            have hnc60 := NB102_101.out
            have hnb61 := NB101_103.out
            have hnc61 := NB103_101.out
            have hcz62_0 : wr.cell? ⟨gb101, 0, none⟩ = some (.int .i64 a0_0) := (blk_cell BK101.out 0).trans rfl
            have hcz62_1 : wr.cell? ⟨gb101, 1, none⟩ = some (.slice A0_1 l0_1.length c0_1) := (blk_cell BK101.out 1).trans rfl
            have hcz62_2 : wr.cell? ⟨gb101, 2, none⟩ = some (.slice A0_2 l0_2.length c0_2) := (blk_cell BK101.out 2).trans rfl
            have hfz62_0 := blk_frozen BK101.out 0
            have hfz62_1 := blk_frozen BK101.out 1
            have hfz62_2 := blk_frozen BK101.out 2
            try go_wp2
            have n0_ := AQ (Kd.S_drew HO_104001.out)
            have n1_ := AQ (Kd.R_drew HO_104002.out)
            have n2_ := AQ (blk_drew BK101.out)
            have n3_ := AQ (blk_drew BK102.out)
            have n4_ := AQ (blk_drew BK103.out)
            have n5_ := AQ (below_drew1 HB.out)
            clear HO_104001
            clear HO_104002
            clear BK101
            clear BK102
            clear BK103
            clear HB
            have HO_104001 := n0_
            have HO_104002 := n1_
            have BK101 := n2_
            have BK102 := n3_
            have BK103 := n4_
            have HB := n5_
            clear n0_ n1_ n2_ n3_ n4_ n5_
            have p118 : 0 ≤ (x7_3 : Int) := of_decide_eq_true (by first | (with_reducible assumption) | assumption)
            have q118 : x7_3 < (l0_2.length : Int) := of_decide_eq_true (by first | (with_reducible assumption) | assumption)
            obtain ⟨ad118, e118, hx118_0⟩ := Kd.at_int HR0_2.out x7_3 p118 q118
            have hw118_0 := hx118_0
            cases e118
            (first | replace hx118_0 := (HB.out.cell (World.block_lt_of_cell? w _ hx118_0)).trans hx118_0 | skip)
            replace p118 := eq_true p118
            replace q118 := eq_true q118
            obtain ⟨Ao64, co64, eo64⟩ := Kd.S_slice HO_104001.out
            (first | subst eo64 | (injection eo64 with f1_ f2_ f3_; have f4_ := f1_.symm; have f5_ := f3_.symm; clear f1_ f2_ f3_; subst f4_; subst f5_))
            refine start_ (n := 18) (S := fun w' => w'.cell? ⟨gb103, 0, none⟩ = some (.int .i64 (wrap64 (1 + (wrap64 (Int.tmod (IntKind.u64.wrap (a0_0)) 4))))) ∧ w'.cell? ⟨gb103, 1, none⟩ = some (.slice Ao64 x104001_36.length co64) ∧ w'.cell? ⟨gb103, 2, none⟩ = some (u104002) ∧ w'.cell? ⟨gb101, 0, none⟩ = some (.int .i64 a0_0) ∧ w'.cell? ⟨gb101, 1, none⟩ = some (.slice A0_1 l0_1.length c0_1) ∧ w'.cell? ⟨gb101, 2, none⟩ = some (.slice (some ad118) l0_2.length c0_2) ∧ w'.cell? (ad118.add (x7_3).toNat) = some (.int .u64 (rd l0_2 x7_3))) (ds := [17]) #[false, false, false, false, false, false, false, false, false, false, false, false, false, false, false, false, false, false] (by kernel_rfl) rfl rfl ⟨(blk_cell BK103.out 0).trans rfl, (blk_cell BK103.out 1).trans rfl, (blk_cell BK103.out 2).trans rfl, (blk_cell BK101.out 0).trans rfl, (blk_cell BK101.out 1).trans rfl, (blk_cell BK101.out 2).trans rfl, ((HB.out.cell (World.block_lt_of_cell? w _ hw118_0)).trans hw118_0)⟩ (fun hHeld => ?_); refine with_tabW geyserlaw05_fit.tab14 geyserlaw05_fit.bits14 (fun HT_ HW_ => ?_)
            generalize wr.drew = w63 at HO_104001 HO_104002 BK101 BK102 BK103 HB hx118_0 hHeld ⊢
            refine pure_ (i := 0) (N := some 61) (v := ?_) (a' := ?_) #[true, false, false, false, false, false, false, false, false, false, false, false, false, false, false, false, false, false] rfl rfl (any_of HT_.out (by kernel_rfl)) (fun _ _ _ h => h) (Or.inl ⟨by rfl, ?_⟩) ?_ ?_
            rotate_left
            ·intro w'
             go_simp
             with_reducible rfl
            rotate_left
            ·simp only [Act.put, qT, qZ, qS, i64_w, i32_w]
             rfl
            refine pure_ (i := 2) (N := some 63) (v := ?_) (a' := ?_) #[true, false, true, false, false, false, false, false, false, false, false, false, false, false, false, false, false, false] rfl rfl (any_of HT_.out (by kernel_rfl)) (fun _ _ _ h => h) (Or.inl ⟨by rfl, ?_⟩) ?_ ?_
            rotate_left
            ·intro w'
             go_simp
             with_reducible rfl
            rotate_left
            ·simp only [Act.put, qT, qZ, qS, i64_w, i32_w]
             rfl
            refine pure_ (i := 4) (N := some 65) (v := ?_) (a' := ?_) #[true, false, true, false, true, false, false, false, false, false, false, false, false, false, false, false, false, false] rfl rfl (any_of HT_.out (by kernel_rfl)) (fun _ _ _ h => h) (Or.inl ⟨by rfl, ?_⟩) ?_ ?_
            rotate_left
            ·intro w'
             go_simp
             with_reducible rfl
            rotate_left
            ·simp only [Act.put, qT, qZ, qS, i64_w, i32_w]
             rfl
            refine pure_ (i := 7) (N := some 68) (v := ?_) (a' := ?_) #[true, false, true, false, true, false, false, true, false, false, false, false, false, false, false, false, false, false] rfl rfl (any_of HT_.out (by kernel_rfl)) (fun _ _ _ h => h) (Or.inl ⟨by rfl, ?_⟩) ?_ ?_
            rotate_left
            ·intro w'
             go_simp
             with_reducible rfl
            rotate_left
            ·simp only [Act.put, qT, qZ, qS, i64_w, i32_w]
             rfl
            refine take_ (i := 1) (N := some 62) (v := ?_) (a' := ?_) #[true, true, true, false, true, false, false, true, false, false, false, false, false, false, false, false, false, false] rfl rfl (take_ofW HT_.out HW_.out (by kernel_rfl)) (fun _ _ _ h => h) (Or.inl ⟨by rfl, ?_⟩) hHeld ?_ ?_
            rotate_left
            ·rintro w' ⟨s0, s1, s2, s3, s4, s5, s6⟩
             go_simp
             with_reducible rfl
            rotate_left
            ·simp only [Act.put, qT, qZ, qS, i64_w, i32_w]
             rfl
            refine take_ (i := 3) (N := some 64) (v := ?_) (a' := ?_) #[true, true, true, true, true, false, false, true, false, false, false, false, false, false, false, false, false, false] rfl rfl (take_ofW HT_.out HW_.out (by kernel_rfl)) (fun _ _ _ h => h) (Or.inl ⟨by rfl, ?_⟩) hHeld ?_ ?_
            rotate_left
            ·rintro w' ⟨s0, s1, s2, s3, s4, s5, s6⟩
             go_simp
             with_reducible rfl
            rotate_left
            ·simp only [Act.put, qT, qZ, qS, i64_w, i32_w]
             rfl
            refine pure_ (i := 5) (N := some 66) (v := ?_) (a' := ?_) #[true, true, true, true, true, true, false, true, false, false, false, false, false, false, false, false, false, false] rfl rfl (any_of HT_.out (by kernel_rfl)) (fun _ _ _ h => h) (Or.inl ⟨by rfl, ?_⟩) ?_ ?_
            rotate_left
            ·intro w'
             go_simp
             with_reducible rfl
            rotate_left
            ·simp only [Act.put, qT, qZ, qS, i64_w, i32_w]
             rfl
            refine take_ (i := 6) (N := some 67) (v := ?_) (a' := ?_) #[true, true, true, true, true, true, true, true, false, false, false, false, false, false, false, false, false, false] rfl rfl (take_ofW HT_.out HW_.out (by kernel_rfl)) (fun _ _ _ h => h) (Or.inl ⟨by rfl, ?_⟩) hHeld ?_ ?_
            rotate_left
            ·rintro w' ⟨s0, s1, s2, s3, s4, s5, s6⟩
             go_simp
             with_reducible rfl
            rotate_left
            ·simp only [Act.put, qT, qZ, qS, i64_w, i32_w]
             rfl
            refine take_ (i := 8) (N := some 69) (v := ?_) (a' := ?_) #[true, true, true, true, true, true, true, true, true, false, false, false, false, false, false, false, false, false] rfl rfl (take_ofW HT_.out HW_.out (by kernel_rfl)) (fun _ _ _ h => h) (Or.inl ⟨by rfl, ?_⟩) hHeld ?_ ?_
            rotate_left
            ·rintro w' ⟨s0, s1, s2, s3, s4, s5, s6⟩
             go_simp
             with_reducible rfl
            rotate_left
            ·simp only [Act.put, qT, qZ, qS, i64_w, i32_w]
             rfl
            refine pure_ (i := 9) (N := some 70) (v := ?_) (a' := ?_) #[true, true, true, true, true, true, true, true, true, true, false, false, false, false, false, false, false, false] rfl rfl (any_of HT_.out (by kernel_rfl)) (fun _ _ _ h => h) (Or.inl ⟨by rfl, ?_⟩) ?_ ?_
            rotate_left
            ·intro w'
             go_simp
             with_reducible rfl
            rotate_left
            ·simp only [Act.put, qT, qZ, qS, i64_w, i32_w]
             rfl
            refine pure_ (i := 10) (N := some 71) (v := ?_) (a' := ?_) #[true, true, true, true, true, true, true, true, true, true, true, false, false, false, false, false, false, false] rfl rfl (any_of HT_.out (by kernel_rfl)) (fun _ _ _ h => h) (Or.inl ⟨by rfl, ?_⟩) ?_ ?_
            rotate_left
            ·intro w'
             go_simp
             with_reducible rfl
            rotate_left
            ·simp only [Act.put, qT, qZ, qS, i64_w, i32_w]
             rfl
            refine pure_ (i := 11) (N := some 72) (v := ?_) (a' := ?_) #[true, true, true, true, true, true, true, true, true, true, true, true, false, false, false, false, false, false] rfl rfl (any_of HT_.out (by kernel_rfl)) (fun _ _ _ h => h) (Or.inl ⟨by rfl, ?_⟩) ?_ ?_
            rotate_left
            ·intro w'
             go_simp
             with_reducible rfl
            rotate_left
            ·simp only [Act.put, qT, qZ, qS, i64_w, i32_w]
             rfl
            refine pure_ (i := 12) (N := some 73) (v := ?_) (a' := ?_) #[true, true, true, true, true, true, true, true, true, true, true, true, true, false, false, false, false, false] rfl rfl (any_of HT_.out (by kernel_rfl)) (fun _ _ _ h => h) (Or.inl ⟨by rfl, ?_⟩) ?_ ?_
            rotate_left
            ·intro w'
             go_simp
             with_reducible rfl
            rotate_left
            ·simp only [Act.put, qT, qZ, qS, i64_w, i32_w]
             rfl
            refine pure_ (i := 13) (N := some 74) (v := ?_) (a' := ?_) #[true, true, true, true, true, true, true, true, true, true, true, true, true, true, false, false, false, false] rfl rfl (any_of HT_.out (by kernel_rfl)) (fun _ _ _ h => h) (Or.inl ⟨by rfl, ?_⟩) ?_ ?_
            rotate_left
            ·intro w'
             go_simp
             with_reducible rfl
            rotate_left
            ·simp only [Act.put, qT, qZ, qS, i64_w, i32_w]
             rfl
            refine one_ (i := 14) (N := some 75) #[true, true, true, true, true, true, true, true, true, true, true, true, true, true, true, false, false, false] rfl rfl (one_of HT_.out (by kernel_rfl)) (by decide) (fun K hK => ?_)
            refine value_ (w1 := ?_) (v := ?_) (by rfl) rfl ?_ ?_
            rotate_left 2
            ·go_simp
             constructor
             ·rfl
             ·rfl
            refine hK.out _ _ ⟨(blk_cell (blk_alloc BK103.out _) 0).trans rfl, (blk_cell (blk_alloc BK103.out _) 1).trans rfl, (blk_cell (blk_alloc BK103.out _) 2).trans rfl, (blk_cell (blk_alloc BK101.out _) 0).trans rfl, (blk_cell (blk_alloc BK101.out _) 1).trans rfl, (blk_cell (blk_alloc BK101.out _) 2).trans rfl, (World.cell?_alloc_lt _ _ _ (World.block_lt_of_cell? _ _ (((HB.out.cell (World.block_lt_of_cell? w _ hw118_0)).trans hw118_0)))).trans (((HB.out.cell (World.block_lt_of_cell? w _ hw118_0)).trans hw118_0))⟩ (fun hHeld => ?_)
            clear hK K
            refine norm_ (a' := ?_) ?_ ?_
            rotate_left
            ·show Act.put _ (some 75) _ = _
             simp only [Act.put, qT, qZ, qS, i64_w, i32_w]
             rfl
            refine one_ (i := 15) (N := some 76) #[true, true, true, true, true, true, true, true, true, true, true, true, true, true, true, true, false, false] rfl rfl (one_of HT_.out (by kernel_rfl)) (by decide) (fun K hK => ?_)
            refine Kd.R_append_step (Kd.int .u64) (w0 := w) w.heap.size (by rfl) (.tmp 62) (.tmp 75) 23 35 (.int .u64 0) 8 rfl Tryd.underlying23 info35 rfl (by decide) (by omega) u104002 x104002_3 (Go.bits .and .u64 (rd l0_2 x7_3) (IntKind.u64.wrap ((ji58) - 1))) [.int .u64 (Go.bits .and .u64 (rd l0_2 x7_3) (IntKind.u64.wrap ((ji58) - 1)))] (fun _ => True) (fun _ => False) rfl rfl ?aP (fun _ hk => hk.elim) ?aF ?aO ?aB ?aS ?aL ?_
            (case aP => exact rfl)
            (case aB => exact (by repeat (first | (with_reducible first | exact HB.out | apply below_alloc | apply pw_below_drewN | apply below_drew1 | refine below_set ?_ GE101.out | refine below_set ?_ GE102.out | refine below_set ?_ GE103.out) | exact HB.out)))
            (case aF => exact (fun _ _ => trivial))
            (case aO => exact (PR HO_104002))
            (case aS => exact (below_size (by repeat (first | (with_reducible first | exact HB.out | apply below_alloc | apply pw_below_drewN | apply below_drew1 | refine below_set ?_ GE101.out | refine below_set ?_ GE102.out | refine below_set ?_ GE103.out) | exact HB.out))))
            (case aL => have := LMc59.out; omega)
            intro v120 w65 ho hb hg hat
            rw [← Ny119.out] at ho
            have n0_ := AQ (Kd.S_over' (PS HO_104001) (Kd.R_typed (PR HO_104002)) (by decide) hg)
            have n1_ := AQ (blk_grown (g := gb101) (o := .cells #[.int .i64 a0_0, .slice A0_1 l0_1.length c0_1, .slice (some ad118) l0_2.length c0_2] 25 (0, 0)) (PK BK101) hg (Kd.R_ne HO_104002.out BK101.out (by decide)))
            have n2_ := AQ (blk_grown (g := gb102) (o := .cells #[.int .i64 0, .slice none 0 0, .slice none 0 0] 25 (0, 0)) (PK BK102) hg (Kd.R_ne HO_104002.out BK102.out (by decide)))
            have n3_ := AQ (blk_grown (g := gb103) (o := .cells #[.int .i64 (wrap64 (1 + (wrap64 (Int.tmod (IntKind.u64.wrap (a0_0)) 4)))), .slice Ao64 x104001_36.length co64, u104002] 25 (0, 0)) (PK BK103) hg (Kd.R_ne HO_104002.out BK103.out (by decide)))
            have n4_ := AQ (hb)
            have n5_ := AQ (ho)
            clear HO_104001
            clear BK101
            clear BK102
            clear BK103
            clear HB
            clear HO_104002
            have HO_104001 := n0_
            have BK101 := n1_
            have BK102 := n2_
            have BK103 := n3_
            have HB := n4_
            have HO121 := n5_
            clear n0_ n1_ n2_ n3_ n4_ n5_
            clear ho hb hg hat
            obtain ⟨Ao66, co66, eo66⟩ := Kd.R_slice HO121.out
            (first | subst eo66 | (injection eo66 with f1_ f2_ f3_; have f4_ := f1_.symm; have f5_ := f3_.symm; clear f1_ f2_ f3_; subst f4_; subst f5_))
            refine hK.out _ _ ⟨(blk_cell BK103.out 0).trans rfl, (blk_cell BK103.out 1).trans rfl, (blk_cell BK103.out 2).trans rfl, (blk_cell BK101.out 0).trans rfl, (blk_cell BK101.out 1).trans rfl, (blk_cell BK101.out 2).trans rfl, ((HB.out.cell (World.block_lt_of_cell? w _ hw118_0)).trans hw118_0)⟩ (fun hHeld => ?_)
            clear hK K
            refine norm_ (a' := ?_) ?_ ?_
            rotate_left
            ·show Act.put _ (some 76) _ = _
             simp only [Act.put, qT, qZ, qS, i64_w, i32_w]
             rfl
            refine pure_ (i := 16) (N := some 77) (v := ?_) (a' := ?_) #[true, true, true, true, true, true, true, true, true, true, true, true, true, true, true, true, true, false] rfl rfl (any_of HT_.out (by kernel_rfl)) (fun _ _ _ h => h) (Or.inl ⟨by rfl, ?_⟩) ?_ ?_
            rotate_left
            ·intro w'
             go_simp
             with_reducible rfl
            rotate_left
            ·simp only [Act.put, qT, qZ, qS, i64_w, i32_w]
             rfl
            refine last_ (i := 17) (N := none) #[true, true, true, true, true, true, true, true, true, true, true, true, true, true, true, true, true, true] rfl rfl (one_of HT_.out (by kernel_rfl)) (by decide) (fun K hK => ?_)
            have hs67 : w65.cell? ⟨gb103, 2, none⟩ = some (u104002) := (blk_cell BK103.out 2).trans rfl
            have hfs67 := blk_frozen BK103.out 2
            have hns67_0 := NB101_103.out
            have hns67_1 := NB102_103.out
            have hms67_0 := NB103_101.out
            have hms67_1 := NB103_102.out
            refine skip_ (w1 := ?_) (by rfl) rfl ?_ ?_
            rotate_left
            ·go_simp
             rfl
            refine hK.out _ _ ?_
            clear hK K
            refine done_ (done_of HT_.out (by kernel_rfl)) ?_
            try go_wp2
            go_roundg k3
            case measure => have := HJ1.out; have := HJ36.out; have := HK3.out; omega
            case rel => exact ⟨(wrap64 (x7_3 + 1)), (y119), (.slice Ao66 y119.length co66), (by first | rfl | (simp; done) | (simp [*]; done)), H', ⟨by have := HJ1.out; have := HJ36.out; have := HK3.out; omega⟩, ⟨by (with_reducible repeat (first | apply Kd.S_alloc | apply Kd.S_drewN | apply Kd.S_drew)); exact Kd.S_mono (Kd.S_far (p := ⟨gb103, 2, none⟩) (Kd.S_types HO_104001.out BK103.out (by decide)) (fun _ hk => hk.2) (.slice Ao66 y119.length co66)) (fun _ hk => trivial)⟩, ⟨by (with_reducible repeat (first | apply Kd.R_alloc | apply Kd.R_drewN | apply Kd.R_drew)); exact Kd.R_mono (Kd.R_far (p := ⟨gb103, 2, none⟩) (Kd.R_types HO121.out BK103.out (by decide)) (fun _ hk => hk.2) (.slice Ao66 y119.length co66)) (fun _ hk => trivial)⟩, ⟨by (with_reducible repeat (first | refine blk_drewN ?_ _ | refine blk_drew ?_ | refine blk_alloc ?_ _)); refine blk_far ?_ NB101_103.out _; (with_reducible repeat (first | refine blk_drewN ?_ _ | refine blk_drew ?_ | refine blk_alloc ?_ _)); exact BK101.out⟩, ⟨by (with_reducible repeat (first | refine blk_drewN ?_ _ | refine blk_drew ?_ | refine blk_alloc ?_ _)); refine blk_far ?_ NB102_103.out _; (with_reducible repeat (first | refine blk_drewN ?_ _ | refine blk_drew ?_ | refine blk_alloc ?_ _)); exact BK102.out⟩, ⟨by (with_reducible repeat (first | refine blk_drewN ?_ _ | refine blk_drew ?_ | refine blk_alloc ?_ _)); refine blk_put (cs := #[.int .i64 (wrap64 (1 + (wrap64 (Int.tmod (IntKind.u64.wrap (a0_0)) 4)))), .slice Ao64 x104001_36.length co64, u104002]) ?_ 2 _ rfl; (with_reducible repeat (first | refine blk_drewN ?_ _ | refine blk_drew ?_ | refine blk_alloc ?_ _)); exact BK103.out⟩, ⟨by repeat (first | (with_reducible first | exact HB.out | apply below_alloc | apply pw_below_drewN | apply below_drew1 | refine below_set ?_ GE101.out | refine below_set ?_ GE102.out | refine below_set ?_ GE103.out) | exact HB.out)⟩⟩
           ·rw [if_neg c59] at H
            exact absurd H (by simp)
          ·rw [if_neg c57] at H
           exact absurd H (by simp)
         ·rw [if_neg c56] at H
          exact absurd H (by simp)
        ·rw [if_neg c55] at H
         have c55b0 : decide (x7_3 < 24) = false := decide_eq_false c55
         clear c55
         simp only [Option.some.injEq, Prod.mk.injEq] at H
         obtain ⟨rfl, rfl, rfl⟩ := H
         have hnb68 := NB101_102.out
         have hnc68 := NB102_101.out
         have hnb69 := NB101_103.out
         have hnc69 := NB103_101.out
         have hcz70_0 : wr.cell? ⟨gb101, 0, none⟩ = some (.int .i64 a0_0) := (blk_cell BK101.out 0).trans rfl
         have hcz70_1 : wr.cell? ⟨gb101, 1, none⟩ = some (.slice A0_1 l0_1.length c0_1) := (blk_cell BK101.out 1).trans rfl
         have hcz70_2 : wr.cell? ⟨gb101, 2, none⟩ = some (.slice A0_2 l0_2.length c0_2) := (blk_cell BK101.out 2).trans rfl
         have hfz70_0 := blk_frozen BK101.out 0
         have hfz70_1 := blk_frozen BK101.out 1
         have hfz70_2 := blk_frozen BK101.out 2
         have hnb71 := NB103_102.out
         have hnc71 := NB102_103.out
         have hcz72_0 : wr.cell? ⟨gb103, 0, none⟩ = some (.int .i64 (wrap64 (1 + (wrap64 (Int.tmod (IntKind.u64.wrap (a0_0)) 4))))) := (blk_cell BK103.out 0).trans rfl
         have hcz72_1 : wr.cell? ⟨gb103, 1, none⟩ = some (u104001) := (blk_cell BK103.out 1).trans rfl
         have hcz72_2 : wr.cell? ⟨gb103, 2, none⟩ = some (u104002) := (blk_cell BK103.out 2).trans rfl
         have hfz72_0 := blk_frozen BK103.out 0
         have hfz72_1 := blk_frozen BK103.out 1
         have hfz72_2 := blk_frozen BK103.out 2
         have hcz73_0 : wr.cell? ⟨gb102, 0, none⟩ = some (.int .i64 0) := (blk_cell BK102.out 0).trans rfl
         have hcz73_1 : wr.cell? ⟨gb102, 1, none⟩ = some (.slice none 0 0) := (blk_cell BK102.out 1).trans rfl
         have hcz73_2 : wr.cell? ⟨gb102, 2, none⟩ = some (.slice none 0 0) := (blk_cell BK102.out 2).trans rfl
         have hfz73_0 := blk_frozen BK102.out 0
         have hfz73_1 := blk_frozen BK102.out 1
         have hfz73_2 := blk_frozen BK102.out 2
         obtain ⟨Ao74, co74, eo74⟩ := Kd.S_slice HO_104001.out
         subst eo74
         obtain ⟨Ao75, co75, eo75⟩ := Kd.R_slice HO_104002.out
         subst eo75
         go_wp2
         refine bodyPost_ret (results_cell_row rfl _ _ gb102 25 #[.int .i64 (wrap64 (1 + (wrap64 (Int.tmod (IntKind.u64.wrap (a0_0)) 4)))), .slice Ao74 x104001_36.length co74, .slice Ao75 x104002_3.length co75] (0, 0) _ rfl (by (with_reducible repeat (first | refine blk_drewN ?_ _ | refine blk_drew ?_ | refine blk_alloc ?_ _)); refine blk_put (cs := #[.int .i64 (wrap64 (1 + (wrap64 (Int.tmod (IntKind.u64.wrap (a0_0)) 4)))), .slice Ao74 x104001_36.length co74, .slice none 0 0]) ?_ 2 _ rfl; (with_reducible repeat (first | refine blk_drewN ?_ _ | refine blk_drew ?_ | refine blk_alloc ?_ _)); refine blk_put (cs := #[.int .i64 (wrap64 (1 + (wrap64 (Int.tmod (IntKind.u64.wrap (a0_0)) 4)))), .slice none 0 0, .slice none 0 0]) ?_ 1 _ rfl; (with_reducible repeat (first | refine blk_drewN ?_ _ | refine blk_drew ?_ | refine blk_alloc ?_ _)); refine blk_put (cs := #[.int .i64 0, .slice none 0 0, .slice none 0 0]) ?_ 0 _ rfl; exact PK BK102) Tryd.underlying25 rfl (by kernel_rfl)) rfl ?_
         exact ⟨_, _, by first | rfl | (simp [errW_none, errW_some] <;> rfl) | (simp [*, errW_none, errW_some] <;> rfl), by (with_reducible repeat (first | apply Kd.S_alloc | apply Kd.S_drewN | apply Kd.S_drew)); exact Kd.S_mono (Kd.S_far (p := ⟨gb102, 2, none⟩) (Kd.S_far (p := ⟨gb102, 1, none⟩) (Kd.S_far (p := ⟨gb102, 0, none⟩) (Kd.S_types HO_104001.out BK102.out (by decide)) (fun _ hk => hk.2) (.int .i64 (wrap64 (1 + (wrap64 (Int.tmod (IntKind.u64.wrap (a0_0)) 4)))))) (fun _ hk => hk.2) (.slice Ao74 x104001_36.length co74)) (fun _ hk => hk.2) (.slice Ao75 x104002_3.length co75)) (fun _ hk => trivial), by (with_reducible repeat (first | apply Kd.R_alloc | apply Kd.R_drewN | apply Kd.R_drew)); exact Kd.R_mono (Kd.R_far (p := ⟨gb102, 2, none⟩) (Kd.R_far (p := ⟨gb102, 1, none⟩) (Kd.R_far (p := ⟨gb102, 0, none⟩) (Kd.R_types HO_104002.out BK102.out (by decide)) (fun _ hk => hk.2) (.int .i64 (wrap64 (1 + (wrap64 (Int.tmod (IntKind.u64.wrap (a0_0)) 4)))))) (fun _ hk => hk.2) (.slice Ao74 x104001_36.length co74)) (fun _ hk => hk.2) (.slice Ao75 x104002_3.length co75)) (fun _ hk => trivial), by repeat (first | (with_reducible first | exact HB.out | apply below_alloc | apply pw_below_drewN | apply below_drew1 | refine below_set ?_ GE101.out | refine below_set ?_ GE102.out | refine below_set ?_ GE103.out) | exact HB.out)⟩
       ·rw [if_neg c54] at H
        have c54b0 : decide (x7_3 < (l0_2.length : Int)) = false := decide_eq_false c54
        clear c54
        simp only [Option.some.injEq, Prod.mk.injEq] at H
        obtain ⟨rfl, rfl, rfl⟩ := H
        have hnb76 := NB101_102.out
        have hnc76 := NB102_101.out
        have hnb77 := NB101_103.out
        have hnc77 := NB103_101.out
        have hcz78_0 : wr.cell? ⟨gb101, 0, none⟩ = some (.int .i64 a0_0) := (blk_cell BK101.out 0).trans rfl
        have hcz78_1 : wr.cell? ⟨gb101, 1, none⟩ = some (.slice A0_1 l0_1.length c0_1) := (blk_cell BK101.out 1).trans rfl
        have hcz78_2 : wr.cell? ⟨gb101, 2, none⟩ = some (.slice A0_2 l0_2.length c0_2) := (blk_cell BK101.out 2).trans rfl
        have hfz78_0 := blk_frozen BK101.out 0
        have hfz78_1 := blk_frozen BK101.out 1
        have hfz78_2 := blk_frozen BK101.out 2
        have hnb79 := NB103_102.out
        have hnc79 := NB102_103.out
        have hcz80_0 : wr.cell? ⟨gb103, 0, none⟩ = some (.int .i64 (wrap64 (1 + (wrap64 (Int.tmod (IntKind.u64.wrap (a0_0)) 4))))) := (blk_cell BK103.out 0).trans rfl
        have hcz80_1 : wr.cell? ⟨gb103, 1, none⟩ = some (u104001) := (blk_cell BK103.out 1).trans rfl
        have hcz80_2 : wr.cell? ⟨gb103, 2, none⟩ = some (u104002) := (blk_cell BK103.out 2).trans rfl
        have hfz80_0 := blk_frozen BK103.out 0
        have hfz80_1 := blk_frozen BK103.out 1
        have hfz80_2 := blk_frozen BK103.out 2
        have hcz81_0 : wr.cell? ⟨gb102, 0, none⟩ = some (.int .i64 0) := (blk_cell BK102.out 0).trans rfl
        have hcz81_1 : wr.cell? ⟨gb102, 1, none⟩ = some (.slice none 0 0) := (blk_cell BK102.out 1).trans rfl
        have hcz81_2 : wr.cell? ⟨gb102, 2, none⟩ = some (.slice none 0 0) := (blk_cell BK102.out 2).trans rfl
        have hfz81_0 := blk_frozen BK102.out 0
        have hfz81_1 := blk_frozen BK102.out 1
        have hfz81_2 := blk_frozen BK102.out 2
        obtain ⟨Ao82, co82, eo82⟩ := Kd.S_slice HO_104001.out
        subst eo82
        obtain ⟨Ao83, co83, eo83⟩ := Kd.R_slice HO_104002.out
        subst eo83
        go_wp2
        refine bodyPost_ret (results_cell_row rfl _ _ gb102 25 #[.int .i64 (wrap64 (1 + (wrap64 (Int.tmod (IntKind.u64.wrap (a0_0)) 4)))), .slice Ao82 x104001_36.length co82, .slice Ao83 x104002_3.length co83] (0, 0) _ rfl (by (with_reducible repeat (first | refine blk_drewN ?_ _ | refine blk_drew ?_ | refine blk_alloc ?_ _)); refine blk_put (cs := #[.int .i64 (wrap64 (1 + (wrap64 (Int.tmod (IntKind.u64.wrap (a0_0)) 4)))), .slice Ao82 x104001_36.length co82, .slice none 0 0]) ?_ 2 _ rfl; (with_reducible repeat (first | refine blk_drewN ?_ _ | refine blk_drew ?_ | refine blk_alloc ?_ _)); refine blk_put (cs := #[.int .i64 (wrap64 (1 + (wrap64 (Int.tmod (IntKind.u64.wrap (a0_0)) 4)))), .slice none 0 0, .slice none 0 0]) ?_ 1 _ rfl; (with_reducible repeat (first | refine blk_drewN ?_ _ | refine blk_drew ?_ | refine blk_alloc ?_ _)); refine blk_put (cs := #[.int .i64 0, .slice none 0 0, .slice none 0 0]) ?_ 0 _ rfl; exact PK BK102) Tryd.underlying25 rfl (by kernel_rfl)) rfl ?_
        exact ⟨_, _, by first | rfl | (simp [errW_none, errW_some] <;> rfl) | (simp [*, errW_none, errW_some] <;> rfl), by (with_reducible repeat (first | apply Kd.S_alloc | apply Kd.S_drewN | apply Kd.S_drew)); exact Kd.S_mono (Kd.S_far (p := ⟨gb102, 2, none⟩) (Kd.S_far (p := ⟨gb102, 1, none⟩) (Kd.S_far (p := ⟨gb102, 0, none⟩) (Kd.S_types HO_104001.out BK102.out (by decide)) (fun _ hk => hk.2) (.int .i64 (wrap64 (1 + (wrap64 (Int.tmod (IntKind.u64.wrap (a0_0)) 4)))))) (fun _ hk => hk.2) (.slice Ao82 x104001_36.length co82)) (fun _ hk => hk.2) (.slice Ao83 x104002_3.length co83)) (fun _ hk => trivial), by (with_reducible repeat (first | apply Kd.R_alloc | apply Kd.R_drewN | apply Kd.R_drew)); exact Kd.R_mono (Kd.R_far (p := ⟨gb102, 2, none⟩) (Kd.R_far (p := ⟨gb102, 1, none⟩) (Kd.R_far (p := ⟨gb102, 0, none⟩) (Kd.R_types HO_104002.out BK102.out (by decide)) (fun _ hk => hk.2) (.int .i64 (wrap64 (1 + (wrap64 (Int.tmod (IntKind.u64.wrap (a0_0)) 4)))))) (fun _ hk => hk.2) (.slice Ao82 x104001_36.length co82)) (fun _ hk => hk.2) (.slice Ao83 x104002_3.length co83)) (fun _ hk => trivial), by repeat (first | (with_reducible first | exact HB.out | apply below_alloc | apply pw_below_drewN | apply below_drew1 | refine below_set ?_ GE101.out | refine below_set ?_ GE102.out | refine below_set ?_ GE103.out) | exact HB.out)⟩
def geyserlaw05_True_sym.f (k : Nat) (a0_0 : Int) (l0_1 : List (List Int)) (l0_2 : List Int) (a1 : Int) : Option (List Int) := (geyserref02_Unpack.f k (([a1] : List Int))).bind fun t222 => ((geyserref04_Picked.f k t222 l0_1).bind fun t225 => ((geyserref04_Sum.f k t225 a0_0).bind fun t228 => (some t228)))
theorem geyserlaw05_True_sym.mono : ∀ a0 a1 a2 a3 k, LeO (geyserlaw05_True_sym.f k a0 a1 a2 a3) (geyserlaw05_True_sym.f (k + 1) a0 a1 a2 a3) := by
 intro a0 a1 a2 a3 k
 unfold geyserlaw05_True_sym.f
 repeat' first
   | (with_reducible exact geyserref02_Unpack.mono _ _)
   | (with_reducible exact geyserref04_Picked.mono _ _ _)
   | (with_reducible exact geyserref04_Sum.mono _ _ _)
   | (with_reducible exact LeO.refl _)
   | (with_reducible exact LeO.none _)
   | (with_reducible refine LeO.ite ?_ ?_)
   | (with_reducible refine LeO.bind ?_ (fun _ => ?_))
   | exact geyserref02_Unpack.mono _ _
   | exact geyserref04_Picked.mono _ _ _
   | exact geyserref04_Sum.mono _ _ _
   | exact LeO.none _
   | refine LeO.ite ?_ ?_
   | refine LeO.bind ?_ (fun _ => ?_)
def geyserlaw05_True_sym.T1 : Bool × List (List Nat × List Nat) := (true, [([], []), ([0], [0]), ([1], [1]), ([], []), ([3], [3]), ([2, 4, 2], [2, 4]), ([], []), ([6], [6]), ([5, 7, 5], [5, 7]), ([8, 8, 0, 1, 2, 3, 4, 5, 6, 7, 8], [8])])
def geyserlaw05_True_sym.B1 : List Nat := [0, 1, 3, 0, 8, 31, 0, 64, 255, 511]
theorem geyserlaw05_True_sym.tab1 : rtab .any (opsOf Tryd.f12 1) = geyserlaw05_True_sym.T1 := by kernel_rfl
theorem geyserlaw05_True_sym.bits1 : waitsOk geyserlaw05_True_sym.T1.2 geyserlaw05_True_sym.B1 = true := by kernel_rfl
set_option maxHeartbeats 8000000 in
set_option maxRecDepth 100000 in
theorem geyserlaw05_True_sym.calls (k : Nat) (a0_0 : Int) (A0_1 : Option Addr) (c0_1 : Nat) (l0_1 : List (List Int)) (A0_2 : Option Addr) (c0_2 : Nat) (l0_2 : List Int) (a1 : Int) (r : List Int) (w : World) (hr0_1 : Kd.C (Kd.slice 5 (Kd.int .u8)) w A0_1 l0_1.length l0_1) (hc0_1 : l0_1.length ≤ c0_1) (hr0_2 : Kd.C (Kd.int .u64) w A0_2 l0_2.length l0_2) (hc0_2 : l0_2.length ≤ c0_2) (h : geyserlaw05_True_sym.f k a0_0 l0_1 l0_2 a1 = some r) :
  Calls Tryd.prog 12 #[.agg #[.int .i64 a0_0, .slice A0_1 l0_1.length c0_1, .slice A0_2 l0_2.length c0_2], .int .u64 a1] w fun e w' => ∃ v0_ : Value, e = .returned (v0_) ∧ Kd.R (Kd.int .u8) 5 w' w.heap.size (fun _ => True) v0_ r ∧ Below w.heap.size w w' := by
 have hu25 := Tryd.underlying25
 have HR0_1 := AQ hr0_1
 have HC0_1 := AQ hc0_1
 clear hr0_1 hc0_1
 have HR0_2 := AQ hr0_2
 have HC0_2 := AQ hc0_2
 clear hr0_2 hc0_2
 have HB := AQ (Below.refl w.heap.size w)
 have H : ((geyserref02_Unpack.f k (([a1] : List Int))).bind fun t222 => ((geyserref04_Picked.f k t222 l0_1).bind fun t225 => ((geyserref04_Sum.f k t225 a0_0).bind fun t228 => (some t228)))) = some r := h
 clear h
 obtain ⟨y219, hy219⟩ : ∃ y_ : List Int, y_ = (([a1] : List Int)) := ⟨_, rfl⟩
 replace H : ((geyserref02_Unpack.f k y219).bind fun t222 => ((geyserref04_Picked.f k t222 l0_1).bind fun t225 => ((geyserref04_Sum.f k t225 a0_0).bind fun t228 => (some t228)))) = some r := by first | (rw [hy219]; with_reducible exact H) | (have H2_ := (Option.bind_some _ _).symm.trans H; rw [hy219]; with_reducible exact H2_) | (have H2_ := (Option.bind_some _ _).symm.trans H; with_reducible exact H2_) | with_reducible exact H | (rw [hy219]; exact H) | exact H
 have Ny219 := AQ hy219
 clear hy219
 replace H := Option.bind_eq_some_iff.mp H
 obtain ⟨t222, A30, H⟩ := H
 replace H : ((geyserref04_Picked.f k t222 l0_1).bind fun t225 => ((geyserref04_Sum.f k t225 a0_0).bind fun t228 => (some t228))) = some r := H
 have A3 := AQ A30
 clear A30
 replace H := Option.bind_eq_some_iff.mp H
 obtain ⟨t225, A40, H⟩ := H
 replace H : ((geyserref04_Sum.f k t225 a0_0).bind fun t228 => (some t228)) = some r := H
 have A4 := AQ A40
 clear A40
 replace H := Option.bind_eq_some_iff.mp H
 obtain ⟨t228, A50, H⟩ := H
 replace H : (some t228) = some r := H
 have A5 := AQ A50
 clear A50
 obtain rfl := Option.some.inj H
 go_enter Tryd.func12, Tryd.ntmps12
 try go_wp2_with (first | ((with_reducible refine gate_dst (N := 2) rfl ?_); refine box_event ?hg (N := 2) ?hd (cs := #[.int .i64 a0_0, .slice A0_1 l0_1.length c0_1, .slice A0_2 l0_2.length c0_2]) (t := 25) ?hr ?_; (case hd => rfl); (case hg => rfl); (case hr => first | (go_simp; done) | (go_simp; rfl)); intro gb218 hg w6 hbox hb; have n0_ := AQ (below_step (PB HB) hb); have n1_ := AQ (hbox); have n2_ := AQ ((by rw [hg]; exact (below_size (PB HB)) : w.heap.size ≤ gb218)); have n3_ := AQ ((by rw [hg]; exact (below_size (PB HB)) : w.heap.size ≤ gb218)); clear HB; have HB := n0_; have BK218 := n1_; have GW218 := n2_; have GE218 := n3_; clear n0_ n1_ n2_ n3_; clear hb hbox hg))
 have n0_ := AQ (blk_drew BK218.out)
 have n1_ := AQ (below_drew1 HB.out)
 clear BK218
 clear HB
 have BK218 := n0_
 have HB := n1_
 clear n0_ n1_
 refine start_ (n := 10) (S := fun w' => w'.cell? ⟨gb218, 0, none⟩ = some (.int .i64 a0_0) ∧ w'.cell? ⟨gb218, 1, none⟩ = some (.slice A0_1 l0_1.length c0_1) ∧ w'.cell? ⟨gb218, 2, none⟩ = some (.slice A0_2 l0_2.length c0_2)) (ds := []) #[false, false, false, false, false, false, false, false, false, false] (by kernel_rfl) rfl rfl ⟨(blk_cell BK218.out 0).trans rfl, (blk_cell BK218.out 1).trans rfl, (blk_cell BK218.out 2).trans rfl⟩ (fun hHeld => ?_); refine with_tabW geyserlaw05_True_sym.tab1 geyserlaw05_True_sym.bits1 (fun HT_ HW_ => ?_)
 generalize w6.drew = w7 at BK218 HB hHeld ⊢
 refine pure_ (i := 0) (N := some 5) (v := ?_) (a' := ?_) #[true, false, false, false, false, false, false, false, false, false] rfl rfl (any_of HT_.out (by kernel_rfl)) (fun _ _ _ h => h) (Or.inl ⟨by rfl, ?_⟩) ?_ ?_
 rotate_left
 ·intro w'
  go_simp
  with_reducible rfl
 rotate_left
 ·simp only [Act.put, qT, qZ, qS, i64_w, i32_w]
  rfl
 refine pure_ (i := 3) (N := some 8) (v := ?_) (a' := ?_) #[true, false, false, true, false, false, false, false, false, false] rfl rfl (any_of HT_.out (by kernel_rfl)) (fun _ _ _ h => h) (Or.inl ⟨by rfl, ?_⟩) ?_ ?_
 rotate_left
 ·intro w'
  go_simp
  with_reducible rfl
 rotate_left
 ·simp only [Act.put, qT, qZ, qS, i64_w, i32_w]
  rfl
 refine pure_ (i := 6) (N := some 11) (v := ?_) (a' := ?_) #[true, false, false, true, false, false, true, false, false, false] rfl rfl (any_of HT_.out (by kernel_rfl)) (fun _ _ _ h => h) (Or.inl ⟨by rfl, ?_⟩) ?_ ?_
 rotate_left
 ·intro w'
  go_simp
  with_reducible rfl
 rotate_left
 ·simp only [Act.put, qT, qZ, qS, i64_w, i32_w]
  rfl
 refine take_ (i := 4) (N := some 9) (v := ?_) (a' := ?_) #[true, false, false, true, true, false, true, false, false, false] rfl rfl (take_ofW HT_.out HW_.out (by kernel_rfl)) (fun _ _ _ h => h) (Or.inl ⟨by rfl, ?_⟩) hHeld ?_ ?_
 rotate_left
 ·rintro w' ⟨s0, s1, s2⟩
  go_simp
  with_reducible rfl
 rotate_left
 ·simp only [Act.put, qT, qZ, qS, i64_w, i32_w]
  rfl
 refine take_ (i := 7) (N := some 12) (v := ?_) (a' := ?_) #[true, false, false, true, true, false, true, true, false, false] rfl rfl (take_ofW HT_.out HW_.out (by kernel_rfl)) (fun _ _ _ h => h) (Or.inl ⟨by rfl, ?_⟩) hHeld ?_ ?_
 rotate_left
 ·rintro w' ⟨s0, s1, s2⟩
  go_simp
  with_reducible rfl
 rotate_left
 ·simp only [Act.put, qT, qZ, qS, i64_w, i32_w]
  rfl
 refine one_ (i := 1) (N := some 6) #[true, true, false, true, true, false, true, true, false, false] rfl rfl (one_of HT_.out (by kernel_rfl)) (by decide) (fun K hK => ?_)
 refine Kd.R_lit_step (Kd.int .u64) _ 35 ?hg (N := 6) ?hd (xs := ([a1] : List Int)) (inner := [.int .u64 a1]) (ok := fun _ => True) (okp := fun _ => True) ?hr ?hp (fun _ hk => hk) trivial (Below.refl _ _) (Nat.le_refl _) (by simp) ?_; (case hd => rfl); (case hg => rfl); (case hr => first | (go_simp; done) | (go_simp; rfl)); (case hp => exact (Reps.one (show Kd.M (Kd.int .u64) _ _ _ a1 [.int .u64 a1] from rfl) (Reps.none _ _)))
 intro v220 w8 ho9 hb hg_ hnew_
 clear hg_ hnew_
 (first | rw [← Ny219.out] at ho9 | (simp only [Int.reduceToNat] at ho9; rw [← Ny219.out] at ho9))
 have n0_ := AQ (Kd.R_lower ho9 (below_size (by repeat (first | (with_reducible first | exact HB.out | apply below_alloc | apply pw_below_drewN | apply below_drew1 | refine below_set ?_ GE218.out) | exact HB.out))))
 have n1_ := AQ (blk_below (g := gb218) (o := .cells #[.int .i64 a0_0, .slice A0_1 l0_1.length c0_1, .slice A0_2 l0_2.length c0_2] 25 (0, 0)) (PK BK218) hb)
 have n2_ := AQ (below_step (by repeat (first | (with_reducible first | exact HB.out | apply below_alloc | apply pw_below_drewN | apply below_drew1 | refine below_set ?_ GE218.out) | exact HB.out)) hb)
 clear BK218
 clear HB
 have HO221 := n0_
 have BK218 := n1_
 have HB := n2_
 clear n0_ n1_ n2_
 clear hb ho9
 obtain ⟨Ao10, co10, eo10⟩ := Kd.R_slice HO221.out
 (first | subst eo10 | (injection eo10 with f1_ f2_ f3_; have f4_ := f1_.symm; have f5_ := f3_.symm; clear f1_ f2_ f3_; subst f4_; subst f5_))
 refine hK.out _ _ ⟨(blk_cell BK218.out 0).trans rfl, (blk_cell BK218.out 1).trans rfl, (blk_cell BK218.out 2).trans rfl⟩ (fun hHeld => ?_)
 clear hK K
 refine norm_ (a' := ?_) ?_ ?_
 rotate_left
 ·show Act.put _ (some 6) _ = _
  simp only [Act.put, qT, qZ, qS, i64_w, i32_w]
  rfl
 refine one_ (i := 2) (N := some 7) #[true, true, true, true, true, false, true, true, false, false] rfl rfl (one_of HT_.out (by kernel_rfl)) (by decide) (fun K hK => ?_)
 refine goes_ Tryd.func34 (by kernel_rfl) rfl #[.slice Ao10 y219.length co10] (by rfl) rfl rfl (by (try simp only [List.map_toArray, List.map_cons, List.map_nil]); first | done | rfl | (simp only [List.length_drop, List.length_take]; rfl)) ?_
 with_reducible refine (geyserref02_Unpack.calls k _ _ y219 t222 _ ?side1 ?side2 A3.out).mono ?_
 (case side1 => exact QC HO221)
 (case side2 => exact (Kd.R_reads' HO221.out).2.1)
 rintro e w11 ⟨v223, rfl, ho0, hb⟩
 refine ⟨_, rfl, ?_⟩
 have n0_ := AQ (Kd.R_below (PR HO221) hb)
 have n1_ := AQ (Kd.R_lower ho0 (below_size (by repeat (first | (with_reducible first | exact HB.out | apply below_alloc | apply pw_below_drewN | apply below_drew1 | refine below_set ?_ GE218.out) | exact HB.out))))
 have n2_ := AQ (blk_below (g := gb218) (o := .cells #[.int .i64 a0_0, .slice A0_1 l0_1.length c0_1, .slice A0_2 l0_2.length c0_2] 25 (0, 0)) (PK BK218) hb)
 have n3_ := AQ (below_step (by repeat (first | (with_reducible first | exact HB.out | apply below_alloc | apply pw_below_drewN | apply below_drew1 | refine below_set ?_ GE218.out) | exact HB.out)) hb)
 clear HO221
 clear BK218
 clear HB
 have HO221 := n0_
 have HO224 := n1_
 have BK218 := n2_
 have HB := n3_
 clear n0_ n1_ n2_ n3_
 (try clear hb)
 (try clear hb2)
 (try clear hk)
 (try clear hi)
 (try clear ho0)
 obtain ⟨Ao12, co12, eo12⟩ := Kd.R_slice HO224.out
 (first | subst eo12 | (injection eo12 with f1_ f2_ f3_; have f4_ := f1_.symm; have f5_ := f3_.symm; clear f1_ f2_ f3_; subst f4_; subst f5_))
 refine hK.out _ _ ⟨(blk_cell BK218.out 0).trans rfl, (blk_cell BK218.out 1).trans rfl, (blk_cell BK218.out 2).trans rfl⟩ (fun hHeld => ?_)
 clear hK K
 refine norm_ (a' := ?_) ?_ ?_
 rotate_left
 ·show Act.put _ (some 7) _ = _
  simp only [Act.put, qT, qZ, qS, i64_w, i32_w]
  rfl
 refine one_ (i := 5) (N := some 10) #[true, true, true, true, true, true, true, true, false, false] rfl rfl (one_of HT_.out (by kernel_rfl)) (by decide) (fun K hK => ?_)
 refine goes_ Tryd.func33 (by kernel_rfl) rfl #[.slice Ao12 t222.length co12, .slice A0_1 l0_1.length c0_1] (by rfl) rfl rfl (by (try simp only [List.map_toArray, List.map_cons, List.map_nil]); first | done | rfl | (simp only [List.length_drop, List.length_take]; rfl)) ?_
 with_reducible refine (geyserref04_Picked.calls k _ _ t222 (fun k_ => k_ < w.heap.size) _ _ l0_1 t225 _ ?side1 ?side2 ?side3 A4.out).mono ?_
 (case side1 => exact QC HO224)
 (case side2 => exact (Kd.R_reads' HO224.out).2.1)
 (case side3 => exact Kd.V_mk HC0_1.out (Kd.F_below (Kd.C_F (Kd.heap_slice 5 (Kd.heap_int .u8)) HR0_1.out) (by repeat (first | (with_reducible first | exact HB.out | apply below_alloc | apply pw_below_drewN | apply below_drew1 | refine below_set ?_ GE218.out) | exact HB.out))))
 rintro e w13 ⟨v226, rfl, ho0, hb⟩
 refine ⟨_, rfl, ?_⟩
 have n0_ := AQ (Kd.R_below (PR HO221) hb)
 have n1_ := AQ (Kd.R_below (PR HO224) hb)
 have n2_ := AQ (Kd.N_lower (Kd.N_mono (ok' := fun k_ => some k_ ≠ (.slice Ao10 y219.length co10 : Value).ownBlock ∧ some k_ ≠ (.slice Ao12 t222.length co12 : Value).ownBlock ∧ k_ ≠ gb218) ho0 (fun k_ hk_ => ⟨Or.elim hk_ (fun hs_ => fun e_ => Nat.not_le.2 hs_ (Kd.R_base HO221.out k_ e_.symm)) (fun hn_ => (Kd.fresh' (Kd.R_lt (PR HO221)) k_ hn_)), Or.elim hk_ (fun hs_ => fun e_ => Nat.not_le.2 hs_ (Kd.R_base HO224.out k_ e_.symm)) (fun hn_ => (Kd.fresh' (Kd.R_lt (PR HO224)) k_ hn_)), Or.elim hk_ (fun hs_ => fun e_ => Nat.not_le.2 hs_ (by rw [e_]; exact GW218.out)) (fun hn_ => (Kd.freshB (g := gb218) (o := .cells #[.int .i64 a0_0, .slice A0_1 l0_1.length c0_1, .slice A0_2 l0_2.length c0_2] 25 (0, 0)) (PK BK218) k_ hn_))⟩)) (below_size (by repeat (first | (with_reducible first | exact HB.out | apply below_alloc | apply pw_below_drewN | apply below_drew1 | refine below_set ?_ GE218.out) | exact HB.out))))
 have n3_ := AQ (blk_below (g := gb218) (o := .cells #[.int .i64 a0_0, .slice A0_1 l0_1.length c0_1, .slice A0_2 l0_2.length c0_2] 25 (0, 0)) (PK BK218) hb)
 have n4_ := AQ (below_step (by repeat (first | (with_reducible first | exact HB.out | apply below_alloc | apply pw_below_drewN | apply below_drew1 | refine below_set ?_ GE218.out) | exact HB.out)) hb)
 clear HO221
 clear HO224
 clear BK218
 clear HB
 have HO221 := n0_
 have HO224 := n1_
 have HO227 := n2_
 have BK218 := n3_
 have HB := n4_
 clear n0_ n1_ n2_ n3_ n4_
 (try clear hb)
 (try clear hb2)
 (try clear hk)
 (try clear hi)
 (try clear ho0)
 obtain ⟨Ao14, co14, eo14⟩ := Kd.N_slice HO227.out
 (first | subst eo14 | (injection eo14 with f1_ f2_ f3_; have f4_ := f1_.symm; have f5_ := f3_.symm; clear f1_ f2_ f3_; subst f4_; subst f5_))
 refine hK.out _ _ ⟨(blk_cell BK218.out 0).trans rfl, (blk_cell BK218.out 1).trans rfl, (blk_cell BK218.out 2).trans rfl⟩ (fun hHeld => ?_)
 clear hK K
 refine norm_ (a' := ?_) ?_ ?_
 rotate_left
 ·show Act.put _ (some 10) _ = _
  simp only [Act.put, qT, qZ, qS, i64_w, i32_w]
  rfl
 refine one_ (i := 8) (N := some 13) #[true, true, true, true, true, true, true, true, true, false] rfl rfl (one_of HT_.out (by kernel_rfl)) (by decide) (fun K hK => ?_)
 refine goes_ Tryd.func32 (by kernel_rfl) rfl #[.slice Ao14 t225.length co14, .int .i64 a0_0] (by rfl) rfl rfl (by (try simp only [List.map_toArray, List.map_cons, List.map_nil]); first | done | rfl | (simp only [List.length_drop, List.length_take]; rfl)) ?_
 with_reducible refine (geyserref04_Sum.calls k _ _ t225 a0_0 t228 _ ?side1 ?side2 A5.out).mono ?_
 (case side1 => repeat (first | exact (Kd.N_reads' HO227.out).2.2 | (with_reducible refine Kd.C_alloc ?_ _) | (with_reducible refine Kd.C_drewN ?_ _) | (with_reducible refine Kd.C_drew ?_)))
 (case side2 => exact (Kd.N_reads' HO227.out).2.1)
 rintro e w15 ⟨v229, rfl, ho0, hb⟩
 refine ⟨_, rfl, ?_⟩
 have n0_ := AQ (Kd.R_below (PR HO221) hb)
 have n1_ := AQ (Kd.R_below (PR HO224) hb)
 have n2_ := AQ (Kd.N_elder' (PN HO227) (Kd.R_base ho0) hb)
 have n3_ := AQ (Kd.R_lower ho0 (below_size (by repeat (first | (with_reducible first | exact HB.out | apply below_alloc | apply pw_below_drewN | apply below_drew1 | refine below_set ?_ GE218.out) | exact HB.out))))
 have n4_ := AQ (blk_below (g := gb218) (o := .cells #[.int .i64 a0_0, .slice A0_1 l0_1.length c0_1, .slice A0_2 l0_2.length c0_2] 25 (0, 0)) (PK BK218) hb)
 have n5_ := AQ (below_step (by repeat (first | (with_reducible first | exact HB.out | apply below_alloc | apply pw_below_drewN | apply below_drew1 | refine below_set ?_ GE218.out) | exact HB.out)) hb)
 clear HO221
 clear HO224
 clear HO227
 clear BK218
 clear HB
 have HO221 := n0_
 have HO224 := n1_
 have HO227 := n2_
 have HO230 := n3_
 have BK218 := n4_
 have HB := n5_
 clear n0_ n1_ n2_ n3_ n4_ n5_
 (try clear hb)
 (try clear hb2)
 (try clear hk)
 (try clear hi)
 (try clear ho0)
 refine hK.out _ _ ⟨(blk_cell BK218.out 0).trans rfl, (blk_cell BK218.out 1).trans rfl, (blk_cell BK218.out 2).trans rfl⟩ (fun hHeld => ?_)
 clear hK K
 refine norm_ (a' := ?_) ?_ ?_
 rotate_left
 ·show Act.put _ (some 13) _ = _
  simp only [Act.put, qT, qZ, qS, i64_w, i32_w]
  rfl
 refine pure_ (i := 9) (N := some 4) (v := ?_) (a' := ?_) #[true, true, true, true, true, true, true, true, true, true] rfl rfl (any_of HT_.out (by kernel_rfl)) (fun _ _ _ h => h) (Or.inl ⟨by rfl, ?_⟩) ?_ ?_
 rotate_left
 ·intro w'
  go_simp
  with_reducible rfl
 rotate_left
 ·simp only [Act.put, qT, qZ, qS, i64_w, i32_w]
  rfl
 refine done_ (done_of HT_.out (by kernel_rfl)) ?_
 try go_wp2
 go_ret
 exact ⟨_, by first | rfl | (simp [errW_none, errW_some] <;> rfl) | (simp [*, errW_none, errW_some] <;> rfl), PR HO230, by repeat (first | (with_reducible first | exact HB.out | apply below_alloc | apply pw_below_drewN | apply below_drew1 | refine below_set ?_ GE218.out) | exact HB.out)⟩
end Go.Proofs.YtjmgkknbgffbjaaDoor.P
namespace Go.Proofs.YtjmgkknbgffbjaaDoor.Pure
open Go.RowKit Go.Proofs.YtjmgkknbgffbjaaDoor.P Go.Proofs.YtjmgkknbgffbjaaDoorW.PrintWords Go.Proofs.YtjmgkknbgffbjaaDoorW.PrintLast Go.Proofs.YtjmgkknbgffbjaaDoorW.PrintErr Go.Proofs.YtjmgkknbgffbjaaDoorW.PrintMore Go.Proofs.YtjmgkknbgffbjaaDoor.Lin
set_option linter.unusedVariables false
set_option linter.unusedSimpArgs false
def pf (D : Nat → Nat → Bool) (v : V) (p : Nat) : Nat → Nat → Bool
  | _, 0 => false
  | c, d + 1 => ((v c && D c p) != pf D v p (c + 1) d)
theorem pf_vx (D : Nat → Nat → Bool) (u v : V) (p : Nat) : ∀ d c, pf D (vx u v) p c d = (pf D u p c d != pf D v p c d)
  | 0, _ => rfl
  | d + 1, c => by
    show ((vx u v c && D c p) != pf D (vx u v) p (c + 1) d) = (((u c && D c p) != pf D u p (c + 1) d) != ((v c && D c p) != pf D v p (c + 1) d))
    rw [pf_vx D u v p d (c + 1)]
    show (((u c != v c) && D c p) != _) = _
    cases u c <;> cases v c <;> cases D c p <;> cases pf D u p (c + 1) d <;> cases pf D v p (c + 1) d <;> rfl
theorem pf_none (D : Nat → Nat → Bool) (v : V) (p : Nat) : ∀ d c, (∀ c', c ≤ c' → c' < c + d → v c' = false) → pf D v p c d = false
  | 0, _, _ => rfl
  | d + 1, c, h => by
    show ((v c && D c p) != pf D v p (c + 1) d) = false
    rw [h c (Nat.le_refl _) (by omega), pf_none D v p d (c + 1) (fun c' h1 h2 => h c' (by omega) (by omega))]
    rfl
theorem pf_congr (D : Nat → Nat → Bool) (u v : V) (p : Nat) : ∀ d c, (∀ c', c ≤ c' → c' < c + d → u c' = v c') → pf D u p c d = pf D v p c d
  | 0, _, _ => rfl
  | d + 1, c, h => by
    show ((u c && D c p) != pf D u p (c + 1) d) = ((v c && D c p) != pf D v p (c + 1) d)
    rw [h c (Nat.le_refl _) (by omega), pf_congr D u v p d (c + 1) (fun c' h1 h2 => h c' (by omega) (by omega))]
theorem pf_split (D : Nat → Nat → Bool) (v : V) (p e : Nat) : ∀ d c, pf D v p c (d + e) = (pf D v p c d != pf D v p (c + d) e)
  | 0, c => by
    rw [Nat.zero_add, Nat.add_zero]
    show _ = (false != _)
    cases pf D v p c e <;> rfl
  | d + 1, c => by
    rw [show d + 1 + e = (d + e) + 1 by omega]
    show ((v c && D c p) != pf D v p (c + 1) (d + e)) = (((v c && D c p) != pf D v p (c + 1) d) != pf D v p (c + (d + 1)) e)
    rw [pf_split D v p e d (c + 1), show c + 1 + d = c + (d + 1) by omega]
    cases (v c && D c p) <;> cases pf D v p (c + 1) d <;> cases pf D v p (c + (d + 1)) e <;> rfl
def Tr (n : Nat) (D : Nat → Nat → Bool) (v : V) : Prop := ∀ p, v (n + p) = pf D v p 0 n
theorem Tr.zero (n : Nat) (D : Nat → Nat → Bool) : Tr n D v0 := fun p => (pf_none D v0 p n 0 (fun _ _ _ => rfl)).symm
theorem Tr.vx {n : Nat} {D : Nat → Nat → Bool} {u v : V} (h : Tr n D u) (k : Tr n D v) : Tr n D (Lin.vx u v) := fun p => by
  rw [pf_vx, ← h p, ← k p]; rfl
theorem Tr.sp {n : Nat} {D : Nat → Nat → Bool} {L : List V} (hL : ∀ u ∈ L, Tr n D u) {v : V} (h : Sp L v) : Tr n D v := by
  induction h with
  | zero => exact Tr.zero n D
  | add hu _ ih => exact (hL _ hu).vx ih
theorem byB_ext {m : Nat} {s t : List Int} (hs : SymOK m s) (ht : SymOK m t) (h : ∀ p, byB s p = byB t p) : s = t := by
  refine List.ext_getElem (by rw [hs.len, ht.len]) (fun i h1 h2 => ?_)
  have b1 := hs.b _ (List.getElem_mem h1)
  have b2 := ht.b _ (List.getElem_mem h2)
  have e : (s[i]).toNat = (t[i]).toNat := by
    refine Nat.eq_of_testBit_eq (fun j => ?_)
    by_cases hj : j < 8
    · have := h (8 * i + j)
      unfold byB at this
      rw [show (8 * i + j) / 8 = i by omega, show (8 * i + j) % 8 = j by omega, List.getD_eq_getElem?_getD, List.getElem?_eq_getElem h1, List.getD_eq_getElem?_getD, List.getElem?_eq_getElem h2] at this
      exact this
    · have hp : 256 ≤ 2 ^ j := Nat.le_trans (show 256 ≤ 2 ^ 8 by decide) (Nat.pow_le_pow_right (by decide) (by omega))
      rw [Nat.testBit_lt_two_pow (by omega), Nat.testBit_lt_two_pow (by omega)]
  omega
theorem SymOK.zeros (m : Nat) : SymOK m (zeros (m : Int)) :=
  ⟨by unfold Pure.zeros; rw [Int.toNat_natCast, List.length_replicate], fun x hx => by
    obtain rfl := List.eq_of_mem_replicate hx
    exact ⟨Int.le_refl _, by decide⟩⟩
theorem byB_zeros (m p : Nat) : byB (zeros (m : Int)) p = false := by
  unfold byB zeros
  rw [List.getD_eq_getElem?_getD, List.getElem?_replicate]
  by_cases h : p / 8 < (m : Int).toNat
  · rw [if_pos h]; exact Nat.zero_testBit _
  · rw [if_neg h]; exact Nat.zero_testBit _
theorem allZero_zeros (n : Int) : allZero (zeros n) = true := by
  unfold allZero zeros
  rw [List.all_eq_true]
  intro x hx
  rw [List.eq_of_mem_replicate hx]
  rfl
theorem allZero_of {m : Nat} {s : List Int} (hs : SymOK m s) (h : ∀ p, byB s p = false) : allZero s = true := by
  rw [byB_ext hs (SymOK.zeros m) (fun p => by rw [h p, byB_zeros])]
  exact allZero_zeros _
def DS (S : List (List Int)) : Nat → Nat → Bool := fun c p => byB (S.getD c []) p
theorem sum_bits {m : Nat} (S : List (List Int)) (hS : ∀ s ∈ S, SymOK m s) (l : List Int) : ∀ (d c : Nat) (x : List Int), SymOK m x → (∀ c', c ≤ c' → c' < c + d → hasB l c' = true → c' < S.length) →
    SymOK m (sumB x ((colsFrom l c d).map (rd_Lsu8 S))) ∧ ∀ p, byB (sumB x ((colsFrom l c d).map (rd_Lsu8 S))) p = (byB x p != pf (DS S) (hasB l) p c d) := by
  intro d
  induction d with
  | zero =>
    intro c x hx _
    refine ⟨hx, fun p => ?_⟩
    show byB x p = (byB x p != false)
    cases byB x p <;> rfl
  | succ d ih =>
    intro c x hx h
    have e0 : colsFrom l c (d + 1) = if hasB l c = true then (c : Int) :: colsFrom l (c + 1) d else colsFrom l (c + 1) d := by
      unfold colsFrom
      rw [List.range'_succ, List.filter_cons]
      by_cases hb : hasB l c = true
      · rw [if_pos hb, if_pos hb, List.map_cons]
      · rw [if_neg hb, if_neg hb]
    rw [e0]
    by_cases hb : hasB l c = true
    · have hcs := h c (Nat.le_refl _) (by omega) hb
      have er : rd_Lsu8 S (c : Int) = S.getD c [] := by unfold rd_Lsu8; rw [Int.toNat_natCast]
      have hm : SymOK m (S.getD c []) := by
        rw [List.getD_eq_getElem?_getD, List.getElem?_eq_getElem hcs]
        exact hS _ (List.getElem_mem hcs)
      rw [if_pos hb, List.map_cons, er]
      obtain ⟨h1, h2⟩ := ih (c + 1) (addB x (S.getD c [])) (hx.add hm) (fun c' a b => h c' (by omega) (by omega))
      refine ⟨h1, fun p => ?_⟩
      show byB (sumB (addB x (S.getD c [])) _) p = (byB x p != ((hasB l c && DS S c p) != pf (DS S) (hasB l) p (c + 1) d))
      rw [h2 p, byB_add hx hm, hb]
      show ((byB x p != DS S c p) != _) = _
      cases byB x p <;> cases DS S c p <;> cases pf (DS S) (hasB l) p (c + 1) d <;> rfl
    · have hb' : hasB l c = false := by simpa using hb
      rw [if_neg hb]
      obtain ⟨h1, h2⟩ := ih (c + 1) x hx (fun c' a b => h c' (by omega) (by omega))
      refine ⟨h1, fun p => ?_⟩
      show byB (sumB x _) p = (byB x p != ((hasB l c && DS S c p) != pf (DS S) (hasB l) p (c + 1) d))
      rw [h2 p, hb']
      cases byB x p <;> cases pf (DS S) (hasB l) p (c + 1) d <;> rfl
def tsym (m : Nat) (S : List (List Int)) (r : List Int) : List Int := sumB (zeros (m : Int)) ((cols r).map (rd_Lsu8 S))
theorem J_lo {n c : Nat} (r s : List Int) (h : c < n) : J n r s c = hasB r c := if_pos h
theorem J_hi (n p : Nat) (r s : List Int) : J n r s (n + p) = byB s p := by
  unfold J
  rw [if_neg (by omega), Nat.add_sub_cancel_left]
theorem tsym_ok {m : Nat} {S : List (List Int)} (hS : ∀ s ∈ S, SymOK m s) {r : List Int} (hr : RowOK S.length r) : SymOK m (tsym m S r) ∧ Tr S.length (DS S) (J S.length r (tsym m S r)) := by
  have hc : ∀ c', hasB r c' = true → c' < S.length := fun c' h => by
    rcases Nat.lt_or_ge c' S.length with g | g
    · exact g
    · rw [hr.hi c' g] at h; cases h
  obtain ⟨h1, h2⟩ := sum_bits S hS r (64 * r.length) 0 (zeros (m : Int)) (SymOK.zeros m) (fun c' _ _ h => hc c' h)
  refine ⟨h1, fun p => ?_⟩
  rw [J_hi]
  have h3 : byB (tsym m S r) p = (byB (zeros (m : Int)) p != pf (DS S) (hasB r) p 0 (64 * r.length)) := h2 p
  rw [h3, byB_zeros, pf_congr (DS S) (J S.length r (tsym m S r)) (hasB r) p S.length 0 (fun c _ h => J_lo r _ (by omega))]
  have hle : S.length ≤ 64 * r.length := by rw [hr.len]; unfold nW; rw [Int.toNat_natCast]; omega
  rw [show 64 * r.length = S.length + (64 * r.length - S.length) by omega, pf_split, pf_none (DS S) (hasB r) p (64 * r.length - S.length) (0 + S.length) (fun c h _ => hr.hi c (by omega))]
  cases pf (DS S) (hasB r) p 0 S.length <;> rfl
theorem sym_ev {m : Nat} (h1 : 1 ≤ m) (h2 : m ≤ 64) {S : List (List Int)} (hS : ∀ s ∈ S, SymOK m s) {a : Int} (hr : RowOK S.length [a]) (rows : List Int) :
    Ev (fun k => geyserlaw05_True_sym.f k (m : Int) S rows a) (tsym m S [a]) := by
  have hc : ∀ c ∈ cols [a], 0 ≤ c ∧ c < (S.length : Int) := fun c hc => by
    obtain ⟨q, rfl, _, hb⟩ := cols_mem hc
    rcases Nat.lt_or_ge q S.length with g | g
    · omega
    · rw [hr.hi q g] at hb; cases hb
  have hl : (cols [a]).length ≤ 64 := colsFrom_length [a] 0 64
  have e1 := refunpack_ev [a] hr.u (by show 1 ≤ 1000000; decide)
  have e2 := picked_ev (cols [a]) S (by omega) hc
  have e3 := rsum_ev ((cols [a]).map (rd_Lsu8 S)) (m : Int) (by rw [List.length_map]; omega) (by omega) (by omega) (fun s hs => by
    obtain ⟨c, h, rfl⟩ := List.mem_map.1 hs
    obtain ⟨g1, g2⟩ := hc c h
    have : rd_Lsu8 S c ∈ S := by
      unfold rd_Lsu8
      rw [List.getD_eq_getElem?_getD, List.getElem?_eq_getElem (by omega)]
      exact List.getElem_mem _
    rw [(hS _ this).len])
  unfold geyserlaw05_True_sym.f
  exact Ev.bind e1 (Ev.bind e2 (Ev.bind e3 (Ev.now _)))
def pr (n : Nat) (v : V) : V := fun c => if c < n then v c else false
theorem pr_vx (n : Nat) (u v : V) : pr n (vx u v) = vx (pr n u) (pr n v) := by
  funext c
  unfold pr vx
  by_cases h : c < n
  · simp [h]
  · simp [h]
theorem pr_v0 (n : Nat) : pr n v0 = v0 := by funext c; unfold pr v0; by_cases h : c < n <;> simp [h]
theorem pr_sp {n : Nat} {L : List V} {v : V} (h : Sp L v) : Sp (L.map (pr n)) (pr n v) := by
  induction h with
  | zero => rw [pr_v0]; exact Sp.zero
  | add hu _ ih => rw [pr_vx]; exact Sp.add (List.mem_map_of_mem hu) ih
theorem pr_J {n : Nat} {r : List Int} (hr : RowOK n r) (s : List Int) : pr n (J n r s) = hasB r := by
  funext c
  unfold pr
  by_cases h : c < n
  · rw [if_pos h, J_lo r s h]
  · rw [if_neg h, hr.hi c (by omega)]
theorem pr_KV {x : S74} {n m : Nat} (hI : SI x n m) : (KV n x).map (pr n) = x.f2.map fun e => hasB e.f0 := by
  unfold KV
  rw [List.map_map]
  refine List.map_congr_left (fun e he => ?_)
  exact pr_J (hI.kept e he).1 _
structure TI (x : S74) (n m : Nat) (D : Nat → Nat → Bool) (L : List V) : Prop where
  si : SI x n m
  ip : ∃ P, IP x n P
  f4 : x.f4 = false
  tr : ∀ v ∈ L, Tr n D v
  up : ∀ v ∈ L, Sp (KV n x) v
  dn : ∀ v ∈ KV n x, Sp L v
  kl : x.f2.length ≤ L.length
theorem IP.map_fst {x : S74} {n : Nat} {P : List Nat} (h : IP x n P) : ((x.f2.map fun e => hasB e.f0).zip P).map (·.1) = x.f2.map fun e => hasB e.f0 :=
  List.map_fst_zip (by rw [List.length_map, h.plen]; exact Nat.le_refl _)
theorem TI.null {x : S74} {n m : Nat} {D : Nat → Nat → Bool} {L : List V} (h : TI x n m D L) {row : List Int} (hr : RowOK n row) (hs : Sp (x.f2.map fun e => hasB e.f0) (hasB row)) (hz : ∀ c, c < n → 0 ≤ rd x.f3 (c : Int) → hasB row c = false) : ∀ c, hasB row c = false := by
  obtain ⟨P, hP⟩ := h.ip
  have := tri_zero' _ hP.tri hP.own (hasB row) (by rw [hP.map_fst]; exact hs) (fun q hq => by
    have hm : q.2 ∈ P := (List.of_mem_zip hq).2
    obtain ⟨h1, h2⟩ := hP.lt _ hm
    exact hz _ h1 h2)
  intro c
  rw [this]; rfl
theorem TI.trK {x : S74} {n m : Nat} {D : Nat → Nat → Bool} {L : List V} (h : TI x n m D L) : ∀ v ∈ KV n x, Tr n D v := fun v hv => Tr.sp h.tr (h.dn v hv)
theorem TI.new {n m : Nat} (h1 : 1 ≤ n) (h2 : n ≤ 4096) (h3 : 1 ≤ m) (h4 : m ≤ 64) (D : Nat → Nat → Bool) : TI (newS n m) n m D [] :=
  ⟨SI.new h1 h2 h3 h4, ⟨[], IP.new n m⟩, rfl, (fun v hv => by cases hv), (fun v hv => by cases hv), (fun v hv => by cases hv), Nat.le_refl _⟩
theorem KV_fresh (n : Nat) (x : S74) (row sym : List Int) (c : Nat) : KV n (freshS x row sym c) = KV n x ++ [J n row sym] := by
  unfold KV freshS
  rw [List.map_append]; rfl
theorem vx_back {L : List V} {a b : V} (h : Sp L (vx a b)) (k : Sp L b) : Sp L a := by
  have := h.vx k
  rwa [vx_cancel] at this
theorem TI.add {x : S74} {n m : Nat} {D : Nat → Nat → Bool} {L : List V} (h : TI x n m D L) (hL : L.length < 1000000) {row sym : List Int} (hr : RowOK n row) (hs : SymOK m sym) (ht : Tr n D (J n row sym)) :
    (∃ x', Ev (fun k => elim_System_Add.f k [x] row sym) (1, [], [x']) ∧ TI x' n m D (L ++ [J n row sym]) ∧ x'.f2.length = x.f2.length + 1 ∧ ¬ Sp (L.map (pr n)) (hasB row)) ∨
    (Ev (fun k => elim_System_Add.f k [x] row sym) (2, [], [x]) ∧ TI x n m D (L ++ [J n row sym]) ∧ Sp L (J n row sym)) := by
  have hkl := h.kl
  obtain ⟨row', sym', hr', hs', hsp, hz, hc⟩ := eadd_ev h.si h.f4 (by omega) hr hs
  have tr1 : Tr n D (J n row' sym') := by
    have h1 := Tr.sp h.trK hsp
    have h2 := ht.vx h1
    rwa [← vx_assoc, vx_self, zero_vx] at h2
  have tr2 : ∀ v ∈ L ++ [J n row sym], Tr n D v := fun v hv => by
    rcases List.mem_append.1 hv with g | g
    · exact h.tr v g
    · obtain rfl : v = J n row sym := by simpa using g
      exact ht
  have lft : ∀ {v}, Sp L v → Sp (L ++ [J n row sym]) v := fun g => g.sub (fun u hu => List.mem_append_left _ hu)
  rcases hc with ⟨c, hc, hat, hb, hsi, he⟩ | ⟨h0, hc⟩
  · refine .inl ⟨_, he, ⟨hsi, ?_, rfl, tr2, ?_, ?_, ?_⟩, ?_, ?_⟩
    · obtain ⟨P, hP⟩ := h.ip
      exact ⟨_, hP.fresh h.si hc hat hb hz⟩
    · intro v hv
      rw [KV_fresh]
      rcases List.mem_append.1 hv with g | g
      · exact (h.up v g).sub (fun u hu => List.mem_append_left _ hu)
      · obtain rfl : v = J n row sym := by simpa using g
        exact vx_back (hsp.sub (fun u hu => List.mem_append_left _ hu)) (Sp.mem (by simp))
    · intro v hv
      rw [KV_fresh] at hv
      rcases List.mem_append.1 hv with g | g
      · exact lft (h.dn v g)
      · obtain rfl : v = J n row' sym' := by simpa using g
        have h1 : Sp (L ++ [J n row sym]) (vx (J n row sym) (J n row' sym')) := lft (hsp.trans h.dn)
        rw [vx_comm] at h1
        exact vx_back h1 (Sp.mem (by simp))
    · show (x.f2 ++ [_]).length ≤ (L ++ [_]).length
      simp only [List.length_append, List.length_singleton]
      omega
    · show (x.f2 ++ [_]).length = _
      simp
    · intro hh
      have h1 : Sp (x.f2.map fun e => hasB e.f0) (hasB row) := by
        refine hh.trans (fun u hu => ?_)
        obtain ⟨w, hw, rfl⟩ := List.mem_map.1 hu
        rw [← pr_KV h.si]
        exact pr_sp (h.up w hw)
      have h2 := pr_sp (n := n) hsp
      rw [pr_vx, pr_J hr, pr_J hr', pr_KV h.si, vx_comm] at h2
      have h3 := h.null hr' (vx_back h2 h1) hz c
      rw [h3] at hb
      cases hb
  · have hz0 : ∀ p, byB sym' p = false := fun p => by
      have := tr1 p
      rw [J_hi] at this
      rw [this]
      exact pf_none D _ p n 0 (fun c _ hc => by rw [J_lo row' sym' (by omega), h0 c])
    have hj : J n row' sym' = v0 := by
      funext c
      by_cases hc : c < n
      · rw [J_lo row' sym' hc, h0 c]; rfl
      · rw [show c = n + (c - n) by omega, J_hi, hz0]; rfl
    rw [hj, vx_zero] at hsp
    rcases hc with ⟨ha, he⟩ | ⟨ha, he⟩
    · refine .inr ⟨he, ⟨h.si, h.ip, h.f4, tr2, ?_, ?_, ?_⟩, hsp.trans h.dn⟩
      · intro v hv
        rcases List.mem_append.1 hv with g | g
        · exact h.up v g
        · obtain rfl : v = J n row sym := by simpa using g
          exact hsp
      · exact fun v hv => lft (h.dn v hv)
      · rw [List.length_append]; omega
    · rw [allZero_of hs' hz0] at ha
      cases ha
theorem TI.rk {x : S74} {n m : Nat} {D : Nat → Nat → Bool} {L : List V} (h : TI x n m D L) : Rk (L.map (pr n)) x.f2.length := by
  obtain ⟨P, hP⟩ := h.ip
  have hi := tri_ind _ hP.tri hP.own
  rw [hP.map_fst] at hi
  refine ⟨_, hi, by rw [List.length_reverse, List.length_map], fun b hb => ?_, fun v hv => ?_⟩
  · have hb' := List.mem_reverse.1 hb
    rw [← pr_KV h.si] at hb'
    obtain ⟨w, hw, rfl⟩ := List.mem_map.1 hb'
    exact pr_sp (h.dn w hw)
  · obtain ⟨w, hw, rfl⟩ := List.mem_map.1 hv
    have := pr_sp (n := n) (h.up w hw)
    rw [pr_KV h.si] at this
    exact this.sub (fun u hu => List.mem_reverse.2 hu)
theorem shl1 (j : Nat) (hj : j < 64) : shl .u64 1 (j : Int) = ((2 ^ j : Nat) : Int) := by
  have hp : (2 : Nat) ^ j < 2 ^ 64 := Nat.pow_lt_pow_right (by decide) hj
  unfold shl
  rw [Int.toNat_natCast, show IntKind.u64.bits = 64 from rfl, Nat.min_eq_left (by omega), Int.one_mul]
  have e : ((2 : Int) ^ j) = ((2 ^ j : Nat) : Int) := by push_cast; rfl
  rw [e]
  exact wrap_u _ hp
theorem mask_row (n : Nat) (h1 : 1 ≤ n) (h2 : n ≤ 12) (a : Int) (ha : U64 a) : RowOK n [Go.bits .and .u64 a (IntKind.u64.wrap ((shl .u64 1 (IntKind.u64.wrap (n : Int))) - 1))] := by
  have e1 : IntKind.u64.wrap (n : Int) = (n : Int) := wrap_u n (by omega)
  have hp : 1 ≤ 2 ^ n := Nat.one_le_two_pow
  have hp2 : (2 : Nat) ^ n < 2 ^ 64 := Nat.pow_lt_pow_right (by decide) (by omega)
  have hp3 : (2 : Nat) ^ n < 18446744073709551616 := hp2
  have e2 : IntKind.u64.wrap ((shl .u64 1 (IntKind.u64.wrap (n : Int))) - 1) = ((2 ^ n - 1 : Nat) : Int) := by
    rw [e1, shl1 n (by omega), show ((2 ^ n : Nat) : Int) - 1 = ((2 ^ n - 1 : Nat) : Int) by omega, wrap_u _ (by omega)]
  rw [e2]
  obtain ⟨q, rfl⟩ := Int.eq_ofNat_of_zero_le ha.1
  have hq : q < 18446744073709551616 := by have := ha.2; omega
  rw [bits_and_u64_nat q (2 ^ n - 1) hq (by omega), Nat.and_two_pow_sub_one_eq_mod]
  have hm : q % 2 ^ n < 2 ^ n := Nat.mod_lt _ hp
  generalize q % 2 ^ n = M at hm ⊢
  refine ⟨by unfold nW; rw [Int.toNat_natCast]; show 1 = _; omega, fun x hx => ?_, fun c hc => ?_⟩
  · obtain rfl : x = _ := by simpa using hx
    exact ⟨by omega, by omega⟩
  · by_cases hc2 : c < 64
    · unfold hasB
      rw [show c / 64 = 0 by omega, show c % 64 = c by omega]
      show (_ && ((M : Int)).toNat.testBit c) = false
      rw [Int.toNat_natCast, Nat.testBit_lt_two_pow (Nat.lt_of_lt_of_le hm (Nat.pow_le_pow_right (by decide) hc)), Bool.and_false]
    · exact hasB_big (by show 64 * 1 ≤ c; omega)
theorem fit_l1 (m : Int) (a0 : Int) (l1 : List (List Int)) (S : List (List Int)) (h1 : 1 ≤ S.length) (h2 : S.length ≤ 12) (R : List Int) (hR : ∀ x ∈ R, U64 x) :
    ∀ (d : Nat) (i : Nat) (acc : List Int), i + d = min R.length 24 → acc.length = i → (∀ a ∈ acc, RowOK S.length [a]) →
    ∃ rows : List Int, Ev (fun k => geyserlaw05_fit.l1 k (i : Int) a0 l1 R m S acc) (m, S, rows) ∧ rows.length ≤ 24 ∧ ∀ a ∈ rows, RowOK S.length [a] := by
  intro d
  induction d with
  | zero =>
    intro i acc hi hl ha
    refine ⟨acc, ?_, by omega, ha⟩
    refine Ev.step (f := fun _ => some (m, S, acc)) (fun k => ?_) (Ev.now _)
    rw [geyserlaw05_fit.l1]
    by_cases c : (i : Int) < (R.length : Int)
    · rw [if_pos c, if_neg (by omega)]
    · rw [if_neg c]
  | succ d ih =>
    intro i acc hi hl ha
    have hw : wrap64 ((i : Int) + 1) = ((i + 1 : Nat) : Int) := by rw [w64s (by omega) (by omega)]; rfl
    have hu : IntKind.u64.wrap (S.length : Int) = (S.length : Int) := wrap_u S.length (by omega)
    have hm : rd R (i : Int) ∈ R := by unfold rd; rw [Int.toNat_natCast]; exact getD_mem (by omega)
    obtain ⟨rows, he, g⟩ := ih (i + 1) (acc ++ [Go.bits .and .u64 (rd R (i : Int)) (IntKind.u64.wrap ((shl .u64 1 (IntKind.u64.wrap (S.length : Int))) - 1))]) (by omega) (by simp; omega) (fun a h => by
      rcases List.mem_append.1 h with h | h
      · exact ha a h
      · obtain rfl : a = _ := by simpa using h
        exact mask_row S.length h1 h2 _ (hR _ hm))
    refine ⟨rows, Ev.step (fun k => ?_) he, g⟩
    rw [geyserlaw05_fit.l1, if_pos (by omega), if_pos (by omega), if_pos (by omega), if_pos (by rw [hu]; omega), if_pos (by omega), hw]
theorem copy_sym (m : Nat) (s : List Int) (hs : ∀ x ∈ s, 0 ≤ x ∧ x ≤ 255) : SymOK m (copyL (List.replicate m 0) s) :=
  ⟨by rw [copyL_length, List.length_replicate], fun x hx => by
    unfold copyL at hx
    rcases List.mem_append.1 hx with h | h
    · exact hs x (List.mem_of_mem_take h)
    · obtain rfl := List.eq_of_mem_replicate (List.mem_of_mem_drop h)
      exact ⟨Int.le_refl _, by decide⟩⟩
theorem fit_l0 (m : Nat) (hm : 1 ≤ m) (hm4 : m ≤ 4) (a0 : Int) (L : List (List Int)) (hL : ∀ s ∈ L, ∀ x ∈ s, 0 ≤ x ∧ x ≤ 255) (R : List Int) (hR : ∀ x ∈ R, U64 x) :
    ∀ (d : Nat) (i : Nat) (acc : List (List Int)), i + d = min L.length 12 → acc.length = i → (∀ s ∈ acc, SymOK m s) →
    ∃ (S : List (List Int)) (rows : List Int), Ev (fun k => geyserlaw05_fit.l0 k (m : Int) (i : Int) a0 L R (m : Int) acc) ((m : Int), S, rows) ∧ (1 ≤ S.length ∧ S.length ≤ 12) ∧ (∀ s ∈ S, SymOK m s) ∧ rows.length ≤ 24 ∧ ∀ a ∈ rows, RowOK S.length [a] := by
  intro d
  induction d with
  | zero =>
    intro i acc hi hl ha
    have key : ∀ {r}, Ev (fun k => geyserlaw05_fit.j1 k (m : Int) a0 L R (m : Int) acc) r → Ev (fun k => geyserlaw05_fit.l0 k (m : Int) (i : Int) a0 L R (m : Int) acc) r := fun h => Ev.step (fun k => by
      rw [geyserlaw05_fit.l0]
      by_cases c : (i : Int) < (L.length : Int)
      · rw [if_pos c, if_neg (by omega)]
      · rw [if_neg c]) h
    by_cases h0 : acc.length = 0
    · have hz : SymOK m (List.replicate m (0 : Int)) := by
        have := SymOK.zeros m
        unfold zeros at this
        rwa [Int.toNat_natCast] at this
      obtain ⟨rows, he, g1, g2⟩ := fit_l1 (m : Int) a0 L [List.replicate m 0] (by simp) (by simp) R hR (min R.length 24) 0 [] (by omega) rfl (fun a h => by cases h)
      refine ⟨[List.replicate m 0], rows, key (Ev.step (f := fun k => geyserlaw05_fit.j2 k a0 L R (m : Int) [List.replicate m 0]) (fun k => ?_) (Ev.step (fun k => ?_) he)), ⟨by simp, by simp⟩, (fun s hs => by
        obtain rfl : s = _ := by simpa using hs
        exact hz), g1, g2⟩
      · rw [geyserlaw05_fit.j1, if_pos (by omega), if_pos (by omega), Int.toNat_natCast, if_pos (by omega)]
      · rw [geyserlaw05_fit.j2]; rfl
    · obtain ⟨rows, he, g1, g2⟩ := fit_l1 (m : Int) a0 L acc (by omega) (by omega) R hR (min R.length 24) 0 [] (by omega) rfl (fun a h => by cases h)
      refine ⟨acc, rows, key (Ev.step (f := fun k => geyserlaw05_fit.j2 k a0 L R (m : Int) acc) (fun k => ?_) (Ev.step (fun k => ?_) he)), ⟨by omega, by omega⟩, ha, g1, g2⟩
      · rw [geyserlaw05_fit.j1, if_neg (by omega)]
      · rw [geyserlaw05_fit.j2]; rfl
  | succ d ih =>
    intro i acc hi hl ha
    have hw : wrap64 ((i : Int) + 1) = ((i + 1 : Nat) : Int) := by rw [w64s (by omega) (by omega)]; rfl
    have hmem : rd_Lsu8 L (i : Int) ∈ L := by
      unfold rd_Lsu8
      rw [Int.toNat_natCast, List.getD_eq_getElem?_getD, List.getElem?_eq_getElem (by omega)]
      exact List.getElem_mem _
    obtain ⟨S, rows, he, g⟩ := ih (i + 1) (acc ++ [copyL (List.replicate m 0) (rd_Lsu8 L (i : Int))]) (by omega) (by simp; omega) (fun s h => by
      rcases List.mem_append.1 h with h | h
      · exact ha s h
      · obtain rfl : s = _ := by simpa using h
        exact copy_sym m _ (hL _ hmem))
    refine ⟨S, rows, Ev.step (fun k => ?_) he, g⟩
    rw [geyserlaw05_fit.l0, if_pos (by omega), if_pos (by omega), if_pos (by omega), if_pos (by rw [Int.toNat_natCast]; omega), if_pos (by omega), if_pos (by omega), hw, Int.toNat_natCast]
theorem fit_ev (a0 : Int) (L : List (List Int)) (hL : ∀ s ∈ L, ∀ x ∈ s, 0 ≤ x ∧ x ≤ 255) (R : List Int) (hR : ∀ x ∈ R, U64 x) :
    ∃ (m : Nat) (S : List (List Int)) (rows : List Int), Ev (fun k => geyserlaw05_fit.f k a0 L R) ((m : Int), S, rows) ∧ (1 ≤ m ∧ m ≤ 4) ∧ (1 ≤ S.length ∧ S.length ≤ 12) ∧ (∀ s ∈ S, SymOK m s) ∧ rows.length ≤ 24 ∧ ∀ a ∈ rows, RowOK S.length [a] := by
  have hm : ∃ m : Nat, wrap64 (1 + (wrap64 (Int.tmod (IntKind.u64.wrap (a0)) 4))) = (m : Int) ∧ 1 ≤ m ∧ m ≤ 4 := by
    have h0 : 0 ≤ IntKind.u64.wrap a0 := by rw [IntKind.wrap_u64]; omega
    rw [Int.tmod_eq_emod_of_nonneg h0]
    generalize IntKind.u64.wrap a0 = b at h0
    refine ⟨(1 + b % 4).toNat, ?_, by omega, by omega⟩
    rw [w64s (x := b % 4) (by omega) (by omega), w64s (by omega) (by omega)]
    omega
  obtain ⟨m, e, h1, h2⟩ := hm
  obtain ⟨S, rows, he, g⟩ := fit_l0 m h1 h2 a0 L hL R hR (min L.length 12) 0 [] (by omega) rfl (fun s h => by cases h)
  refine ⟨m, S, rows, ?_, ⟨h1, h2⟩, g⟩
  unfold geyserlaw05_fit.f
  rw [e]
  exact he
end Go.Proofs.YtjmgkknbgffbjaaDoor.Pure
namespace Go.Proofs.YtjmgkknbgffbjaaDoor.P
open Go.RowKit Go.Proofs.YtjmgkknbgffbjaaDoorW.PrintWords Go.Proofs.YtjmgkknbgffbjaaDoorW.PrintLast Go.Proofs.YtjmgkknbgffbjaaDoorW.PrintErr Go.Proofs.YtjmgkknbgffbjaaDoorW.PrintMore
attribute [local go_sem] max2_int min2_int max_two min_two max_three min_three max_four min_four run_eql_errOf run_neq_errOf eqGuard_errOf run_eql_ptrOf run_neq_ptrOf eqGuard_ptrOf   -- for this text's walks alone
set_option linter.unusedVariables false
set_option linter.unusedSimpArgs false
def packed_check.l0 : Nat → Int → List Int → Int → Int → Option (Int)
 | 0, _, _, _, _ => none
 | k + 1, x1, x13, x14, x15 => if x15 < x14 then (if 0 ≤ x15 then (if x15 < (x13.length : Int) then (if (rd x13 x15) < 0 then (some 1) else (if (rd x13 x15) ≥ x1 then (some 1) else (packed_check.l0 k x1 x13 x14 (wrap64 (x15 + 1))))) else (none)) else (none)) else (some 0)
def packed_check.f (k : Nat) (l0 : List Int) (a1 : Int) : Option (Int) := if a1 < 0 then (some 1) else (if a1 > 4096 then (some 1) else (packed_check.l0 k a1 l0 (l0.length : Int) 0))
theorem packed_check.mono_l : ∀ k, (∀ y0 y1 y2 y3, LeO (packed_check.l0 k y0 y1 y2 y3) (packed_check.l0 (k + 1) y0 y1 y2 y3))
 | 0 => fun _ _ _ _ r h => by simp [packed_check.l0] at h
 | k + 1 => by
  have ih0 := packed_check.mono_l k
  ·intro y0 y1 y2 y3
   unfold packed_check.l0
   repeat' first
   | (with_reducible exact ih0 _ _ _ _)
   | (with_reducible exact LeO.refl _)
   | (with_reducible exact LeO.none _)
   | (with_reducible refine LeO.ite ?_ ?_)
   | (with_reducible refine LeO.bind ?_ (fun _ => ?_))
   | exact ih0 _ _ _ _
   | exact LeO.none _
   | refine LeO.ite ?_ ?_
   | refine LeO.bind ?_ (fun _ => ?_)
theorem packed_check.mono : ∀ a0 a1 k, LeO (packed_check.f k a0 a1) (packed_check.f (k + 1) a0 a1) := by
 intro a0 a1 k
 have ih0 := packed_check.mono_l k
 unfold packed_check.f
 repeat' first
   | (with_reducible exact ih0 _ _ _ _)
   | (with_reducible exact LeO.refl _)
   | (with_reducible exact LeO.none _)
   | (with_reducible refine LeO.ite ?_ ?_)
   | (with_reducible refine LeO.bind ?_ (fun _ => ?_))
   | exact ih0 _ _ _ _
   | exact LeO.none _
   | refine LeO.ite ?_ ?_
   | refine LeO.bind ?_ (fun _ => ?_)
set_option maxHeartbeats 8000000 in
set_option maxRecDepth 100000 in
theorem packed_check.calls (k : Nat) (A0 : Option Addr) (c0 : Nat) (l0 : List Int) (a1 : Int) (r : Int) (w : World) (hr0 : Kd.C (Kd.int .i64) w A0 l0.length l0) (hc0 : l0.length ≤ c0) (h : packed_check.f k l0 a1 = some r) :
  Calls Tryd.prog 53 #[.slice A0 l0.length c0, .int .i64 a1] w fun e w' => e = .returned (.int .i64 r) ∧ Drawn0 w w' := by
 have HR0 := AQ hr0
 have HC0 := AQ hc0
 clear hr0 hc0
 have H : (if a1 < 0 then (some 1) else (if a1 > 4096 then (some 1) else (packed_check.l0 k a1 l0 (l0.length : Int) 0))) = some r := h
 clear h
 by_cases c3 : a1 < 0
 ·rw [if_pos c3] at H
  have c3b0 : decide (a1 < 0) = true := decide_eq_true c3
  clear c3
  obtain rfl := Option.some.inj H
  go_enter Tryd.func53, Tryd.ntmps53
  go_wp2
  go_ret
  exact ⟨by first | rfl | (simp; done) | (simp [*]; done), by repeat (first | exact Drawn0.refl _ | apply Drawn0.step)⟩
 ·rw [if_neg c3] at H
  have c3b0 : decide (a1 < 0) = false := decide_eq_false c3
  clear c3
  by_cases c4 : a1 > 4096
  ·rw [if_pos c4] at H
   have c4b0 : decide (4096 < a1) = true := decide_eq_true c4
   clear c4
   obtain rfl := Option.some.inj H
   go_enter Tryd.func53, Tryd.ntmps53
   go_wp2
   go_ret
   exact ⟨by first | rfl | (simp; done) | (simp [*]; done), by repeat (first | exact Drawn0.refl _ | apply Drawn0.step)⟩
  ·rw [if_neg c4] at H
   have c4b0 : decide (4096 < a1) = false := decide_eq_false c4
   clear c4
   have H' := AQ H
   clear H
   go_enter Tryd.func53, Tryd.ntmps53
   go_wp2
   go_loopg [15] k (fun kq v15 w' => ∃ (x15_1 : Int), v15 = .int .i64 x15_1 ∧ Aside0 (packed_check.l0 kq a1 l0 (l0.length : Int) x15_1 = some r) ∧ Aside0 (kq ≤ k) ∧ Drawn0 w w')
   case atStart => exact ⟨(0), (by first | rfl | (simp; done) | (simp [*]; done)), H', ⟨Nat.le_refl _⟩, by repeat (first | exact Drawn0.refl _ | apply Drawn0.step)⟩
   case round =>
    clear H'
    try clear p2
    try clear c3
    try clear c3b0
    try clear c4
    try clear c4b0
    obtain ⟨x15_1, rfl, HA, HK1, ⟨m1, rfl⟩⟩ := hrel
    cases gk with
    | zero => exact absurd HA.out (by simp [packed_check.l0])
    | succ k1 =>
     have H := HA.out
     clear HA
     simp only [packed_check.l0] at H
     by_cases c5 : x15_1 < (l0.length : Int)
     ·rw [if_pos c5] at H
      have c5b0 : decide (x15_1 < (l0.length : Int)) = true := decide_eq_true c5
      clear c5
      by_cases c6 : 0 ≤ x15_1
      ·rw [if_pos c6] at H
       have c6b0 : decide (0 ≤ x15_1) = true := decide_eq_true c6
       clear c6
       by_cases c7 : x15_1 < (l0.length : Int)
       ·rw [if_pos c7] at H
        have c7b0 : decide (x15_1 < (l0.length : Int)) = true := decide_eq_true c7
        clear c7
        by_cases c8 : (rd l0 x15_1) < 0
        ·rw [if_pos c8] at H
         have c8b0 : decide ((rd l0 x15_1) < 0) = true := decide_eq_true c8
         clear c8
         obtain rfl := Option.some.inj H
         have p231 : 0 ≤ (x15_1 : Int) := of_decide_eq_true (by first | (with_reducible assumption) | assumption)
         have q231 : x15_1 < (l0.length : Int) := of_decide_eq_true (by first | (with_reducible assumption) | assumption)
         obtain ⟨ad231, e231, hx231_0⟩ := Kd.at_int HR0.out x15_1 p231 q231
         cases e231
         replace p231 := eq_true p231
         replace q231 := eq_true q231
         go_wp2
         go_ret
         exact ⟨by first | rfl | (simp; done) | (simp [*]; done), by repeat (first | exact Drawn0.refl _ | apply Drawn0.step)⟩
        ·rw [if_neg c8] at H
         have c8b0 : decide ((rd l0 x15_1) < 0) = false := decide_eq_false c8
         clear c8
         by_cases c9 : (rd l0 x15_1) ≥ a1
         ·rw [if_pos c9] at H
          have c9b0 : decide (a1 ≤ (rd l0 x15_1)) = true := decide_eq_true c9
          clear c9
          obtain rfl := Option.some.inj H
          have p231 : 0 ≤ (x15_1 : Int) := of_decide_eq_true (by first | (with_reducible assumption) | assumption)
          have q231 : x15_1 < (l0.length : Int) := of_decide_eq_true (by first | (with_reducible assumption) | assumption)
          obtain ⟨ad231, e231, hx231_0⟩ := Kd.at_int HR0.out x15_1 p231 q231
          cases e231
          replace p231 := eq_true p231
          replace q231 := eq_true q231
          go_wp2
          go_ret
          exact ⟨by first | rfl | (simp; done) | (simp [*]; done), by repeat (first | exact Drawn0.refl _ | apply Drawn0.step)⟩
         ·rw [if_neg c9] at H
          have c9b0 : decide (a1 ≤ (rd l0 x15_1)) = false := decide_eq_false c9
          clear c9
          have H' := AQ H
          clear H
          have p231 : 0 ≤ (x15_1 : Int) := of_decide_eq_true (by first | (with_reducible assumption) | assumption)
          have q231 : x15_1 < (l0.length : Int) := of_decide_eq_true (by first | (with_reducible assumption) | assumption)
          obtain ⟨ad231, e231, hx231_0⟩ := Kd.at_int HR0.out x15_1 p231 q231
          cases e231
          replace p231 := eq_true p231
          replace q231 := eq_true q231
          go_wp2
          go_roundg k1
          case measure => have := HK1.out; omega
          case rel => exact ⟨(wrap64 (x15_1 + 1)), (by first | rfl | (simp; done) | (simp [*]; done)), H', ⟨by have := HK1.out; omega⟩, by repeat (first | exact Drawn0.refl _ | apply Drawn0.step)⟩
       ·rw [if_neg c7] at H
        exact absurd H (by simp)
      ·rw [if_neg c6] at H
       exact absurd H (by simp)
     ·rw [if_neg c5] at H
      have c5b0 : decide (x15_1 < (l0.length : Int)) = false := decide_eq_false c5
      clear c5
      obtain rfl := Option.some.inj H
      go_wp2
      go_ret
      exact ⟨by first | rfl | (simp; done) | (simp [*]; done), by repeat (first | exact Drawn0.refl _ | apply Drawn0.step)⟩
def packed_Pack.l0 : Nat → List Int → List Int → Int → Int → Option (List Int × List FE)
 | 0, _, _, _, _ => none
 | k + 1, x7, x20, x21, x22 => if x22 < x21 then (if 0 ≤ x22 then (if x22 < (x20.length : Int) then ((packed_Has.f x7 (rd x20 x22)).bind fun t241 => (if t241 = true then ((fault_New.f (⟨#[112, 97, 99, 107, 101, 100, 46, 80, 97, 99, 107]⟩ : ByteArray) 2).bind fun t242 => (some (([] : List Int), t242))) else (if 0 ≤ (wrap64 (Int.tdiv (rd x20 x22) 64)) then (if (wrap64 (Int.tdiv (rd x20 x22) 64)) < (x7.length : Int) then (if 0 ≤ (Int.tmod (rd x20 x22) 64) then (packed_Pack.l0 k (x7.set ((wrap64 (Int.tdiv (rd x20 x22) 64)) : Int).toNat (Go.bits .or .u64 (rd x7 (wrap64 (Int.tdiv (rd x20 x22) 64))) (shl .u64 1 (Int.tmod (rd x20 x22) 64)))) x20 x21 (wrap64 (x22 + 1))) else (none)) else (none)) else (none)))) else (none)) else (none)) else (some (x7, ([] : List FE)))
def packed_Pack.f (k : Nat) (l0 : List Int) (a1 : Int) : Option (List Int × List FE) := (packed_check.f k l0 a1).bind fun t232 => (if t232 = 0 then ((packed_Size.f a1).bind fun t236 => (if 0 ≤ t236 then (if (t236 : Int).toNat ≤ 35184372088832 then (packed_Pack.l0 k (List.replicate (t236 : Int).toNat 0) l0 (l0.length : Int) 0) else (none)) else (none))) else ((fault_New.f (⟨#[112, 97, 99, 107, 101, 100, 46, 80, 97, 99, 107]⟩ : ByteArray) t232).bind fun t233 => (some (([] : List Int), t233))))
theorem packed_Pack.mono_l : ∀ k, (∀ y0 y1 y2 y3, LeO (packed_Pack.l0 k y0 y1 y2 y3) (packed_Pack.l0 (k + 1) y0 y1 y2 y3))
 | 0 => fun _ _ _ _ r h => by simp [packed_Pack.l0] at h
 | k + 1 => by
  have ih0 := packed_Pack.mono_l k
  ·intro y0 y1 y2 y3
   unfold packed_Pack.l0
   repeat' first
   | (with_reducible exact ih0 _ _ _ _)
   | (with_reducible exact packed_check.mono _ _ _)
   | (with_reducible exact LeO.refl _)
   | (with_reducible exact LeO.none _)
   | (with_reducible refine LeO.ite ?_ ?_)
   | (with_reducible refine LeO.bind ?_ (fun _ => ?_))
   | exact ih0 _ _ _ _
   | exact packed_check.mono _ _ _
   | exact LeO.none _
   | refine LeO.ite ?_ ?_
   | refine LeO.bind ?_ (fun _ => ?_)
theorem packed_Pack.mono : ∀ a0 a1 k, LeO (packed_Pack.f k a0 a1) (packed_Pack.f (k + 1) a0 a1) := by
 intro a0 a1 k
 have ih0 := packed_Pack.mono_l k
 unfold packed_Pack.f
 repeat' first
   | (with_reducible exact ih0 _ _ _ _)
   | (with_reducible exact packed_check.mono _ _ _)
   | (with_reducible exact LeO.refl _)
   | (with_reducible exact LeO.none _)
   | (with_reducible refine LeO.ite ?_ ?_)
   | (with_reducible refine LeO.bind ?_ (fun _ => ?_))
   | exact ih0 _ _ _ _
   | exact packed_check.mono _ _ _
   | exact LeO.none _
   | refine LeO.ite ?_ ?_
   | refine LeO.bind ?_ (fun _ => ?_)
def packed_Pack.T10 : Bool × List (List Nat × List Nat) := (true, [([], []), ([], []), ([1], [1]), ([0, 2], [0, 2]), ([3], [3]), ([], []), ([5], [5]), ([6], [6]), ([4, 7], [4, 7]), ([0, 2, 0, 1, 2, 3, 4, 5, 6, 7, 8], [0, 2]), ([9, 8, 0, 1, 2, 3, 4, 5, 6, 7, 8], [8, 9])])
def packed_Pack.B10 : List Nat := [0, 0, 2, 7, 15, 0, 32, 96, 255, 511, 1023]
theorem packed_Pack.tab10 : rtab .any (opsOf Tryd.f35 10) = packed_Pack.T10 := by kernel_rfl
theorem packed_Pack.bits10 : waitsOk packed_Pack.T10.2 packed_Pack.B10 = true := by kernel_rfl
set_option maxHeartbeats 8000000 in
set_option maxRecDepth 100000 in
theorem packed_Pack.calls (k : Nat) (A0 : Option Addr) (c0 : Nat) (l0 : List Int) (a1 : Int) (r1 : List Int) (r2 : List FE) (w : World) (hr0 : Kd.C (Kd.int .i64) w A0 l0.length l0) (hc0 : l0.length ≤ c0) (h : packed_Pack.f k l0 a1 = some (r1, r2)) :
  Calls Tryd.prog 35 #[.slice A0 l0.length c0, .int .i64 a1] w fun e w' => ∃ v0_ v1_ : Value, e = .returned (.tuple #[v0_, (errOf v1_)]) ∧ Kd.R (Kd.int .u64) 35 w' w.heap.size (fun _ => True) v0_ r1 ∧ Kd.R kF 95 w' w.heap.size (fun _ => True) v1_ r2 ∧ Below w.heap.size w w' := by
 have HR0 := AQ hr0
 have HC0 := AQ hc0
 clear hr0 hc0
 have HB := AQ (Below.refl w.heap.size w)
 have H : ((packed_check.f k l0 a1).bind fun t232 => (if t232 = 0 then ((packed_Size.f a1).bind fun t236 => (if 0 ≤ t236 then (if (t236 : Int).toNat ≤ 35184372088832 then (packed_Pack.l0 k (List.replicate (t236 : Int).toNat 0) l0 (l0.length : Int) 0) else (none)) else (none))) else ((fault_New.f (⟨#[112, 97, 99, 107, 101, 100, 46, 80, 97, 99, 107]⟩ : ByteArray) t232).bind fun t233 => (some (([] : List Int), t233))))) = some (r1, r2) := h
 clear h
 replace H := Option.bind_eq_some_iff.mp H
 obtain ⟨t232, A30, H⟩ := H
 replace H : (if t232 = 0 then ((packed_Size.f a1).bind fun t236 => (if 0 ≤ t236 then (if (t236 : Int).toNat ≤ 35184372088832 then (packed_Pack.l0 k (List.replicate (t236 : Int).toNat 0) l0 (l0.length : Int) 0) else (none)) else (none))) else ((fault_New.f (⟨#[112, 97, 99, 107, 101, 100, 46, 80, 97, 99, 107]⟩ : ByteArray) t232).bind fun t233 => (some (([] : List Int), t233)))) = some (r1, r2) := H
 have A3 := AQ A30
 clear A30
 by_cases c4 : t232 = 0
 ·rw [if_pos c4] at H
  have c4b0 : (t232 == 0) = true := beq_iff_eq.mpr c4
  have c4b1 : (t232 != 0) = false := bne_eq_false_iff_eq.mpr c4
  clear c4
  replace H := Option.bind_eq_some_iff.mp H
  obtain ⟨t236, A50, H⟩ := H
  replace H : (if 0 ≤ t236 then (if (t236 : Int).toNat ≤ 35184372088832 then (packed_Pack.l0 k (List.replicate (t236 : Int).toNat 0) l0 (l0.length : Int) 0) else (none)) else (none)) = some (r1, r2) := H
  have A5 := AQ A50
  clear A50
  by_cases c6 : 0 ≤ t236
  ·rw [if_pos c6] at H
   have c6b0 := eq_true c6
   have c6b1 : decide (0 ≤ t236) = true := decide_eq_true c6
   clear c6
   by_cases c7 : (t236 : Int).toNat ≤ 35184372088832
   ·rw [if_pos c7] at H
    have c7b0 := eq_true c7
    have c7b1 : decide ((t236 : Int).toNat ≤ 35184372088832) = true := decide_eq_true c7
    clear c7
    obtain ⟨y237, hy237⟩ : ∃ y_ : List Int, y_ = (List.replicate (t236 : Int).toNat 0) := ⟨_, rfl⟩
    replace H : (packed_Pack.l0 k y237 l0 (l0.length : Int) 0) = some (r1, r2) := by first | (rw [hy237]; with_reducible exact H) | (have H2_ := (Option.bind_some _ _).symm.trans H; rw [hy237]; with_reducible exact H2_) | (have H2_ := (Option.bind_some _ _).symm.trans H; with_reducible exact H2_) | with_reducible exact H | (rw [hy237]; exact H) | exact H
    have Ny237 := AQ hy237
    clear hy237
    have H' := AQ H
    clear H
    go_enter Tryd.func35, Tryd.ntmps35
    go_wp2_with (first | ((with_reducible refine gate_callee (f := 53) rfl ?_); refine goesL_ (some 12) rfl rfl Tryd.func53 (by kernel_rfl) rfl #[.slice A0 l0.length c0, .int .i64 a1] rfl (by (try simp only [List.map_toArray, List.map_cons, List.map_nil]); first | done | rfl | (simp only [List.length_drop, List.length_take]; rfl)) ?_; (with_reducible refine (packed_check.calls k _ _ l0 a1 t232 _ ?side1 ?side2 A3.out).mono ?_); (case side1 => repeat (first | exact HR0.out | (with_reducible refine Kd.C_alloc ?_ _) | (with_reducible refine Kd.C_drewN ?_ _) | (with_reducible refine Kd.C_drew ?_))); (case side2 => exact HC0.out); rintro e w' ⟨rfl, ⟨nd, rfl⟩⟩; refine ⟨_, rfl, ?_⟩) | ((with_reducible refine gate_callee (f := 46) rfl ?_); refine goesL_ (some 18) rfl rfl Tryd.func46 (by kernel_rfl) rfl #[.int .i64 a1] rfl (by (try simp only [List.map_toArray, List.map_cons, List.map_nil]); first | done | rfl | (simp only [List.length_drop, List.length_take]; rfl)) ?_; (with_reducible refine (packed_Size.calls a1 t236 _ A5.out).mono ?_); rintro e w' ⟨rfl, ⟨nd, rfl⟩⟩; refine ⟨_, rfl, ?_⟩) | ((with_reducible refine gate_dst (N := 19) rfl ?_); refine Kd.R_make (Kd.int .u64) _ 35 rfl (N := 19) rfl 23 _ _ rfl t236 rfl rfl Tryd.underlying23 (.int .u64 0) 8 info35 rfl (by decide) (by omega) 0 (ok := fun _ => True) (okp := fun _ => True) rfl (fun _ hk => hk) trivial (of_decide_eq_true (by first | (with_reducible assumption) | assumption)) (Nat.le_trans (Nat.mul_le_mul_right _ (of_decide_eq_true (by first | (with_reducible assumption) | assumption) : t236.toNat ≤ 35184372088832)) (by omega)) (Below.refl _ _) (Nat.le_refl _) ?_; intro v238 w8 ho9 hb hg_ hnew_; clear hg_ hnew_; (first | rw [← Ny237.out] at ho9 | (simp only [Int.reduceToNat] at ho9; rw [← Ny237.out] at ho9)); have n0_ := AQ (Kd.R_lower ho9 (below_size (PB HB))); have n1_ := AQ (below_step (PB HB) hb); clear HB; have HO239 := n0_; have HB := n1_; clear n0_ n1_; clear hb ho9))
    go_loopg [22] k (fun kq v22 w' => ∃ (x7_1 : List Int) (x22_1 : Int), v22 = .int .i64 x22_1 ∧ Aside0 (packed_Pack.l0 kq x7_1 l0 (l0.length : Int) x22_1 = some (r1, r2)) ∧ Aside0 (kq ≤ k) ∧ Aside0 (Kd.R (Kd.int .u64) 35 w' w.heap.size (fun _ => True) v238 x7_1) ∧ Aside0 (Below w.heap.size w w'))
    case atStart => exact ⟨(y237), (0), (by first | rfl | (simp; done) | (simp [*]; done)), H', ⟨Nat.le_refl _⟩, ⟨PR HO239⟩, ⟨PB HB⟩⟩
    case round =>
     clear H'
     try clear p2
     try clear c3
     try clear c4
     try clear c4b0
     try clear c4b1
     try clear c5
     try clear c6
     try clear c6b0
     try clear c6b1
     try clear c7
     try clear c7b0
     try clear c7b1
     obtain ⟨x7_1, x22_1, rfl, HA, HK1, HO_7, HB⟩ := hrel
     cases gk with
     | zero => exact absurd HA.out (by simp [packed_Pack.l0])
     | succ k1 =>
      have H := HA.out
      clear HA
      simp only [packed_Pack.l0] at H
      by_cases c10 : x22_1 < (l0.length : Int)
      ·rw [if_pos c10] at H
       have c10b0 : decide (x22_1 < (l0.length : Int)) = true := decide_eq_true c10
       clear c10
       by_cases c11 : 0 ≤ x22_1
       ·rw [if_pos c11] at H
        have c11b0 : decide (0 ≤ x22_1) = true := decide_eq_true c11
        clear c11
        by_cases c12 : x22_1 < (l0.length : Int)
        ·rw [if_pos c12] at H
         have c12b0 : decide (x22_1 < (l0.length : Int)) = true := decide_eq_true c12
         clear c12
         replace H := Option.bind_eq_some_iff.mp H
         obtain ⟨t241, A130, H⟩ := H
         replace H : (if t241 = true then ((fault_New.f (⟨#[112, 97, 99, 107, 101, 100, 46, 80, 97, 99, 107]⟩ : ByteArray) 2).bind fun t242 => (some (([] : List Int), t242))) else (if 0 ≤ (wrap64 (Int.tdiv (rd l0 x22_1) 64)) then (if (wrap64 (Int.tdiv (rd l0 x22_1) 64)) < (x7_1.length : Int) then (if 0 ≤ (Int.tmod (rd l0 x22_1) 64) then (packed_Pack.l0 k1 (x7_1.set ((wrap64 (Int.tdiv (rd l0 x22_1) 64)) : Int).toNat (Go.bits .or .u64 (rd x7_1 (wrap64 (Int.tdiv (rd l0 x22_1) 64))) (shl .u64 1 (Int.tmod (rd l0 x22_1) 64)))) l0 (l0.length : Int) (wrap64 (x22_1 + 1))) else (none)) else (none)) else (none))) = some (r1, r2) := H
         have A13 := AQ A130
         clear A130
         by_cases c14 : t241 = true
         ·subst c14
          have H1 : ((fault_New.f (⟨#[112, 97, 99, 107, 101, 100, 46, 80, 97, 99, 107]⟩ : ByteArray) 2).bind fun t242 => (some (([] : List Int), t242))) = some (r1, r2) := by rw [if_pos rfl] at H; exact H
          clear H
          have H := H1
          clear H1
          replace H := Option.bind_eq_some_iff.mp H
          obtain ⟨t242, A150, H⟩ := H
          replace H : (some (([] : List Int), t242)) = some (r1, r2) := H
          have A15 := AQ A150
          clear A150
          simp only [Option.some.injEq, Prod.mk.injEq] at H
          obtain ⟨rfl, rfl⟩ := H
          have p240 : 0 ≤ (x22_1 : Int) := of_decide_eq_true (by first | (with_reducible assumption) | assumption)
          have q240 : x22_1 < (l0.length : Int) := of_decide_eq_true (by first | (with_reducible assumption) | assumption)
          obtain ⟨ad240, e240, hx240_0⟩ := Kd.at_int HR0.out x22_1 p240 q240
          cases e240
          (first | replace hx240_0 := (HB.out.cell (World.block_lt_of_cell? w _ hx240_0)).trans hx240_0 | skip)
          replace p240 := eq_true p240
          replace q240 := eq_true q240
          obtain ⟨Ao16, co16, eo16⟩ := Kd.R_slice HO_7.out
          subst eo16
          go_wp2_with (first | ((with_reducible refine gate_callee (f := 48) rfl ?_); refine goesL_ (some 28) rfl rfl Tryd.func48 (by kernel_rfl) rfl #[.slice Ao16 x7_1.length co16, .int .i64 (rd l0 x22_1)] rfl (by (try simp only [List.map_toArray, List.map_cons, List.map_nil]); first | done | rfl | (simp only [List.length_drop, List.length_take]; rfl)) ?_; (with_reducible refine (packed_Has.calls _ _ x7_1 (rd l0 x22_1) true _ ?side1 ?side2 A13.out).mono ?_); (case side1 => exact QC HO_7); (case side2 => exact (Kd.R_reads' HO_7.out).2.1); rintro e w' ⟨rfl, ⟨nd, rfl⟩⟩; refine ⟨_, rfl, ?_⟩) | ((with_reducible refine gate_callee (f := 28) rfl ?_); refine goesL_ (some 29) rfl rfl Tryd.func28 (by kernel_rfl) rfl #[.string (⟨#[112, 97, 99, 107, 101, 100, 46, 80, 97, 99, 107]⟩ : ByteArray), .int .i64 2] rfl (by (try simp only [List.map_toArray, List.map_cons, List.map_nil]); first | done | rfl | (simp only [List.length_drop, List.length_take]; rfl)) ?_; (with_reducible refine (fault_New.calls (⟨#[112, 97, 99, 107, 101, 100, 46, 80, 97, 99, 107]⟩ : ByteArray) 2 t242 _ A15.out).mono ?_); rintro e w17 ⟨v243, rfl, ho0, hb⟩; refine ⟨_, rfl, ?_⟩; have n0_ := AQ (Kd.R_below (PR HO_7) hb); have n1_ := AQ (Kd.R_lower ho0 (below_size (PB HB))); have n2_ := AQ (below_step (PB HB) hb); clear HO_7; clear HB; have HO_7 := n0_; have HO244 := n1_; have HB := n2_; clear n0_ n1_ n2_; (try clear hb); (try clear hb2); (try clear hk); (try clear hi); (try clear ho0)))
          go_ret2
          exact ⟨_, _, by first | rfl | (simp [errW_none, errW_some] <;> rfl) | (simp [*, errW_none, errW_some] <;> rfl), by first | exact Kd.R_nil _ _ _ _ _ | exact Kd.N_nil _ _ _ _ _ | exact Kd.V_nil _ _ _ _ _ | exact Kd.Q_nil _ _ _ _ _ | exact Kd.S_nil _ _ _ _ _, PR HO244, PB HB⟩
         ·replace c14 := Bool.eq_false_iff.mpr c14
          subst c14
          have H1 : (if 0 ≤ (wrap64 (Int.tdiv (rd l0 x22_1) 64)) then (if (wrap64 (Int.tdiv (rd l0 x22_1) 64)) < (x7_1.length : Int) then (if 0 ≤ (Int.tmod (rd l0 x22_1) 64) then (packed_Pack.l0 k1 (x7_1.set ((wrap64 (Int.tdiv (rd l0 x22_1) 64)) : Int).toNat (Go.bits .or .u64 (rd x7_1 (wrap64 (Int.tdiv (rd l0 x22_1) 64))) (shl .u64 1 (Int.tmod (rd l0 x22_1) 64)))) l0 (l0.length : Int) (wrap64 (x22_1 + 1))) else (none)) else (none)) else (none)) = some (r1, r2) := by rw [if_neg (show ¬ (false = true) by decide)] at H; exact H
          clear H
          have H := H1
          clear H1
          obtain ⟨ji18, hji18⟩ : ∃ j_ : Int, (wrap64 (Int.tdiv (rd l0 x22_1) 64)) = j_ := ⟨_, rfl⟩
          replace H : (if 0 ≤ (ji18) then (if (ji18) < (x7_1.length : Int) then (if 0 ≤ (Int.tmod (rd l0 x22_1) 64) then (packed_Pack.l0 k1 (x7_1.set ((ji18) : Int).toNat (Go.bits .or .u64 (rd x7_1 (ji18)) (shl .u64 1 (Int.tmod (rd l0 x22_1) 64)))) l0 (l0.length : Int) (wrap64 (x22_1 + 1))) else (none)) else (none)) else (none)) = some (r1, r2) := by first | (rw [hji18] at H; exact H) | (simp only [hji18] at H ⊢; exact H)
          (try rw [hji18] at A13)
          have hji18w : (IntKind.i64.wrap (Int.tdiv (rd l0 x22_1) 64)) = ji18 := (i64_w _).trans hji18
          by_cases c19 : 0 ≤ (ji18)
          ·rw [if_pos c19] at H
           have c19b0 : decide (0 ≤ (ji18)) = true := decide_eq_true c19
           clear c19
           by_cases c20 : (ji18) < (x7_1.length : Int)
           ·rw [if_pos c20] at H
            have c20b0 : decide ((ji18) < (x7_1.length : Int)) = true := decide_eq_true c20
            clear c20
            obtain ⟨ji21, hji21⟩ : ∃ j_ : Int, (Int.tmod (rd l0 x22_1) 64) = j_ := ⟨_, rfl⟩
            replace H : (if 0 ≤ (ji21) then (packed_Pack.l0 k1 (x7_1.set ((ji18) : Int).toNat (Go.bits .or .u64 (rd x7_1 (ji18)) (shl .u64 1 (ji21)))) l0 (l0.length : Int) (wrap64 (x22_1 + 1))) else (none)) = some (r1, r2) := by first | (rw [hji21] at H; exact H) | (simp only [hji21] at H ⊢; exact H)
            (try rw [hji21] at A13)
            by_cases c22 : 0 ≤ (ji21)
            ·rw [if_pos c22] at H
             have c22b0 := eq_true c22
             have c22b1 : decide (0 ≤ (ji21)) = true := decide_eq_true c22
             clear c22
             obtain ⟨ji23, hji23⟩ : ∃ j_ : Int, (shl .u64 1 (ji21)) = j_ := ⟨_, rfl⟩
             replace H : (packed_Pack.l0 k1 (x7_1.set ((ji18) : Int).toNat (Go.bits .or .u64 (rd x7_1 (ji18)) (ji23))) l0 (l0.length : Int) (wrap64 (x22_1 + 1))) = some (r1, r2) := by first | (rw [hji23] at H; exact H) | (simp only [hji23] at H ⊢; exact H)
             (try rw [hji23] at A13)
             have hji23_ : (IntKind.u64.wrap (1 * 2 ^ min (ji21).toNat 64)) = ji23 := hji23
             have hji23z : (ji21) ≤ 64 → (IntKind.u64.wrap (1 * 2 ^ (ji21).toNat)) = ji23 := shl_small hji23
             have hji23u : (IntKind.u64.wrap (2 ^ min (ji21).toNat 64)) = ji23 := by have h_ := hji23_; rw [Int.one_mul] at h_; exact h_
             have hji23v : (ji21) ≤ 64 → (IntKind.u64.wrap (2 ^ (ji21).toNat)) = ji23 := fun hle_ => by have h_ := hji23z hle_; rw [Int.one_mul] at h_; exact h_
             obtain ⟨y246, hy246⟩ : ∃ y_ : List Int, y_ = (x7_1.set ((ji18) : Int).toNat (Go.bits .or .u64 (rd x7_1 (ji18)) (ji23))) := ⟨_, rfl⟩
             replace H : (packed_Pack.l0 k1 y246 l0 (l0.length : Int) (wrap64 (x22_1 + 1))) = some (r1, r2) := by first | (rw [hy246]; with_reducible exact H) | (have H2_ := (Option.bind_some _ _).symm.trans H; rw [hy246]; with_reducible exact H2_) | (have H2_ := (Option.bind_some _ _).symm.trans H; with_reducible exact H2_) | with_reducible exact H | (rw [hy246]; exact H) | exact H
             have Ny246 := AQ hy246
             clear hy246
             have H' := AQ H
             clear H
             have p240 : 0 ≤ (x22_1 : Int) := of_decide_eq_true (by first | (with_reducible assumption) | assumption)
             have q240 : x22_1 < (l0.length : Int) := of_decide_eq_true (by first | (with_reducible assumption) | assumption)
             obtain ⟨ad240, e240, hx240_0⟩ := Kd.at_int HR0.out x22_1 p240 q240
             cases e240
             (first | replace hx240_0 := (HB.out.cell (World.block_lt_of_cell? w _ hx240_0)).trans hx240_0 | skip)
             replace p240 := eq_true p240
             replace q240 := eq_true q240
             obtain ⟨Ao25, co25, eo25⟩ := Kd.R_slice HO_7.out
             subst eo25
             try go_wp2_with (first | ((with_reducible refine gate_callee (f := 48) rfl ?_); refine goesL_ (some 28) rfl rfl Tryd.func48 (by kernel_rfl) rfl #[.slice Ao25 x7_1.length co25, .int .i64 (rd l0 x22_1)] rfl (by (try simp only [List.map_toArray, List.map_cons, List.map_nil]); first | done | rfl | (simp only [List.length_drop, List.length_take]; rfl)) ?_; (with_reducible refine (packed_Has.calls _ _ x7_1 (rd l0 x22_1) false _ ?side1 ?side2 A13.out).mono ?_); (case side1 => exact QC HO_7); (case side2 => exact (Kd.R_reads' HO_7.out).2.1); rintro e w' ⟨rfl, ⟨nd, rfl⟩⟩; refine ⟨_, rfl, ?_⟩; (try (rw [drewN_self wr]; generalize hq_ : World.drewN wr _ = wr; have n0_ : Aside0 (Kd.R (Kd.int .u64) 35 wr w.heap.size (fun _ => True) (.slice Ao25 x7_1.length co25) x7_1) := ⟨by rw [← hq_]; exact (PR HO_7)⟩; have n1_ : Aside0 (Below w.heap.size w wr) := ⟨by rw [← hq_]; exact (PB HB)⟩; clear HO_7 HB hq_; have HO_7 := n0_; have HB := n1_; clear n0_ n1_))))
             have n0_ := AQ (Kd.R_drew HO_7.out)
             have n1_ := AQ (below_drew1 HB.out)
             clear HO_7
             clear HB
             have HO_7 := n0_
             have HB := n1_
             clear n0_ n1_
             have p245 : 0 ≤ ((ji18) : Int) := of_decide_eq_true (by first | (with_reducible assumption) | assumption)
             have q245 : (ji18) < (x7_1.length : Int) := of_decide_eq_true (by first | (with_reducible assumption) | assumption)
             obtain ⟨ad245, e245, hx245_0⟩ := Kd.at_int (Kd.R_reads' HO_7.out).2.2 (ji18) p245 q245
             cases e245
             replace p245 := eq_true p245
             replace q245 := eq_true q245
             have p24 : 0 ≤ ((ji18) : Int) := of_decide_eq_true (by first | (with_reducible assumption) | assumption)
             have q24 : ((ji18) : Int) < ((x7_1.length : Int) : Int) := of_decide_eq_true (by first | (with_reducible assumption) | assumption)
             obtain ⟨go24, co24, eo24, gb24, gl24, cl24, HG24⟩ := Kd.R_form HO_7.out (by omega)
             (first | cases eo24 | (injection eo24 with ea_ en_ ec_; (first | subst ea_ | (injection ea_ with ea_; subst ea_)); subst ec_; clear en_))
             have GB24 := AQ gb24
             have GG24 := AQ HG24
             clear gb24 gl24 HG24
             (first | simp only [add_plain] at hx245_0 | skip)
             obtain ⟨hx24_0, hf24_0⟩ := Kd.R_celln 0 HO_7.out ((ji18) : Int) p24 q24
             replace p24 := eq_true p24
             replace q24 := eq_true q24
             have HP27 := Kd.R_putn HO_7.out ((ji18) : Int) (Go.bits .or .u64 (rd x7_1 (ji18)) (ji23))
             rw [← Ny246.out] at HP27
             have HQ27 := AQ HP27
             clear HP27
             refine start_ (n := 11) (S := fun w' => w'.cell? ⟨go24, ((ji18)).toNat, none⟩ = some (.int .u64 (rd x7_1 (ji18)))) (ds := [10]) #[false, false, false, false, false, false, false, false, false, false, false] (by kernel_rfl) rfl rfl (hx245_0) (fun hHeld => ?_); refine with_tabW packed_Pack.tab10 packed_Pack.bits10 (fun HT_ HW_ => ?_)
             generalize wr.drew = w26 at HO_7 HB GG24 HQ27 hf24_0 hx245_0 hx24_0 hHeld ⊢
             refine pure_ (i := 0) (N := some 30) (v := ?_) (a' := ?_) #[true, false, false, false, false, false, false, false, false, false, false] rfl rfl (any_of HT_.out (by kernel_rfl)) (fun _ _ _ h => h) (Or.inl ⟨by rfl, ?_⟩) ?_ ?_
             rotate_left
             ·intro w'
              go_simp
              with_reducible rfl
             rotate_left
             ·simp only [Act.put, qT, qZ, qS, i64_w, i32_w]
              rfl
             refine pure_ (i := 1) (N := some 31) (v := ?_) (a' := ?_) #[true, true, false, false, false, false, false, false, false, false, false] rfl rfl (any_of HT_.out (by kernel_rfl)) (fun _ _ _ h => h) (Or.inl ⟨by rfl, ?_⟩) ?_ ?_
             rotate_left
             ·intro w'
              go_simp
              with_reducible rfl
             rotate_left
             ·simp only [Act.put, qT, qZ, qS, i64_w, i32_w]
              rfl
             refine pure_ (i := 2) (N := some 32) (v := ?_) (a' := ?_) #[true, true, true, false, false, false, false, false, false, false, false] rfl rfl (any_of HT_.out (by kernel_rfl)) (fun _ _ _ h => h) (Or.inl ⟨by rfl, ?_⟩) ?_ ?_
             rotate_left
             ·intro w'
              go_simp
              with_reducible rfl
             rotate_left
             ·simp only [Act.put, qT, qZ, qS, i64_w, i32_w]
              rfl
             refine pure_ (i := 3) (N := some 33) (v := ?_) (a' := ?_) #[true, true, true, true, false, false, false, false, false, false, false] rfl rfl (any_of HT_.out (by kernel_rfl)) (fun _ _ _ h => h) (Or.inl ⟨by rfl, ?_⟩) ?_ ?_
             rotate_left
             ·intro w'
              go_simp
              with_reducible rfl
             rotate_left
             ·simp only [Act.put, qT, qZ, qS, i64_w, i32_w]
              rfl
             refine pure_ (i := 5) (N := some 35) (v := ?_) (a' := ?_) #[true, true, true, true, false, true, false, false, false, false, false] rfl rfl (any_of HT_.out (by kernel_rfl)) (fun _ _ _ h => h) (Or.inl ⟨by rfl, ?_⟩) ?_ ?_
             rotate_left
             ·intro w'
              go_simp
              with_reducible rfl
             rotate_left
             ·simp only [Act.put, qT, qZ, qS, i64_w, i32_w]
              rfl
             refine pure_ (i := 6) (N := some 36) (v := ?_) (a' := ?_) #[true, true, true, true, false, true, true, false, false, false, false] rfl rfl (any_of HT_.out (by kernel_rfl)) (fun _ _ _ h => h) (Or.inl ⟨by rfl, ?_⟩) ?_ ?_
             rotate_left
             ·intro w'
              go_simp
              with_reducible rfl
             rotate_left
             ·simp only [Act.put, qT, qZ, qS, i64_w, i32_w]
              rfl
             refine pure_ (i := 7) (N := some 37) (v := ?_) (a' := ?_) #[true, true, true, true, false, true, true, true, false, false, false] rfl rfl (any_of HT_.out (by kernel_rfl)) (fun _ _ _ h => h) (Or.inl ⟨by rfl, ?_⟩) ?_ ?_
             rotate_left
             ·intro w'
              go_simp
              with_reducible rfl
             rotate_left
             ·simp only [Act.put, qT, qZ, qS, i64_w, i32_w]
              rfl
             refine take_ (i := 4) (N := some 34) (v := ?_) (a' := ?_) #[true, true, true, true, true, true, true, true, false, false, false] rfl rfl (take_ofW HT_.out HW_.out (by kernel_rfl)) (fun _ _ _ h => h) (Or.inl ⟨by rfl, ?_⟩) hHeld ?_ ?_
             rotate_left
             ·intro w' s0
              go_simp
              with_reducible rfl
             rotate_left
             ·simp only [Act.put, qT, qZ, qS, i64_w, i32_w]
              rfl
             refine pure_ (i := 8) (N := some 38) (v := ?_) (a' := ?_) #[true, true, true, true, true, true, true, true, true, false, false] rfl rfl (any_of HT_.out (by kernel_rfl)) (fun _ _ _ h => h) (Or.inl ⟨by rfl, ?_⟩) ?_ ?_
             rotate_left
             ·intro w'
              go_simp
              with_reducible rfl
             rotate_left
             ·simp only [Act.put, qT, qZ, qS, i64_w, i32_w]
              rfl
             refine pure_ (i := 9) (N := some 39) (v := ?_) (a' := ?_) #[true, true, true, true, true, true, true, true, true, true, false] rfl rfl (any_of HT_.out (by kernel_rfl)) (fun _ _ _ h => h) (Or.inl ⟨by rfl, ?_⟩) ?_ ?_
             rotate_left
             ·intro w'
              go_simp
              with_reducible rfl
             rotate_left
             ·simp only [Act.put, qT, qZ, qS, i64_w, i32_w]
              rfl
             refine last_ (i := 10) (N := none) #[true, true, true, true, true, true, true, true, true, true, true] rfl rfl (one_of HT_.out (by kernel_rfl)) (by decide) (fun K hK => ?_)
             refine skip_ (w1 := ?_) (by rfl) rfl ?_ ?_
             rotate_left
             ·go_simp
              rfl
             refine hK.out _ _ ?_
             clear hK K
             refine done_ (done_of HT_.out (by kernel_rfl)) ?_
             try go_wp2
             go_roundg k1
             case measure => have := HK1.out; omega
             case rel => exact ⟨(y246), (wrap64 (x22_1 + 1)), (by first | rfl | (simp; done) | (simp [*]; done)), H', ⟨by have := HK1.out; omega⟩, ⟨PR HQ27⟩, ⟨by repeat (first | (with_reducible first | exact HB.out | apply below_alloc | apply pw_below_drewN | apply below_drew1 | refine below_set ?_ GB24.out) | exact HB.out)⟩⟩
            ·rw [if_neg c22] at H
             exact absurd H (by simp)
           ·rw [if_neg c20] at H
            exact absurd H (by simp)
          ·rw [if_neg c19] at H
           exact absurd H (by simp)
        ·rw [if_neg c12] at H
         exact absurd H (by simp)
       ·rw [if_neg c11] at H
        exact absurd H (by simp)
      ·rw [if_neg c10] at H
       have c10b0 : decide (x22_1 < (l0.length : Int)) = false := decide_eq_false c10
       clear c10
       simp only [Option.some.injEq, Prod.mk.injEq] at H
       obtain ⟨rfl, rfl⟩ := H
       go_wp2
       go_ret2
       exact ⟨_, (.slice none 0 0), by first | rfl | (simp [errW_none, errW_some] <;> rfl) | (simp [*, errW_none, errW_some] <;> rfl), PR HO_7, by first | exact Kd.R_nil _ _ _ _ _ | exact Kd.N_nil _ _ _ _ _ | exact Kd.V_nil _ _ _ _ _ | exact Kd.Q_nil _ _ _ _ _ | exact Kd.S_nil _ _ _ _ _, PB HB⟩
   ·rw [if_neg c7] at H
    exact absurd H (by simp)
  ·rw [if_neg c6] at H
   exact absurd H (by simp)
 ·rw [if_neg c4] at H
  have c4b0 : (t232 == 0) = false := beq_eq_false_iff_ne.mpr c4
  have c4b1 : (t232 != 0) = true := bne_iff_ne.mpr c4
  replace H := Option.bind_eq_some_iff.mp H
  obtain ⟨t233, A280, H⟩ := H
  replace H : (some (([] : List Int), t233)) = some (r1, r2) := H
  have A28 := AQ A280
  clear A280
  simp only [Option.some.injEq, Prod.mk.injEq] at H
  obtain ⟨rfl, rfl⟩ := H
  go_enter Tryd.func35, Tryd.ntmps35
  go_wp2_with (first | ((with_reducible refine gate_callee (f := 53) rfl ?_); refine goesL_ (some 12) rfl rfl Tryd.func53 (by kernel_rfl) rfl #[.slice A0 l0.length c0, .int .i64 a1] rfl (by (try simp only [List.map_toArray, List.map_cons, List.map_nil]); first | done | rfl | (simp only [List.length_drop, List.length_take]; rfl)) ?_; (with_reducible refine (packed_check.calls k _ _ l0 a1 t232 _ ?side1 ?side2 A3.out).mono ?_); (case side1 => repeat (first | exact HR0.out | (with_reducible refine Kd.C_alloc ?_ _) | (with_reducible refine Kd.C_drewN ?_ _) | (with_reducible refine Kd.C_drew ?_))); (case side2 => exact HC0.out); rintro e w' ⟨rfl, ⟨nd, rfl⟩⟩; refine ⟨_, rfl, ?_⟩) | ((with_reducible refine gate_callee (f := 28) rfl ?_); refine goesL_ (some 16) rfl rfl Tryd.func28 (by kernel_rfl) rfl #[.string (⟨#[112, 97, 99, 107, 101, 100, 46, 80, 97, 99, 107]⟩ : ByteArray), .int .i64 t232] rfl (by (try simp only [List.map_toArray, List.map_cons, List.map_nil]); first | done | rfl | (simp only [List.length_drop, List.length_take]; rfl)) ?_; (with_reducible refine (fault_New.calls (⟨#[112, 97, 99, 107, 101, 100, 46, 80, 97, 99, 107]⟩ : ByteArray) t232 t233 _ A28.out).mono ?_); rintro e w29 ⟨v234, rfl, ho0, hb⟩; refine ⟨_, rfl, ?_⟩; have n0_ := AQ (Kd.R_lower ho0 (below_size (PB HB))); have n1_ := AQ (below_step (PB HB) hb); clear HB; have HO235 := n0_; have HB := n1_; clear n0_ n1_; (try clear hb); (try clear hb2); (try clear hk); (try clear hi); (try clear ho0)))
  go_ret2
  exact ⟨_, _, by first | rfl | (simp [errW_none, errW_some] <;> rfl) | (simp [*, errW_none, errW_some] <;> rfl), by first | exact Kd.R_nil _ _ _ _ _ | exact Kd.N_nil _ _ _ _ _ | exact Kd.V_nil _ _ _ _ _ | exact Kd.Q_nil _ _ _ _ _ | exact Kd.S_nil _ _ _ _ _, PR HO235, PB HB⟩
end Go.Proofs.YtjmgkknbgffbjaaDoor.P
namespace Go.Proofs.YtjmgkknbgffbjaaDoor.P
open Go.RowKit Go.Proofs.YtjmgkknbgffbjaaDoorW.PrintWords Go.Proofs.YtjmgkknbgffbjaaDoorW.PrintLast Go.Proofs.YtjmgkknbgffbjaaDoorW.PrintErr Go.Proofs.YtjmgkknbgffbjaaDoorW.PrintMore
attribute [local go_sem] max2_int min2_int max_two min_two max_three min_three max_four min_four run_eql_errOf run_neq_errOf eqGuard_errOf   -- for this text's walks alone
set_option linter.unusedVariables false
set_option linter.unusedSimpArgs false
def elimM_Value.j0 : Nat → List (S74) → Int → Bool → Option (List Int × List FE)
 | 0, _, _, _ => none
 | k + 1, x0, x1, x29 => if x29 = true then ((fault_New.f (⟨#[101, 108, 105, 109, 46, 86, 97, 108, 117, 101]⟩ : ByteArray) 1).bind fun t279 => (some (([] : List Int), t279))) else (if 0 < (x0.length : Int) then ((packed_Pack.f k (([x1] : List Int)) ((rd_T74 x0 0).f0)).bind fun bt286 => (if 0 ≤ ((rd_T74 x0 0).f1) then (if ((rd_T74 x0 0).f1 : Int).toNat ≤ 281474976710656 then ((elimM_down.f k x0 bt286.1 (List.replicate ((rd_T74 x0 0).f1 : Int).toNat 0)).bind fun bt296 => (if bt296.2.2 ≥ 0 then ((fault_New.f (⟨#[101, 108, 105, 109, 46, 86, 97, 108, 117, 101]⟩ : ByteArray) 4).bind fun t304 => (some (([] : List Int), t304))) else (some ((copyL (List.replicate ((rd_T74 x0 0).f1 : Int).toNat 0) bt296.2.1), ([] : List FE))))) else (none)) else (none))) else (none))
def elimM_Value.f (k : Nat) (l0 : List (S74)) (a1 : Int) : Option (List Int × List FE) := if 0 < (l0.length : Int) then (if (rd_T74 l0 0).f4 = true then ((fault_New.f (⟨#[101, 108, 105, 109, 46, 86, 97, 108, 117, 101]⟩ : ByteArray) 7).bind fun t275 => (some (([] : List Int), t275))) else (if a1 < 0 then (elimM_Value.j0 k l0 a1 true) else (elimM_Value.j0 k l0 a1 (decide (a1 ≥ ((rd_T74 l0 0).f0)))))) else (none)
theorem elimM_Value.mono_l : ∀ k, (∀ y0 y1 y2, LeO (elimM_Value.j0 k y0 y1 y2) (elimM_Value.j0 (k + 1) y0 y1 y2))
 | 0 => fun _ _ _ r h => by simp [elimM_Value.j0] at h
 | k + 1 => by
  have ih0 := elimM_Value.mono_l k
  ·intro y0 y1 y2
   unfold elimM_Value.j0
   repeat' first
   | (with_reducible exact ih0 _ _ _)
   | (with_reducible exact elimM_down.mono _ _ _ _)
   | (with_reducible exact packed_Pack.mono _ _ _)
   | (with_reducible exact LeO.refl _)
   | (with_reducible exact LeO.none _)
   | (with_reducible refine LeO.ite ?_ ?_)
   | (with_reducible refine LeO.bind ?_ (fun _ => ?_))
   | exact ih0 _ _ _
   | exact elimM_down.mono _ _ _ _
   | exact packed_Pack.mono _ _ _
   | exact LeO.none _
   | refine LeO.ite ?_ ?_
   | refine LeO.bind ?_ (fun _ => ?_)
theorem elimM_Value.mono : ∀ a0 a1 k, LeO (elimM_Value.f k a0 a1) (elimM_Value.f (k + 1) a0 a1) := by
 intro a0 a1 k
 have ih0 := elimM_Value.mono_l k
 unfold elimM_Value.f
 repeat' first
   | (with_reducible exact ih0 _ _ _)
   | (with_reducible exact elimM_down.mono _ _ _ _)
   | (with_reducible exact packed_Pack.mono _ _ _)
   | (with_reducible exact LeO.refl _)
   | (with_reducible exact LeO.none _)
   | (with_reducible refine LeO.ite ?_ ?_)
   | (with_reducible refine LeO.bind ?_ (fun _ => ?_))
   | exact ih0 _ _ _
   | exact elimM_down.mono _ _ _ _
   | exact packed_Pack.mono _ _ _
   | exact LeO.none _
   | refine LeO.ite ?_ ?_
   | refine LeO.bind ?_ (fun _ => ?_)
set_option maxHeartbeats 8000000 in
set_option maxRecDepth 100000 in
theorem elimM_Value.calls (k : Nat) (ad900 : Addr) (l0 : List (S74)) (a1 : Int) (r1 : List Int) (r2 : List FE) (w : World) (ht : TabIn w) (hr0 : Kd.C k74 w (some ad900) l0.length l0) (h : elimM_Value.f k l0 a1 = some (r1, r2)) :
  Calls Tryd.prog 13 #[.pointer (some ad900), .int .i64 a1] w fun e w' => ∃ v0_ v1_ : Value, e = .returned (.tuple #[v0_, (errOf v1_)]) ∧ Kd.R (Kd.int .u8) 5 w' w.heap.size (fun _ => True) v0_ r1 ∧ Kd.R kF 95 w' w.heap.size (fun _ => True) v1_ r2 ∧ Below w.heap.size w w' := by
 have hu77 := Tryd.underlying77
 have HR0 := AQ hr0
 clear hr0
 have HB := AQ (Below.refl w.heap.size w)
 have HT := AQ ht
 clear ht
 have H : (if 0 < (l0.length : Int) then (if (rd_T74 l0 0).f4 = true then ((fault_New.f (⟨#[101, 108, 105, 109, 46, 86, 97, 108, 117, 101]⟩ : ByteArray) 7).bind fun t275 => (some (([] : List Int), t275))) else (if a1 < 0 then (elimM_Value.j0 k l0 a1 true) else (elimM_Value.j0 k l0 a1 (decide (a1 ≥ ((rd_T74 l0 0).f0)))))) else (none)) = some (r1, r2) := h
 clear h
 by_cases c3 : 0 < (l0.length : Int)
 ·rw [if_pos c3] at H
  have c3b0 : decide (0 < (l0.length : Int)) = true := decide_eq_true c3
  have c3b1 : decide (0 < l0.length) = true := decide_eq_true (by omega)
  clear c3
  obtain ⟨bq4, hbq4⟩ : ∃ b_ : Bool, b_ = ((rd_T74 l0 0).f4) := ⟨_, rfl⟩
  replace H : (if bq4 = true then ((fault_New.f (⟨#[101, 108, 105, 109, 46, 86, 97, 108, 117, 101]⟩ : ByteArray) 7).bind fun t275 => (some (([] : List Int), t275))) else (if a1 < 0 then (elimM_Value.j0 k l0 a1 true) else (elimM_Value.j0 k l0 a1 (decide (a1 ≥ ((rd_T74 l0 0).f0)))))) = some (r1, r2) := by rw [← hbq4] at H; exact H
  have Nbq4 := AQ hbq4
  clear hbq4
  by_cases c5 : bq4 = true
  ·subst c5
   have H1 : ((fault_New.f (⟨#[101, 108, 105, 109, 46, 86, 97, 108, 117, 101]⟩ : ByteArray) 7).bind fun t275 => (some (([] : List Int), t275))) = some (r1, r2) := by rw [if_pos rfl] at H; exact H
   clear H
   have H := H1
   clear H1
   replace H := Option.bind_eq_some_iff.mp H
   obtain ⟨t275, A60, H⟩ := H
   replace H : (some (([] : List Int), t275)) = some (r1, r2) := H
   have A6 := AQ A60
   clear A60
   simp only [Option.some.injEq, Prod.mk.injEq] at H
   obtain ⟨rfl, rfl⟩ := H
   have p274 : 0 ≤ (0 : Int) := (by omega)
   have q274 : 0 < (l0.length : Int) := of_decide_eq_true (by first | (with_reducible assumption) | assumption)
   obtain ⟨ad274, A274_2, c274_2, A274_3, c274_3, e274, hx274_0, hx274_1, hx274_2, hx274_3, hx274_4, hl274_2, hi274_2, hl274_3, hi274_3⟩ := at_T74 HR0.out 0 p274 q274
   (try rw [← Nbq4.out] at hx274_4)
   obtain rfl : ad900 = ad274 := (by injection e274)
   have qi274 : (0 < l0.length) = True := eq_true (by omega)
   (try rw [show ((0 : Int)).toNat = 0 from rfl] at hx274_0)
   (try rw [show 0 * 5 = 0 from rfl] at hx274_0)
   (try rw [Addr.add_zero'] at hx274_0)
   (try rw [show ((0 : Int)).toNat = 0 from rfl] at hx274_1)
   (try rw [show 0 * 5 = 0 from rfl] at hx274_1)
   (try rw [Addr.add_zero'] at hx274_1)
   (try rw [show ((0 : Int)).toNat = 0 from rfl] at hx274_2)
   (try rw [show 0 * 5 = 0 from rfl] at hx274_2)
   (try rw [Addr.add_zero'] at hx274_2)
   (try rw [show ((0 : Int)).toNat = 0 from rfl] at hx274_3)
   (try rw [show 0 * 5 = 0 from rfl] at hx274_3)
   (try rw [Addr.add_zero'] at hx274_3)
   (try rw [show ((0 : Int)).toNat = 0 from rfl] at hx274_4)
   (try rw [show 0 * 5 = 0 from rfl] at hx274_4)
   (try rw [Addr.add_zero'] at hx274_4)
   have HR274_2 := AQ hi274_2
   have HC274_2 := AQ hl274_2
   clear hi274_2 hl274_2
   have HR274_3 := AQ hi274_3
   have HC274_3 := AQ hl274_3
   clear hi274_3 hl274_3
   replace p274 := eq_true p274
   replace q274 := eq_true q274
   go_enter Tryd.func13, Tryd.ntmps13
   go_wp2_with (first | ((with_reducible refine gate_callee (f := 28) rfl ?_); refine goesL_ (some 19) rfl rfl Tryd.func28 (by kernel_rfl) rfl #[.string (⟨#[101, 108, 105, 109, 46, 86, 97, 108, 117, 101]⟩ : ByteArray), .int .i64 7] rfl (by (try simp only [List.map_toArray, List.map_cons, List.map_nil]); first | done | rfl | (simp only [List.length_drop, List.length_take]; rfl)) ?_; (with_reducible refine (fault_New.calls (⟨#[101, 108, 105, 109, 46, 86, 97, 108, 117, 101]⟩ : ByteArray) 7 t275 _ A6.out).mono ?_); rintro e w7 ⟨v276, rfl, ho0, hb⟩; refine ⟨_, rfl, ?_⟩; have n0_ := AQ (Kd.R_lower ho0 (below_size (PB HB))); have n1_ := AQ (below_step (PB HB) hb); clear HB; have HO277 := n0_; have HB := n1_; clear n0_ n1_; (try clear hb); (try clear hb2); (try clear hk); (try clear hi); (try clear ho0)))
   go_ret2
   exact ⟨_, _, by first | rfl | (simp [errW_none, errW_some] <;> rfl) | (simp [*, errW_none, errW_some] <;> rfl), by first | exact Kd.R_nil _ _ _ _ _ | exact Kd.N_nil _ _ _ _ _ | exact Kd.V_nil _ _ _ _ _ | exact Kd.Q_nil _ _ _ _ _ | exact Kd.S_nil _ _ _ _ _, PR HO277, PB HB⟩
  ·replace c5 := Bool.eq_false_iff.mpr c5
   subst c5
   have H1 : (if a1 < 0 then (elimM_Value.j0 k l0 a1 true) else (elimM_Value.j0 k l0 a1 (decide (a1 ≥ ((rd_T74 l0 0).f0))))) = some (r1, r2) := by rw [if_neg (show ¬ (false = true) by decide)] at H; exact H
   clear H
   have H := H1
   clear H1
   have HC8 := AQ H
   clear H
   have p274 : 0 ≤ (0 : Int) := (by omega)
   have q274 : 0 < (l0.length : Int) := of_decide_eq_true (by first | (with_reducible assumption) | assumption)
   obtain ⟨ad274, A274_2, c274_2, A274_3, c274_3, e274, hx274_0, hx274_1, hx274_2, hx274_3, hx274_4, hl274_2, hi274_2, hl274_3, hi274_3⟩ := at_T74 HR0.out 0 p274 q274
   (try rw [← Nbq4.out] at hx274_4)
   obtain rfl : ad900 = ad274 := (by injection e274)
   have qi274 : (0 < l0.length) = True := eq_true (by omega)
   (try rw [show ((0 : Int)).toNat = 0 from rfl] at hx274_0)
   (try rw [show 0 * 5 = 0 from rfl] at hx274_0)
   (try rw [Addr.add_zero'] at hx274_0)
   (try rw [show ((0 : Int)).toNat = 0 from rfl] at hx274_1)
   (try rw [show 0 * 5 = 0 from rfl] at hx274_1)
   (try rw [Addr.add_zero'] at hx274_1)
   (try rw [show ((0 : Int)).toNat = 0 from rfl] at hx274_2)
   (try rw [show 0 * 5 = 0 from rfl] at hx274_2)
   (try rw [Addr.add_zero'] at hx274_2)
   (try rw [show ((0 : Int)).toNat = 0 from rfl] at hx274_3)
   (try rw [show 0 * 5 = 0 from rfl] at hx274_3)
   (try rw [Addr.add_zero'] at hx274_3)
   (try rw [show ((0 : Int)).toNat = 0 from rfl] at hx274_4)
   (try rw [show 0 * 5 = 0 from rfl] at hx274_4)
   (try rw [Addr.add_zero'] at hx274_4)
   have HR274_2 := AQ hi274_2
   have HC274_2 := AQ hl274_2
   clear hi274_2 hl274_2
   have HR274_3 := AQ hi274_3
   have HC274_3 := AQ hl274_3
   clear hi274_3 hl274_3
   replace p274 := eq_true p274
   replace q274 := eq_true q274
   go_enter Tryd.func13, Tryd.ntmps13
   go_upto_region 3 with (fail)
   go_cut [29] (fun v29 wc => ∃ (kq : Nat) (x29_7 : Bool), v29 = .bool x29_7 ∧ Aside0 (elimM_Value.j0 kq l0 a1 x29_7 = some (r1, r2)) ∧ Aside0 (kq ≤ k) ∧ Aside0 (Below w.heap.size w wc))
   case first =>
    have H := HC8.out
    clear HC8
    by_cases c9 : a1 < 0
    ·rw [if_pos c9] at H
     have c9b0 : decide (a1 < 0) = true := decide_eq_true c9
     clear c9
     (first | rw [c9b0] | rw [c9b1] | (simp only [i64_w, i32_w]; rw [c9b0]) | skip)
     have H' := AQ H
     clear H
     go_wp2
     go_meet
     case rel => exact ⟨_, (true), (by first | rfl | (simp; done) | (simp [*]; done)), H', ⟨by first | omega | exact Nat.le_refl _⟩, ⟨PB HB⟩⟩
    ·rw [if_neg c9] at H
     have c9b0 : decide (a1 < 0) = false := decide_eq_false c9
     clear c9
     (first | rw [c9b0] | rw [c9b1] | (simp only [i64_w, i32_w]; rw [c9b0]) | skip)
     have H' := AQ H
     clear H
     have p278 : 0 ≤ (0 : Int) := (by omega)
     have q278 : 0 < (l0.length : Int) := of_decide_eq_true (by first | (with_reducible assumption) | assumption)
     obtain ⟨ad278, A278_2, c278_2, A278_3, c278_3, e278, hx278_0, hx278_1, hx278_2, hx278_3, hx278_4, hl278_2, hi278_2, hl278_3, hi278_3⟩ := at_T74 HR0.out 0 p278 q278
     (try rw [← Nbq4.out] at hx278_4)
     obtain rfl : ad900 = ad278 := (by injection e278)
     have qi278 : (0 < l0.length) = True := eq_true (by omega)
     (try rw [show ((0 : Int)).toNat = 0 from rfl] at hx278_0)
     (try rw [show 0 * 5 = 0 from rfl] at hx278_0)
     (try rw [Addr.add_zero'] at hx278_0)
     (try rw [show ((0 : Int)).toNat = 0 from rfl] at hx278_1)
     (try rw [show 0 * 5 = 0 from rfl] at hx278_1)
     (try rw [Addr.add_zero'] at hx278_1)
     (try rw [show ((0 : Int)).toNat = 0 from rfl] at hx278_2)
     (try rw [show 0 * 5 = 0 from rfl] at hx278_2)
     (try rw [Addr.add_zero'] at hx278_2)
     (try rw [show ((0 : Int)).toNat = 0 from rfl] at hx278_3)
     (try rw [show 0 * 5 = 0 from rfl] at hx278_3)
     (try rw [Addr.add_zero'] at hx278_3)
     (try rw [show ((0 : Int)).toNat = 0 from rfl] at hx278_4)
     (try rw [show 0 * 5 = 0 from rfl] at hx278_4)
     (try rw [Addr.add_zero'] at hx278_4)
     (first | replace hx278_0 := (HB.out.cell (World.block_lt_of_cell? w _ hx278_0)).trans hx278_0 | skip)
     (first | replace hx278_1 := (HB.out.cell (World.block_lt_of_cell? w _ hx278_1)).trans hx278_1 | skip)
     (first | replace hx278_2 := (HB.out.cell (World.block_lt_of_cell? w _ hx278_2)).trans hx278_2 | skip)
     (first | replace hx278_3 := (HB.out.cell (World.block_lt_of_cell? w _ hx278_3)).trans hx278_3 | skip)
     (first | replace hx278_4 := (HB.out.cell (World.block_lt_of_cell? w _ hx278_4)).trans hx278_4 | skip)
     have HR278_2 := AQ hi278_2
     have HC278_2 := AQ hl278_2
     clear hi278_2 hl278_2
     have HR278_3 := AQ hi278_3
     have HC278_3 := AQ hl278_3
     clear hi278_3 hl278_3
     replace p278 := eq_true p278
     replace q278 := eq_true q278
     go_wp2
     go_meet
     case rel => exact ⟨_, (decide (a1 ≥ ((rd_T74 l0 0).f0))), (by first | rfl | (simp; done) | (simp [*]; done)), H', ⟨by first | omega | exact Nat.le_refl _⟩, ⟨PB HB⟩⟩
   case rest =>
    clear HC8
    try clear c1
    try clear c2
    try clear p2
    try clear q2
    try clear hx2
    try clear qi2
    try clear c3
    try clear c3b0
    try clear c3b1
    try clear q4
    try clear c5
    try clear c9
    try clear c9b0
    try clear c9b1
    try clear hx274_0
    try clear hx274_1
    try clear hx274_2
    try clear hx274_3
    try clear hx274_4
    try clear hx278_0
    try clear hx278_1
    try clear hx278_2
    try clear hx278_3
    try clear hx278_4
    try clear p274
    try clear p278
    try clear q274
    try clear q278
    obtain ⟨kq, x29_7, rfl, HA, HJ7, HB⟩ := hcut
    cases kq with
    | zero => exact absurd HA.out (by simp [elimM_Value.j0])
    | succ kj7 =>
     have H := HA.out
     clear HA
     simp only [elimM_Value.j0] at H
     by_cases c10 : x29_7 = true
     ·subst c10
      have H1 : ((fault_New.f (⟨#[101, 108, 105, 109, 46, 86, 97, 108, 117, 101]⟩ : ByteArray) 1).bind fun t279 => (some (([] : List Int), t279))) = some (r1, r2) := by rw [if_pos rfl] at H; exact H
      clear H
      have H := H1
      clear H1
      replace H := Option.bind_eq_some_iff.mp H
      obtain ⟨t279, A110, H⟩ := H
      replace H : (some (([] : List Int), t279)) = some (r1, r2) := H
      have A11 := AQ A110
      clear A110
      simp only [Option.some.injEq, Prod.mk.injEq] at H
      obtain ⟨rfl, rfl⟩ := H
      go_wp2_with (first | ((with_reducible refine gate_callee (f := 28) rfl ?_); refine goesL_ (some 30) rfl rfl Tryd.func28 (by kernel_rfl) rfl #[.string (⟨#[101, 108, 105, 109, 46, 86, 97, 108, 117, 101]⟩ : ByteArray), .int .i64 1] rfl (by (try simp only [List.map_toArray, List.map_cons, List.map_nil]); first | done | rfl | (simp only [List.length_drop, List.length_take]; rfl)) ?_; (with_reducible refine (fault_New.calls (⟨#[101, 108, 105, 109, 46, 86, 97, 108, 117, 101]⟩ : ByteArray) 1 t279 _ A11.out).mono ?_); rintro e w12 ⟨v280, rfl, ho0, hb⟩; refine ⟨_, rfl, ?_⟩; have n0_ := AQ (Kd.R_lower ho0 (below_size (PB HB))); have n1_ := AQ (below_step (PB HB) hb); clear HB; have HO281 := n0_; have HB := n1_; clear n0_ n1_; (try clear hb); (try clear hb2); (try clear hk); (try clear hi); (try clear ho0)))
      go_ret2
      exact ⟨_, _, by first | rfl | (simp [errW_none, errW_some] <;> rfl) | (simp [*, errW_none, errW_some] <;> rfl), by first | exact Kd.R_nil _ _ _ _ _ | exact Kd.N_nil _ _ _ _ _ | exact Kd.V_nil _ _ _ _ _ | exact Kd.Q_nil _ _ _ _ _ | exact Kd.S_nil _ _ _ _ _, PR HO281, PB HB⟩
     ·replace c10 := Bool.eq_false_iff.mpr c10
      subst c10
      have H1 : (if 0 < (l0.length : Int) then ((packed_Pack.f kj7 (([a1] : List Int)) ((rd_T74 l0 0).f0)).bind fun bt286 => (if 0 ≤ ((rd_T74 l0 0).f1) then (if ((rd_T74 l0 0).f1 : Int).toNat ≤ 281474976710656 then ((elimM_down.f kj7 l0 bt286.1 (List.replicate ((rd_T74 l0 0).f1 : Int).toNat 0)).bind fun bt296 => (if bt296.2.2 ≥ 0 then ((fault_New.f (⟨#[101, 108, 105, 109, 46, 86, 97, 108, 117, 101]⟩ : ByteArray) 4).bind fun t304 => (some (([] : List Int), t304))) else (some ((copyL (List.replicate ((rd_T74 l0 0).f1 : Int).toNat 0) bt296.2.1), ([] : List FE))))) else (none)) else (none))) else (none)) = some (r1, r2) := by rw [if_neg (show ¬ (false = true) by decide)] at H; exact H
      clear H
      have H := H1
      clear H1
      obtain ⟨y282, hy282⟩ : ∃ y_ : List Int, y_ = (([a1] : List Int)) := ⟨_, rfl⟩
      replace H : (if 0 < (l0.length : Int) then ((packed_Pack.f kj7 y282 ((rd_T74 l0 0).f0)).bind fun bt286 => (if 0 ≤ ((rd_T74 l0 0).f1) then (if ((rd_T74 l0 0).f1 : Int).toNat ≤ 281474976710656 then ((elimM_down.f kj7 l0 bt286.1 (List.replicate ((rd_T74 l0 0).f1 : Int).toNat 0)).bind fun bt296 => (if bt296.2.2 ≥ 0 then ((fault_New.f (⟨#[101, 108, 105, 109, 46, 86, 97, 108, 117, 101]⟩ : ByteArray) 4).bind fun t304 => (some (([] : List Int), t304))) else (some ((copyL (List.replicate ((rd_T74 l0 0).f1 : Int).toNat 0) bt296.2.1), ([] : List FE))))) else (none)) else (none))) else (none)) = some (r1, r2) := by first | (rw [hy282]; with_reducible exact H) | (have H2_ := (Option.bind_some _ _).symm.trans H; rw [hy282]; with_reducible exact H2_) | (have H2_ := (Option.bind_some _ _).symm.trans H; with_reducible exact H2_) | with_reducible exact H | (rw [hy282]; exact H) | exact H
      have Ny282 := AQ hy282
      clear hy282
      by_cases c13 : 0 < (l0.length : Int)
      ·rw [if_pos c13] at H
       have c13b0 : decide (0 < (l0.length : Int)) = true := decide_eq_true c13
       have c13b1 : decide (0 < l0.length) = true := decide_eq_true (by omega)
       clear c13
       replace H := Option.bind_eq_some_iff.mp H
       obtain ⟨⟨t286, t287⟩, A140, H⟩ := H
       replace H : (if 0 ≤ ((rd_T74 l0 0).f1) then (if ((rd_T74 l0 0).f1 : Int).toNat ≤ 281474976710656 then ((elimM_down.f kj7 l0 t286 (List.replicate ((rd_T74 l0 0).f1 : Int).toNat 0)).bind fun bt296 => (if bt296.2.2 ≥ 0 then ((fault_New.f (⟨#[101, 108, 105, 109, 46, 86, 97, 108, 117, 101]⟩ : ByteArray) 4).bind fun t304 => (some (([] : List Int), t304))) else (some ((copyL (List.replicate ((rd_T74 l0 0).f1 : Int).toNat 0) bt296.2.1), ([] : List FE))))) else (none)) else (none)) = some (r1, r2) := H
       have A14 := AQ A140
       clear A140
       by_cases c15 : 0 ≤ ((rd_T74 l0 0).f1)
       ·rw [if_pos c15] at H
        have c15b0 := eq_true c15
        have c15b1 : decide (0 ≤ ((rd_T74 l0 0).f1)) = true := decide_eq_true c15
        clear c15
        by_cases c16 : ((rd_T74 l0 0).f1 : Int).toNat ≤ 281474976710656
        ·rw [if_pos c16] at H
         have c16b0 := eq_true c16
         have c16b1 : decide (((rd_T74 l0 0).f1 : Int).toNat ≤ 281474976710656) = true := decide_eq_true c16
         clear c16
         obtain ⟨y293, hy293⟩ : ∃ y_ : List Int, y_ = (List.replicate ((rd_T74 l0 0).f1 : Int).toNat 0) := ⟨_, rfl⟩
         replace H : ((elimM_down.f kj7 l0 t286 y293).bind fun bt296 => (if bt296.2.2 ≥ 0 then ((fault_New.f (⟨#[101, 108, 105, 109, 46, 86, 97, 108, 117, 101]⟩ : ByteArray) 4).bind fun t304 => (some (([] : List Int), t304))) else (some ((copyL (List.replicate ((rd_T74 l0 0).f1 : Int).toNat 0) bt296.2.1), ([] : List FE))))) = some (r1, r2) := by first | (rw [hy293]; with_reducible exact H) | (have H2_ := (Option.bind_some _ _).symm.trans H; rw [hy293]; with_reducible exact H2_) | (have H2_ := (Option.bind_some _ _).symm.trans H; with_reducible exact H2_) | with_reducible exact H | (rw [hy293]; exact H) | exact H
         have Ny293 := AQ hy293
         clear hy293
         replace H := Option.bind_eq_some_iff.mp H
         obtain ⟨⟨t296, t299, t302⟩, A170, H⟩ := H
         replace H : (if t302 ≥ 0 then ((fault_New.f (⟨#[101, 108, 105, 109, 46, 86, 97, 108, 117, 101]⟩ : ByteArray) 4).bind fun t304 => (some (([] : List Int), t304))) else (some ((copyL (List.replicate ((rd_T74 l0 0).f1 : Int).toNat 0) t299), ([] : List FE)))) = some (r1, r2) := H
         have A17 := AQ A170
         clear A170
         by_cases c18 : t302 ≥ 0
         ·rw [if_pos c18] at H
          have c18b0 : decide (0 ≤ t302) = true := decide_eq_true c18
          clear c18
          replace H := Option.bind_eq_some_iff.mp H
          obtain ⟨t304, A190, H⟩ := H
          replace H : (some (([] : List Int), t304)) = some (r1, r2) := H
          have A19 := AQ A190
          clear A190
          simp only [Option.some.injEq, Prod.mk.injEq] at H
          obtain ⟨rfl, rfl⟩ := H
          go_wp2_with (first | ((with_reducible refine gate_dst (N := 33) rfl ?_); refine Kd.R_lit (Kd.int .i64) _ 3 ?hg (N := 33) ?hd (xs := ([a1] : List Int)) (inner := [.int .i64 a1]) (ok := fun _ => True) (okp := fun _ => True) ?hr ?hp (fun _ hk => hk) trivial (Below.refl _ _) (Nat.le_refl _) (by simp) ?_; (case hd => rfl); (case hg => rfl); (case hr => first | (go_simp; done) | (go_simp; rfl)); (case hp => exact (Reps.one (show Kd.M (Kd.int .i64) _ _ _ a1 [.int .i64 a1] from rfl) (Reps.none _ _))); intro v283 w20 ho21 hb hg_ hnew_; clear hg_ hnew_; (first | rw [← Ny282.out] at ho21 | (simp only [Int.reduceToNat] at ho21; rw [← Ny282.out] at ho21)); have n0_ := AQ (Kd.R_lower ho21 (below_size (PB HB))); have n1_ := AQ (below_step (PB HB) hb); clear HB; have HO284 := n0_; have HB := n1_; clear n0_ n1_; clear hb ho21; have p285 : 0 ≤ (0 : Int) := (by omega); have q285 : 0 < (l0.length : Int) := of_decide_eq_true (by first | (with_reducible assumption) | assumption); obtain ⟨ad285, A285_2, c285_2, A285_3, c285_3, e285, hx285_0, hx285_1, hx285_2, hx285_3, hx285_4, hl285_2, hi285_2, hl285_3, hi285_3⟩ := at_T74 HR0.out 0 p285 q285; (try rw [← Nbq4.out] at hx285_4); obtain rfl : ad900 = ad285 := (by injection e285); have qi285 : (0 < l0.length) = True := eq_true (by omega); (try rw [show ((0 : Int)).toNat = 0 from rfl] at hx285_0); (try rw [show 0 * 5 = 0 from rfl] at hx285_0); (try rw [Addr.add_zero'] at hx285_0); (try rw [show ((0 : Int)).toNat = 0 from rfl] at hx285_1); (try rw [show 0 * 5 = 0 from rfl] at hx285_1); (try rw [Addr.add_zero'] at hx285_1); (try rw [show ((0 : Int)).toNat = 0 from rfl] at hx285_2); (try rw [show 0 * 5 = 0 from rfl] at hx285_2); (try rw [Addr.add_zero'] at hx285_2); (try rw [show ((0 : Int)).toNat = 0 from rfl] at hx285_3); (try rw [show 0 * 5 = 0 from rfl] at hx285_3); (try rw [Addr.add_zero'] at hx285_3); (try rw [show ((0 : Int)).toNat = 0 from rfl] at hx285_4); (try rw [show 0 * 5 = 0 from rfl] at hx285_4); (try rw [Addr.add_zero'] at hx285_4); (first | replace hx285_0 := (HB.out.cell (World.block_lt_of_cell? w _ hx285_0)).trans hx285_0 | skip); (first | replace hx285_1 := (HB.out.cell (World.block_lt_of_cell? w _ hx285_1)).trans hx285_1 | skip); (first | replace hx285_2 := (HB.out.cell (World.block_lt_of_cell? w _ hx285_2)).trans hx285_2 | skip); (first | replace hx285_3 := (HB.out.cell (World.block_lt_of_cell? w _ hx285_3)).trans hx285_3 | skip); (first | replace hx285_4 := (HB.out.cell (World.block_lt_of_cell? w _ hx285_4)).trans hx285_4 | skip); have HR285_2 := AQ hi285_2; have HC285_2 := AQ hl285_2; clear hi285_2 hl285_2; have HR285_3 := AQ hi285_3; have HC285_3 := AQ hl285_3; clear hi285_3 hl285_3; replace p285 := eq_true p285; replace q285 := eq_true q285; obtain ⟨Ao22, co22, eo22⟩ := Kd.R_slice HO284.out; subst eo22) | ((with_reducible refine gate_callee (f := 35) rfl ?_); refine goesL_ (some 38) rfl rfl Tryd.func35 (by kernel_rfl) rfl #[.slice Ao22 y282.length co22, .int .i64 ((rd_T74 l0 0).f0)] rfl (by (try simp only [List.map_toArray, List.map_cons, List.map_nil]); first | done | rfl | (simp only [List.length_drop, List.length_take]; rfl)) ?_; (with_reducible refine (packed_Pack.calls kj7 _ _ y282 ((rd_T74 l0 0).f0) t286 t287 _ ?side1 ?side2 A14.out).mono ?_); (case side1 => exact QC HO284); (case side2 => exact (Kd.R_reads' HO284.out).2.1); rintro e w23 ⟨v288, v290, rfl, ho0, ho1, hb⟩; refine ⟨_, rfl, ?_⟩; have n0_ := AQ (Kd.R_below (PR HO284) hb); have n1_ := AQ (Kd.R_lower ho0 (below_size (PB HB))); have n2_ := AQ (Kd.R_lower ho1 (below_size (PB HB))); have n3_ := AQ (below_step (PB HB) hb); clear HO284; clear HB; have HO284 := n0_; have HO289 := n1_; have HO291 := n2_; have HB := n3_; clear n0_ n1_ n2_ n3_; (try clear hb); (try clear hb2); (try clear hk); (try clear hi); (try clear ho0); (try clear ho1); have p292 : 0 ≤ (0 : Int) := (by omega); have q292 : 0 < (l0.length : Int) := of_decide_eq_true (by first | (with_reducible assumption) | assumption); obtain ⟨ad292, A292_2, c292_2, A292_3, c292_3, e292, hx292_0, hx292_1, hx292_2, hx292_3, hx292_4, hl292_2, hi292_2, hl292_3, hi292_3⟩ := at_T74 HR0.out 0 p292 q292; (try rw [← Nbq4.out] at hx292_4); obtain rfl : ad900 = ad292 := (by injection e292); have qi292 : (0 < l0.length) = True := eq_true (by omega); (try rw [show ((0 : Int)).toNat = 0 from rfl] at hx292_0); (try rw [show 0 * 5 = 0 from rfl] at hx292_0); (try rw [Addr.add_zero'] at hx292_0); (try rw [show ((0 : Int)).toNat = 0 from rfl] at hx292_1); (try rw [show 0 * 5 = 0 from rfl] at hx292_1); (try rw [Addr.add_zero'] at hx292_1); (try rw [show ((0 : Int)).toNat = 0 from rfl] at hx292_2); (try rw [show 0 * 5 = 0 from rfl] at hx292_2); (try rw [Addr.add_zero'] at hx292_2); (try rw [show ((0 : Int)).toNat = 0 from rfl] at hx292_3); (try rw [show 0 * 5 = 0 from rfl] at hx292_3); (try rw [Addr.add_zero'] at hx292_3); (try rw [show ((0 : Int)).toNat = 0 from rfl] at hx292_4); (try rw [show 0 * 5 = 0 from rfl] at hx292_4); (try rw [Addr.add_zero'] at hx292_4); (first | replace hx292_0 := (HB.out.cell (World.block_lt_of_cell? w _ hx292_0)).trans hx292_0 | skip); (first | replace hx292_1 := (HB.out.cell (World.block_lt_of_cell? w _ hx292_1)).trans hx292_1 | skip); (first | replace hx292_2 := (HB.out.cell (World.block_lt_of_cell? w _ hx292_2)).trans hx292_2 | skip); (first | replace hx292_3 := (HB.out.cell (World.block_lt_of_cell? w _ hx292_3)).trans hx292_3 | skip); (first | replace hx292_4 := (HB.out.cell (World.block_lt_of_cell? w _ hx292_4)).trans hx292_4 | skip); have HR292_2 := AQ hi292_2; have HC292_2 := AQ hl292_2; clear hi292_2 hl292_2; have HR292_3 := AQ hi292_3; have HC292_3 := AQ hl292_3; clear hi292_3 hl292_3; replace p292 := eq_true p292; replace q292 := eq_true q292) | ((with_reducible refine gate_dst (N := 48) rfl ?_); refine Kd.R_make (Kd.int .u8) _ 5 rfl (N := 48) rfl 36 _ _ rfl ((rd_T74 l0 0).f1) rfl rfl Tryd.underlying36 (.int .u8 0) 1 info5 rfl (by decide) (by omega) 0 (ok := fun _ => True) (okp := fun _ => True) rfl (fun _ hk => hk) trivial (of_decide_eq_true (by first | (with_reducible assumption) | assumption)) (Nat.le_trans (Nat.mul_le_mul_right _ (of_decide_eq_true (by first | (with_reducible assumption) | assumption) : ((rd_T74 l0 0).f1).toNat ≤ 281474976710656)) (by omega)) (Below.refl _ _) (Nat.le_refl _) ?_; intro v294 w24 ho25 hb hg_ hnew_; clear hg_ hnew_; (first | rw [← Ny293.out] at ho25 | (simp only [Int.reduceToNat] at ho25; rw [← Ny293.out] at ho25)); have n0_ := AQ (Kd.R_below (PR HO284) hb); have n1_ := AQ (Kd.R_below (PR HO289) hb); have n2_ := AQ (Kd.R_below (PR HO291) hb); have n3_ := AQ (Kd.R_lower ho25 (below_size (PB HB))); have n4_ := AQ (below_step (PB HB) hb); clear HO284; clear HO289; clear HO291; clear HB; have HO284 := n0_; have HO289 := n1_; have HO291 := n2_; have HO295 := n3_; have HB := n4_; clear n0_ n1_ n2_ n3_ n4_; clear hb ho25; obtain ⟨Ao26, co26, eo26⟩ := Kd.R_slice HO295.out; subst eo26; obtain ⟨Ao27, co27, eo27⟩ := Kd.R_slice HO289.out; subst eo27) | ((with_reducible refine gate_callee (f := 30) rfl ?_); refine goesL_ (some 50) rfl rfl Tryd.func30 (by kernel_rfl) rfl #[.pointer (some ad900), .agg #[.slice Ao27 t286.length co27, .slice Ao26 y293.length co26]] rfl (by (try simp only [List.map_toArray, List.map_cons, List.map_nil]); first | done | rfl | (simp only [List.length_drop, List.length_take]; rfl)) ?_; (with_reducible refine (elimM_down.calls kj7 _ l0 _ _ t286 _ _ y293 t296 t299 t302 _ ?side1 ?side2 ?side3 ?side4 ?side5 ?side6 A17.out).mono ?_); (case side1 => first | exact HT.out | exact TabIn.below HT.out (PB HB) | (repeat (first | apply TabIn.drewN | apply TabIn.drew | exact HT.out))); (case side2 => repeat (first | exact (Kd.C_below HR0.out HB.out) | (with_reducible refine Kd.C_alloc ?_ _) | (with_reducible refine Kd.C_drewN ?_ _) | (with_reducible refine Kd.C_drew ?_))); (case side3 => exact QC HO289); (case side4 => exact (Kd.R_reads' HO289.out).2.1); (case side5 => exact QC HO295); (case side6 => exact (Kd.R_reads' HO295.out).2.1); rintro e w28 ⟨v297, v300, rfl, ho0, ho1, hb⟩; refine ⟨_, rfl, ?_⟩; have n0_ := AQ (Kd.R_below (PR HO284) hb); have n1_ := AQ (Kd.R_elder' (PR HO289) (Kd.R_base ho0) hb); have n2_ := AQ (Kd.R_below (PR HO291) hb); have n3_ := AQ (Kd.R_elder' (PR HO295) (Kd.R_base ho1) hb); have n4_ := AQ (Kd.R_lower (Kd.R_new' ho0 (Kd.R_lt (PR HO289))) (below_size (PB HB))); have n5_ := AQ (Kd.R_lower (Kd.R_new' ho1 (Kd.R_lt (PR HO295))) (below_size (PB HB))); have n6_ := AQ (below_step (PB HB) hb); clear HO284; clear HO289; clear HO291; clear HO295; clear HB; have HO284 := n0_; have HO289 := n1_; have HO291 := n2_; have HO295 := n3_; have HO298 := n4_; have HO301 := n5_; have HB := n6_; clear n0_ n1_ n2_ n3_ n4_ n5_ n6_; (try clear hb); (try clear hb2); (try clear hk); (try clear hi); (try clear ho0); (try clear ho1)) | ((with_reducible refine gate_dst (N := 8) rfl ?_); refine box_event ?hg (N := 8) ?hd (cs := #[.slice none 0 0, .slice none 0 0]) (t := 77) ?hr ?_; (case hd => rfl); (case hg => rfl); (case hr => first | (go_simp; done) | (go_simp; rfl)); intro gb303 hg w29 hbox hb; have n0_ := AQ (Kd.R_below (PR HO284) hb); have n1_ := AQ (Kd.R_below (PR HO289) hb); have n2_ := AQ (Kd.R_below (PR HO291) hb); have n3_ := AQ (Kd.R_below (PR HO295) hb); have n4_ := AQ (Kd.R_below (PR HO298) hb); have n5_ := AQ (Kd.R_below (PR HO301) hb); have n6_ := AQ (below_step (PB HB) hb); have n7_ := AQ (hbox); have n8_ := AQ ((by rw [hg]; exact (below_size (PB HB)) : w.heap.size ≤ gb303)); have n9_ := AQ ((by rw [hg]; exact (below_size (PB HB)) : w.heap.size ≤ gb303)); clear HO284; clear HO289; clear HO291; clear HO295; clear HO298; clear HO301; clear HB; have HO284 := n0_; have HO289 := n1_; have HO291 := n2_; have HO295 := n3_; have HO298 := n4_; have HO301 := n5_; have HB := n6_; have BK303 := n7_; have GW303 := n8_; have GE303 := n9_; clear n0_ n1_ n2_ n3_ n4_ n5_ n6_ n7_ n8_ n9_; clear hb hbox hg; obtain ⟨Ao30, co30, eo30⟩ := Kd.R_slice HO298.out; subst eo30; have hcz31_0 : w29.cell? ⟨gb303, 0, none⟩ = some (.slice none 0 0) := (blk_cell BK303.out 0).trans rfl; have hcz31_1 : w29.cell? ⟨gb303, 1, none⟩ = some (.slice none 0 0) := (blk_cell BK303.out 1).trans rfl; have hfz31_0 := blk_frozen BK303.out 0; have hfz31_1 := blk_frozen BK303.out 1; obtain ⟨Ao32, co32, eo32⟩ := Kd.R_slice HO301.out; subst eo32) | ((with_reducible refine gate_callee (f := 28) rfl ?_); refine goesL_ (some 55) rfl rfl Tryd.func28 (by kernel_rfl) rfl #[.string (⟨#[101, 108, 105, 109, 46, 86, 97, 108, 117, 101]⟩ : ByteArray), .int .i64 4] rfl (by (try simp only [List.map_toArray, List.map_cons, List.map_nil]); first | done | rfl | (simp only [List.length_drop, List.length_take]; rfl)) ?_; (with_reducible refine (fault_New.calls (⟨#[101, 108, 105, 109, 46, 86, 97, 108, 117, 101]⟩ : ByteArray) 4 t304 _ A19.out).mono ?_); rintro e w33 ⟨v305, rfl, ho0, hb⟩; refine ⟨_, rfl, ?_⟩; have n0_ := AQ (Kd.R_below (by (with_reducible repeat (first | apply Kd.R_alloc | apply Kd.R_drewN | apply Kd.R_drew)); exact (Kd.R_mono (Kd.R_far (p := ⟨gb303, 1, none⟩) (Kd.R_far (p := ⟨gb303, 0, none⟩) (Kd.R_types HO284.out BK303.out (by decide)) (fun _ hk => hk.2) (.slice Ao30 t296.length co30)) (fun _ hk => hk.2) (.slice Ao32 t299.length co32)) (fun _ h_ => h_.1))) hb); have n1_ := AQ (Kd.R_below (by (with_reducible repeat (first | apply Kd.R_alloc | apply Kd.R_drewN | apply Kd.R_drew)); exact (Kd.R_mono (Kd.R_far (p := ⟨gb303, 1, none⟩) (Kd.R_far (p := ⟨gb303, 0, none⟩) (Kd.R_types HO289.out BK303.out (by decide)) (fun _ hk => hk.2) (.slice Ao30 t296.length co30)) (fun _ hk => hk.2) (.slice Ao32 t299.length co32)) (fun _ h_ => h_.1))) hb); have n2_ := AQ (Kd.R_below (by (with_reducible repeat (first | apply Kd.R_alloc | apply Kd.R_drewN | apply Kd.R_drew)); exact (Kd.R_mono (Kd.R_far (p := ⟨gb303, 1, none⟩) (Kd.R_far (p := ⟨gb303, 0, none⟩) (Kd.R_types HO291.out BK303.out (by decide)) (fun _ hk => hk.2) (.slice Ao30 t296.length co30)) (fun _ hk => hk.2) (.slice Ao32 t299.length co32)) (fun _ h_ => h_.1))) hb); have n3_ := AQ (Kd.R_below (by (with_reducible repeat (first | apply Kd.R_alloc | apply Kd.R_drewN | apply Kd.R_drew)); exact (Kd.R_mono (Kd.R_far (p := ⟨gb303, 1, none⟩) (Kd.R_far (p := ⟨gb303, 0, none⟩) (Kd.R_types HO295.out BK303.out (by decide)) (fun _ hk => hk.2) (.slice Ao30 t296.length co30)) (fun _ hk => hk.2) (.slice Ao32 t299.length co32)) (fun _ h_ => h_.1))) hb); have n4_ := AQ (Kd.R_below (by (with_reducible repeat (first | apply Kd.R_alloc | apply Kd.R_drewN | apply Kd.R_drew)); exact (Kd.R_mono (Kd.R_far (p := ⟨gb303, 1, none⟩) (Kd.R_far (p := ⟨gb303, 0, none⟩) (Kd.R_types HO298.out BK303.out (by decide)) (fun _ hk => hk.2) (.slice Ao30 t296.length co30)) (fun _ hk => hk.2) (.slice Ao32 t299.length co32)) (fun _ h_ => h_.1))) hb); have n5_ := AQ (Kd.R_below (by (with_reducible repeat (first | apply Kd.R_alloc | apply Kd.R_drewN | apply Kd.R_drew)); exact (Kd.R_mono (Kd.R_far (p := ⟨gb303, 1, none⟩) (Kd.R_far (p := ⟨gb303, 0, none⟩) (Kd.R_types HO301.out BK303.out (by decide)) (fun _ hk => hk.2) (.slice Ao30 t296.length co30)) (fun _ hk => hk.2) (.slice Ao32 t299.length co32)) (fun _ h_ => h_.1))) hb); have n6_ := AQ (Kd.R_lower ho0 (below_size (by repeat (first | (with_reducible first | exact HB.out | apply below_alloc | apply pw_below_drewN | apply below_drew1 | refine below_set ?_ GE303.out) | exact HB.out)))); have n7_ := AQ (blk_below (g := gb303) (o := .cells #[.slice Ao30 t296.length co30, .slice Ao32 t299.length co32] 77 (0, 0)) (by (with_reducible repeat (first | refine blk_drewN ?_ _ | refine blk_drew ?_ | refine blk_alloc ?_ _)); refine blk_put (cs := #[.slice Ao30 t296.length co30, .slice none 0 0]) ?_ 1 _ rfl; (with_reducible repeat (first | refine blk_drewN ?_ _ | refine blk_drew ?_ | refine blk_alloc ?_ _)); refine blk_put (cs := #[.slice none 0 0, .slice none 0 0]) ?_ 0 _ rfl; exact PK BK303) hb); have n8_ := AQ (below_step (by repeat (first | (with_reducible first | exact HB.out | apply below_alloc | apply pw_below_drewN | apply below_drew1 | refine below_set ?_ GE303.out) | exact HB.out)) hb); clear HO284; clear HO289; clear HO291; clear HO295; clear HO298; clear HO301; clear BK303; clear HB; have HO284 := n0_; have HO289 := n1_; have HO291 := n2_; have HO295 := n3_; have HO298 := n4_; have HO301 := n5_; have HO306 := n6_; have BK303 := n7_; have HB := n8_; clear n0_ n1_ n2_ n3_ n4_ n5_ n6_ n7_ n8_; (try clear hb); (try clear hb2); (try clear hk); (try clear hi); (try clear ho0)))
          go_ret2
          exact ⟨_, _, by first | rfl | (simp [errW_none, errW_some] <;> rfl) | (simp [*, errW_none, errW_some] <;> rfl), by first | exact Kd.R_nil _ _ _ _ _ | exact Kd.N_nil _ _ _ _ _ | exact Kd.V_nil _ _ _ _ _ | exact Kd.Q_nil _ _ _ _ _ | exact Kd.S_nil _ _ _ _ _, PR HO306, by repeat (first | (with_reducible first | exact HB.out | apply below_alloc | apply pw_below_drewN | apply below_drew1 | refine below_set ?_ GE303.out) | exact HB.out)⟩
         ·rw [if_neg c18] at H
          have c18b0 : decide (0 ≤ t302) = false := decide_eq_false c18
          clear c18
          obtain ⟨y308, hy308⟩ : ∃ y_ : List Int, y_ = (List.replicate ((rd_T74 l0 0).f1 : Int).toNat 0) := ⟨_, rfl⟩
          replace H : (some ((copyL y308 t299), ([] : List FE))) = some (r1, r2) := by first | (rw [hy308]; with_reducible exact H) | (have H2_ := (Option.bind_some _ _).symm.trans H; rw [hy308]; with_reducible exact H2_) | (have H2_ := (Option.bind_some _ _).symm.trans H; with_reducible exact H2_) | with_reducible exact H | (rw [hy308]; exact H) | exact H
          have Ny308 := AQ hy308
          clear hy308
          obtain ⟨y311, hy311⟩ : ∃ y_ : List Int, y_ = (copyL y308 t299) := ⟨_, rfl⟩
          replace H : (some (y311, ([] : List FE))) = some (r1, r2) := by first | (rw [hy311]; with_reducible exact H) | (have H2_ := (Option.bind_some _ _).symm.trans H; rw [hy311]; with_reducible exact H2_) | (have H2_ := (Option.bind_some _ _).symm.trans H; with_reducible exact H2_) | with_reducible exact H | (rw [hy311]; exact H) | exact H
          have Ny311 := AQ hy311
          clear hy311
          simp only [Option.some.injEq, Prod.mk.injEq] at H
          obtain ⟨rfl, rfl⟩ := H
          go_wp2_with (first | ((with_reducible refine gate_dst (N := 33) rfl ?_); refine Kd.R_lit (Kd.int .i64) _ 3 ?hg (N := 33) ?hd (xs := ([a1] : List Int)) (inner := [.int .i64 a1]) (ok := fun _ => True) (okp := fun _ => True) ?hr ?hp (fun _ hk => hk) trivial (Below.refl _ _) (Nat.le_refl _) (by simp) ?_; (case hd => rfl); (case hg => rfl); (case hr => first | (go_simp; done) | (go_simp; rfl)); (case hp => exact (Reps.one (show Kd.M (Kd.int .i64) _ _ _ a1 [.int .i64 a1] from rfl) (Reps.none _ _))); intro v283 w34 ho35 hb hg_ hnew_; clear hg_ hnew_; (first | rw [← Ny282.out] at ho35 | (simp only [Int.reduceToNat] at ho35; rw [← Ny282.out] at ho35)); have n0_ := AQ (Kd.R_lower ho35 (below_size (PB HB))); have n1_ := AQ (below_step (PB HB) hb); clear HB; have HO284 := n0_; have HB := n1_; clear n0_ n1_; clear hb ho35; have p285 : 0 ≤ (0 : Int) := (by omega); have q285 : 0 < (l0.length : Int) := of_decide_eq_true (by first | (with_reducible assumption) | assumption); obtain ⟨ad285, A285_2, c285_2, A285_3, c285_3, e285, hx285_0, hx285_1, hx285_2, hx285_3, hx285_4, hl285_2, hi285_2, hl285_3, hi285_3⟩ := at_T74 HR0.out 0 p285 q285; (try rw [← Nbq4.out] at hx285_4); obtain rfl : ad900 = ad285 := (by injection e285); have qi285 : (0 < l0.length) = True := eq_true (by omega); (try rw [show ((0 : Int)).toNat = 0 from rfl] at hx285_0); (try rw [show 0 * 5 = 0 from rfl] at hx285_0); (try rw [Addr.add_zero'] at hx285_0); (try rw [show ((0 : Int)).toNat = 0 from rfl] at hx285_1); (try rw [show 0 * 5 = 0 from rfl] at hx285_1); (try rw [Addr.add_zero'] at hx285_1); (try rw [show ((0 : Int)).toNat = 0 from rfl] at hx285_2); (try rw [show 0 * 5 = 0 from rfl] at hx285_2); (try rw [Addr.add_zero'] at hx285_2); (try rw [show ((0 : Int)).toNat = 0 from rfl] at hx285_3); (try rw [show 0 * 5 = 0 from rfl] at hx285_3); (try rw [Addr.add_zero'] at hx285_3); (try rw [show ((0 : Int)).toNat = 0 from rfl] at hx285_4); (try rw [show 0 * 5 = 0 from rfl] at hx285_4); (try rw [Addr.add_zero'] at hx285_4); (first | replace hx285_0 := (HB.out.cell (World.block_lt_of_cell? w _ hx285_0)).trans hx285_0 | skip); (first | replace hx285_1 := (HB.out.cell (World.block_lt_of_cell? w _ hx285_1)).trans hx285_1 | skip); (first | replace hx285_2 := (HB.out.cell (World.block_lt_of_cell? w _ hx285_2)).trans hx285_2 | skip); (first | replace hx285_3 := (HB.out.cell (World.block_lt_of_cell? w _ hx285_3)).trans hx285_3 | skip); (first | replace hx285_4 := (HB.out.cell (World.block_lt_of_cell? w _ hx285_4)).trans hx285_4 | skip); have HR285_2 := AQ hi285_2; have HC285_2 := AQ hl285_2; clear hi285_2 hl285_2; have HR285_3 := AQ hi285_3; have HC285_3 := AQ hl285_3; clear hi285_3 hl285_3; replace p285 := eq_true p285; replace q285 := eq_true q285; obtain ⟨Ao36, co36, eo36⟩ := Kd.R_slice HO284.out; subst eo36) | ((with_reducible refine gate_callee (f := 35) rfl ?_); refine goesL_ (some 38) rfl rfl Tryd.func35 (by kernel_rfl) rfl #[.slice Ao36 y282.length co36, .int .i64 ((rd_T74 l0 0).f0)] rfl (by (try simp only [List.map_toArray, List.map_cons, List.map_nil]); first | done | rfl | (simp only [List.length_drop, List.length_take]; rfl)) ?_; (with_reducible refine (packed_Pack.calls kj7 _ _ y282 ((rd_T74 l0 0).f0) t286 t287 _ ?side1 ?side2 A14.out).mono ?_); (case side1 => exact QC HO284); (case side2 => exact (Kd.R_reads' HO284.out).2.1); rintro e w37 ⟨v288, v290, rfl, ho0, ho1, hb⟩; refine ⟨_, rfl, ?_⟩; have n0_ := AQ (Kd.R_below (PR HO284) hb); have n1_ := AQ (Kd.R_lower ho0 (below_size (PB HB))); have n2_ := AQ (Kd.R_lower ho1 (below_size (PB HB))); have n3_ := AQ (below_step (PB HB) hb); clear HO284; clear HB; have HO284 := n0_; have HO289 := n1_; have HO291 := n2_; have HB := n3_; clear n0_ n1_ n2_ n3_; (try clear hb); (try clear hb2); (try clear hk); (try clear hi); (try clear ho0); (try clear ho1); have p292 : 0 ≤ (0 : Int) := (by omega); have q292 : 0 < (l0.length : Int) := of_decide_eq_true (by first | (with_reducible assumption) | assumption); obtain ⟨ad292, A292_2, c292_2, A292_3, c292_3, e292, hx292_0, hx292_1, hx292_2, hx292_3, hx292_4, hl292_2, hi292_2, hl292_3, hi292_3⟩ := at_T74 HR0.out 0 p292 q292; (try rw [← Nbq4.out] at hx292_4); obtain rfl : ad900 = ad292 := (by injection e292); have qi292 : (0 < l0.length) = True := eq_true (by omega); (try rw [show ((0 : Int)).toNat = 0 from rfl] at hx292_0); (try rw [show 0 * 5 = 0 from rfl] at hx292_0); (try rw [Addr.add_zero'] at hx292_0); (try rw [show ((0 : Int)).toNat = 0 from rfl] at hx292_1); (try rw [show 0 * 5 = 0 from rfl] at hx292_1); (try rw [Addr.add_zero'] at hx292_1); (try rw [show ((0 : Int)).toNat = 0 from rfl] at hx292_2); (try rw [show 0 * 5 = 0 from rfl] at hx292_2); (try rw [Addr.add_zero'] at hx292_2); (try rw [show ((0 : Int)).toNat = 0 from rfl] at hx292_3); (try rw [show 0 * 5 = 0 from rfl] at hx292_3); (try rw [Addr.add_zero'] at hx292_3); (try rw [show ((0 : Int)).toNat = 0 from rfl] at hx292_4); (try rw [show 0 * 5 = 0 from rfl] at hx292_4); (try rw [Addr.add_zero'] at hx292_4); (first | replace hx292_0 := (HB.out.cell (World.block_lt_of_cell? w _ hx292_0)).trans hx292_0 | skip); (first | replace hx292_1 := (HB.out.cell (World.block_lt_of_cell? w _ hx292_1)).trans hx292_1 | skip); (first | replace hx292_2 := (HB.out.cell (World.block_lt_of_cell? w _ hx292_2)).trans hx292_2 | skip); (first | replace hx292_3 := (HB.out.cell (World.block_lt_of_cell? w _ hx292_3)).trans hx292_3 | skip); (first | replace hx292_4 := (HB.out.cell (World.block_lt_of_cell? w _ hx292_4)).trans hx292_4 | skip); have HR292_2 := AQ hi292_2; have HC292_2 := AQ hl292_2; clear hi292_2 hl292_2; have HR292_3 := AQ hi292_3; have HC292_3 := AQ hl292_3; clear hi292_3 hl292_3; replace p292 := eq_true p292; replace q292 := eq_true q292) | ((with_reducible refine gate_dst (N := 48) rfl ?_); refine Kd.R_make (Kd.int .u8) _ 5 rfl (N := 48) rfl 36 _ _ rfl ((rd_T74 l0 0).f1) rfl rfl Tryd.underlying36 (.int .u8 0) 1 info5 rfl (by decide) (by omega) 0 (ok := fun _ => True) (okp := fun _ => True) rfl (fun _ hk => hk) trivial (of_decide_eq_true (by first | (with_reducible assumption) | assumption)) (Nat.le_trans (Nat.mul_le_mul_right _ (of_decide_eq_true (by first | (with_reducible assumption) | assumption) : ((rd_T74 l0 0).f1).toNat ≤ 281474976710656)) (by omega)) (Below.refl _ _) (Nat.le_refl _) ?_; intro v294 w38 ho39 hb hg_ hnew_; clear hg_ hnew_; (first | rw [← Ny293.out] at ho39 | (simp only [Int.reduceToNat] at ho39; rw [← Ny293.out] at ho39)); have n0_ := AQ (Kd.R_below (PR HO284) hb); have n1_ := AQ (Kd.R_below (PR HO289) hb); have n2_ := AQ (Kd.R_below (PR HO291) hb); have n3_ := AQ (Kd.R_lower ho39 (below_size (PB HB))); have n4_ := AQ (below_step (PB HB) hb); clear HO284; clear HO289; clear HO291; clear HB; have HO284 := n0_; have HO289 := n1_; have HO291 := n2_; have HO295 := n3_; have HB := n4_; clear n0_ n1_ n2_ n3_ n4_; clear hb ho39; obtain ⟨Ao40, co40, eo40⟩ := Kd.R_slice HO295.out; subst eo40; obtain ⟨Ao41, co41, eo41⟩ := Kd.R_slice HO289.out; subst eo41) | ((with_reducible refine gate_callee (f := 30) rfl ?_); refine goesL_ (some 50) rfl rfl Tryd.func30 (by kernel_rfl) rfl #[.pointer (some ad900), .agg #[.slice Ao41 t286.length co41, .slice Ao40 y293.length co40]] rfl (by (try simp only [List.map_toArray, List.map_cons, List.map_nil]); first | done | rfl | (simp only [List.length_drop, List.length_take]; rfl)) ?_; (with_reducible refine (elimM_down.calls kj7 _ l0 _ _ t286 _ _ y293 t296 t299 t302 _ ?side1 ?side2 ?side3 ?side4 ?side5 ?side6 A17.out).mono ?_); (case side1 => first | exact HT.out | exact TabIn.below HT.out (PB HB) | (repeat (first | apply TabIn.drewN | apply TabIn.drew | exact HT.out))); (case side2 => repeat (first | exact (Kd.C_below HR0.out HB.out) | (with_reducible refine Kd.C_alloc ?_ _) | (with_reducible refine Kd.C_drewN ?_ _) | (with_reducible refine Kd.C_drew ?_))); (case side3 => exact QC HO289); (case side4 => exact (Kd.R_reads' HO289.out).2.1); (case side5 => exact QC HO295); (case side6 => exact (Kd.R_reads' HO295.out).2.1); rintro e w42 ⟨v297, v300, rfl, ho0, ho1, hb⟩; refine ⟨_, rfl, ?_⟩; have n0_ := AQ (Kd.R_below (PR HO284) hb); have n1_ := AQ (Kd.R_elder' (PR HO289) (Kd.R_base ho0) hb); have n2_ := AQ (Kd.R_below (PR HO291) hb); have n3_ := AQ (Kd.R_elder' (PR HO295) (Kd.R_base ho1) hb); have n4_ := AQ (Kd.R_lower (Kd.R_new' ho0 (Kd.R_lt (PR HO289))) (below_size (PB HB))); have n5_ := AQ (Kd.R_lower (Kd.R_new' ho1 (Kd.R_lt (PR HO295))) (below_size (PB HB))); have n6_ := AQ (below_step (PB HB) hb); clear HO284; clear HO289; clear HO291; clear HO295; clear HB; have HO284 := n0_; have HO289 := n1_; have HO291 := n2_; have HO295 := n3_; have HO298 := n4_; have HO301 := n5_; have HB := n6_; clear n0_ n1_ n2_ n3_ n4_ n5_ n6_; (try clear hb); (try clear hb2); (try clear hk); (try clear hi); (try clear ho0); (try clear ho1)) | ((with_reducible refine gate_dst (N := 8) rfl ?_); refine box_event ?hg (N := 8) ?hd (cs := #[.slice none 0 0, .slice none 0 0]) (t := 77) ?hr ?_; (case hd => rfl); (case hg => rfl); (case hr => first | (go_simp; done) | (go_simp; rfl)); intro gb303 hg w43 hbox hb; have n0_ := AQ (Kd.R_below (PR HO284) hb); have n1_ := AQ (Kd.R_below (PR HO289) hb); have n2_ := AQ (Kd.R_below (PR HO291) hb); have n3_ := AQ (Kd.R_below (PR HO295) hb); have n4_ := AQ (Kd.R_below (PR HO298) hb); have n5_ := AQ (Kd.R_below (PR HO301) hb); have n6_ := AQ (below_step (PB HB) hb); have n7_ := AQ (hbox); have n8_ := AQ ((by rw [hg]; exact (below_size (PB HB)) : w.heap.size ≤ gb303)); have n9_ := AQ ((by rw [hg]; exact (below_size (PB HB)) : w.heap.size ≤ gb303)); clear HO284; clear HO289; clear HO291; clear HO295; clear HO298; clear HO301; clear HB; have HO284 := n0_; have HO289 := n1_; have HO291 := n2_; have HO295 := n3_; have HO298 := n4_; have HO301 := n5_; have HB := n6_; have BK303 := n7_; have GW303 := n8_; have GE303 := n9_; clear n0_ n1_ n2_ n3_ n4_ n5_ n6_ n7_ n8_ n9_; clear hb hbox hg; obtain ⟨Ao44, co44, eo44⟩ := Kd.R_slice HO298.out; subst eo44; have hcz45_0 : w43.cell? ⟨gb303, 0, none⟩ = some (.slice none 0 0) := (blk_cell BK303.out 0).trans rfl; have hcz45_1 : w43.cell? ⟨gb303, 1, none⟩ = some (.slice none 0 0) := (blk_cell BK303.out 1).trans rfl; have hfz45_0 := blk_frozen BK303.out 0; have hfz45_1 := blk_frozen BK303.out 1; obtain ⟨Ao46, co46, eo46⟩ := Kd.R_slice HO301.out; subst eo46; have p307 : 0 ≤ (0 : Int) := (by omega); have q307 : 0 < (l0.length : Int) := of_decide_eq_true (by first | (with_reducible assumption) | assumption); obtain ⟨ad307, A307_2, c307_2, A307_3, c307_3, e307, hx307_0, hx307_1, hx307_2, hx307_3, hx307_4, hl307_2, hi307_2, hl307_3, hi307_3⟩ := at_T74 HR0.out 0 p307 q307; (try rw [← Nbq4.out] at hx307_4); obtain rfl : ad900 = ad307 := (by injection e307); have qi307 : (0 < l0.length) = True := eq_true (by omega); (try rw [show ((0 : Int)).toNat = 0 from rfl] at hx307_0); (try rw [show 0 * 5 = 0 from rfl] at hx307_0); (try rw [Addr.add_zero'] at hx307_0); (try rw [show ((0 : Int)).toNat = 0 from rfl] at hx307_1); (try rw [show 0 * 5 = 0 from rfl] at hx307_1); (try rw [Addr.add_zero'] at hx307_1); (try rw [show ((0 : Int)).toNat = 0 from rfl] at hx307_2); (try rw [show 0 * 5 = 0 from rfl] at hx307_2); (try rw [Addr.add_zero'] at hx307_2); (try rw [show ((0 : Int)).toNat = 0 from rfl] at hx307_3); (try rw [show 0 * 5 = 0 from rfl] at hx307_3); (try rw [Addr.add_zero'] at hx307_3); (try rw [show ((0 : Int)).toNat = 0 from rfl] at hx307_4); (try rw [show 0 * 5 = 0 from rfl] at hx307_4); (try rw [Addr.add_zero'] at hx307_4); have hn307_0 : ad900.block ≠ gb303 := Nat.ne_of_lt (Nat.lt_of_lt_of_le (by have := World.block_lt_of_cell? _ _ hx307_0; first | rwa [add_block] at this | exact this) GW303.out); have hn307_1 : ad900.block ≠ gb303 := Nat.ne_of_lt (Nat.lt_of_lt_of_le (by have := World.block_lt_of_cell? _ _ hx307_0; first | rwa [add_block] at this | exact this) GW303.out); (first | replace hx307_0 := (HB.out.cell (World.block_lt_of_cell? w _ hx307_0)).trans hx307_0 | skip); (first | replace hx307_1 := (HB.out.cell (World.block_lt_of_cell? w _ hx307_1)).trans hx307_1 | skip); (first | replace hx307_2 := (HB.out.cell (World.block_lt_of_cell? w _ hx307_2)).trans hx307_2 | skip); (first | replace hx307_3 := (HB.out.cell (World.block_lt_of_cell? w _ hx307_3)).trans hx307_3 | skip); (first | replace hx307_4 := (HB.out.cell (World.block_lt_of_cell? w _ hx307_4)).trans hx307_4 | skip); have HR307_2 := AQ hi307_2; have HC307_2 := AQ hl307_2; clear hi307_2 hl307_2; have HR307_3 := AQ hi307_3; have HC307_3 := AQ hl307_3; clear hi307_3 hl307_3; replace hx307_0 := (cell_far (p := ⟨gb303, 0, none⟩) (by first | (rw [add_block]; exact hn307_0) | (show (Addr.add _ _).block ≠ _; rw [add_block]; exact hn307_0) | exact hn307_0) (.slice Ao44 t296.length co44)).trans hx307_0; replace hx307_1 := (cell_far (p := ⟨gb303, 0, none⟩) (by first | (rw [add_block]; exact hn307_0) | (show (Addr.add _ _).block ≠ _; rw [add_block]; exact hn307_0) | exact hn307_0) (.slice Ao44 t296.length co44)).trans hx307_1; replace hx307_2 := (cell_far (p := ⟨gb303, 0, none⟩) (by first | (rw [add_block]; exact hn307_0) | (show (Addr.add _ _).block ≠ _; rw [add_block]; exact hn307_0) | exact hn307_0) (.slice Ao44 t296.length co44)).trans hx307_2; replace hx307_3 := (cell_far (p := ⟨gb303, 0, none⟩) (by first | (rw [add_block]; exact hn307_0) | (show (Addr.add _ _).block ≠ _; rw [add_block]; exact hn307_0) | exact hn307_0) (.slice Ao44 t296.length co44)).trans hx307_3; replace hx307_4 := (cell_far (p := ⟨gb303, 0, none⟩) (by first | (rw [add_block]; exact hn307_0) | (show (Addr.add _ _).block ≠ _; rw [add_block]; exact hn307_0) | exact hn307_0) (.slice Ao44 t296.length co44)).trans hx307_4; replace hx307_0 := (cell_far (p := ⟨gb303, 1, none⟩) (by first | (rw [add_block]; exact hn307_1) | (show (Addr.add _ _).block ≠ _; rw [add_block]; exact hn307_1) | exact hn307_1) (.slice Ao46 t299.length co46)).trans hx307_0; replace hx307_1 := (cell_far (p := ⟨gb303, 1, none⟩) (by first | (rw [add_block]; exact hn307_1) | (show (Addr.add _ _).block ≠ _; rw [add_block]; exact hn307_1) | exact hn307_1) (.slice Ao46 t299.length co46)).trans hx307_1; replace hx307_2 := (cell_far (p := ⟨gb303, 1, none⟩) (by first | (rw [add_block]; exact hn307_1) | (show (Addr.add _ _).block ≠ _; rw [add_block]; exact hn307_1) | exact hn307_1) (.slice Ao46 t299.length co46)).trans hx307_2; replace hx307_3 := (cell_far (p := ⟨gb303, 1, none⟩) (by first | (rw [add_block]; exact hn307_1) | (show (Addr.add _ _).block ≠ _; rw [add_block]; exact hn307_1) | exact hn307_1) (.slice Ao46 t299.length co46)).trans hx307_3; replace hx307_4 := (cell_far (p := ⟨gb303, 1, none⟩) (by first | (rw [add_block]; exact hn307_1) | (show (Addr.add _ _).block ≠ _; rw [add_block]; exact hn307_1) | exact hn307_1) (.slice Ao46 t299.length co46)).trans hx307_4; clear hn307_0; clear hn307_1; replace p307 := eq_true p307; replace q307 := eq_true q307) | ((with_reducible refine gate_dst (N := 60) rfl ?_); refine Kd.R_make (Kd.int .u8) _ 5 rfl (N := 60) rfl 36 _ _ rfl ((rd_T74 l0 0).f1) rfl rfl Tryd.underlying36 (.int .u8 0) 1 info5 rfl (by decide) (by omega) 0 (ok := fun _ => True) (okp := fun _ => True) rfl (fun _ hk => hk) trivial (of_decide_eq_true (by first | (with_reducible assumption) | assumption)) (Nat.le_trans (Nat.mul_le_mul_right _ (of_decide_eq_true (by first | (with_reducible assumption) | assumption) : ((rd_T74 l0 0).f1).toNat ≤ 281474976710656)) (by omega)) (Below.refl _ _) (Nat.le_refl _) ?_; intro v309 w47 ho48 hb hg_ hnew_; clear hg_ hnew_; (first | rw [← Ny308.out] at ho48 | (simp only [Int.reduceToNat] at ho48; rw [← Ny308.out] at ho48)); have n0_ := AQ (Kd.R_below (by (with_reducible repeat (first | apply Kd.R_alloc | apply Kd.R_drewN | apply Kd.R_drew)); exact (Kd.R_mono (Kd.R_far (p := ⟨gb303, 1, none⟩) (Kd.R_far (p := ⟨gb303, 0, none⟩) (Kd.R_types HO284.out BK303.out (by decide)) (fun _ hk => hk.2) (.slice Ao44 t296.length co44)) (fun _ hk => hk.2) (.slice Ao46 t299.length co46)) (fun _ h_ => h_.1))) hb); have n1_ := AQ (Kd.R_below (by (with_reducible repeat (first | apply Kd.R_alloc | apply Kd.R_drewN | apply Kd.R_drew)); exact (Kd.R_mono (Kd.R_far (p := ⟨gb303, 1, none⟩) (Kd.R_far (p := ⟨gb303, 0, none⟩) (Kd.R_types HO289.out BK303.out (by decide)) (fun _ hk => hk.2) (.slice Ao44 t296.length co44)) (fun _ hk => hk.2) (.slice Ao46 t299.length co46)) (fun _ h_ => h_.1))) hb); have n2_ := AQ (Kd.R_below (by (with_reducible repeat (first | apply Kd.R_alloc | apply Kd.R_drewN | apply Kd.R_drew)); exact (Kd.R_mono (Kd.R_far (p := ⟨gb303, 1, none⟩) (Kd.R_far (p := ⟨gb303, 0, none⟩) (Kd.R_types HO291.out BK303.out (by decide)) (fun _ hk => hk.2) (.slice Ao44 t296.length co44)) (fun _ hk => hk.2) (.slice Ao46 t299.length co46)) (fun _ h_ => h_.1))) hb); have n3_ := AQ (Kd.R_elder' (by (with_reducible repeat (first | apply Kd.R_alloc | apply Kd.R_drewN | apply Kd.R_drew)); exact (Kd.R_mono (Kd.R_far (p := ⟨gb303, 1, none⟩) (Kd.R_far (p := ⟨gb303, 0, none⟩) (Kd.R_types HO295.out BK303.out (by decide)) (fun _ hk => hk.2) (.slice Ao44 t296.length co44)) (fun _ hk => hk.2) (.slice Ao46 t299.length co46)) (fun _ h_ => h_.1))) (Kd.R_base ho48) hb); have n4_ := AQ (Kd.R_below (by (with_reducible repeat (first | apply Kd.R_alloc | apply Kd.R_drewN | apply Kd.R_drew)); exact (Kd.R_mono (Kd.R_far (p := ⟨gb303, 1, none⟩) (Kd.R_far (p := ⟨gb303, 0, none⟩) (Kd.R_types HO298.out BK303.out (by decide)) (fun _ hk => hk.2) (.slice Ao44 t296.length co44)) (fun _ hk => hk.2) (.slice Ao46 t299.length co46)) (fun _ h_ => h_.1))) hb); have n5_ := AQ (Kd.R_elder' (by (with_reducible repeat (first | apply Kd.R_alloc | apply Kd.R_drewN | apply Kd.R_drew)); exact (Kd.R_mono (Kd.R_far (p := ⟨gb303, 1, none⟩) (Kd.R_far (p := ⟨gb303, 0, none⟩) (Kd.R_types HO301.out BK303.out (by decide)) (fun _ hk => hk.2) (.slice Ao44 t296.length co44)) (fun _ hk => hk.2) (.slice Ao46 t299.length co46)) (fun _ h_ => h_.1))) (Kd.R_base ho48) hb); have n6_ := AQ (Kd.R_lower (Kd.R_new' (Kd.R_new' ho48 (Kd.R_lt (by (with_reducible repeat (first | apply Kd.R_alloc | apply Kd.R_drewN | apply Kd.R_drew)); exact (Kd.R_mono (Kd.R_far (p := ⟨gb303, 1, none⟩) (Kd.R_far (p := ⟨gb303, 0, none⟩) (Kd.R_types HO295.out BK303.out (by decide)) (fun _ hk => hk.2) (.slice Ao44 t296.length co44)) (fun _ hk => hk.2) (.slice Ao46 t299.length co46)) (fun _ h_ => h_.1))))) (Kd.R_lt (by (with_reducible repeat (first | apply Kd.R_alloc | apply Kd.R_drewN | apply Kd.R_drew)); exact (Kd.R_mono (Kd.R_far (p := ⟨gb303, 1, none⟩) (Kd.R_far (p := ⟨gb303, 0, none⟩) (Kd.R_types HO301.out BK303.out (by decide)) (fun _ hk => hk.2) (.slice Ao44 t296.length co44)) (fun _ hk => hk.2) (.slice Ao46 t299.length co46)) (fun _ h_ => h_.1))))) (below_size (by repeat (first | (with_reducible first | exact HB.out | apply below_alloc | apply pw_below_drewN | apply below_drew1 | refine below_set ?_ GE303.out) | exact HB.out)))); have n7_ := AQ (blk_below (g := gb303) (o := .cells #[.slice Ao44 t296.length co44, .slice Ao46 t299.length co46] 77 (0, 0)) (by (with_reducible repeat (first | refine blk_drewN ?_ _ | refine blk_drew ?_ | refine blk_alloc ?_ _)); refine blk_put (cs := #[.slice Ao44 t296.length co44, .slice none 0 0]) ?_ 1 _ rfl; (with_reducible repeat (first | refine blk_drewN ?_ _ | refine blk_drew ?_ | refine blk_alloc ?_ _)); refine blk_put (cs := #[.slice none 0 0, .slice none 0 0]) ?_ 0 _ rfl; exact PK BK303) hb); have n8_ := AQ (below_step (by repeat (first | (with_reducible first | exact HB.out | apply below_alloc | apply pw_below_drewN | apply below_drew1 | refine below_set ?_ GE303.out) | exact HB.out)) hb); clear HO284; clear HO289; clear HO291; clear HO295; clear HO298; clear HO301; clear BK303; clear HB; have HO284 := n0_; have HO289 := n1_; have HO291 := n2_; have HO295 := n3_; have HO298 := n4_; have HO301 := n5_; have HO310 := n6_; have BK303 := n7_; have HB := n8_; clear n0_ n1_ n2_ n3_ n4_ n5_ n6_ n7_ n8_; clear hb ho48; have hcz49_0 : w47.cell? ⟨gb303, 0, none⟩ = some (.slice Ao44 t296.length co44) := (blk_cell BK303.out 0).trans rfl; have hcz49_1 : w47.cell? ⟨gb303, 1, none⟩ = some (.slice Ao46 t299.length co46) := (blk_cell BK303.out 1).trans rfl; have hfz49_0 := blk_frozen BK303.out 0; have hfz49_1 := blk_frozen BK303.out 1; obtain ⟨Ao50, co50, eo50⟩ := Kd.R_slice HO310.out; subst eo50; have n_ := AQ (Kd.R_mono (ok' := (fun k_ => some k_ ≠ (.slice Ao40 y293.length co40 : Value).ownBlock ∧ some k_ ≠ (.slice Ao46 t299.length co46 : Value).ownBlock)) HO310.out (fun k_ hk => ⟨hk.1.2, hk.2⟩)); clear HO310; have HO310 := n_; clear n_) | ((with_reducible refine gate_builtin (b := .copy) (xs := #[.tmp 61, .tmp 63]) rfl ?_); refine R_copy_event (w0 := w) w.heap.size rfl (.tmp 61) (.tmp 63) 36 36 rfl 5 Tryd.underlying36 (by kernel_rfl) (.slice Ao50 y308.length co50) y308 Ao46 _ co46 t299 (fun k_ => some k_ ≠ (.slice Ao40 y293.length co40 : Value).ownBlock ∧ some k_ ≠ (.slice Ao46 t299.length co46 : Value).ownBlock) rfl rfl (PR HO310) ?cS (by repeat (first | (with_reducible first | exact HB.out | apply below_alloc | apply pw_below_drewN | apply below_drew1 | refine below_set ?_ GE303.out) | exact HB.out)) ?_; (case cS => exact QC HO301); intro w52 hp_ hb_ hg; rw [← Ny311.out] at hp_; have hw := True.intro; have n0_ := AQ (Kd.R_over' (v := (.slice Ao50 y308.length co50)) (PR HO284) (Kd.R_typed HO310.out) (by decide) hg); have n1_ := AQ (Kd.R_over' (v := (.slice Ao50 y308.length co50)) (PR HO289) (Kd.R_typed HO310.out) (by decide) hg); have n2_ := AQ (Kd.R_over' (v := (.slice Ao50 y308.length co50)) (PR HO291) (Kd.R_typed HO310.out) (by decide) hg); have n3_ := AQ (Kd.R_after (v := (.slice Ao50 y308.length co50)) (v1 := (.slice Ao50 y308.length co50)) (ok := (fun k_ => some k_ ≠ (.slice Ao46 t299.length co46 : Value).ownBlock)) (by (with_reducible repeat (first | apply Kd.R_alloc | apply Kd.R_drewN | apply Kd.R_drew)); exact Kd.R_mono HO295.out (fun _ hk => ⟨hk.1.2, hk.2⟩)) hg (.inl rfl)); have n4_ := AQ (Kd.R_over' (v := (.slice Ao50 y308.length co50)) (PR HO298) (Kd.R_typed HO310.out) (by decide) hg); have n5_ := AQ (Kd.R_after (v := (.slice Ao50 y308.length co50)) (v1 := (.slice Ao50 y308.length co50)) (ok := (fun k_ => some k_ ≠ (.slice Ao40 y293.length co40 : Value).ownBlock)) (by (with_reducible repeat (first | apply Kd.R_alloc | apply Kd.R_drewN | apply Kd.R_drew)); exact Kd.R_mono HO301.out (fun _ hk => ⟨hk.1.2, hk.2⟩)) hg (.inl rfl)); have n6_ := AQ (blk_grown (g := gb303) (o := .cells #[.slice Ao44 t296.length co44, .slice Ao46 t299.length co46] 77 (0, 0)) (PK BK303) hg (Kd.R_ne HO310.out BK303.out (by decide))); have n7_ := AQ (hp_); have n8_ := AQ (hb_); clear HO284; clear HO289; clear HO291; clear HO295; clear HO298; clear HO301; clear BK303; clear HO310; clear HB; have HO284 := n0_; have HO289 := n1_; have HO291 := n2_; have HO295 := n3_; have HO298 := n4_; have HO301 := n5_; have BK303 := n6_; have HO310 := n7_; have HB := n8_; clear n0_ n1_ n2_ n3_ n4_ n5_ n6_ n7_ n8_; clear hg hw hp_ hb_))
          go_ret2
          exact ⟨_, (.slice none 0 0), by first | rfl | (simp [errW_none, errW_some] <;> rfl) | (simp [*, errW_none, errW_some] <;> rfl), by (with_reducible repeat (first | apply Kd.R_alloc | apply Kd.R_drewN | apply Kd.R_drew)); exact Kd.R_mono HO310.out (fun _ hk => trivial), by first | exact Kd.R_nil _ _ _ _ _ | exact Kd.N_nil _ _ _ _ _ | exact Kd.V_nil _ _ _ _ _ | exact Kd.Q_nil _ _ _ _ _ | exact Kd.S_nil _ _ _ _ _, by repeat (first | (with_reducible first | exact HB.out | apply below_alloc | apply pw_below_drewN | apply below_drew1 | refine below_set ?_ GE303.out) | exact HB.out)⟩
        ·rw [if_neg c16] at H
         exact absurd H (by simp)
       ·rw [if_neg c15] at H
        exact absurd H (by simp)
      ·rw [if_neg c13] at H
       exact absurd H (by simp)
 ·rw [if_neg c3] at H
  exact absurd H (by simp)
end Go.Proofs.YtjmgkknbgffbjaaDoor.P
namespace Go.Proofs.YtjmgkknbgffbjaaDoor.P
open Go.RowKit Go.Proofs.YtjmgkknbgffbjaaDoorW.PrintWords Go.Proofs.YtjmgkknbgffbjaaDoorW.PrintLast Go.Proofs.YtjmgkknbgffbjaaDoorW.PrintErr Go.Proofs.YtjmgkknbgffbjaaDoorW.PrintMore
attribute [local go_sem] max2_int min2_int max_two min_two max_three min_three max_four min_four run_eql_errOf run_neq_errOf eqGuard_errOf run_eql_ptrOf run_neq_ptrOf eqGuard_ptrOf   -- for this text's walks alone
set_option linter.unusedVariables false
set_option linter.unusedSimpArgs false
def elim_System_Value.f (k : Nat) (l0 : List S74) (a1 : Int) : Option (List Int × List FE) := if l0.length = 0 then some ([], [⟨(⟨#[101, 108, 105, 109, 46, 86, 97, 108, 117, 101]⟩ : ByteArray), true, 7⟩]) else elimM_Value.f k l0 a1
theorem elim_System_Value.mono : ∀ a0 a1 k, LeO (elim_System_Value.f k a0 a1) (elim_System_Value.f (k + 1) a0 a1) := by
 intro a0 a1 k; unfold elim_System_Value.f; exact LeO.ite (LeO.refl _) (elimM_Value.mono a0 a1 k)
theorem elim_System_Value.calls (k : Nat) (A0 : Option Addr) (c0 : Nat) (l0 : List S74) (a1 : Int) (r1 : List Int) (r2 : List FE) (w : World) (ht : TabIn w) (hr0 : Kd.C k74 w A0 l0.length l0) (hc0 : l0.length ≤ c0) (h : elim_System_Value.f k l0 a1 = some (r1, r2)) :
  Calls Tryd.prog 13 #[ptrOf (.slice A0 l0.length c0), .int .i64 a1] w fun e w' => ∃ v0_ v1_ : Value, e = .returned (.tuple #[v0_, (errOf v1_)]) ∧ Kd.R (Kd.int .u8) 5 w' w.heap.size (fun _ => True) v0_ r1 ∧ Kd.R kF 95 w' w.heap.size (fun _ => True) v1_ r2 ∧ Below w.heap.size w w' := by
 unfold elim_System_Value.f at h
 by_cases hz : l0.length = 0
 ·rw [if_pos hz] at h
  obtain ⟨rfl, rfl⟩ := Prod.mk.inj (Option.some.inj h)
  rw [hz, ptrOf_zero]
  refine (elim_Value.nil w _).mono fun e w' hx => ?_
  obtain ⟨v1_, he, h1, hb⟩ := hx
  exact ⟨_, v1_, he, Kd.R_nil _ _ _ _ _, h1, hb⟩
 ·rw [if_neg hz] at h
  obtain ⟨_, _, hA⟩ := id hr0
  obtain ⟨ad, rfl, _⟩ := hA (Nat.pos_of_ne_zero hz)
  rw [ptrOf_pos _ _ _ hz]
  exact elimM_Value.calls k ad l0 a1 r1 r2 w ht hr0 h
end Go.Proofs.YtjmgkknbgffbjaaDoor.P
namespace Go.Proofs.YtjmgkknbgffbjaaDoor.P
open Go.RowKit Go.Proofs.YtjmgkknbgffbjaaDoorW.PrintWords Go.Proofs.YtjmgkknbgffbjaaDoorW.PrintLast Go.Proofs.YtjmgkknbgffbjaaDoorW.PrintErr Go.Proofs.YtjmgkknbgffbjaaDoorW.PrintMore
attribute [local go_sem] max2_int min2_int max_two min_two max_three min_three max_four min_four run_eql_errOf run_neq_errOf eqGuard_errOf   -- for this text's walks alone
set_option linter.unusedVariables false
set_option linter.unusedSimpArgs false
def elimM_Whole.f (l0 : List (S74)) : Option (Bool) := if 0 < (l0.length : Int) then (if (((rd_T74 l0 0).f2).length : Int) = ((rd_T74 l0 0).f0) then (some (!((rd_T74 l0 0).f4))) else (some false)) else (none)
set_option maxHeartbeats 8000000 in
set_option maxRecDepth 100000 in
theorem elimM_Whole.calls (ad900 : Addr) (l0 : List (S74)) (r : Bool) (w : World) (hr0 : Kd.C k74 w (some ad900) l0.length l0) (h : elimM_Whole.f l0 = some r) :
  Calls Tryd.prog 18 #[.pointer (some ad900)] w fun e w' => e = .returned (.bool r) ∧ Drawn0 w w' := by
 have HR0 := AQ hr0
 clear hr0
 have H : (if 0 < (l0.length : Int) then (if (((rd_T74 l0 0).f2).length : Int) = ((rd_T74 l0 0).f0) then (some (!((rd_T74 l0 0).f4))) else (some false)) else (none)) = some r := h
 clear h
 by_cases c2 : 0 < (l0.length : Int)
 ·rw [if_pos c2] at H
  have c2b0 : decide (0 < (l0.length : Int)) = true := decide_eq_true c2
  have c2b1 : decide (0 < l0.length) = true := decide_eq_true (by omega)
  clear c2
  by_cases c3 : (((rd_T74 l0 0).f2).length : Int) = ((rd_T74 l0 0).f0)
  ·rw [if_pos c3] at H
   have c3b0 : ((((rd_T74 l0 0).f2).length : Int) == ((rd_T74 l0 0).f0)) = true := beq_iff_eq.mpr c3
   have c3b1 : ((((rd_T74 l0 0).f2).length : Int) != ((rd_T74 l0 0).f0)) = false := bne_eq_false_iff_eq.mpr c3
   clear c3
   obtain rfl := Option.some.inj H
   have p313 : 0 ≤ (0 : Int) := (by omega)
   have q313 : 0 < (l0.length : Int) := of_decide_eq_true (by first | (with_reducible assumption) | assumption)
   obtain ⟨ad313, A313_2, c313_2, A313_3, c313_3, e313, hx313_0, hx313_1, hx313_2, hx313_3, hx313_4, hl313_2, hi313_2, hl313_3, hi313_3⟩ := at_T74 HR0.out 0 p313 q313
   obtain rfl : ad900 = ad313 := (by injection e313)
   have qi313 : (0 < l0.length) = True := eq_true (by omega)
   (try rw [show ((0 : Int)).toNat = 0 from rfl] at hx313_0)
   (try rw [show 0 * 5 = 0 from rfl] at hx313_0)
   (try rw [Addr.add_zero'] at hx313_0)
   (try rw [show ((0 : Int)).toNat = 0 from rfl] at hx313_1)
   (try rw [show 0 * 5 = 0 from rfl] at hx313_1)
   (try rw [Addr.add_zero'] at hx313_1)
   (try rw [show ((0 : Int)).toNat = 0 from rfl] at hx313_2)
   (try rw [show 0 * 5 = 0 from rfl] at hx313_2)
   (try rw [Addr.add_zero'] at hx313_2)
   (try rw [show ((0 : Int)).toNat = 0 from rfl] at hx313_3)
   (try rw [show 0 * 5 = 0 from rfl] at hx313_3)
   (try rw [Addr.add_zero'] at hx313_3)
   (try rw [show ((0 : Int)).toNat = 0 from rfl] at hx313_4)
   (try rw [show 0 * 5 = 0 from rfl] at hx313_4)
   (try rw [Addr.add_zero'] at hx313_4)
   have HR313_2 := AQ hi313_2
   have HC313_2 := AQ hl313_2
   clear hi313_2 hl313_2
   have HR313_3 := AQ hi313_3
   have HC313_3 := AQ hl313_3
   clear hi313_3 hl313_3
   replace p313 := eq_true p313
   replace q313 := eq_true q313
   have p314 : 0 ≤ (0 : Int) := (by omega)
   have q314 : 0 < (l0.length : Int) := of_decide_eq_true (by first | (with_reducible assumption) | assumption)
   obtain ⟨ad314, A314_2, c314_2, A314_3, c314_3, e314, hx314_0, hx314_1, hx314_2, hx314_3, hx314_4, hl314_2, hi314_2, hl314_3, hi314_3⟩ := at_T74 HR0.out 0 p314 q314
   obtain rfl : ad900 = ad314 := (by injection e314)
   have qi314 : (0 < l0.length) = True := eq_true (by omega)
   (try rw [show ((0 : Int)).toNat = 0 from rfl] at hx314_0)
   (try rw [show 0 * 5 = 0 from rfl] at hx314_0)
   (try rw [Addr.add_zero'] at hx314_0)
   (try rw [show ((0 : Int)).toNat = 0 from rfl] at hx314_1)
   (try rw [show 0 * 5 = 0 from rfl] at hx314_1)
   (try rw [Addr.add_zero'] at hx314_1)
   (try rw [show ((0 : Int)).toNat = 0 from rfl] at hx314_2)
   (try rw [show 0 * 5 = 0 from rfl] at hx314_2)
   (try rw [Addr.add_zero'] at hx314_2)
   (try rw [show ((0 : Int)).toNat = 0 from rfl] at hx314_3)
   (try rw [show 0 * 5 = 0 from rfl] at hx314_3)
   (try rw [Addr.add_zero'] at hx314_3)
   (try rw [show ((0 : Int)).toNat = 0 from rfl] at hx314_4)
   (try rw [show 0 * 5 = 0 from rfl] at hx314_4)
   (try rw [Addr.add_zero'] at hx314_4)
   have HR314_2 := AQ hi314_2
   have HC314_2 := AQ hl314_2
   clear hi314_2 hl314_2
   have HR314_3 := AQ hi314_3
   have HC314_3 := AQ hl314_3
   clear hi314_3 hl314_3
   replace p314 := eq_true p314
   replace q314 := eq_true q314
   have ea_ := Option.some.inj (hx313_2.symm.trans hx314_2)
   injection ea_ with ea_ en_ ec_
   subst ea_
   subst ec_
   clear en_
   have ea_ := Option.some.inj (hx313_3.symm.trans hx314_3)
   injection ea_ with ea_ en_ ec_
   subst ea_
   subst ec_
   clear en_
   have p315 : 0 ≤ (0 : Int) := (by omega)
   have q315 : 0 < (l0.length : Int) := of_decide_eq_true (by first | (with_reducible assumption) | assumption)
   obtain ⟨ad315, A315_2, c315_2, A315_3, c315_3, e315, hx315_0, hx315_1, hx315_2, hx315_3, hx315_4, hl315_2, hi315_2, hl315_3, hi315_3⟩ := at_T74 HR0.out 0 p315 q315
   obtain rfl : ad900 = ad315 := (by injection e315)
   have qi315 : (0 < l0.length) = True := eq_true (by omega)
   (try rw [show ((0 : Int)).toNat = 0 from rfl] at hx315_0)
   (try rw [show 0 * 5 = 0 from rfl] at hx315_0)
   (try rw [Addr.add_zero'] at hx315_0)
   (try rw [show ((0 : Int)).toNat = 0 from rfl] at hx315_1)
   (try rw [show 0 * 5 = 0 from rfl] at hx315_1)
   (try rw [Addr.add_zero'] at hx315_1)
   (try rw [show ((0 : Int)).toNat = 0 from rfl] at hx315_2)
   (try rw [show 0 * 5 = 0 from rfl] at hx315_2)
   (try rw [Addr.add_zero'] at hx315_2)
   (try rw [show ((0 : Int)).toNat = 0 from rfl] at hx315_3)
   (try rw [show 0 * 5 = 0 from rfl] at hx315_3)
   (try rw [Addr.add_zero'] at hx315_3)
   (try rw [show ((0 : Int)).toNat = 0 from rfl] at hx315_4)
   (try rw [show 0 * 5 = 0 from rfl] at hx315_4)
   (try rw [Addr.add_zero'] at hx315_4)
   have HR315_2 := AQ hi315_2
   have HC315_2 := AQ hl315_2
   clear hi315_2 hl315_2
   have HR315_3 := AQ hi315_3
   have HC315_3 := AQ hl315_3
   clear hi315_3 hl315_3
   replace p315 := eq_true p315
   replace q315 := eq_true q315
   have ea_ := Option.some.inj (hx313_2.symm.trans hx315_2)
   injection ea_ with ea_ en_ ec_
   subst ea_
   subst ec_
   clear en_
   have ea_ := Option.some.inj (hx313_3.symm.trans hx315_3)
   injection ea_ with ea_ en_ ec_
   subst ea_
   subst ec_
   clear en_
   go_enter Tryd.func18, Tryd.ntmps18
   go_wp2
   repeat (go_quiet (fail); try go_wp2)
   go_ret
   exact ⟨by first | rfl | (simp; done) | (simp [*]; done), by repeat (first | exact Drawn0.refl _ | apply Drawn0.step)⟩
  ·rw [if_neg c3] at H
   have c3b0 : ((((rd_T74 l0 0).f2).length : Int) == ((rd_T74 l0 0).f0)) = false := beq_eq_false_iff_ne.mpr c3
   have c3b1 : ((((rd_T74 l0 0).f2).length : Int) != ((rd_T74 l0 0).f0)) = true := bne_iff_ne.mpr c3
   obtain rfl := Option.some.inj H
   have p313 : 0 ≤ (0 : Int) := (by omega)
   have q313 : 0 < (l0.length : Int) := of_decide_eq_true (by first | (with_reducible assumption) | assumption)
   obtain ⟨ad313, A313_2, c313_2, A313_3, c313_3, e313, hx313_0, hx313_1, hx313_2, hx313_3, hx313_4, hl313_2, hi313_2, hl313_3, hi313_3⟩ := at_T74 HR0.out 0 p313 q313
   obtain rfl : ad900 = ad313 := (by injection e313)
   have qi313 : (0 < l0.length) = True := eq_true (by omega)
   (try rw [show ((0 : Int)).toNat = 0 from rfl] at hx313_0)
   (try rw [show 0 * 5 = 0 from rfl] at hx313_0)
   (try rw [Addr.add_zero'] at hx313_0)
   (try rw [show ((0 : Int)).toNat = 0 from rfl] at hx313_1)
   (try rw [show 0 * 5 = 0 from rfl] at hx313_1)
   (try rw [Addr.add_zero'] at hx313_1)
   (try rw [show ((0 : Int)).toNat = 0 from rfl] at hx313_2)
   (try rw [show 0 * 5 = 0 from rfl] at hx313_2)
   (try rw [Addr.add_zero'] at hx313_2)
   (try rw [show ((0 : Int)).toNat = 0 from rfl] at hx313_3)
   (try rw [show 0 * 5 = 0 from rfl] at hx313_3)
   (try rw [Addr.add_zero'] at hx313_3)
   (try rw [show ((0 : Int)).toNat = 0 from rfl] at hx313_4)
   (try rw [show 0 * 5 = 0 from rfl] at hx313_4)
   (try rw [Addr.add_zero'] at hx313_4)
   have HR313_2 := AQ hi313_2
   have HC313_2 := AQ hl313_2
   clear hi313_2 hl313_2
   have HR313_3 := AQ hi313_3
   have HC313_3 := AQ hl313_3
   clear hi313_3 hl313_3
   replace p313 := eq_true p313
   replace q313 := eq_true q313
   have p314 : 0 ≤ (0 : Int) := (by omega)
   have q314 : 0 < (l0.length : Int) := of_decide_eq_true (by first | (with_reducible assumption) | assumption)
   obtain ⟨ad314, A314_2, c314_2, A314_3, c314_3, e314, hx314_0, hx314_1, hx314_2, hx314_3, hx314_4, hl314_2, hi314_2, hl314_3, hi314_3⟩ := at_T74 HR0.out 0 p314 q314
   obtain rfl : ad900 = ad314 := (by injection e314)
   have qi314 : (0 < l0.length) = True := eq_true (by omega)
   (try rw [show ((0 : Int)).toNat = 0 from rfl] at hx314_0)
   (try rw [show 0 * 5 = 0 from rfl] at hx314_0)
   (try rw [Addr.add_zero'] at hx314_0)
   (try rw [show ((0 : Int)).toNat = 0 from rfl] at hx314_1)
   (try rw [show 0 * 5 = 0 from rfl] at hx314_1)
   (try rw [Addr.add_zero'] at hx314_1)
   (try rw [show ((0 : Int)).toNat = 0 from rfl] at hx314_2)
   (try rw [show 0 * 5 = 0 from rfl] at hx314_2)
   (try rw [Addr.add_zero'] at hx314_2)
   (try rw [show ((0 : Int)).toNat = 0 from rfl] at hx314_3)
   (try rw [show 0 * 5 = 0 from rfl] at hx314_3)
   (try rw [Addr.add_zero'] at hx314_3)
   (try rw [show ((0 : Int)).toNat = 0 from rfl] at hx314_4)
   (try rw [show 0 * 5 = 0 from rfl] at hx314_4)
   (try rw [Addr.add_zero'] at hx314_4)
   have HR314_2 := AQ hi314_2
   have HC314_2 := AQ hl314_2
   clear hi314_2 hl314_2
   have HR314_3 := AQ hi314_3
   have HC314_3 := AQ hl314_3
   clear hi314_3 hl314_3
   replace p314 := eq_true p314
   replace q314 := eq_true q314
   have ea_ := Option.some.inj (hx313_2.symm.trans hx314_2)
   injection ea_ with ea_ en_ ec_
   subst ea_
   subst ec_
   clear en_
   have ea_ := Option.some.inj (hx313_3.symm.trans hx314_3)
   injection ea_ with ea_ en_ ec_
   subst ea_
   subst ec_
   clear en_
   go_enter Tryd.func18, Tryd.ntmps18
   go_wp2
   repeat (go_quiet (fail); try go_wp2)
   go_ret
   exact ⟨by first | rfl | (simp; done) | (simp [*]; done), by repeat (first | exact Drawn0.refl _ | apply Drawn0.step)⟩
 ·rw [if_neg c2] at H
  exact absurd H (by simp)
end Go.Proofs.YtjmgkknbgffbjaaDoor.P
namespace Go.Proofs.YtjmgkknbgffbjaaDoor.P
open Go.RowKit Go.Proofs.YtjmgkknbgffbjaaDoorW.PrintWords Go.Proofs.YtjmgkknbgffbjaaDoorW.PrintLast Go.Proofs.YtjmgkknbgffbjaaDoorW.PrintErr Go.Proofs.YtjmgkknbgffbjaaDoorW.PrintMore
attribute [local go_sem] max2_int min2_int max_two min_two max_three min_three max_four min_four run_eql_errOf run_neq_errOf eqGuard_errOf run_eql_ptrOf run_neq_ptrOf eqGuard_ptrOf   -- for this text's walks alone
set_option linter.unusedVariables false
set_option linter.unusedSimpArgs false
def elim_System_Whole.f (l0 : List S74) : Option Bool := if l0.length = 0 then some false else elimM_Whole.f l0
theorem elim_System_Whole.calls (A0 : Option Addr) (c0 : Nat) (l0 : List S74) (r : Bool) (w : World) (hr0 : Kd.C k74 w A0 l0.length l0) (hc0 : l0.length ≤ c0) (h : elim_System_Whole.f l0 = some r) :
  Calls Tryd.prog 18 #[ptrOf (.slice A0 l0.length c0)] w fun e w' => e = .returned (.bool r) ∧ Below w.heap.size w w' := by
 unfold elim_System_Whole.f at h
 by_cases hz : l0.length = 0
 ·rw [if_pos hz] at h
  obtain rfl := Option.some.inj h
  rw [hz, ptrOf_zero]
  exact elim_Whole.nil w
 ·rw [if_neg hz] at h
  obtain ⟨_, _, hA⟩ := id hr0
  obtain ⟨ad, rfl, _⟩ := hA (Nat.pos_of_ne_zero hz)
  rw [ptrOf_pos _ _ _ hz]
  refine (elimM_Whole.calls ad l0 r w hr0 h).mono fun e w' hx => ?_
  obtain ⟨m, rfl⟩ := hx.2.out
  exact ⟨hx.1, pw_below_drewN (Below.refl _ _) m⟩
end Go.Proofs.YtjmgkknbgffbjaaDoor.P
