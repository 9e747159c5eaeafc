-- joined by join.py: Px71 PlaysB PlaysC PureW PureEB PureE1 PureEG PureE2 PureE5 PureE3 PureE6 PureE4 PureE7 PureE8 PureE9 PureE10 PureE11
import Derived.RegionTactic
import Derived.BigRegion
import Derived.Deep.RegionHeld3
import Derived.Laws.BitsLemmas
import Derived.Laws.Bits64
import Derived.Laws.Bits64b
import Derived.Lib.TrailingZeros
import Derived.Test.YtjmgkknbgffbjaaDoorMElimPlays4
namespace Go.Proofs.YtjmgkknbgffbjaaDoor.P
open Go.RowKit Go.Proofs.YtjmgkknbgffbjaaDoorW.PrintWords Go.Proofs.YtjmgkknbgffbjaaDoorW.PrintLast Go.Proofs.YtjmgkknbgffbjaaDoorW.PrintErr Go.Proofs.YtjmgkknbgffbjaaDoorW.PrintMore
attribute [local go_sem] max2_int min2_int max_two min_two max_three min_three max_four min_four run_eql_errOf run_neq_errOf eqGuard_errOf run_eql_ptrOf run_neq_ptrOf eqGuard_ptrOf   -- for this text's walks alone
set_option linter.unusedVariables false
set_option linter.unusedSimpArgs false
mutual
def geyserlaw05_told.j0 : Nat → List (S74) → Bool → Int → Int → List (S98) → Bool → Option (Bool)
 | 0, _, _, _, _, _, _ => none
 | k + 1, x0, x42, x752000, x752001, x752002, x752003 => if x42 = true then (some false) else (geyserlaw05_told.l0 k x0 (-1) x752000 x752001 x752002 x752003)
def geyserlaw05_told.l0 : Nat → List (S74) → Int → Int → Int → List (S98) → Bool → Option (Bool)
 | 0, _, _, _, _, _, _ => none
 | k + 1, x0, x5, x752000, x752001, x752002, x752003 => if x5 ≤ x752000 then ((elim_System_Value.f k x0 x5).bind fun bt755 => ((geyserref05_Value.f k x752000 x752001 x752002 x752003 x5).bind fun bt761 => (if (strOfNums bt755.1).toList = (strOfNums bt761.1).toList then ((geyserlaw05_tells.f bt755.2 bt761.2 (⟨#[101, 108, 105, 109, 46, 86, 97, 108, 117, 101]⟩ : ByteArray)).bind fun t765 => (if t765 = true then (geyserlaw05_told.l0 k x0 (wrap64 (x5 + 1)) x752000 x752001 x752002 x752003) else (some false))) else (some false)))) else ((elim_System_All.f k x0).bind fun bt766 => ((geyserref05_All.f k x752000 x752001 x752002 x752003).bind fun bt772 => ((geyserref04_Same.f k bt766.1 bt772.1).bind fun t776 => (if t776 = true then ((geyserlaw05_tells.f bt766.2 bt772.2 (⟨#[101, 108, 105, 109, 46, 65, 108, 108]⟩ : ByteArray)).bind fun t777 => (some t777)) else (some false)))))
end
def geyserlaw05_told.f (k : Nat) (l0 : List (S74)) (a1_0 : Int) (a1_1 : Int) (l1_2 : List (S98)) (a1_3 : Bool) : Option (Bool) := (elim_System_Rank.f l0).bind fun t752 => (if t752 = (l1_2.length : Int) then ((elim_System_Clashed.f l0).bind fun t753 => (if (t753 != a1_3) = true then (geyserlaw05_told.j0 k l0 true a1_0 a1_1 l1_2 a1_3) else ((elim_System_Whole.f l0).bind fun t754 => (if (l1_2.length : Int) = a1_0 then (geyserlaw05_told.j0 k l0 (t754 != (!a1_3)) a1_0 a1_1 l1_2 a1_3) else (geyserlaw05_told.j0 k l0 (t754 != false) a1_0 a1_1 l1_2 a1_3))))) else (geyserlaw05_told.j0 k l0 true a1_0 a1_1 l1_2 a1_3))
def geyserlaw05_told.T1 : Bool × List (List Nat × List Nat) := (true, [([], []), ([0], [0]), ([], []), ([2], [2]), ([3], [3]), ([1, 4], [1, 4]), ([5, 1], [5]), ([6], [6]), ([7, 6, 6], [6, 7]), ([6], [6]), ([9, 6], [6, 9]), ([8, 10, 6], [6, 8, 10]), ([6, 11], [6, 11]), ([12, 8], [12]), ([13], [13]), ([14, 13, 13], [13, 14]), ([13], [13]), ([16, 13], [13, 16]), ([17, 13], [13, 17]), ([13], [13]), ([19, 13], [13, 19]), ([18, 20, 13], [13, 18, 20]), ([21, 15, 13], [13, 21]), ([22], [22]), ([23, 22], [22, 23]), ([24, 22], [22, 24]), ([22, 25, 13], [13, 22, 25]), ([15, 26, 13], [13, 15, 26]), ([13, 27], [13, 27])])
def geyserlaw05_told.B1 : List Nat := [0, 1, 0, 4, 12, 31, 63, 127, 255, 127, 639, 2047, 4095, 8191, 16383, 32767, 16383, 81919, 212991, 16383, 540671, 2047999, 4194303, 8388607, 16777215, 33554431, 67108863, 134217727, 268435455]
theorem geyserlaw05_told.tab1 : rtab .any (opsOf Tryd.f27 1) = geyserlaw05_told.T1 := by kernel_rfl
theorem geyserlaw05_told.bits1 : waitsOk geyserlaw05_told.T1.2 geyserlaw05_told.B1 = true := by kernel_rfl
theorem geyserlaw05_told.dead2_ {p : Prop} {k : Nat} {y0 : List (S74)} {y1 y2 : Int} {y3 : List (S98)} {y4 : Bool} {r : Bool} (H : geyserlaw05_told.j0 k y0 true y1 y2 y3 y4 = some r) (h : r = true) : p := by
 subst h; cases k <;> simp [geyserlaw05_told.j0] at H
theorem geyserlaw05_told.dead_ {p : Prop} {r : Bool} (H : some false = some r) (h : r = true) : p := by
 subst h; cases H
set_option maxHeartbeats 8000000 in
set_option maxRecDepth 100000 in
theorem geyserlaw05_told.calls (k : Nat) (A0 : Option Addr) (c0 : Nat) (l0 : List (S74)) (a1_0 : Int) (a1_1 : Int) (A1_2 : Option Addr) (c1_2 : Nat) (l1_2 : List (S98)) (a1_3 : Bool) (r : Bool) (w : World) (ht : TabIn w) (he : ErrIn w) (hr0 : Kd.C k74 w A0 l0.length l0) (hc0 : l0.length ≤ c0) (hr1_2 : Kd.C k98 w A1_2 l1_2.length l1_2) (hc1_2 : l1_2.length ≤ c1_2) (h : geyserlaw05_told.f k l0 a1_0 a1_1 l1_2 a1_3 = some r) (hrt_ : r = true := by rfl) :
  Calls Tryd.prog 27 #[ptrOf (.slice A0 l0.length c0), .agg #[.int .i64 a1_0, .int .i64 a1_1, .slice A1_2 l1_2.length c1_2, .bool a1_3]] w fun e w' => e = .returned (.bool r) ∧ Below w.heap.size w w' := by
 have hu59 := Tryd.underlying59; have HR0 := AQ hr0; have HC0 := AQ hc0; clear hr0 hc0; have HR1_2 := AQ hr1_2; have HC1_2 := AQ hc1_2; clear hr1_2 hc1_2; have HB := AQ (Below.refl w.heap.size w); have HT := AQ ht; clear ht; have HEI := AQ he; clear he; have H : ((elim_System_Rank.f l0).bind fun t752 => (if t752 = (l1_2.length : Int) then ((elim_System_Clashed.f l0).bind fun t753 => (if (t753 != a1_3) = true then (geyserlaw05_told.j0 k l0 true a1_0 a1_1 l1_2 a1_3) else ((elim_System_Whole.f l0).bind fun t754 => (if (l1_2.length : Int) = a1_0 then (geyserlaw05_told.j0 k l0 (t754 != (!a1_3)) a1_0 a1_1 l1_2 a1_3) else (geyserlaw05_told.j0 k l0 (t754 != false) a1_0 a1_1 l1_2 a1_3))))) else (geyserlaw05_told.j0 k l0 true a1_0 a1_1 l1_2 a1_3))) = some r := h; clear h; have HC3 := AQ H; clear H; go_enter Tryd.func27, Tryd.ntmps27; go_upto_region 1 with (first | ((with_reducible refine gate_dst (N := 3) rfl ?_); (try (refine gate_guard (by rfl) ?_; dsimp only)); refine box_event ?hg (N := 3) ?hd (cs := #[.int .i64 a1_0, .int .i64 a1_1, .slice A1_2 l1_2.length c1_2, .bool a1_3]) (t := 59) ?hr ?_; (case hd => rfl); (case hg => rfl); (case hr => first | (go_simp; done) | (go_simp; rfl)); intro gb751 hg w4 hbox hb; have n0_ := AQ (below_step (PB HB) hb); have n1_ := AQ (hbox); have n2_ := AQ ((by rw [hg]; exact (below_size (PB HB)) : w.heap.size ≤ gb751)); have n3_ := AQ ((by rw [hg]; exact (below_size (PB HB)) : w.heap.size ≤ gb751)); clear HB; have HB := n0_; have BK751 := n1_; have GW751 := n2_; have GE751 := n3_; clear n0_ n1_ n2_ n3_; clear hb hbox hg)); (try simp only [Act.put, List.setIfInBounds_toArray, List.set_cons_zero, List.set_cons_succ]); go_cut [42] (fun v42 wc => ∃ (kq : Nat) (x42_2 : Bool), v42 = .bool x42_2 ∧ Aside0 (geyserlaw05_told.j0 kq l0 x42_2 a1_0 a1_1 l1_2 a1_3 = some r) ∧ Aside0 (kq ≤ k) ∧ Aside0 (wc.heap[gb751]? = some (.cells #[.int .i64 a1_0, .int .i64 a1_1, (.slice A1_2 l1_2.length c1_2), .bool a1_3] 59 (0, 0))) ∧ Aside0 (Below w.heap.size w wc))
 case first =>
  have H := HC3.out; clear HC3; replace H := Option.bind_eq_some_iff.mp H; obtain ⟨t752, A50, H⟩ := H; replace H : (if t752 = (l1_2.length : Int) then ((elim_System_Clashed.f l0).bind fun t753 => (if (t753 != a1_3) = true then (geyserlaw05_told.j0 k l0 true a1_0 a1_1 l1_2 a1_3) else ((elim_System_Whole.f l0).bind fun t754 => (if (l1_2.length : Int) = a1_0 then (geyserlaw05_told.j0 k l0 (t754 != (!a1_3)) a1_0 a1_1 l1_2 a1_3) else (geyserlaw05_told.j0 k l0 (t754 != false) a1_0 a1_1 l1_2 a1_3))))) else (geyserlaw05_told.j0 k l0 true a1_0 a1_1 l1_2 a1_3)) = some r := H; have A5 := AQ A50; clear A50
  by_cases c6 : t752 = (l1_2.length : Int)
  ·rw [if_pos c6] at H; have c6b0 : (t752 == (l1_2.length : Int)) = true := beq_iff_eq.mpr c6; have c6b1 : (t752 != (l1_2.length : Int)) = false := bne_eq_false_iff_eq.mpr c6; clear c6; (first | rw [c6b0] | rw [c6b1] | (simp only [i64_w, i32_w]; rw [c6b0]) | skip); replace H := Option.bind_eq_some_iff.mp H; obtain ⟨t753, A70, H⟩ := H; replace H : (if (t753 != a1_3) = true then (geyserlaw05_told.j0 k l0 true a1_0 a1_1 l1_2 a1_3) else ((elim_System_Whole.f l0).bind fun t754 => (if (l1_2.length : Int) = a1_0 then (geyserlaw05_told.j0 k l0 (t754 != (!a1_3)) a1_0 a1_1 l1_2 a1_3) else (geyserlaw05_told.j0 k l0 (t754 != false) a1_0 a1_1 l1_2 a1_3)))) = some r := H; have A7 := AQ A70; clear A70
   by_cases c8 : (t753 != a1_3) = true
   ·rw [if_pos c8] at H; exact geyserlaw05_told.dead2_ H hrt_
   ·rw [if_neg c8] at H; have c8b0 : (t753 != a1_3) = false := (by simpa using c8); (try (have c8b1 : decide (t753 = a1_3) = true := by simpa using c8)); (try (have c8b2 : (t753 == a1_3) = true := by simpa using c8)); clear c8; replace H := Option.bind_eq_some_iff.mp H; obtain ⟨t754, A120, H⟩ := H; replace H : (if (l1_2.length : Int) = a1_0 then (geyserlaw05_told.j0 k l0 (t754 != (!a1_3)) a1_0 a1_1 l1_2 a1_3) else (geyserlaw05_told.j0 k l0 (t754 != false) a1_0 a1_1 l1_2 a1_3)) = some r := H; have A12 := AQ A120; clear A120
    by_cases c13 : (l1_2.length : Int) = a1_0
    ·rw [if_pos c13] at H; have c13b0 : ((l1_2.length : Int) == a1_0) = true := beq_iff_eq.mpr c13; have c13b1 : ((l1_2.length : Int) != a1_0) = false := bne_eq_false_iff_eq.mpr c13; clear c13; have H' := AQ H; clear H; (try go_wp2); have n0_ := AQ (blk_drew BK751.out); have n1_ := AQ (below_drew1 HB.out); clear BK751; clear HB; have BK751 := n0_; have HB := n1_; clear n0_ n1_; refine start_ (n := 29) (S := fun w' => w'.cell? ⟨gb751, 0, none⟩ = some (.int .i64 a1_0) ∧ w'.cell? ⟨gb751, 1, none⟩ = some (.int .i64 a1_1) ∧ w'.cell? ⟨gb751, 2, none⟩ = some (.slice A1_2 l1_2.length c1_2) ∧ w'.cell? ⟨gb751, 3, none⟩ = some (.bool a1_3)) (ds := []) #[false, false, false, false, false, false, false, false, false, false, false, false, false, false, false, false, false, false, false, false, false, false, false, false, false, false, false, false, false] (by kernel_rfl) rfl rfl ⟨(blk_cell BK751.out 0).trans rfl, (blk_cell BK751.out 1).trans rfl, (blk_cell BK751.out 2).trans rfl, (blk_cell BK751.out 3).trans rfl⟩ (fun hHeld => ?_); refine with_tabW geyserlaw05_told.tab1 geyserlaw05_told.bits1 (fun HT_ HW_ => ?_)
     generalize w4.drew = w14 at BK751 HB hHeld ⊢; refine pW 0 (some 14) (bA 29 1) HT_ ?_; refine pW 2 (some 16) (bA 29 5) HT_ ?_; refine tW 3 (some 17) (bA 29 13) HT_ HW_ hHeld ?_; refine pW 4 (some 18) (bA 29 29) HT_ ?_; refine one_ (i := 1) (N := some 15) (bA 29 31) rfl rfl (one_of HT_.out (by kernel_rfl)) (by decide) (fun K hK => ?_); refine goes_ Tryd.func14 (by kernel_rfl) rfl #[ptrOf (.slice A0 l0.length c0)] (by rfl) rfl rfl (by (try simp only [List.map_toArray, List.map_cons, List.map_nil]); first | done | rfl | (simp only [List.length_drop, List.length_take]; rfl)) ?_
     with_reducible refine (elim_System_Rank.calls _ _ l0 t752 _ ?side1 ?side2 A5.out).mono ?_
     (case side1 => exact QB HR0 HB); (case side2 => exact HC0.out); rintro e w15 ⟨rfl, hb⟩; refine ⟨_, rfl, ?_⟩; have n0_ := AQ (blk_below (g := gb751) (o := .cells #[.int .i64 a1_0, .int .i64 a1_1, .slice A1_2 l1_2.length c1_2, .bool a1_3] 59 (0, 0)) (PK BK751) hb); have n1_ := AQ (below_step (PX HB) hb); clear BK751; clear HB; have BK751 := n0_; have HB := n1_; clear n0_ n1_; (try clear hb); (try clear hb2); (try clear hk); (try clear hi); refine hK.out _ _ ⟨(blk_cell BK751.out 0).trans rfl, (blk_cell BK751.out 1).trans rfl, (blk_cell BK751.out 2).trans rfl, (blk_cell BK751.out 3).trans rfl⟩ (fun hHeld => ?_); clear hK K; refine nW (some 15) ?_; refine pW 5 (some 19) (bA 29 63) HT_ ?_; refine pW 6 (some 20) (bA 29 127) HT_ ?_; refine pW 7 (some 21) (bA 29 255) HT_ ?_; refine pW 9 (some 23) (bA 29 767) HT_ ?_; refine tW 10 (some 24) (bA 29 1791) HT_ HW_ hHeld ?_; refine one_ (i := 8) (N := some 22) (bA 29 2047) rfl rfl (one_of HT_.out (by kernel_rfl)) (by decide) (fun K hK => ?_); refine goes_ Tryd.func20 (by kernel_rfl) rfl #[ptrOf (.slice A0 l0.length c0)] (by rfl) rfl rfl (by (try simp only [List.map_toArray, List.map_cons, List.map_nil]); first | done | rfl | (simp only [List.length_drop, List.length_take]; rfl)) ?_
     with_reducible refine (elim_System_Clashed.calls _ _ l0 t753 _ ?side1 ?side2 A7.out).mono ?_
     (case side1 => exact QB HR0 HB); (case side2 => exact HC0.out); rintro e w16 ⟨rfl, hb⟩; refine ⟨_, rfl, ?_⟩; have n0_ := AQ (blk_below (g := gb751) (o := .cells #[.int .i64 a1_0, .int .i64 a1_1, .slice A1_2 l1_2.length c1_2, .bool a1_3] 59 (0, 0)) (PK BK751) hb); have n1_ := AQ (below_step (PX HB) hb); clear BK751; clear HB; have BK751 := n0_; have HB := n1_; clear n0_ n1_; (try clear hb); (try clear hb2); (try clear hk); (try clear hi); refine hK.out _ _ ⟨(blk_cell BK751.out 0).trans rfl, (blk_cell BK751.out 1).trans rfl, (blk_cell BK751.out 2).trans rfl, (blk_cell BK751.out 3).trans rfl⟩ (fun hHeld => ?_); clear hK K; refine nW (some 22) ?_; refine pW 11 (some 25) (bA 29 4095) HT_ ?_; refine pW 12 (some 26) (bA 29 8191) HT_ ?_; refine pW 13 (some 27) (bA 29 16383) HT_ ?_; refine pW 14 (some 28) (bA 29 32767) HT_ ?_; refine pW 16 (some 30) (bA 29 98303) HT_ ?_; refine pW 19 (some 33) (bA 29 622591) HT_ ?_; refine tW 17 (some 31) (bA 29 753663) HT_ HW_ hHeld ?_; refine pW 18 (some 32) (bA 29 1015807) HT_ ?_; refine tW 20 (some 34) (bA 29 2064383) HT_ HW_ hHeld ?_; refine pW 21 (some 35) (bA 29 4161535) HT_ ?_; refine one_ (i := 15) (N := some 29) (bA 29 4194303) rfl rfl (one_of HT_.out (by kernel_rfl)) (by decide) (fun K hK => ?_); refine goes_ Tryd.func18 (by kernel_rfl) rfl #[ptrOf (.slice A0 l0.length c0)] (by rfl) rfl rfl (by (try simp only [List.map_toArray, List.map_cons, List.map_nil]); first | done | rfl | (simp only [List.length_drop, List.length_take]; rfl)) ?_
     with_reducible refine (elim_System_Whole.calls _ _ l0 t754 _ ?side1 ?side2 A12.out).mono ?_
     (case side1 => exact QB HR0 HB); (case side2 => exact HC0.out); rintro e w17 ⟨rfl, hb⟩; refine ⟨_, rfl, ?_⟩; have n0_ := AQ (blk_below (g := gb751) (o := .cells #[.int .i64 a1_0, .int .i64 a1_1, .slice A1_2 l1_2.length c1_2, .bool a1_3] 59 (0, 0)) (PK BK751) hb); have n1_ := AQ (below_step (PX HB) hb); clear BK751; clear HB; have BK751 := n0_; have HB := n1_; clear n0_ n1_; (try clear hb); (try clear hb2); (try clear hk); (try clear hi); refine hK.out _ _ ⟨(blk_cell BK751.out 0).trans rfl, (blk_cell BK751.out 1).trans rfl, (blk_cell BK751.out 2).trans rfl, (blk_cell BK751.out 3).trans rfl⟩ (fun hHeld => ?_); clear hK K; refine nW (some 29) ?_; refine pW 22 (some 36) (bA 29 8388607) HT_ ?_; refine pW 23 (some 37) (bA 29 16777215) HT_ ?_; refine tW 24 (some 38) (bA 29 33554431) HT_ HW_ hHeld ?_; refine pW 25 (some 39) (bA 29 67108863) HT_ ?_; refine pW 26 (some 40) (bA 29 134217727) HT_ ?_; refine pW 27 (some 41) (bA 29 268435455) HT_ ?_; refine pW 28 (some 42) (bA 29 536870911) HT_ ?_; refine done_ (done_of HT_.out (by kernel_rfl)) ?_; (try go_wp2); go_meet
     case rel => exact ⟨_, ((t754 != (!a1_3))), (by first | rfl | (simp; done) | (simp [*]; done)), H', ⟨by first | omega | exact Nat.le_refl _⟩, ⟨PK BK751⟩, ⟨PX HB⟩⟩
    ·rw [if_neg c13] at H; have c13b0 : ((l1_2.length : Int) == a1_0) = false := beq_eq_false_iff_ne.mpr c13; have c13b1 : ((l1_2.length : Int) != a1_0) = true := bne_iff_ne.mpr c13; have H' := AQ H; clear H; (try go_wp2); have n0_ := AQ (blk_drew BK751.out); have n1_ := AQ (below_drew1 HB.out); clear BK751; clear HB; have BK751 := n0_; have HB := n1_; clear n0_ n1_; refine start_ (n := 29) (S := fun w' => w'.cell? ⟨gb751, 0, none⟩ = some (.int .i64 a1_0) ∧ w'.cell? ⟨gb751, 1, none⟩ = some (.int .i64 a1_1) ∧ w'.cell? ⟨gb751, 2, none⟩ = some (.slice A1_2 l1_2.length c1_2) ∧ w'.cell? ⟨gb751, 3, none⟩ = some (.bool a1_3)) (ds := []) #[false, false, false, false, false, false, false, false, false, false, false, false, false, false, false, false, false, false, false, false, false, false, false, false, false, false, false, false, false] (by kernel_rfl) rfl rfl ⟨(blk_cell BK751.out 0).trans rfl, (blk_cell BK751.out 1).trans rfl, (blk_cell BK751.out 2).trans rfl, (blk_cell BK751.out 3).trans rfl⟩ (fun hHeld => ?_); refine with_tabW geyserlaw05_told.tab1 geyserlaw05_told.bits1 (fun HT_ HW_ => ?_)
     generalize w4.drew = w18 at BK751 HB hHeld ⊢; refine pW 0 (some 14) (bA 29 1) HT_ ?_; refine pW 2 (some 16) (bA 29 5) HT_ ?_; refine tW 3 (some 17) (bA 29 13) HT_ HW_ hHeld ?_; refine pW 4 (some 18) (bA 29 29) HT_ ?_; refine one_ (i := 1) (N := some 15) (bA 29 31) rfl rfl (one_of HT_.out (by kernel_rfl)) (by decide) (fun K hK => ?_); refine goes_ Tryd.func14 (by kernel_rfl) rfl #[ptrOf (.slice A0 l0.length c0)] (by rfl) rfl rfl (by (try simp only [List.map_toArray, List.map_cons, List.map_nil]); first | done | rfl | (simp only [List.length_drop, List.length_take]; rfl)) ?_
     with_reducible refine (elim_System_Rank.calls _ _ l0 t752 _ ?side1 ?side2 A5.out).mono ?_
     (case side1 => exact QB HR0 HB); (case side2 => exact HC0.out); rintro e w19 ⟨rfl, hb⟩; refine ⟨_, rfl, ?_⟩; have n0_ := AQ (blk_below (g := gb751) (o := .cells #[.int .i64 a1_0, .int .i64 a1_1, .slice A1_2 l1_2.length c1_2, .bool a1_3] 59 (0, 0)) (PK BK751) hb); have n1_ := AQ (below_step (PX HB) hb); clear BK751; clear HB; have BK751 := n0_; have HB := n1_; clear n0_ n1_; (try clear hb); (try clear hb2); (try clear hk); (try clear hi); refine hK.out _ _ ⟨(blk_cell BK751.out 0).trans rfl, (blk_cell BK751.out 1).trans rfl, (blk_cell BK751.out 2).trans rfl, (blk_cell BK751.out 3).trans rfl⟩ (fun hHeld => ?_); clear hK K; refine nW (some 15) ?_; refine pW 5 (some 19) (bA 29 63) HT_ ?_; refine pW 6 (some 20) (bA 29 127) HT_ ?_; refine pW 7 (some 21) (bA 29 255) HT_ ?_; refine pW 9 (some 23) (bA 29 767) HT_ ?_; refine tW 10 (some 24) (bA 29 1791) HT_ HW_ hHeld ?_; refine one_ (i := 8) (N := some 22) (bA 29 2047) rfl rfl (one_of HT_.out (by kernel_rfl)) (by decide) (fun K hK => ?_); refine goes_ Tryd.func20 (by kernel_rfl) rfl #[ptrOf (.slice A0 l0.length c0)] (by rfl) rfl rfl (by (try simp only [List.map_toArray, List.map_cons, List.map_nil]); first | done | rfl | (simp only [List.length_drop, List.length_take]; rfl)) ?_
     with_reducible refine (elim_System_Clashed.calls _ _ l0 t753 _ ?side1 ?side2 A7.out).mono ?_
     (case side1 => exact QB HR0 HB); (case side2 => exact HC0.out); rintro e w20 ⟨rfl, hb⟩; refine ⟨_, rfl, ?_⟩; have n0_ := AQ (blk_below (g := gb751) (o := .cells #[.int .i64 a1_0, .int .i64 a1_1, .slice A1_2 l1_2.length c1_2, .bool a1_3] 59 (0, 0)) (PK BK751) hb); have n1_ := AQ (below_step (PX HB) hb); clear BK751; clear HB; have BK751 := n0_; have HB := n1_; clear n0_ n1_; (try clear hb); (try clear hb2); (try clear hk); (try clear hi); refine hK.out _ _ ⟨(blk_cell BK751.out 0).trans rfl, (blk_cell BK751.out 1).trans rfl, (blk_cell BK751.out 2).trans rfl, (blk_cell BK751.out 3).trans rfl⟩ (fun hHeld => ?_); clear hK K; refine nW (some 22) ?_; refine pW 11 (some 25) (bA 29 4095) HT_ ?_; refine pW 12 (some 26) (bA 29 8191) HT_ ?_; refine pW 13 (some 27) (bA 29 16383) HT_ ?_; refine pW 14 (some 28) (bA 29 32767) HT_ ?_; refine pW 16 (some 30) (bA 29 98303) HT_ ?_; refine pW 19 (some 33) (bA 29 622591) HT_ ?_; refine tW 17 (some 31) (bA 29 753663) HT_ HW_ hHeld ?_; refine pW 18 (some 32) (bA 29 1015807) HT_ ?_; refine tW 20 (some 34) (bA 29 2064383) HT_ HW_ hHeld ?_; refine pW 21 (some 35) (bA 29 4161535) HT_ ?_; refine one_ (i := 15) (N := some 29) (bA 29 4194303) rfl rfl (one_of HT_.out (by kernel_rfl)) (by decide) (fun K hK => ?_); refine goes_ Tryd.func18 (by kernel_rfl) rfl #[ptrOf (.slice A0 l0.length c0)] (by rfl) rfl rfl (by (try simp only [List.map_toArray, List.map_cons, List.map_nil]); first | done | rfl | (simp only [List.length_drop, List.length_take]; rfl)) ?_
     with_reducible refine (elim_System_Whole.calls _ _ l0 t754 _ ?side1 ?side2 A12.out).mono ?_
     (case side1 => exact QB HR0 HB); (case side2 => exact HC0.out); rintro e w21 ⟨rfl, hb⟩; refine ⟨_, rfl, ?_⟩; have n0_ := AQ (blk_below (g := gb751) (o := .cells #[.int .i64 a1_0, .int .i64 a1_1, .slice A1_2 l1_2.length c1_2, .bool a1_3] 59 (0, 0)) (PK BK751) hb); have n1_ := AQ (below_step (PX HB) hb); clear BK751; clear HB; have BK751 := n0_; have HB := n1_; clear n0_ n1_; (try clear hb); (try clear hb2); (try clear hk); (try clear hi); refine hK.out _ _ ⟨(blk_cell BK751.out 0).trans rfl, (blk_cell BK751.out 1).trans rfl, (blk_cell BK751.out 2).trans rfl, (blk_cell BK751.out 3).trans rfl⟩ (fun hHeld => ?_); clear hK K; refine nW (some 29) ?_; refine pW 22 (some 36) (bA 29 8388607) HT_ ?_; refine pU 23 (some 37) (bA 29 16777215) HT_ ?_; refine pU 24 (some 38) (bA 29 33554431) HT_ ?_; refine pU 25 (some 39) (bA 29 67108863) HT_ ?_; refine pW 26 (some 40) (bA 29 134217727) HT_ ?_; refine pW 27 (some 41) (bA 29 268435455) HT_ ?_; refine pW 28 (some 42) (bA 29 536870911) HT_ ?_; refine done_ (done_of HT_.out (by kernel_rfl)) ?_; (try go_wp2); go_meet
     case rel => exact ⟨_, ((t754 != false)), (by first | rfl | (simp; done) | (simp [*]; done)), H', ⟨by first | omega | exact Nat.le_refl _⟩, ⟨PK BK751⟩, ⟨PX HB⟩⟩
  ·rw [if_neg c6] at H; exact geyserlaw05_told.dead2_ H hrt_
 case rest =>
  clear HC3; (try clear c1); (try clear c2); (try clear p2); (try clear c6); (try clear c6b0); (try clear c6b1); (try clear c13); (try clear c13b0); (try clear c13b1); (try clear c14); (try clear c18); (try clear c20); obtain ⟨kq, x42_2, rfl, HA, HJ2, BK751, HB⟩ := hcut; cases kq with
  | zero => exact absurd HA.out (by simp [geyserlaw05_told.j0])
  | succ kj2 =>
   have H := HA.out; clear HA; simp only [geyserlaw05_told.j0] at H
   by_cases c24 : x42_2 = true
   ·subst c24; have H1 : (some false) = some r := (by rw [if_pos rfl] at H; exact H); clear H; have H := H1; clear H1; exact geyserlaw05_told.dead_ H hrt_
   ·replace c24 := Bool.eq_false_iff.mpr c24; subst c24; have H1 : (geyserlaw05_told.l0 kj2 l0 (-1) a1_0 a1_1 l1_2 a1_3) = some r := (by rw [if_neg (show ¬ (false = true) by decide)] at H; exact H); clear H; have H := H1; clear H1; have H' := AQ H; clear H; go_wp2; go_loopg [5] kj2 (fun kq v5 w' => ∃ (x5_2 : Int), v5 = .int .i64 x5_2 ∧ Aside0 (geyserlaw05_told.l0 kq l0 x5_2 a1_0 a1_1 l1_2 a1_3 = some r) ∧ Aside0 (kq ≤ kj2) ∧ Aside0 (w'.heap[gb751]? = some (.cells #[.int .i64 a1_0, .int .i64 a1_1, (.slice A1_2 l1_2.length c1_2), .bool a1_3] 59 (0, 0))) ∧ Aside0 (Below w.heap.size w w'))
    case atStart => exact ⟨((-1)), (by first | rfl | (simp; done) | (simp [*]; done)), H', ⟨Nat.le_refl _⟩, ⟨PK BK751⟩, ⟨PX HB⟩⟩
    case round =>
     clear H'; (try clear c1); (try clear c2); (try clear p2); (try clear c6); (try clear c6b0); (try clear c6b1); (try clear c13); (try clear c13b0); (try clear c13b1); (try clear c14); (try clear c18); (try clear c20); (try clear c24); (try clear p2); obtain ⟨x5_2, rfl, HA, HK2, BK751, HB⟩ := hrel; cases gk with
     | zero => exact absurd HA.out (by simp [geyserlaw05_told.l0])
     | succ k2 =>
      have H := HA.out; clear HA; simp only [geyserlaw05_told.l0] at H
      by_cases c25 : x5_2 ≤ a1_0
      ·rw [if_pos c25] at H; have c25b0 : decide (x5_2 ≤ a1_0) = true := decide_eq_true c25; clear c25; replace H := Option.bind_eq_some_iff.mp H; obtain ⟨⟨t755, t756⟩, A260, H⟩ := H; replace H : ((geyserref05_Value.f k2 a1_0 a1_1 l1_2 a1_3 x5_2).bind fun bt761 => (if (strOfNums t755).toList = (strOfNums bt761.1).toList then ((geyserlaw05_tells.f t756 bt761.2 (⟨#[101, 108, 105, 109, 46, 86, 97, 108, 117, 101]⟩ : ByteArray)).bind fun t765 => (if t765 = true then (geyserlaw05_told.l0 k2 l0 (wrap64 (x5_2 + 1)) a1_0 a1_1 l1_2 a1_3) else (some false))) else (some false))) = some r := H; have A26 := AQ A260; clear A260; replace H := Option.bind_eq_some_iff.mp H; obtain ⟨⟨t761, t764⟩, A270, H⟩ := H; replace H : (if (strOfNums t755).toList = (strOfNums t761).toList then ((geyserlaw05_tells.f t756 t764 (⟨#[101, 108, 105, 109, 46, 86, 97, 108, 117, 101]⟩ : ByteArray)).bind fun t765 => (if t765 = true then (geyserlaw05_told.l0 k2 l0 (wrap64 (x5_2 + 1)) a1_0 a1_1 l1_2 a1_3) else (some false))) else (some false)) = some r := H; have A27 := AQ A270; clear A270
       by_cases c28 : (strOfNums t755).toList = (strOfNums t761).toList
       ·rw [if_pos c28] at H; have c28b0 : ((strOfNums t755).toList == (strOfNums t761).toList) = true := beq_iff_eq.mpr c28; have c28b1 : ((strOfNums t755).toList != (strOfNums t761).toList) = false := bne_eq_false_iff_eq.mpr c28; clear c28; replace H := Option.bind_eq_some_iff.mp H; obtain ⟨t765, A290, H⟩ := H; replace H : (if t765 = true then (geyserlaw05_told.l0 k2 l0 (wrap64 (x5_2 + 1)) a1_0 a1_1 l1_2 a1_3) else (some false)) = some r := H; have A29 := AQ A290; clear A290
        by_cases c30 : t765 = true
        ·subst c30; have H1 : (geyserlaw05_told.l0 k2 l0 (wrap64 (x5_2 + 1)) a1_0 a1_1 l1_2 a1_3) = some r := (by rw [if_pos rfl] at H; exact H); clear H; have H := H1; clear H1; have H' := AQ H; clear H; have hcz31_0 : wr.cell? ⟨gb751, 0, none⟩ = some (.int .i64 a1_0) := (blk_cell BK751.out 0).trans rfl; have hcz31_1 : wr.cell? ⟨gb751, 1, none⟩ = some (.int .i64 a1_1) := (blk_cell BK751.out 1).trans rfl; have hcz31_2 : wr.cell? ⟨gb751, 2, none⟩ = some (.slice A1_2 l1_2.length c1_2) := (blk_cell BK751.out 2).trans rfl; have hcz31_3 : wr.cell? ⟨gb751, 3, none⟩ = some (.bool a1_3) := (blk_cell BK751.out 3).trans rfl; have hfz31_0 := blk_frozen BK751.out 0; have hfz31_1 := blk_frozen BK751.out 1; have hfz31_2 := blk_frozen BK751.out 2; have hfz31_3 := blk_frozen BK751.out 3; go_wp2_with (first | ((with_reducible refine gate_callee (f := 13) rfl ?_); refine gL (some 52) rfl rfl Tryd.func13 #[ptrOf (.slice A0 l0.length c0), .int .i64 x5_2] rfl ?_; (with_reducible refine (elim_System_Value.calls k2 _ _ l0 x5_2 t755 t756 _ ?side1 ?side2 ?side3 A26.out).mono ?_); (case side1 => first | exact HT.out | exact TabIn.below HT.out (PX HB) | (repeat (first | apply TabIn.drewN | apply TabIn.drew | exact HT.out))); (case side2 => exact QB HR0 HB); (case side3 => exact HC0.out); rintro e w32 ⟨v757, v759, rfl, ho0, ho1, hb⟩; refine ⟨_, rfl, ?_⟩; have n0_ := AQ (Kd.R_lower ho0 (below_size (PX HB))); have n1_ := AQ (Kd.R_lower ho1 (below_size (PX HB))); have n2_ := AQ (blk_below (g := gb751) (o := .cells #[.int .i64 a1_0, .int .i64 a1_1, .slice A1_2 l1_2.length c1_2, .bool a1_3] 59 (0, 0)) (PK BK751) hb); have n3_ := AQ (below_step (PX HB) hb); clear BK751; clear HB; have HO758 := n0_; have HO760 := n1_; have BK751 := n2_; have HB := n3_; clear n0_ n1_ n2_ n3_; (try clear hb); (try clear hb2); (try clear hk); (try clear hi); (try clear ho0); (try clear ho1); have hcz33_0 : w32.cell? ⟨gb751, 0, none⟩ = some (.int .i64 a1_0) := (blk_cell BK751.out 0).trans rfl; have hcz33_1 : w32.cell? ⟨gb751, 1, none⟩ = some (.int .i64 a1_1) := (blk_cell BK751.out 1).trans rfl; have hcz33_2 : w32.cell? ⟨gb751, 2, none⟩ = some (.slice A1_2 l1_2.length c1_2) := (blk_cell BK751.out 2).trans rfl; have hcz33_3 : w32.cell? ⟨gb751, 3, none⟩ = some (.bool a1_3) := (blk_cell BK751.out 3).trans rfl; have hfz33_0 := blk_frozen BK751.out 0; have hfz33_1 := blk_frozen BK751.out 1; have hfz33_2 := blk_frozen BK751.out 2; have hfz33_3 := blk_frozen BK751.out 3) | ((with_reducible refine gate_callee (f := 44) rfl ?_); refine gL (some 58) rfl rfl Tryd.func44 #[.agg #[.int .i64 a1_0, .int .i64 a1_1, .slice A1_2 l1_2.length c1_2, .bool a1_3], .int .i64 x5_2] rfl ?_; (with_reducible refine (geyserref05_Value.calls k2 a1_0 a1_1 _ _ l1_2 a1_3 x5_2 t761 t764 _ ?side1 ?side2 A27.out).mono ?_); (case side1 => exact QB HR1_2 HB); (case side2 => exact HC1_2.out); rintro e w34 ⟨v762, rfl, ho0, hb⟩; refine ⟨_, rfl, ?_⟩; have n0_ := AQ (Kd.R_elder' (PR HO758) (Kd.R_base ho0) hb); have n1_ := AQ (Kd.R_below (PR HO760) hb); have n2_ := AQ (Kd.R_lower (Kd.R_new' ho0 (Kd.R_lt (PR HO758))) (below_size (PX HB))); have n3_ := AQ (blk_below (g := gb751) (o := .cells #[.int .i64 a1_0, .int .i64 a1_1, .slice A1_2 l1_2.length c1_2, .bool a1_3] 59 (0, 0)) (PK BK751) hb); have n4_ := AQ (below_step (PX HB) hb); clear HO758; clear HO760; clear BK751; clear HB; have HO758 := n0_; have HO760 := n1_; have HO763 := n2_; have BK751 := n3_; have HB := n4_; clear n0_ n1_ n2_ n3_ n4_; (try clear hb); (try clear hb2); (try clear hk); (try clear hi); (try clear ho0); have hcv35 := own_string (P := Tryd.prog) Tryd.underlying36 Tryd.underlying5 Tryd.underlying9 (Kd.own_of_R HO758.out); have hcv36 := own_string (P := Tryd.prog) Tryd.underlying36 Tryd.underlying5 Tryd.underlying9 (Kd.own_of_R HO763.out); obtain ⟨Ao37, co37, eo37⟩ := Kd.R_slice HO760.out; subst eo37) | (go_at_call 21; (with_reducible refine (geyserlaw05_tells.calls _ _ t756 t764 (⟨#[101, 108, 105, 109, 46, 86, 97, 108, 117, 101]⟩ : ByteArray) true _ ?side1 ?side2 ?side3 A29.out).mono ?_); (case side1 => first | exact HEI.out | exact ErrIn.below HEI.out (PX HB) | (repeat (first | apply ErrIn.drewN | apply ErrIn.drew | exact HEI.out))); (case side2 => exact QC HO760); (case side3 => exact (Kd.R_reads' HO760.out).2.1); rintro e w38 ⟨rfl, hb⟩; have n0_ := AQ (Kd.R_below (PR HO758) hb); have n1_ := AQ (Kd.R_below (PR HO760) hb); have n2_ := AQ (Kd.R_below (PR HO763) hb); have n3_ := AQ (blk_below (g := gb751) (o := .cells #[.int .i64 a1_0, .int .i64 a1_1, .slice A1_2 l1_2.length c1_2, .bool a1_3] 59 (0, 0)) (PK BK751) hb); have n4_ := AQ (below_step (PX HB) hb); clear HO758; clear HO760; clear HO763; clear BK751; clear HB; have HO758 := n0_; have HO760 := n1_; have HO763 := n2_; have BK751 := n3_; have HB := n4_; clear n0_ n1_ n2_ n3_ n4_; (try clear hb); (try clear hb2); (try clear hk); (try clear hi))); go_roundg k2
         case measure => have := HJ2.out; have := HK2.out; omega
         case rel => exact ⟨(wrap64 (x5_2 + 1)), (by first | rfl | (simp; done) | (simp [*]; done)), H', ⟨by have := HJ2.out; have := HK2.out; omega⟩, ⟨PK BK751⟩, ⟨PX HB⟩⟩
        ·replace c30 := Bool.eq_false_iff.mpr c30; subst c30; have H1 : (some false) = some r := (by rw [if_neg (show ¬ (false = true) by decide)] at H; exact H); clear H; have H := H1; clear H1; exact geyserlaw05_told.dead_ H hrt_
       ·rw [if_neg c28] at H; have c28b0 : ((strOfNums t755).toList == (strOfNums t761).toList) = false := beq_eq_false_iff_ne.mpr c28; have c28b1 : ((strOfNums t755).toList != (strOfNums t761).toList) = true := bne_iff_ne.mpr c28; exact geyserlaw05_told.dead_ H hrt_
      ·rw [if_neg c25] at H; have c25b0 : decide (x5_2 ≤ a1_0) = false := decide_eq_false c25; clear c25; replace H := Option.bind_eq_some_iff.mp H; obtain ⟨⟨t766, t767⟩, A530, H⟩ := H; replace H : ((geyserref05_All.f k2 a1_0 a1_1 l1_2 a1_3).bind fun bt772 => ((geyserref04_Same.f k2 t766 bt772.1).bind fun t776 => (if t776 = true then ((geyserlaw05_tells.f t767 bt772.2 (⟨#[101, 108, 105, 109, 46, 65, 108, 108]⟩ : ByteArray)).bind fun t777 => (some t777)) else (some false)))) = some r := H; have A53 := AQ A530; clear A530; replace H := Option.bind_eq_some_iff.mp H; obtain ⟨⟨t772, t775⟩, A540, H⟩ := H; replace H : ((geyserref04_Same.f k2 t766 t772).bind fun t776 => (if t776 = true then ((geyserlaw05_tells.f t767 t775 (⟨#[101, 108, 105, 109, 46, 65, 108, 108]⟩ : ByteArray)).bind fun t777 => (some t777)) else (some false))) = some r := H; have A54 := AQ A540; clear A540; replace H := Option.bind_eq_some_iff.mp H; obtain ⟨t776, A550, H⟩ := H; replace H : (if t776 = true then ((geyserlaw05_tells.f t767 t775 (⟨#[101, 108, 105, 109, 46, 65, 108, 108]⟩ : ByteArray)).bind fun t777 => (some t777)) else (some false)) = some r := H; have A55 := AQ A550; clear A550
       by_cases c56 : t776 = true
       ·subst c56; have H1 : ((geyserlaw05_tells.f t767 t775 (⟨#[101, 108, 105, 109, 46, 65, 108, 108]⟩ : ByteArray)).bind fun t777 => (some t777)) = some r := (by rw [if_pos rfl] at H; exact H); clear H; have H := H1; clear H1; replace H := Option.bind_eq_some_iff.mp H; obtain ⟨t777, A570, H⟩ := H; replace H : (some t777) = some r := H; have A57 := AQ A570; clear A570; obtain rfl := Option.some.inj H; have hcz58_0 : wr.cell? ⟨gb751, 0, none⟩ = some (.int .i64 a1_0) := (blk_cell BK751.out 0).trans rfl; have hcz58_1 : wr.cell? ⟨gb751, 1, none⟩ = some (.int .i64 a1_1) := (blk_cell BK751.out 1).trans rfl; have hcz58_2 : wr.cell? ⟨gb751, 2, none⟩ = some (.slice A1_2 l1_2.length c1_2) := (blk_cell BK751.out 2).trans rfl; have hcz58_3 : wr.cell? ⟨gb751, 3, none⟩ = some (.bool a1_3) := (blk_cell BK751.out 3).trans rfl; have hfz58_0 := blk_frozen BK751.out 0; have hfz58_1 := blk_frozen BK751.out 1; have hfz58_2 := blk_frozen BK751.out 2; have hfz58_3 := blk_frozen BK751.out 3; go_wp2_with (first | ((with_reducible refine gate_callee (f := 17) rfl ?_); refine gL (some 74) rfl rfl Tryd.func17 #[ptrOf (.slice A0 l0.length c0)] rfl ?_; (with_reducible refine (elim_System_All.calls k2 _ _ l0 t766 t767 _ ?side1 ?side2 ?side3 A53.out).mono ?_); (case side1 => first | exact HT.out | exact TabIn.below HT.out (PX HB) | (repeat (first | apply TabIn.drewN | apply TabIn.drew | exact HT.out))); (case side2 => exact QB HR0 HB); (case side3 => exact HC0.out); rintro e w59 ⟨v768, v770, rfl, ho0, ho1, hb⟩; refine ⟨_, rfl, ?_⟩; have n0_ := AQ (Kd.S_lower ho0 (below_size (PX HB))); have n1_ := AQ (Kd.R_lower ho1 (below_size (PX HB))); have n2_ := AQ (blk_below (g := gb751) (o := .cells #[.int .i64 a1_0, .int .i64 a1_1, .slice A1_2 l1_2.length c1_2, .bool a1_3] 59 (0, 0)) (PK BK751) hb); have n3_ := AQ (below_step (PX HB) hb); clear BK751; clear HB; have HO769 := n0_; have HO771 := n1_; have BK751 := n2_; have HB := n3_; clear n0_ n1_ n2_ n3_; (try clear hb); (try clear hb2); (try clear hk); (try clear hi); (try clear ho0); (try clear ho1); have hcz60_0 : w59.cell? ⟨gb751, 0, none⟩ = some (.int .i64 a1_0) := (blk_cell BK751.out 0).trans rfl; have hcz60_1 : w59.cell? ⟨gb751, 1, none⟩ = some (.int .i64 a1_1) := (blk_cell BK751.out 1).trans rfl; have hcz60_2 : w59.cell? ⟨gb751, 2, none⟩ = some (.slice A1_2 l1_2.length c1_2) := (blk_cell BK751.out 2).trans rfl; have hcz60_3 : w59.cell? ⟨gb751, 3, none⟩ = some (.bool a1_3) := (blk_cell BK751.out 3).trans rfl; have hfz60_0 := blk_frozen BK751.out 0; have hfz60_1 := blk_frozen BK751.out 1; have hfz60_2 := blk_frozen BK751.out 2; have hfz60_3 := blk_frozen BK751.out 3) | ((with_reducible refine gate_callee (f := 45) rfl ?_); refine gL (some 79) rfl rfl Tryd.func45 #[.agg #[.int .i64 a1_0, .int .i64 a1_1, .slice A1_2 l1_2.length c1_2, .bool a1_3]] rfl ?_; (with_reducible refine (geyserref05_All.calls k2 a1_0 a1_1 _ _ l1_2 a1_3 t772 t775 _ ?side1 ?side2 A54.out).mono ?_); (case side1 => exact QB HR1_2 HB); (case side2 => exact HC1_2.out); rintro e w61 ⟨v773, rfl, ho0, hb⟩; refine ⟨_, rfl, ?_⟩; have n0_ := AQ (Kd.S_elder' (PS HO769) (Kd.S_base ho0) hb); have n1_ := AQ (Kd.R_below (PR HO771) hb); have n2_ := AQ (Kd.S_lower (Kd.S_new' ho0 (Kd.S_lt (PS HO769))) (below_size (PX HB))); have n3_ := AQ (blk_below (g := gb751) (o := .cells #[.int .i64 a1_0, .int .i64 a1_1, .slice A1_2 l1_2.length c1_2, .bool a1_3] 59 (0, 0)) (PK BK751) hb); have n4_ := AQ (below_step (PX HB) hb); clear HO769; clear HO771; clear BK751; clear HB; have HO769 := n0_; have HO771 := n1_; have HO774 := n2_; have BK751 := n3_; have HB := n4_; clear n0_ n1_ n2_ n3_ n4_; (try clear hb); (try clear hb2); (try clear hk); (try clear hi); (try clear ho0); obtain ⟨Ao62, co62, eo62⟩ := Kd.S_slice HO769.out; subst eo62; obtain ⟨Ao63, co63, eo63⟩ := Kd.S_slice HO774.out; subst eo63) | ((with_reducible refine gate_callee (f := 19) rfl ?_); refine gL (some 84) rfl rfl Tryd.func19 #[.slice Ao62 t766.length co62, .slice Ao63 t772.length co63] rfl ?_; (with_reducible refine (geyserref04_Same.calls k2 _ _ t766 _ _ t772 true _ ?side1 ?side2 ?side3 ?side4 A55.out).mono ?_); (case side1 => repeat (first | exact (Kd.S_reads' HO769.out).2.2 | (with_reducible refine Kd.C_alloc ?_ _) | (with_reducible refine Kd.C_drewN ?_ _) | (with_reducible refine Kd.C_drew ?_))); (case side2 => exact (Kd.S_reads' HO769.out).2.1); (case side3 => repeat (first | exact (Kd.S_reads' HO774.out).2.2 | (with_reducible refine Kd.C_alloc ?_ _) | (with_reducible refine Kd.C_drewN ?_ _) | (with_reducible refine Kd.C_drew ?_))); (case side4 => exact (Kd.S_reads' HO774.out).2.1); rintro e w' ⟨rfl, ⟨nd, rfl⟩⟩; refine ⟨_, rfl, ?_⟩; obtain ⟨Ao64, co64, eo64⟩ := Kd.R_slice HO771.out; subst eo64) | (go_at_call 21; (with_reducible refine (geyserlaw05_tells.calls _ _ t767 t775 (⟨#[101, 108, 105, 109, 46, 65, 108, 108]⟩ : ByteArray) t777 _ ?side1 ?side2 ?side3 A57.out).mono ?_); (case side1 => first | exact HEI.out | exact ErrIn.below HEI.out (PX HB) | (repeat (first | apply ErrIn.drewN | apply ErrIn.drew | exact HEI.out))); (case side2 => exact QC HO771); (case side3 => exact (Kd.R_reads' HO771.out).2.1); rintro e w65 ⟨rfl, hb⟩; have n0_ := AQ (Kd.S_below (PS HO769) hb); have n1_ := AQ (Kd.R_below (PR HO771) hb); have n2_ := AQ (Kd.S_below (PS HO774) hb); have n3_ := AQ (blk_below (g := gb751) (o := .cells #[.int .i64 a1_0, .int .i64 a1_1, .slice A1_2 l1_2.length c1_2, .bool a1_3] 59 (0, 0)) (PK BK751) hb); have n4_ := AQ (below_step (PX HB) hb); clear HO769; clear HO771; clear HO774; clear BK751; clear HB; have HO769 := n0_; have HO771 := n1_; have HO774 := n2_; have BK751 := n3_; have HB := n4_; clear n0_ n1_ n2_ n3_ n4_; (try clear hb); (try clear hb2); (try clear hk); (try clear hi))); go_ret; exact ⟨by first | rfl | (simp [errW_none, errW_some] <;> rfl) | (simp [*, errW_none, errW_some] <;> rfl), PX HB⟩
       ·replace c56 := Bool.eq_false_iff.mpr c56; subst c56; have H1 : (some false) = some r := (by rw [if_neg (show ¬ (false = true) by decide)] at H; exact H); clear H; have H := H1; clear H1; exact geyserlaw05_told.dead_ H hrt_
end Go.Proofs.YtjmgkknbgffbjaaDoor.P
namespace Go.Proofs.YtjmgkknbgffbjaaDoor.P
open Go.RowKit Go.Proofs.YtjmgkknbgffbjaaDoorW.PrintWords Go.Proofs.YtjmgkknbgffbjaaDoorW.PrintLast Go.Proofs.YtjmgkknbgffbjaaDoorW.PrintErr Go.Proofs.YtjmgkknbgffbjaaDoorW.PrintMore
set_option linter.unusedVariables false
structure PlayStep (k : Nat) (n b : Int) (e : S98) (x : S74) (L : List S98) (cl : Bool) (x' : S74) (L' : List S98) (cl' : Bool) (kind bad : Int) (er : List FE) (p : List Int) (kc : Int) (ec : List FE) (xc : S74) : Prop where
 fit : elimM_fit x = true
 l0 : e.f0.length < 17592186044416
 l1 : e.f1.length < 140737488355328
 ref : geyserref05_Add.f k n b L cl e.f0 e.f1 = some (n, b, L', cl', kind, bad)
 add : elimM_Add.g k x e.f0 e.f1 = some (kind, er, [x'])
 tells : geyserlaw05_tells.f er bad (⟨#[101, 108, 105, 109, 46, 65, 100, 100]⟩ : ByteArray) = some true
 rank : x.f2.length = L.length
 pack : geyserref02_Pack.f k [0] n = some p
 b0 : 0 ≤ b
 b1 : b ≤ 64
 addc : elimM_Add.g k x p (List.replicate b.toNat 0) = some (kc, ec, [xc])
 told : geyserlaw05_told.f k [x'] n b L' cl' = some true
def PlayRun (k : Nat) (n b : Int) : List S98 → S74 → List S98 → Bool → Prop
 | [], _, _, _ => True
 | e :: rest, x, L, cl => ∃ (x' : S74) (L' : List S98) (cl' : Bool) (kind bad : Int) (er : List FE) (p : List Int) (kc : Int) (ec : List FE) (xc : S74), PlayStep k n b e x L cl x' L' cl' kind bad er p kc ec xc ∧ PlayRun k n b rest x' L' cl'
structure PHy (w W : World) (G : Nat → Prop) (gx gw gs cps : Nat) (n b : Int) (Aw : Option Addr) (cw : Nat) (cl : Bool) (x : S74) (L : List S98) : Prop where
 below : Below w.heap.size w W
 bx : W.heap[gx]? = some (.cells #[.int .i64 n, .int .i64 b] 53 (0, 0))
 bw : W.heap[gw]? = some (.cells #[.int .i64 n, .int .i64 b, .slice Aw L.length cw, .bool cl] 59 (0, 0))
 gwge : w.heap.size ≤ gw
 sys : Kd.R k74 74 W w.heap.size G (.slice (some ⟨gs, 0, none⟩) 1 cps) [x]
 list : Kd.V k98 98 W w.heap.size (fun k => ¬ G k ∧ k ≠ gw) (.slice Aw L.length cw) L
theorem PHy.step {w W W1 : World} {G : Nat → Prop} {gx gw gs cps : Nat} {n b : Int} {Aw : Option Addr} {cw : Nat} {cl : Bool} {x : S74} {L : List S98} (h : PHy w W G gx gw gs cps n b Aw cw cl x L) (hb : Below W.heap.size W W1) : PHy w W1 G gx gw gs cps n b Aw cw cl x L :=
 ⟨below_step h.below hb, blk_below h.bx hb, blk_below h.bw hb, h.gwge, Kd.R_below h.sys hb, Kd.V_below h.list hb⟩
structure PFy (w W : World) (Gs Gc Gl : Nat → Prop) (gx gw gs cps gc cpc : Nat) (n b : Int) (Aw : Option Addr) (nw cw : Nat) (clw : Bool) (vl : Value) (x xc : S74) (L : List S98) : Prop where
 below : Below w.heap.size w W
 bx : W.heap[gx]? = some (.cells #[.int .i64 n, .int .i64 b] 53 (0, 0))
 bw : W.heap[gw]? = some (.cells #[.int .i64 n, .int .i64 b, .slice Aw nw cw, .bool clw] 59 (0, 0))
 sys : Kd.R k74 74 W w.heap.size Gs (.slice (some ⟨gs, 0, none⟩) 1 cps) [x]
 cln : Kd.R k74 74 W w.heap.size Gc (.slice (some ⟨gc, 0, none⟩) 1 cpc) [xc]
 list : Kd.V k98 98 W w.heap.size Gl vl L
section
variable {w W W1 : World} {Gs Gc Gl Gs' Gc' Gl' S Z : Nat → Prop} {gx gw gs cps gc cpc nw cw : Nat} {n b : Int} {Aw : Option Addr} {clw : Bool} {vl vl' : Value} {x xc x' xc' : S74} {L L' : List S98}
theorem PFy.step (h : PFy w W Gs Gc Gl gx gw gs cps gc cpc n b Aw nw cw clw vl x xc L) (hb : Below W.heap.size W W1) : PFy w W1 Gs Gc Gl gx gw gs cps gc cpc n b Aw nw cw clw vl x xc L :=
 ⟨below_step h.below hb, blk_below h.bx hb, blk_below h.bw hb, Kd.R_below h.sys hb, Kd.R_below h.cln hb, Kd.V_below h.list hb⟩
theorem PFy.mono (h : PFy w W Gs Gc Gl gx gw gs cps gc cpc n b Aw nw cw clw vl x xc L) (hs : ∀ k, Gs k → k < W.heap.size → Gs' k) (hc : ∀ k, Gc k → k < W.heap.size → Gc' k) (hl : ∀ k, Gl k → k < W.heap.size → Gl' k) : PFy w W Gs' Gc' Gl' gx gw gs cps gc cpc n b Aw nw cw clw vl x xc L :=
 ⟨h.below, h.bx, h.bw, Kd.R_mono (Kd.R_bound h.sys) (fun k hk => hs k hk.1 hk.2.2.1), Kd.R_mono (Kd.R_bound h.cln) (fun k hk => hc k hk.1 hk.2.2.1), Kd.V_mono (Kd.V_bound h.list) (fun k hk => hl k hk.1 hk.2)⟩
theorem PFy.list' (h : PFy w W Gs Gc Gl gx gw gs cps gc cpc n b Aw nw cw clw vl x xc L) (hl : Kd.V k98 98 W w.heap.size Gl' vl' L') : PFy w W Gs Gc Gl' gx gw gs cps gc cpc n b Aw nw cw clw vl' x xc L' :=
 ⟨h.below, h.bx, h.bw, h.sys, h.cln, hl⟩
theorem PFy.add (h : PFy w W Gs Gc Gl gx gw gs cps gc cpc n b Aw nw cw clw vl x xc L) (hk : SKept W W1 S) (hb : Below w.heap.size w W1) (hs : Kd.R k74 74 W1 w.heap.size Gs' (.slice (some ⟨gs, 0, none⟩) 1 cps) [x'])
  (hc : ∀ k, Gc k → ¬ S k) (hl : ∀ k, Gl k → ¬ S k) : PFy w W1 Gs' Gc Gl gx gw gs cps gc cpc n b Aw nw cw clw vl x' xc L :=
 ⟨hb, blk_skept h.bx hk (by decide), blk_skept h.bw hk (by decide), hs, Kd.R_mono (Kd.R_skept_two h.cln hk hc) (fun _ h_ => h_.1), Kd.V_step h.list (fun k hk1 hlt => hk.2 k hlt (fun h_ => hl k hk1 h_.1))⟩
theorem PFy.addc (h : PFy w W Gs Gc Gl gx gw gs cps gc cpc n b Aw nw cw clw vl x xc L) (hk : SKept W W1 S) (hb : Below w.heap.size w W1) (hs : ∀ k, Gs k → ¬ S k) (hl : ∀ k, Gl k → ¬ S k) :
  Below w.heap.size w W1 ∧ W1.heap[gx]? = some (.cells #[.int .i64 n, .int .i64 b] 53 (0, 0)) ∧ W1.heap[gw]? = some (.cells #[.int .i64 n, .int .i64 b, .slice Aw nw cw, .bool clw] 59 (0, 0)) ∧ Kd.R k74 74 W1 w.heap.size Gs (.slice (some ⟨gs, 0, none⟩) 1 cps) [x] ∧ Kd.V k98 98 W1 w.heap.size Gl vl L :=
 ⟨hb, blk_skept h.bx hk (by decide), blk_skept h.bw hk (by decide), Kd.R_mono (Kd.R_skept_two h.sys hk hs) (fun _ h_ => h_.1), Kd.V_step h.list (fun k hk1 hlt => hk.2 k hlt (fun h_ => hl k hk1 h_.1))⟩
theorem PFy.kept (h : PFy w W Gs Gc Gl gx gw gs cps gc cpc n b Aw nw cw clw vl x xc L) (hk : Kept W W1 Z) (hb : Below w.heap.size w W1) (hx : ¬ Z gx) (hw : ¬ Z gw) (hs : ∀ k, Gs k → ¬ Z k) (hc : ∀ k, Gc k → ¬ Z k) (hl : ∀ k, Gl k → ¬ Z k) : PFy w W1 Gs Gc Gl gx gw gs cps gc cpc n b Aw nw cw clw vl x xc L :=
 ⟨hb, blk_kept h.bx hk hx, blk_kept h.bw hk hw, Kd.R_kept h.sys hk hs, Kd.R_kept h.cln hk hc, Kd.V_kept h.list hk hl⟩
end
structure LIn (w : World) (ad : Addr) (B0 : Option Addr) (b0 : Nat) (B1 : Option Addr) (b1 : Nat) (y : S98) : Prop where
 e0 : w.cell? ad = some (.slice B0 y.f0.length b0)
 e1 : w.cell? ⟨ad.block, ad.off + 1, none⟩ = some (.slice B1 y.f1.length b1)
 l0 : y.f0.length ≤ b0
 r0 : (Kd.int .u64).C w B0 y.f0.length y.f0
 l1 : y.f1.length ≤ b1
 r1 : (Kd.int .u8).C w B1 y.f1.length y.f1
theorem LIn.below {w W : World} {ad : Addr} {B0 : Option Addr} {b0 : Nat} {B1 : Option Addr} {b1 : Nat} {y : S98} (h : LIn w ad B0 b0 B1 b1 y) (hb : Below w.heap.size w W) : LIn W ad B0 b0 B1 b1 y :=
 ⟨(hb.cell (World.block_lt_of_cell? _ _ h.e0)).trans h.e0, (hb.cell (World.block_lt_of_cell? _ _ h.e1)).trans h.e1, h.l0, Kd.C_below h.r0 hb, h.l1, Kd.C_below h.r1 hb⟩
theorem LIn.at_ {w : World} {A : Option Addr} {l : List S98} (h : Kd.C k98 w A l.length l) (i : Nat) (hi : i < l.length) : ∃ ad B0 b0 B1 b1, A = some ad ∧ LIn w (ad.add (i * 2)) B0 b0 B1 b1 (rd_T98 l (i : Int)) := by
 obtain ⟨ad, B0, b0, B1, b1, e, e0, e1, l0, r0, l1, r1⟩ := at_T98 h (i : Int) (by omega) (by omega)
 rw [Int.toNat_natCast] at e0 e1
 exact ⟨ad, B0, b0, B1, b1, e, e0, e1, l0, r0, l1, r1⟩
end Go.Proofs.YtjmgkknbgffbjaaDoor.P
namespace Go.Proofs.YtjmgkknbgffbjaaDoor.P
open Go.RowKit Go.Proofs.YtjmgkknbgffbjaaDoorW.PrintWords Go.Proofs.YtjmgkknbgffbjaaDoorW.PrintLast Go.Proofs.YtjmgkknbgffbjaaDoorW.PrintErr Go.Proofs.YtjmgkknbgffbjaaDoorW.PrintMore
attribute [local go_sem] max2_int min2_int max_two min_two max_three min_three max_four min_four run_eql_errOf run_neq_errOf eqGuard_errOf run_eql_ptrOf run_neq_ptrOf eqGuard_ptrOf   -- for this text's walks alone
set_option linter.unusedVariables false
set_option linter.unusedSimpArgs false
set_option maxRecDepth 100000
set_option maxHeartbeats 8000000
theorem plays_next {k : Nat} {n b : Int} {l : List S98} {i : Nat} {x : S74} {L : List S98} {cl : Bool} (hi : i < l.length) (h16 : i < 16) : PlayRun k n b ((l.take 16).drop i) x L cl = ∃ (x' : S74) (L' : List S98) (cl' : Bool) (kind bad : Int) (er : List FE) (p : List Int) (kc : Int) (ec : List FE) (xc : S74), PlayStep k n b (rd_T98 l (i : Int)) x L cl x' L' cl' kind bad er p kc ec xc ∧ PlayRun k n b ((l.take 16).drop (i + 1)) x' L' cl' := by
 have h1 : i < (l.take 16).length := by rw [List.length_take]; omega
 have h2 : (l.take 16)[i] = rd_T98 l (i : Int) := by rw [List.getElem_take]; simp [rd_T98, hi]
 rw [List.drop_eq_getElem_cons h1, h2]
 rfl
theorem plays_cloned {w W W1 : World} {G : Nat → Prop} {gx gw gs cps gc cpc : Nat} {n b : Int} {Aw : Option Addr} {cw : Nat} {cl : Bool} {x : S74} {L : List S98} (h : PHy w W G gx gw gs cps n b Aw cw cl x L) (hb : Below W.heap.size W W1) (hc : Kd.R k74 74 W1 W.heap.size (fun _ => True) (.slice (some ⟨gc, 0, none⟩) 1 cpc) [x]) :
  PFy w W1 (fun k => G k ∧ k < W.heap.size) (fun k => W.heap.size ≤ k ∧ k < W1.heap.size) (fun k => (¬ G k ∧ k ≠ gw) ∧ k < W.heap.size) gx gw gs cps gc cpc n b Aw L.length cw cl (.slice Aw L.length cw) x x L :=
 ⟨below_step h.below hb, blk_below h.bx hb, blk_below h.bw hb, Kd.R_below (Kd.R_mono (Kd.R_bound h.sys) (fun _ hk => ⟨hk.1, hk.2.2.1⟩)) hb, Kd.R_lower (Kd.R_mono (Kd.R_bound hc) (fun _ hk => ⟨hk.2.1, hk.2.2.1⟩)) h.below.size, Kd.V_below (Kd.V_bound h.list) hb⟩
theorem s16_below {w W : World} {gw : Nat} {ad : Addr} {v0 v1 v2 v3 v4 v5 : Value} (h : w.cell? ⟨gw, 0, none⟩ = some v0 ∧ w.cell? ⟨gw, 1, none⟩ = some v1 ∧ w.cell? ⟨gw, 2, none⟩ = some v2 ∧ w.cell? ⟨gw, 3, none⟩ = some v3 ∧ w.cell? ad = some v4 ∧ w.cell? ⟨ad.block, ad.off + 1, none⟩ = some v5) (hb : Below w.heap.size w W) :
  W.cell? ⟨gw, 0, none⟩ = some v0 ∧ W.cell? ⟨gw, 1, none⟩ = some v1 ∧ W.cell? ⟨gw, 2, none⟩ = some v2 ∧ W.cell? ⟨gw, 3, none⟩ = some v3 ∧ W.cell? ad = some v4 ∧ W.cell? ⟨ad.block, ad.off + 1, none⟩ = some v5 :=
 have f : ∀ {a : Addr} {v : Value}, w.cell? a = some v → W.cell? a = some v := fun h_ => (hb.cell (World.block_lt_of_cell? _ _ h_)).trans h_
 ⟨f h.1, f h.2.1, f h.2.2.1, f h.2.2.2.1, f h.2.2.2.2.1, f h.2.2.2.2.2⟩
theorem s16_of {w W W1 : World} {Gs Gc Gl : Nat → Prop} {gx gw gs cps gc cpc nw cw : Nat} {n b : Int} {Aw : Option Addr} {clw : Bool} {vl : Value} {x xc : S74} {L : List S98} {ad : Addr} {v4 v5 : Value} (h : PFy w W Gs Gc Gl gx gw gs cps gc cpc n b Aw nw cw clw vl x xc L) (hb : Below W.heap.size W W1) (h4 : W1.cell? ad = some v4) (h5 : W1.cell? ⟨ad.block, ad.off + 1, none⟩ = some v5) :
  W1.cell? ⟨gw, 0, none⟩ = some (.int .i64 n) ∧ W1.cell? ⟨gw, 1, none⟩ = some (.int .i64 b) ∧ W1.cell? ⟨gw, 2, none⟩ = some (.slice Aw nw cw) ∧ W1.cell? ⟨gw, 3, none⟩ = some (.bool clw) ∧ W1.cell? ad = some v4 ∧ W1.cell? ⟨ad.block, ad.off + 1, none⟩ = some v5 :=
 have f := (h.step hb).bw
 ⟨(blk_cell f 0).trans rfl, (blk_cell f 1).trans rfl, (blk_cell f 2).trans rfl, (blk_cell f 3).trans rfl, h4, h5⟩
theorem plays_ref {w w2 w6 w7 w8 : World} {Gs Gc Gl GL : Nat → Prop} {gx gw gs cps gc cpc nw cw gy b0 : Nat} {n b : Int} {Aw : Option Addr} {clw : Bool} {vl vl' : Value} {x xc : S74} {L L' : List S98} (hf : PFy w w2 Gs Gc Gl gx gw gs cps gc cpc n b Aw nw cw clw vl x xc L) (hb : Below w2.heap.size w2 w6) (h8 : Below w6.heap.size w6 w8)
  (hv : Kd.V k98 98 w7 b0 GL vl' L') (hgy : ∀ k, GL k → k < w7.heap.size → k ≠ gy) (hst : ∀ k, k < w7.heap.size → k ≠ gy → w8.heap[k]? = w7.heap[k]?) : PFy w w8 Gs Gc (fun k => GL k ∧ k < w7.heap.size) gx gw gs cps gc cpc n b Aw nw cw clw vl' x xc L' :=
 ((hf.step hb).step h8).list' (Kd.V_map (base' := w.heap.size) (Kd.V_step (Kd.V_bound hv) (fun k hk hlt => hst k hlt (hgy k hk.1 hlt))) (fun _ h_ => h_))
theorem sys_at {w : World} {base g cap : Nat} {ok : Nat → Prop} {x : S74} (h : Kd.R k74 74 w base ok (.slice (some ⟨g, 0, none⟩) 1 cap) [x]) : ∃ cs vk va, SysO w base ok g cap cs x vk va := by
 obtain ⟨g', cap', cs, vk, va, e, hs⟩ := sys_open h
 injection e with e1 _ e2
 injection e1 with e1
 injection e1 with e1
 subst e1; subst e2
 exact ⟨cs, vk, va, hs⟩
theorem plays_flip {w W : World} {G : Nat → Prop} {Nr N2 N6 N8 gx gw gs cps gc cpc nw cw gy gr : Nat} {n b : Int} {Aw : Option Addr} {clw : Bool} {vl : Value} {x xc : S74} {L : List S98}
  (hf : PFy w W (fun k => (G k ∧ k < Nr) ∨ N8 ≤ k) (fun k => Nr ≤ k ∧ k < N2) (fun k => (((¬ G k ∧ k ≠ gw) ∧ k < Nr ∨ N6 ≤ k) ∧ k ≠ gy) ∧ k < N8) gx gw gs cps gc cpc n b Aw nw cw clw vl x xc L) (hge : N2 ≤ gr) (hlt : gr < N6) (h0 : w.heap.size ≤ Nr) (h02 : Nr ≤ N2) (h68 : N6 ≤ N8) (hx : gx < Nr) (hw : gw < Nr) (j : Nat) (u : Value) :
  PFy w (W.setCell ⟨gr, j, none⟩ u) (fun k => (G k ∧ k < Nr) ∨ N8 ≤ k) (fun k => Nr ≤ k ∧ k < N2) (fun k => (((¬ G k ∧ k ≠ gw) ∧ k < Nr ∨ N6 ≤ k) ∧ k ≠ gy) ∧ k < N8) gx gw gs cps gc cpc n b Aw nw cw clw vl x xc L :=
 hf.kept (Z := fun k => N2 ≤ k ∧ k < N6) ((Kept.refl W _).setCell (p := ⟨gr, j, none⟩) (.inl ⟨hge, hlt⟩) u) (hf.below.setCell (p := ⟨gr, j, none⟩) (Nat.le_trans h0 (Nat.le_trans h02 hge)) u) (fun h_ => by omega) (fun h_ => by omega) (fun k hk h_ => by rcases hk with hk | hk <;> omega) (fun k hk h_ => by omega) (fun k hk h_ => by rcases hk.1.1 with hk | hk <;> omega)
theorem plays_wrap {j : Nat} (h : (j : Int) + 1 ≤ 140737488355328) : wrap64 ((j : Int) + 1) = ((j + 1 : Nat) : Int) := by
 unfold wrap64
 omega
theorem s28_below {w W : World} {gx : Nat} {v0 v1 : Value} (h : w.cell? ⟨gx, 0, none⟩ = some v0 ∧ w.cell? ⟨gx, 1, none⟩ = some v1) (hb : Below w.heap.size w W) : W.cell? ⟨gx, 0, none⟩ = some v0 ∧ W.cell? ⟨gx, 1, none⟩ = some v1 :=
 ⟨(hb.cell (World.block_lt_of_cell? _ _ h.1)).trans h.1, (hb.cell (World.block_lt_of_cell? _ _ h.2)).trans h.2⟩
theorem lit1_C {w : World} {g : Nat} {x : Int} {t : TypeId} (h : w.heap[g]? = some (.cells #[.int .i64 x] t (0, 0))) : Kd.C (Kd.int .i64) w (some ⟨g, 0, none⟩) [x].length [x] := by
 have h1 : (Kd.int .i64).R t w 0 (fun _ => True) (.slice (some ⟨g, 0, none⟩) 1 1) [x] := by
  refine ⟨fun _ _ => trivial, [.int .i64 x], ⟨rfl, .inr ⟨g, 1, #[.int .i64 x], rfl, Nat.zero_le _, h, Nat.le_refl _, by unfold maxLen; omega, rfl, rfl⟩⟩, Reps.one (show Kd.M (Kd.int .i64) _ _ _ x [.int .i64 x] from rfl) (Reps.none _ _)⟩
 exact (Kd.R_reads' h1).2.2
theorem make_u8 (b : Int) (h0 : 0 ≤ b) (h1 : b ≤ 64) : ∃ (CB : Array Value) (ZL : List Int), ZL = List.replicate b.toNat 0 ∧ (∀ W : World, (Instr.makeSlice 36 (.int .i64 b) (.int .i64 b)).run Tryd.prog W = .ok (.slice (some ⟨W.heap.size, 0, none⟩) ZL.length ZL.length) (W.alloc (.cells CB 5))) ∧
  (∀ (W : World) (g : Nat), W.heap[g]? = some (.cells CB 5 (0, 0)) → Kd.C (Kd.int .u8) W (some ⟨g, 0, none⟩) ZL.length ZL) := by
 obtain ⟨m, rfl⟩ := Int.eq_ofNat_of_zero_le h0
 obtain ⟨i0, hi, hzz⟩ := Option.map_eq_some_iff.1 info5
 simp only [Prod.mk.injEq] at hzz
 obtain ⟨hz0, hz1, hz2⟩ := hzz
 refine ⟨madeCells #[.int .u8 0] m, List.replicate m 0, by rw [Int.toNat_natCast], fun W => ?_, fun W g hg => ?_⟩
 ·have hr := run_make (P := Tryd.prog) W 36 5 i0 (.int .u8 0) Tryd.underlying36 hi hz0 .i64 .i64 (m : Int) (m : Int) (by omega) (by omega) (by rw [hz2]; omega) (by omega)
  simp only [Int.toNat_natCast] at hr
  rw [hz1, Nat.mul_one] at hr
  rw [List.length_replicate]
  exact hr
 ·have h2 : (Kd.int .u8).R 5 W 0 (fun _ => True) (.slice (some ⟨g, 0, none⟩) (List.replicate m (0 : Int)).length m) (List.replicate m 0) := by
   refine ⟨fun _ _ => trivial, (madeCells #[.int .u8 0] m).toList, ⟨by rw [Array.length_toList, size_madeCells]; show m = (List.replicate m (0 : Int)).length * 1; rw [List.length_replicate, Nat.mul_one], .inr ⟨g, m, madeCells #[.int .u8 0] m, rfl, Nat.zero_le _, hg, by rw [List.length_replicate]; exact Nat.le_refl _, by unfold maxLen; omega, by rw [size_madeCells]; exact (Nat.mul_one m).symm, ?_⟩⟩, ?_⟩
   ·rw [List.take_of_length_le]
    rw [Array.length_toList, size_madeCells, List.length_replicate]
    exact Nat.le_of_eq (Nat.mul_one m).symm
   ·have h3 := Kd.reps_made (R := Kd.M (Kd.int .u8) W 0 (fun k => True ∧ some k ≠ (Value.slice (some ⟨g, 0, none⟩) (List.replicate m (0 : Int)).length m).ownBlock)) (z := .int .u8 0) (size := 1) (z0 := (0 : Int)) rfl (by decide) (show Kd.M (Kd.int .u8) W 0 _ (0 : Int) [.int .u8 0] from rfl) m
    rw [Nat.mul_one] at h3
    exact h3
  exact (Kd.R_reads' h2).2.2
theorem plays_head {w w12 : World} {G : Nat → Prop} {Nr N2 N6 N8 gx gw gs cps nw cw gy cL : Nat} {n b : Int} {Aw Al : Option Addr} {cl cl' : Bool} {x' : S74} {L' : List S98}
  (h : Below w.heap.size w w12 ∧ w12.heap[gx]? = some (.cells #[.int .i64 n, .int .i64 b] 53 (0, 0)) ∧ w12.heap[gw]? = some (.cells #[.int .i64 n, .int .i64 b, .slice Aw nw cw, .bool cl] 59 (0, 0)) ∧ Kd.R k74 74 w12 w.heap.size (fun k => (G k ∧ k < Nr) ∨ N8 ≤ k) (.slice (some ⟨gs, 0, none⟩) 1 cps) [x'] ∧ Kd.V k98 98 w12 w.heap.size (fun k => (((¬ G k ∧ k ≠ gw) ∧ k < Nr ∨ N6 ≤ k) ∧ k ≠ gy) ∧ k < N8) (.slice Al L'.length cL) L')
  (hgw : gw < Nr) (hge : w.heap.size ≤ gw) (h02 : Nr ≤ N2) (h26 : N2 ≤ N6) (h68 : N6 ≤ N8) :
  PHy w ((((w12.setCell ⟨gw, 0, none⟩ (.int .i64 n)).setCell ⟨gw, 1, none⟩ (.int .i64 b)).setCell ⟨gw, 2, none⟩ (.slice Al L'.length cL)).setCell ⟨gw, 3, none⟩ (.bool cl')) (fun k => (G k ∧ k < Nr) ∨ N8 ≤ k) gx gw gs cps n b Al cL cl' x' L' := by
 obtain ⟨hb, hx, hw, hs, hl⟩ := h
 have hne : gx ≠ gw := blk_ne hx hw (by decide)
 refine ⟨(((hb.setCell (p := ⟨gw, 0, none⟩) hge _).setCell (p := ⟨gw, 1, none⟩) hge _).setCell (p := ⟨gw, 2, none⟩) hge _).setCell (p := ⟨gw, 3, none⟩) hge _, blk_far (blk_far (blk_far (blk_far hx hne _) hne _) hne _) hne _, ?_, hge, ?_, ?_⟩
 ·exact blk_put (cs := #[.int .i64 n, .int .i64 b, .slice Al L'.length cL, .bool cl]) (blk_put (cs := #[.int .i64 n, .int .i64 b, .slice Aw nw cw, .bool cl]) (blk_put (cs := #[.int .i64 n, .int .i64 b, .slice Aw nw cw, .bool cl]) (blk_put (cs := #[.int .i64 n, .int .i64 b, .slice Aw nw cw, .bool cl]) hw 0 _ rfl) 1 _ rfl) 2 _ rfl) 3 _ rfl
 ·exact Kd.R_mono (Kd.R_far (p := ⟨gw, 3, none⟩) (Kd.R_far (p := ⟨gw, 2, none⟩) (Kd.R_far (p := ⟨gw, 1, none⟩) (Kd.R_far (p := ⟨gw, 0, none⟩) (Kd.R_types hs hw (by decide)) (fun _ h_ => h_.2) _) (fun _ h_ => h_.2) _) (fun _ h_ => h_.2) _) (fun _ h_ => h_.2) _) (fun _ h_ => h_.1)
 ·have hq : Kd.V k98 98 w12 w.heap.size (fun k => ¬ ((G k ∧ k < Nr) ∨ N8 ≤ k) ∧ k ≠ gw) (.slice Al L'.length cL) L' := Kd.V_mono hl (fun k hk => by
   rcases hk.1.1 with h1 | h1
   ·exact ⟨fun h2 => h2.elim (fun h3 => h1.1.1 h3.1) (fun h3 => by have := hk.2; omega), h1.1.2⟩
   ·exact ⟨fun h2 => h2.elim (fun h3 => by have := h3.2; omega) (fun h3 => by have := hk.2; omega), by omega⟩)
  exact Kd.V_far (p := ⟨gw, 3, none⟩) (Kd.V_far (p := ⟨gw, 2, none⟩) (Kd.V_far (p := ⟨gw, 1, none⟩) (Kd.V_far (p := ⟨gw, 0, none⟩) hq (fun _ h_ => h_.2) _) (fun _ h_ => h_.2) _) (fun _ h_ => h_.2) _) (fun _ h_ => h_.2) _
theorem plays_told {w W : World} {G : Nat → Prop} {k gx gw gs cps cL : Nat} {n b : Int} {Al : Option Addr} {cl' : Bool} {x' : S74} {L' : List S98} (ht : TabIn w) (he : ErrIn w) (h : PHy w W G gx gw gs cps n b Al cL cl' x' L') (ho : geyserlaw05_told.f k [x'] n b L' cl' = some true) :
  Calls Tryd.prog 27 #[.pointer (some ⟨gs, 0, none⟩), .agg #[.int .i64 n, .int .i64 b, .slice Al L'.length cL, .bool cl']] W fun e w' => e = .returned (.bool true) ∧ Below W.heap.size W w' := by
 have hr := Kd.R_reads' h.sys
 have hv := Kd.V_reads' h.list
 have hc := geyserlaw05_told.calls k (some ⟨gs, 0, none⟩) cps [x'] n b Al cL L' cl' true W (TabIn.below ht h.below) (ErrIn.below he h.below) hr.2.2 hr.2.1 hv.2.2 hv.2.1 ho
 rw [ptrOf_pos _ _ _ (by simp)] at hc
 exact hc
theorem plays_main (k : Nat) (n b : Int) (x0 : S74) (A1 : Option Addr) (c1 : Nat) (l : List S98) (w : World) (ht : TabIn w) (hei : ErrIn w) (hr : Kd.C k98 w A1 l.length l) (hl : geyserlaw05_light.f n b = some true) (hn : elim_New.f n b = some ([x0], [])) (hc : geyserref05_Check.f n b = some 0)
  (htl : geyserlaw05_tells.f [] 0 (⟨#[101, 108, 105, 109, 46, 78, 101, 119]⟩ : ByteArray) = some true) (ha : geyserlaw05_awake.f k = some true) (hrun : PlayRun k n b (l.take 16) x0 [] false) :
  Calls Tryd.prog 7 #[.agg #[.int .i64 n, .int .i64 b], .slice A1 l.length c1] w fun e w' => e = .returned (.bool true) ∧ Below w.heap.size w w' := by
 have HT := AQ ht
 have HEI := AQ hei
 have HR := AQ hr
 have HL := AQ hl
 have HN := AQ hn
 have HC := AQ hc
 have HTL := AQ htl
 have HA := AQ ha
 have HRUN := AQ hrun
 have HB := AQ (Below.refl w.heap.size w)
 clear ht hei hr hl hn hc htl ha hrun
 go_enter Tryd.func7, Tryd.ntmps7
 go_wp2_with (first
  | ((with_reducible refine gate_dst (N := 2) rfl ?_); refine box_event ?hg (N := 2) ?hd (cs := #[.int .i64 n, .int .i64 b]) (t := 53) ?hr ?_; (case hd => rfl); (case hg => rfl); (case hr => first | (go_simp; done) | (go_simp; rfl)); intro gx hg w2 hbox hb; have BX := AQ hbox; clear HB; have HB := AQ hb; clear hb hbox hg; have hx0 : w2.cell? ⟨gx, 0, none⟩ = some (.int .i64 n) := (blk_cell BX.out 0).trans rfl; have hx1 : w2.cell? ⟨gx, 1, none⟩ = some (.int .i64 b) := (blk_cell BX.out 1).trans rfl)
  | ((with_reducible refine gate_callee (f := 22) rfl ?_); refine goesL_ _ rfl rfl Tryd.func22 (by kernel_rfl) rfl #[.agg #[.int .i64 n, .int .i64 b]] rfl (by (try simp only [List.map_toArray, List.map_cons, List.map_nil]); first | done | rfl) ?_; (refine (geyserlaw05_light.calls n b true _ HL.out).mono ?_); rintro e w3 ⟨rfl, hb⟩; refine ⟨_, rfl, ?_⟩; have n0_ := AQ (below_step (PB HB) hb); have n1_ := AQ (blk_below (g := gx) (o := .cells #[.int .i64 n, .int .i64 b] 53 (0, 0)) (PK BX) hb); clear HB hb BX hx0 hx1; have HB := n0_; have BX := n1_; clear n0_ n1_; have hx0 : w3.cell? ⟨gx, 0, none⟩ = some (.int .i64 n) := (blk_cell BX.out 0).trans rfl; have hx1 : w3.cell? ⟨gx, 1, none⟩ = some (.int .i64 b) := (blk_cell BX.out 1).trans rfl)
  | ((with_reducible refine gate_callee (f := 10) rfl ?_); refine goesL_ _ rfl rfl Tryd.func10 (by kernel_rfl) rfl #[.int .i64 n, .int .i64 b] rfl (by (try simp only [List.map_toArray, List.map_cons, List.map_nil]); first | done | rfl) ?_; (refine (elim_New.calls n b [x0] [] _ HN.out).mono ?_); rintro e w4 ⟨v0, v1, rfl, ho0, ho1, hb⟩; refine ⟨_, rfl, ?_⟩; have n0_ := AQ (Kd.R_lower ho0 (below_size (PB HB))); have n1_ := AQ (Kd.R_lower ho1 (below_size (PB HB))); have n2_ := AQ (below_step (PB HB) hb); have n3_ := AQ (blk_below (g := gx) (o := .cells #[.int .i64 n, .int .i64 b] 53 (0, 0)) (PK BX) hb); clear ho0 ho1 HB hb BX hx0 hx1; have HS := n0_; have HE := n1_; have HB := n2_; have BX := n3_; clear n0_ n1_ n2_ n3_; have hx0 : w4.cell? ⟨gx, 0, none⟩ = some (.int .i64 n) := (blk_cell BX.out 0).trans rfl; have hx1 : w4.cell? ⟨gx, 1, none⟩ = some (.int .i64 b) := (blk_cell BX.out 1).trans rfl; obtain ⟨gs, cps, _, _, _, es, _⟩ := sys_open HS.out; subst es; obtain ⟨Ae, ce, ee⟩ := Kd.R_slice HE.out; subst ee; have hps := ptrOf_pos ⟨gs, 0, none⟩ 1 cps (by decide))
  | ((with_reducible refine gate_callee (f := 23) rfl ?_); refine goesL_ _ rfl rfl Tryd.func23 (by kernel_rfl) rfl #[.int .i64 n, .int .i64 b] rfl (by (try simp only [List.map_toArray, List.map_cons, List.map_nil]); first | done | rfl) ?_; (refine (geyserref05_Check.calls n b 0 _ HC.out).mono ?_); rintro e w5 ⟨rfl, ⟨nd, rfl⟩⟩; refine ⟨_, rfl, ?_⟩; skip)
  | ((with_reducible refine gate_callee (f := 21) rfl ?_); refine goesL_ _ rfl rfl Tryd.func21 (by kernel_rfl) rfl #[errOf (.slice Ae ([] : List FE).length ce), .int .i64 0, .string (⟨#[101, 108, 105, 109, 46, 78, 101, 119]⟩ : ByteArray)] rfl (by (try simp only [List.map_toArray, List.map_cons, List.map_nil]); first | done | rfl) ?_; (refine (geyserlaw05_tells.calls Ae ce [] 0 (⟨#[101, 108, 105, 109, 46, 78, 101, 119]⟩ : ByteArray) true _ (ErrIn.below HEI.out (PB HB)) (Kd.R_reads' (PR HE)).2.2 (Kd.R_reads' HE.out).2.1 HTL.out).mono ?_); rintro e w6 ⟨rfl, hb⟩; refine ⟨_, rfl, ?_⟩; have n0_ := AQ (Kd.R_below (PR HS) hb); have n1_ := AQ (below_step (PB HB) hb); have n2_ := AQ (blk_below (g := gx) (o := .cells #[.int .i64 n, .int .i64 b] 53 (0, 0)) (PK BX) hb); clear HS HE HB hb BX hx0 hx1; have HS := n0_; have HB := n1_; have BX := n2_; clear n0_ n1_ n2_; have hx0 : w6.cell? ⟨gx, 0, none⟩ = some (.int .i64 n) := (blk_cell BX.out 0).trans rfl; have hx1 : w6.cell? ⟨gx, 1, none⟩ = some (.int .i64 b) := (blk_cell BX.out 1).trans rfl))
 obtain ⟨gw, hgw⟩ : ∃ g, g = w6.heap.size := ⟨_, rfl⟩
 rw [← hgw]
 obtain ⟨w7, hw7⟩ : ∃ W, W = w6.alloc (.cells #[.int .i64 n, .int .i64 b, .slice none 0 0, .bool false] 59) := ⟨_, rfl⟩
 rw [← hw7]
 have hph : PHy w w7 (fun _ => True) gx gw gs cps n b none 0 false x0 [] := by
  have hb : Below w6.heap.size w6 w7 := by rw [hw7]; exact below_alloc (Below.refl _ _) _
  exact ⟨below_step HB.out hb, blk_below BX.out hb, by rw [hw7, hgw]; exact blk_new _ _, by rw [hgw]; exact HB.out.size, Kd.R_below HS.out hb, Kd.V_nil _ _ _ _ _⟩
 have HI := AQ hph
 clear hph hw7 hgw HS HB BX hx0 hx1
 obtain ⟨M, hM⟩ : ∃ M : Nat, M = (l.take 16).length := ⟨_, rfl⟩
 have HM := AQ hM
 clear hM
 go_loopg [9] (M + 1) (fun kq v9 w' => ∃ (i : Nat) (x : S74) (L : List S98) (cl : Bool) (Aw : Option Addr) (cw : Nat) (G : Nat → Prop), v9 = .int .i64 (i : Int) ∧ Aside0 (kq + i = M + 1 ∧ i ≤ M) ∧ Aside0 (PlayRun k n b ((l.take 16).drop i) x L cl) ∧ Aside0 (PHy w w' G gx gw gs cps n b Aw cw cl x L))
 case atStart => exact ⟨0, x0, [], false, none, 0, _, rfl, ⟨by omega, by omega⟩, ⟨HRUN.out⟩, ⟨HI.out⟩⟩
 case round =>
  clear HI
  obtain ⟨i, x, L, cl, Aw, cw, G, rfl, HKi, HRN, HI⟩ := hrel
  obtain ⟨wo, rfl⟩ : ∃ W : World, W = wr := ⟨_, rfl⟩
  cases gk with
  | zero => exact absurd HKi.out.1 (by have := HKi.out.2; omega)
  | succ g1 =>
   by_cases hlt : i < M
   ·have hi16 : i < 16 := by have h_ := HM.out; rw [List.length_take] at h_; omega
    have hil : i < l.length := by have h_ := HM.out; rw [List.length_take] at h_; omega
    have hc1 : decide ((i : Int) < (l.length : Int)) = true := decide_eq_true (by omega)
    have hc2 : decide ((i : Int) < 16) = true := decide_eq_true (by omega)
    obtain ⟨y, hy⟩ : ∃ y, y = rd_T98 l (i : Int) := ⟨_, rfl⟩
    have hrun := HRN.out
    rw [plays_next hil hi16, ← hy] at hrun
    obtain ⟨x', L', cl', kind, bad, er, p, kc, ec, xc, hst, hrest⟩ := hrun
    obtain ⟨adl, B0, b0, B1, b1, eA, hli⟩ := LIn.at_ HR.out i hil
    rw [← hy] at hli
    subst eA
    have HST := AQ hst
    have HREST := AQ hrest
    have HLI := AQ hli
    have HHI := AQ hil
    have HLT := AQ hlt
    clear hst hrest hli hy HRN hlt
    have hpi : (0 : Int) ≤ (i : Int) := by omega
    have hqi : (i : Int) < (l.length : Int) := by omega
    go_wp2_with (first
     | ((with_reducible refine gate_callee (f := 24) rfl ?_); refine goesL_ _ rfl rfl Tryd.func24 (by kernel_rfl) rfl #[.pointer (some ⟨gs, 0, none⟩)] rfl (by (try simp only [List.map_toArray, List.map_cons, List.map_nil]); first | done | rfl) ?_; (refine (elimM_Clone.calls ⟨gs, 0, none⟩ x _ (Kd.R_reads' (by (with_reducible repeat (first | apply Kd.R_alloc | apply Kd.R_drewN | apply Kd.R_drew)); exact HI.out.sys)).2.2 HST.out.fit).mono ?_); rintro e w2 ⟨v0, rfl, ho0, hb⟩; refine ⟨_, rfl, ?_⟩; obtain ⟨gc, cpc, _, _, _, es, _⟩ := sys_open ho0; subst es; have hpc := ptrOf_pos ⟨gc, 0, none⟩ 1 cpc (by decide); have HF := AQ (plays_cloned HI.out hb ho0); have HN02 := AQ hb.size; clear hb ho0; have HB := AQ (Below.refl w2.heap.size w2); have he0 := (HLI.out.below (below_step HF.out.below (show Below w2.heap.size w2 w2 from HB.out))).e0; have he1 := (HLI.out.below (below_step HF.out.below (show Below w2.heap.size w2 w2 from HB.out))).e1)
     | ((with_reducible refine gate_dst (N := 68) rfl ?_); refine Kd.R_lit (Kd.int .u64) _ 35 ?hg (N := 68) ?hd (xs := ([] : List Int)) (inner := []) (ok := fun _ => True) (okp := fun _ => True) ?hr ?hp (fun _ hk => hk) trivial (Below.refl _ _) (Nat.le_refl _) (by simp) ?_; (case hd => rfl); (case hg => rfl); (case hr => first | (go_simp; done) | (go_simp; rfl)); (case hp => exact (Reps.none _ _)); intro v_HV1 w3 ho hb hg_ hnew_; clear hg_ hnew_; have n0_ := AQ (Kd.R_lower ho (below_size (PB HB))); have n1_ := AQ (below_step (PB HB) hb); clear ho HB hb he0 he1; have HV1 := n0_; have HB := n1_; clear n0_ n1_; have he0 := (HLI.out.below (below_step HF.out.below (show Below w2.heap.size w2 w3 from HB.out))).e0; have he1 := (HLI.out.below (below_step HF.out.below (show Below w2.heap.size w2 w3 from HB.out))).e1)
     | ((with_reducible refine gate_builtin (b := .append) (xs := #[.tmp 68, .tmp 73]) rfl ?_); at_builtin; refine Kd.R_append_rows (Kd.int .u64) (w0 := w2) w2.heap.size rfl (.tmp 68) (.tmp 73) 23 35 (.int .u64 0) 8 rfl Tryd.underlying23 info35 rfl (by decide) (by omega) v_HV1 [] y.f0 _ _ _ (fun _ => True) (fun _ => False) rfl rfl ?aO ?aR (fun _ _ h => h) (fun _ h => h.elim) (fun _ _ => trivial) ?aB ?aS ?aL ?_; (case aO => exact (PR HV1)); (case aR => exact (HLI.out.below (below_step HF.out.below (PB HB))).r0); (case aB => exact (PB HB)); (case aS => exact (below_size (PB HB))); (case aL => have := HST.out.l0; simp only [List.length_nil]; omega); intro u_HV1 w4 ho hb hg hat; rw [List.nil_append] at ho; have n0_ := AQ (ho); have n1_ := AQ (hb); clear ho HB hb hg hat he0 he1 HV1; have HV1 := n0_; have HB := n1_; clear n0_ n1_; obtain ⟨AHV1, cHV1, eHV1⟩ := Kd.R_slice HV1.out; subst eHV1; have he0 := (HLI.out.below (below_step HF.out.below (show Below w2.heap.size w2 w4 from HB.out))).e0; have he1 := (HLI.out.below (below_step HF.out.below (show Below w2.heap.size w2 w4 from HB.out))).e1)
     | ((with_reducible refine gate_dst (N := 75) rfl ?_); refine Kd.R_lit (Kd.int .u8) _ 5 ?hg (N := 75) ?hd (xs := ([] : List Int)) (inner := []) (ok := fun _ => True) (okp := fun _ => True) ?hr ?hp (fun _ hk => hk) trivial (Below.refl _ _) (Nat.le_refl _) (by simp) ?_; (case hd => rfl); (case hg => rfl); (case hr => first | (go_simp; done) | (go_simp; rfl)); (case hp => exact (Reps.none _ _)); intro v_HV2 w5 ho hb hg_ hnew_; clear hg_ hnew_; have n0_ := AQ (Kd.R_below (PR HV1) hb); have n1_ := AQ (Kd.R_lower ho (below_size (PB HB))); have n2_ := AQ (below_step (PB HB) hb); clear ho HB hb he0 he1 HV1; have HV1 := n0_; have HV2 := n1_; have HB := n2_; clear n0_ n1_ n2_; have he0 := (HLI.out.below (below_step HF.out.below (show Below w2.heap.size w2 w5 from HB.out))).e0; have he1 := (HLI.out.below (below_step HF.out.below (show Below w2.heap.size w2 w5 from HB.out))).e1)
     | ((with_reducible refine gate_builtin (b := .append) (xs := #[.tmp 75, .tmp 80]) rfl ?_); at_builtin; refine Kd.R_append_rows (Kd.int .u8) (w0 := w2) w2.heap.size rfl (.tmp 75) (.tmp 80) 36 5 (.int .u8 0) 1 rfl Tryd.underlying36 info5 rfl (by decide) (by omega) v_HV2 [] y.f1 _ _ _ (fun _ => True) (fun _ => False) rfl rfl ?aO ?aR (fun _ _ h => h) (fun _ h => h.elim) (fun _ _ => trivial) ?aB ?aS ?aL ?_; (case aO => exact (PR HV2)); (case aR => exact (HLI.out.below (below_step HF.out.below (PB HB))).r1); (case aB => exact (PB HB)); (case aS => exact (below_size (PB HB))); (case aL => have := HST.out.l1; simp only [List.length_nil]; omega); intro u_HV2 w6 ho hb hg hat; rw [List.nil_append] at ho; have n0_ := AQ (Kd.R_over' (PR HV1) (Kd.R_typed (PR HV2)) (by decide) hg); have n1_ := AQ (ho); have n2_ := AQ (hb); clear ho HB hb hg hat he0 he1 HV2 HV1; have HV1 := n0_; have HV2 := n1_; have HB := n2_; clear n0_ n1_ n2_; obtain ⟨AHV2, cHV2, eHV2⟩ := Kd.R_slice HV2.out; subst eHV2; have he0 := (HLI.out.below (below_step HF.out.below (show Below w2.heap.size w2 w6 from HB.out))).e0; have he1 := (HLI.out.below (below_step HF.out.below (show Below w2.heap.size w2 w6 from HB.out))).e1))
    have HS16 := AQ (s16_of HF.out HB.out he0 he1)
    clear he0 he1
    have HB6 := AQ (Below.refl w6.heap.size w6)
    go_region_held3 (fun w' => w'.cell? ⟨gw, 0, none⟩ = some (.int .i64 n) ∧ w'.cell? ⟨gw, 1, none⟩ = some (.int .i64 b) ∧ w'.cell? ⟨gw, 2, none⟩ = some (.slice Aw L.length cw) ∧ w'.cell? ⟨gw, 3, none⟩ = some (.bool cl) ∧ w'.cell? (adl.add (i * 2)) = some (.slice B0 y.f0.length b0) ∧ w'.cell? ⟨(adl.add (i * 2)).block, (adl.add (i * 2)).off + 1, none⟩ = some (.slice B1 y.f1.length b1))
     (exact s16_below HS16.out (by repeat (first | (with_reducible first | exact HB6.out | apply below_alloc | apply pw_below_drewN | apply below_drew1 | refine below_set ?_ (Nat.le_refl _)) | exact HB6.out)))
     ((go_at_call 25; refine (geyserref05_Add.calls k n b (fun k => (¬ G k ∧ k ≠ gw) ∧ k < wo.heap.size) _ _ L cl _ _ y.f0 _ _ y.f1 n b L' cl' kind bad _ (Kd.V_map (HF.out.step (below_step HB.out (by repeat (first | (with_reducible first | exact HB6.out | apply below_alloc | apply pw_below_drewN | apply below_drew1) | exact HB6.out)))).list (fun _ h_ => h_)) (HLI.out.below (below_step HF.out.below (below_step HB.out (by repeat (first | (with_reducible first | exact HB6.out | apply below_alloc | apply pw_below_drewN | apply below_drew1) | exact HB6.out))))).r0 HLI.out.l0 (HLI.out.below (below_step HF.out.below (below_step HB.out (by repeat (first | (with_reducible first | exact HB6.out | apply below_alloc | apply pw_below_drewN | apply below_drew1) | exact HB6.out))))).r1 HLI.out.l1 HST.out.ref).mono ?_; rintro e w7 ⟨vl, rfl, hv, hb⟩; (first | (have hby := blk_below (blk_drew (blk_new w6 (.cells #[.int .i64 0, .int .i64 0, .slice none 0 0, .bool false] 59))) hb; have hy0 : w7.cell? ⟨w6.heap.size, 0, none⟩ = some (.int .i64 0) := (blk_cell hby 0).trans rfl; have hy1 : w7.cell? ⟨w6.heap.size, 1, none⟩ = some (.int .i64 0) := (blk_cell hby 1).trans rfl; have hy2 : w7.cell? ⟨w6.heap.size, 2, none⟩ = some (.slice none 0 0) := (blk_cell hby 2).trans rfl; have hy3 : w7.cell? ⟨w6.heap.size, 3, none⟩ = some (.bool false) := (blk_cell hby 3).trans rfl; have hf0 := blk_frozen hby 0; have hf1 := blk_frozen hby 1; have hf2 := blk_frozen hby 2; have hf3 := blk_frozen hby 3; have BYB := AQ hby; clear hby) | skip); have HVL := AQ hv; have n0_ := AQ (below_step (by repeat (first | (with_reducible first | exact HB6.out | apply below_alloc | apply pw_below_drewN | apply below_drew1) | exact HB6.out)) hb); clear HB6 hv hb; have HB6 := n0_; clear n0_; obtain ⟨Al, cL, eL⟩ := Kd.V_slice HVL.out; subst eL))
    focus
     obtain ⟨gy, hgy⟩ : ∃ g, g = w7.heap.size := ⟨_, rfl⟩
     rw [← hgy]
     obtain ⟨w8, hw8⟩ : ∃ W, W = w7.alloc (.cells #[.int .i64 n, .int .i64 b, .slice Al L'.length cL, .bool cl'] 59) := ⟨_, rfl⟩
     rw [← hw8]
     have h8 : Below w6.heap.size w6 w8 := by rw [hw8]; exact below_alloc HB6.out _
     have hgw := blk_lt HI.out.bw
     have hf := plays_ref (gy := gy) HF.out HB.out h8 HVL.out (fun k _ hlt => by omega) (fun k hk _ => by rw [hw8]; exact Below.heap_alloc w7 _ k hk)
     have hby : w8.heap[gy]? = some (.cells #[.int .i64 n, .int .i64 b, .slice Al L'.length cL, .bool cl'] 59 (0, 0)) := by rw [hw8]; exact by rw [hgy]; exact blk_new _ _
     have HGY := AQ (show w6.heap.size ≤ gy by rw [hgy]; first | exact Nat.le_refl _ | exact HB6.out.size)
     have HN26 := AQ HB.out.size
     have HN68 := AQ h8.size
     have HV3 := AQ (Kd.R_below (Kd.R_mono (ok' := fun k => k < w6.heap.size) (Kd.R_bound HV1.out) (fun _ h_ => h_.2.2.1)) h8)
     have HV4 := AQ (Kd.R_below (Kd.R_mono (ok' := fun k => k < w6.heap.size) (Kd.R_bound HV2.out) (fun _ h_ => h_.2.2.1)) h8)
     have HF8 := AQ (hf.mono (Gs' := fun k => G k ∧ k < wo.heap.size) (Gc' := fun k => wo.heap.size ≤ k ∧ k < w2.heap.size) (Gl' := fun k => (((¬ G k ∧ k ≠ gw) ∧ k < wo.heap.size ∨ w6.heap.size ≤ k) ∧ k ≠ gy) ∧ k < w8.heap.size) (fun _ h_ _ => h_) (fun _ h_ _ => h_) (fun k h_ hb_ => ⟨⟨h_.1.imp id (fun q_ => by simp at q_; omega), by have h1_ := h_.2; have h2_ := h_.1; have := HN02.out; have := HN26.out; simp at h2_; omega⟩, hb_⟩))
     have HBY := AQ hby
     clear HF HB HV1 HV2 HVL HS16 h8 hby HB6 hf hw8 hgw hgy
    rotate_left
    focus
     obtain ⟨gy, hgy⟩ : ∃ g, g = w6.heap.size := ⟨_, rfl⟩
     rw [← hgy]
     obtain ⟨w8, hw8⟩ : ∃ W, W = (((w7.setCell ⟨gy, 0, none⟩ (.int .i64 n)).setCell ⟨gy, 1, none⟩ (.int .i64 b)).setCell ⟨gy, 2, none⟩ (.slice Al L'.length cL)).setCell ⟨gy, 3, none⟩ (.bool cl') := ⟨_, rfl⟩
     rw [← hw8]
     have h8 : Below w6.heap.size w6 w8 := by rw [hw8]; exact below_set (below_set (below_set (below_set HB6.out (Nat.le_of_eq hgy.symm)) (Nat.le_of_eq hgy.symm)) (Nat.le_of_eq hgy.symm)) (Nat.le_of_eq hgy.symm)
     have hgw := blk_lt HI.out.bw
     have hf := plays_ref (gy := gy) HF.out HB.out h8 HVL.out (fun k h_ hlt => by have := HN02.out; have := HB.out.size; rcases h_ with h_ | h_ <;> simp at h_ <;> omega) (fun k hk hne => by rw [hw8]; exact (Below.heap_setCell _ ⟨gy, 3, none⟩ _ k hne).trans ((Below.heap_setCell _ ⟨gy, 2, none⟩ _ k hne).trans ((Below.heap_setCell _ ⟨gy, 1, none⟩ _ k hne).trans (Below.heap_setCell _ ⟨gy, 0, none⟩ _ k hne))))
     have hby : w8.heap[gy]? = some (.cells #[.int .i64 n, .int .i64 b, .slice Al L'.length cL, .bool cl'] 59 (0, 0)) := by rw [hw8]; exact (by have hq := BYB.out; rw [← hgy] at hq; exact blk_put (cs := #[.int .i64 n, .int .i64 b, .slice Al L'.length cL, .bool false]) (blk_put (cs := #[.int .i64 n, .int .i64 b, .slice none 0 0, .bool false]) (blk_put (cs := #[.int .i64 n, .int .i64 0, .slice none 0 0, .bool false]) (blk_put (cs := #[.int .i64 0, .int .i64 0, .slice none 0 0, .bool false]) hq 0 _ rfl) 1 _ rfl) 2 _ rfl) 3 _ rfl)
     have HGY := AQ (show w6.heap.size ≤ gy by rw [hgy]; first | exact Nat.le_refl _ | exact HB6.out.size)
     have HN26 := AQ HB.out.size
     have HN68 := AQ h8.size
     have HV3 := AQ (Kd.R_below (Kd.R_mono (ok' := fun k => k < w6.heap.size) (Kd.R_bound HV1.out) (fun _ h_ => h_.2.2.1)) h8)
     have HV4 := AQ (Kd.R_below (Kd.R_mono (ok' := fun k => k < w6.heap.size) (Kd.R_bound HV2.out) (fun _ h_ => h_.2.2.1)) h8)
     have HF8 := AQ (hf.mono (Gs' := fun k => G k ∧ k < wo.heap.size) (Gc' := fun k => wo.heap.size ≤ k ∧ k < w2.heap.size) (Gl' := fun k => (((¬ G k ∧ k ≠ gw) ∧ k < wo.heap.size ∨ w6.heap.size ≤ k) ∧ k ≠ gy) ∧ k < w8.heap.size) (fun _ h_ _ => h_) (fun _ h_ _ => h_) (fun k h_ hb_ => ⟨⟨h_.1.imp id (fun q_ => by simp at q_; omega), by have h1_ := h_.2; have h2_ := h_.1; have := HN02.out; have := HN26.out; simp at h2_; omega⟩, hb_⟩))
     have HBY := AQ hby
     clear HF HB HV1 HV2 HVL HS16 h8 hby HB6 hf hw8 hgw hgy
    all_goals
     obtain ⟨scs, svk, sva, hso⟩ := sys_at HF8.out.sys
     have HSO := AQ hso
     clear hso
     have HB8 := AQ (Below.refl w8.heap.size w8)
     go_wp2_with (first
      | ((with_reducible refine gate_callee (f := 11) rfl ?_); refine goesL_ _ rfl rfl Tryd.func11 (by kernel_rfl) rfl #[.pointer (some ⟨gs, 0, none⟩), .slice AHV1 y.f0.length cHV1, .slice AHV2 y.f1.length cHV2] rfl (by (try simp only [List.map_toArray, List.map_cons, List.map_nil]); first | done | rfl) ?_; (refine (elimM_Add.all k kind er [x'] (w0 := w) (ok_ := fun k => G k ∧ k < wo.heap.size) ⟨TabIn.below HT.out (below_step HF8.out.below (by repeat (first | (with_reducible first | exact HB8.out | apply below_alloc | apply pw_below_drewN | apply below_drew1) | exact HB8.out))), below_step HF8.out.below (by repeat (first | (with_reducible first | exact HB8.out | apply below_alloc | apply pw_below_drewN | apply below_drew1) | exact HB8.out)), SysO.below HSO.out (by repeat (first | (with_reducible first | exact HB8.out | apply below_alloc | apply pw_below_drewN | apply below_drew1) | exact HB8.out)), (Kd.R_reads' (Kd.R_below HV3.out (by repeat (first | (with_reducible first | exact HB8.out | apply below_alloc | apply pw_below_drewN | apply below_drew1) | exact HB8.out)))).2.2, (Kd.R_reads' HV3.out).2.1, (Kd.R_reads' (Kd.R_below HV4.out (by repeat (first | (with_reducible first | exact HB8.out | apply below_alloc | apply pw_below_drewN | apply below_drew1) | exact HB8.out)))).2.2, (Kd.R_reads' HV4.out).2.1⟩ HST.out.add).mono ?_); rintro e w9 ⟨ve, rfl, hfe, hsx, hbw, hkp⟩; refine ⟨_, rfl, ?_⟩; have HF9 := AQ (((HF8.out.step (by repeat (first | (with_reducible first | exact HB8.out | apply below_alloc | apply pw_below_drewN | apply below_drew1) | exact HB8.out))).add hkp hbw (Kd.R_mono (ok' := fun k => (G k ∧ k < wo.heap.size) ∨ w8.heap.size ≤ k) hsx (fun k h_ => h_.imp id (fun q_ => Nat.le_trans (below_size (by repeat (first | (with_reducible first | exact HB8.out | apply below_alloc | apply pw_below_drewN | apply below_drew1) | exact HB8.out))) q_))) (fun k h_ g_ => by have := h_.1; have := g_.2; omega) (by intro k_ h_ g_; rcases h_.1.1 with q_ | q_; (exact q_.1.1 g_.1); (have h1_ := HN02.out; have h2_ := HN26.out; have h3_ := g_.2; omega)))); have HE9 := AQ hfe; have HV5 := AQ (Kd.R_skept (Kd.R_below HV3.out (by repeat (first | (with_reducible first | exact HB8.out | apply below_alloc | apply pw_below_drewN | apply below_drew1) | exact HB8.out))) hkp (by decide)); have HV6 := AQ (Kd.R_skept (Kd.R_below HV4.out (by repeat (first | (with_reducible first | exact HB8.out | apply below_alloc | apply pw_below_drewN | apply below_drew1) | exact HB8.out))) hkp (by decide)); have HY9 := AQ (blk_skept (blk_below HBY.out (by repeat (first | (with_reducible first | exact HB8.out | apply below_alloc | apply pw_below_drewN | apply below_drew1) | exact HB8.out))) hkp (by decide)); have HN89 := AQ (Nat.le_trans (below_size (by repeat (first | (with_reducible first | exact HB8.out | apply below_alloc | apply pw_below_drewN | apply below_drew1) | exact HB8.out))) hkp.1); clear HSO HF8 HV3 HV4 HBY HB8 hfe hsx hbw hkp; obtain ⟨Ae2, ce2, ee2⟩ := Kd.R_slice HE9.out; subst ee2))
     have HB9 := AQ (Below.refl w9.heap.size w9)
     have hs18 : w9.cell? ⟨gw, 2, none⟩ = some (.slice Aw L.length cw) := (blk_cell HF9.out.bw 2).trans rfl
     have HS18 := AQ hs18
     have hrk : ((L.length : Int) != (L.length : Int)) = false := by simp
     clear hs18
     go_region_held3 (fun w' => w'.cell? ⟨gw, 2, none⟩ = some (.slice Aw L.length cw))
      (exact (Below.cell (by repeat (first | (with_reducible first | exact HB9.out | apply below_alloc | apply pw_below_drewN | apply below_drew1) | exact HB9.out)) (World.block_lt_of_cell? _ _ HS18.out)).trans HS18.out)
      (first
       | (go_at_call 21; refine (geyserlaw05_tells.calls Ae2 ce2 er bad (⟨#[101, 108, 105, 109, 46, 65, 100, 100]⟩ : ByteArray) true _ (ErrIn.below HEI.out (below_step HF9.out.below (by repeat (first | (with_reducible first | exact HB9.out | apply below_alloc | apply pw_below_drewN | apply below_drew1) | exact HB9.out)))) (Kd.R_reads' (Kd.R_below HE9.out (by repeat (first | (with_reducible first | exact HB9.out | apply below_alloc | apply pw_below_drewN | apply below_drew1) | exact HB9.out)))).2.2 (Kd.R_reads' HE9.out).2.1 HST.out.tells).mono ?_; rintro e w10 ⟨rfl, hb⟩; have n0_ := AQ (below_step (by repeat (first | (with_reducible first | exact HB9.out | apply below_alloc | apply pw_below_drewN | apply below_drew1) | exact HB9.out)) hb); clear HB9 hb; have HB9 := n0_; clear n0_)
       | (go_at_call 14; refine (elimM_Rank.calls ⟨gc, 0, none⟩ [x] (L.length : Int) _ (Kd.R_reads' (HF9.out.step (by repeat (first | (with_reducible first | exact HB9.out | apply below_alloc | apply pw_below_drewN | apply below_drew1) | exact HB9.out))).cln).2.2 (by simp [elimM_Rank.f, rd_T74, HST.out.rank])).mono ?_; rintro e w11 ⟨rfl, ⟨nd2, rfl⟩⟩))
     go_wp2_with fail
     go_loopg [18] (y.f0.length + 1) (fun kq v18 w' => ∃ (j : Nat) (ys : List Int), v18 = .int .i64 (j : Int) ∧ Aside0 (kq + j = y.f0.length + 1 ∧ j ≤ y.f0.length ∧ ys.length = y.f0.length) ∧ Aside0 (Kd.R (Kd.int .u64) 35 w' w2.heap.size (fun k => k < w6.heap.size) (.slice AHV1 y.f0.length cHV1) ys) ∧ Aside0 (Kd.R (Kd.int .u8) 5 w' w2.heap.size (fun k => k < w6.heap.size) (.slice AHV2 y.f1.length cHV2) y.f1) ∧ Aside0 (PFy w w' (fun k => (G k ∧ k < wo.heap.size) ∨ w8.heap.size ≤ k) (fun k => wo.heap.size ≤ k ∧ k < w2.heap.size) (fun k => (((¬ G k ∧ k ≠ gw) ∧ k < wo.heap.size ∨ w6.heap.size ≤ k) ∧ k ≠ gy) ∧ k < w8.heap.size) gx gw gs cps gc cpc n b Aw L.length cw cl (.slice Al L'.length cL) x' x L') ∧ Aside0 (w'.heap[gy]? = some (.cells #[.int .i64 n, .int .i64 b, .slice Al L'.length cL, .bool cl'] 59 (0, 0))))
     case atStart => exact ⟨0, y.f0, rfl, ⟨by omega, by omega, rfl⟩, ⟨Kd.R_below HV5.out (by repeat (first | (with_reducible first | exact HB9.out | apply below_alloc | apply pw_below_drewN | apply below_drew1) | exact HB9.out))⟩, ⟨Kd.R_below HV6.out (by repeat (first | (with_reducible first | exact HB9.out | apply below_alloc | apply pw_below_drewN | apply below_drew1) | exact HB9.out))⟩, ⟨HF9.out.step (by repeat (first | (with_reducible first | exact HB9.out | apply below_alloc | apply pw_below_drewN | apply below_drew1) | exact HB9.out))⟩, ⟨blk_below HY9.out (by repeat (first | (with_reducible first | exact HB9.out | apply below_alloc | apply pw_below_drewN | apply below_drew1) | exact HB9.out))⟩⟩
     case round =>
      clear HV5 HV6 HF9 HY9 HB9 HE9 HS18
      obtain ⟨j, ys, rfl, HJ, HVA, HVB, HF9, HY9⟩ := hrel
      cases gk with
      | zero => exact absurd HJ.out.1 (by have := HJ.out.2.1; omega)
      | succ g2 =>
       by_cases hj : j < y.f0.length
       ·have hcj : decide ((j : Int) < (y.f0.length : Int)) = true := decide_eq_true (by omega)
        have hpj : (0 : Int) ≤ (j : Int) := by omega
        have hqj : (j : Int) < (y.f0.length : Int) := by omega
        have HLJ := AQ (show (j : Int) + 1 ≤ 140737488355328 by have h1_ := HST.out.l0; have h2_ := HST.out.l1; omega)
        obtain ⟨gr, cap, he, hbase, hlt5, cells, hcells⟩ := Kd.R_form HVA.out (by have := HJ.out.2.2; omega)
        injection he with ha hb hc
        subst ha
        obtain ⟨hx0, hf0⟩ := Kd.R_celln 0 HVA.out (j : Int) hpj hqj
        rw [Int.toNat_natCast] at hx0 hf0
        have HCL := AQ hcells
        have HBS := AQ hbase
        have HOK := AQ (HVA.out.1 gr rfl)
        have HJJ := AQ hj
        clear hcells hbase hlt5 hb hc hj
        go_wp2
        go_roundg g2
        case measure => have := HJ.out.1; omega
        case rel => exact ⟨j + 1, _, by rw [plays_wrap HLJ.out], ⟨by have := HJ.out; omega, by have := HJJ.out; omega, (List.length_set ..).trans HJ.out.2.2⟩, ⟨by (with_reducible repeat (first | apply Kd.R_drewN | apply Kd.R_drew)); have hp_ := Kd.R_putn HVA.out (j : Int) ?_; rw [Int.toNat_natCast] at hp_; exact hp_⟩, ⟨by (with_reducible repeat (first | apply Kd.R_drewN | apply Kd.R_drew)); exact Kd.R_set HVB.out HCL.out (by decide) _ _⟩, ⟨PFy.step (plays_flip HF9.out HBS.out HOK.out HI.out.below.size HN02.out HN68.out (blk_lt HI.out.bx) (blk_lt HI.out.bw) _ _) (by repeat (first | exact Below.refl _ _ | apply below_alloc | apply pw_below_drewN | apply below_drew1))⟩, ⟨by (with_reducible repeat (first | refine blk_drewN ?_ _ | refine blk_drew ?_)); exact blk_far (p := ⟨gr, j, none⟩) HY9.out (by have h1_ := HOK.out; have h2_ := HGY.out; show gy ≠ gr; omega) _⟩⟩
       ·have hcj : decide ((j : Int) < (y.f0.length : Int)) = false := decide_eq_false (by omega)
        go_wp2_with fail
        go_loopg [19] (y.f1.length + 1) (fun kq v19 w' => ∃ (j : Nat) (ys : List Int), v19 = .int .i64 (j : Int) ∧ Aside0 (kq + j = y.f1.length + 1 ∧ j ≤ y.f1.length ∧ ys.length = y.f1.length) ∧ Aside0 (Kd.R (Kd.int .u8) 5 w' w2.heap.size (fun k => k < w6.heap.size) (.slice AHV2 y.f1.length cHV2) ys) ∧ Aside0 (PFy w w' (fun k => (G k ∧ k < wo.heap.size) ∨ w8.heap.size ≤ k) (fun k => wo.heap.size ≤ k ∧ k < w2.heap.size) (fun k => (((¬ G k ∧ k ≠ gw) ∧ k < wo.heap.size ∨ w6.heap.size ≤ k) ∧ k ≠ gy) ∧ k < w8.heap.size) gx gw gs cps gc cpc n b Aw L.length cw cl (.slice Al L'.length cL) x' x L') ∧ Aside0 (w'.heap[gy]? = some (.cells #[.int .i64 n, .int .i64 b, .slice Al L'.length cL, .bool cl'] 59 (0, 0))))
        case atStart => exact ⟨0, y.f1, rfl, ⟨by omega, by omega, rfl⟩, ⟨by (with_reducible repeat (first | apply Kd.R_drewN | apply Kd.R_drew)); exact HVB.out⟩, ⟨PFy.step HF9.out (by repeat (first | exact Below.refl _ _ | apply below_alloc | apply pw_below_drewN | apply below_drew1))⟩, ⟨by (with_reducible repeat (first | refine blk_drewN ?_ _ | refine blk_drew ?_)); exact HY9.out⟩⟩
        case round =>
         clear HVA HVB HF9 HY9
         obtain ⟨j, ys, rfl, HJ, HVA, HF9, HY9⟩ := hrel
         cases gk with
         | zero => exact absurd HJ.out.1 (by have := HJ.out.2.1; omega)
         | succ g2 =>
          by_cases hj : j < y.f1.length
          ·have hcj : decide ((j : Int) < (y.f1.length : Int)) = true := decide_eq_true (by omega)
           have hpj : (0 : Int) ≤ (j : Int) := by omega
           have hqj : (j : Int) < (y.f1.length : Int) := by omega
           have HLJ := AQ (show (j : Int) + 1 ≤ 140737488355328 by have h1_ := HST.out.l0; have h2_ := HST.out.l1; omega)
           obtain ⟨gr, cap, he, hbase, hlt5, cells, hcells⟩ := Kd.R_form HVA.out (by have := HJ.out.2.2; omega)
           injection he with ha hb hc
           subst ha
           obtain ⟨hx0, hf0⟩ := Kd.R_celln 0 HVA.out (j : Int) hpj hqj
           rw [Int.toNat_natCast] at hx0 hf0
           have HCL := AQ hcells
           have HBS := AQ hbase
           have HOK := AQ (HVA.out.1 gr rfl)
           have HJJ := AQ hj
           clear hcells hbase hlt5 hb hc hj
           go_wp2
           go_roundg g2
           case measure => have := HJ.out.1; omega
           case rel => exact ⟨j + 1, _, by rw [plays_wrap HLJ.out], ⟨by have := HJ.out; omega, by have := HJJ.out; omega, (List.length_set ..).trans HJ.out.2.2⟩, ⟨by (with_reducible repeat (first | apply Kd.R_drewN | apply Kd.R_drew)); have hp_ := Kd.R_putn HVA.out (j : Int) ?_; rw [Int.toNat_natCast] at hp_; exact hp_⟩, ⟨PFy.step (plays_flip HF9.out HBS.out HOK.out HI.out.below.size HN02.out HN68.out (blk_lt HI.out.bx) (blk_lt HI.out.bw) _ _) (by repeat (first | exact Below.refl _ _ | apply below_alloc | apply pw_below_drewN | apply below_drew1))⟩, ⟨by (with_reducible repeat (first | refine blk_drewN ?_ _ | refine blk_drew ?_)); exact blk_far (p := ⟨gr, j, none⟩) HY9.out (by have h1_ := HOK.out; have h2_ := HGY.out; show gy ≠ gr; omega) _⟩⟩
          ·have hcj : decide ((j : Int) < (y.f1.length : Int)) = false := decide_eq_false (by omega)
           go_wp2_with fail
           obtain ⟨w10, hw10⟩ : ∃ W : World, W = wr := ⟨_, rfl⟩
           rw [← hw10] at HF9 HY9 ⊢
           clear hw10 HVA
           have HB10 := AQ (Below.refl w10.heap.size w10)
           obtain ⟨CB, ZL, hZL, hmk, hzc⟩ := make_u8 b HST.out.b0 HST.out.b1
           have HZC := AQ hzc
           have HAC := AQ (show elimM_Add.g k x p ZL = some (kc, ec, [xc]) by rw [hZL]; exact HST.out.addc)
           clear hzc hZL
           obtain ⟨ccs, cvk, cva, hsc⟩ := sys_at HF9.out.cln
           have HSC := AQ hsc
           clear hsc
           have HS28 := AQ (show w10.cell? ⟨gx, 0, none⟩ = some (.int .i64 n) ∧ w10.cell? ⟨gx, 1, none⟩ = some (.int .i64 b) from ⟨(blk_cell HF9.out.bx 0).trans rfl, (blk_cell HF9.out.bx 1).trans rfl⟩)
           go_region_held3 (fun w' => w'.cell? ⟨gx, 0, none⟩ = some (.int .i64 n) ∧ w'.cell? ⟨gx, 1, none⟩ = some (.int .i64 b))
            (first | exact ⟨(blk_cell HAD.out.2.1 0).trans rfl, (blk_cell HAD.out.2.1 1).trans rfl⟩ | exact s28_below HS28.out (by repeat (first | (with_reducible first | exact HB10.out | apply below_alloc | apply pw_below_drewN | apply below_drew1) | exact HB10.out)))
            (first
             | (go_at_call 26; refine (geyserref02_Pack.calls k _ _ [0] n p _ (lit1_C (by repeat (first | with_reducible exact blk_new1 _ _ _ | with_reducible exact blk_new _ _ | with_reducible exact HZ.out | with_reducible refine blk_drew ?_ | with_reducible refine blk_drewN ?_ _ | with_reducible refine blk_alloc ?_ _))) (Nat.le_refl _) HST.out.pack).mono ?_; rintro e w11 ⟨vp, rfl, hop, hb⟩; (first | have HZ := AQ (blk_below (blk_drew (blk_alloc (blk_new w10 (.cells CB 5)) (.cells #[.int .i64 0] 3))) hb) | have HZ := AQ (blk_below (blk_drew (blk_new1 w10 (.cells #[.int .i64 0] 3) (.cells CB 5))) hb) | skip); have HVP := AQ hop; have n0_ := AQ (below_step (by repeat (first | (with_reducible first | exact HB10.out | apply below_alloc | apply pw_below_drewN | apply below_drew1) | exact HB10.out)) hb); clear HB10 hb hop; have HB10 := n0_; clear n0_; have HB11 := AQ (Below.refl w11.heap.size w11); obtain ⟨Ap, cp, ep⟩ := Kd.R_slice HVP.out; subst ep)
             | (go_at_call 11; refine (elimM_Add.all k kc ec [xc] (w0 := w) (ok_ := fun k => wo.heap.size ≤ k ∧ k < w2.heap.size) ⟨TabIn.below HT.out (below_step HF9.out.below (by repeat (first | (with_reducible first | exact HB10.out | apply below_alloc | apply pw_below_drewN | apply below_drew1) | exact HB10.out))), below_step HF9.out.below (by repeat (first | (with_reducible first | exact HB10.out | apply below_alloc | apply pw_below_drewN | apply below_drew1) | exact HB10.out)), SysO.below HSC.out (by repeat (first | (with_reducible first | exact HB10.out | apply below_alloc | apply pw_below_drewN | apply below_drew1) | exact HB10.out)), (Kd.R_reads' (Kd.R_below HVP.out (by repeat (first | (with_reducible first | exact HB11.out | apply below_alloc | apply pw_below_drewN | apply below_drew1) | exact HB11.out)))).2.2, (Kd.R_reads' HVP.out).2.1, HZC.out _ _ (by repeat (first | with_reducible exact blk_new1 _ _ _ | with_reducible exact blk_new _ _ | with_reducible exact HZ.out | with_reducible refine blk_drew ?_ | with_reducible refine blk_drewN ?_ _ | with_reducible refine blk_alloc ?_ _)), Nat.le_refl _⟩ HAC.out).mono ?_; rintro e w12 ⟨ve2, rfl, hfe, hsx, hbw, hkp⟩; have HAD := AQ ((HF9.out.step (by repeat (first | (with_reducible first | exact HB10.out | apply below_alloc | apply pw_below_drewN | apply below_drew1) | exact HB10.out))).addc hkp hbw (fun k h_ g_ => by have h1_ := HN02.out; have h2_ := HN26.out; have h3_ := HN68.out; have h4_ := g_.1; have h5_ := g_.2; rcases h_ with h_ | h_ <;> omega) (fun k h_ g_ => by have h1_ := HN02.out; have h2_ := HN26.out; have h3_ := HN68.out; have h4_ := g_.1; have h5_ := g_.2; rcases h_.1.1 with h_ | h_ <;> omega)); have HY12 := AQ (blk_skept (blk_below HY9.out (by repeat (first | (with_reducible first | exact HB10.out | apply below_alloc | apply pw_below_drewN | apply below_drew1) | exact HB10.out))) hkp (by decide)); clear HB10 HB11 HVP hfe hsx hbw hkp HF9 HY9))
           all_goals
            clear hmk HSC HS28
            have hy0 : w12.cell? ⟨gy, 0, none⟩ = some (.int .i64 n) := (blk_cell HY12.out 0).trans rfl
            have hy1 : w12.cell? ⟨gy, 1, none⟩ = some (.int .i64 b) := (blk_cell HY12.out 1).trans rfl
            have hy2 : w12.cell? ⟨gy, 2, none⟩ = some (.slice Al L'.length cL) := (blk_cell HY12.out 2).trans rfl
            have hy3 : w12.cell? ⟨gy, 3, none⟩ = some (.bool cl') := (blk_cell HY12.out 3).trans rfl
            have hw0 : w12.cell? ⟨gw, 0, none⟩ = some (.int .i64 n) := (blk_cell HAD.out.2.2.1 0).trans rfl
            have hw1 : w12.cell? ⟨gw, 1, none⟩ = some (.int .i64 b) := (blk_cell HAD.out.2.2.1 1).trans rfl
            have hw2 : w12.cell? ⟨gw, 2, none⟩ = some (.slice Aw L.length cw) := (blk_cell HAD.out.2.2.1 2).trans rfl
            have hw3 : w12.cell? ⟨gw, 3, none⟩ = some (.bool cl) := (blk_cell HAD.out.2.2.1 3).trans rfl
            have hg0 := blk_frozen HAD.out.2.2.1 0
            have hg1 := blk_frozen HAD.out.2.2.1 1
            have hg2 := blk_frozen HAD.out.2.2.1 2
            have hg3 := blk_frozen HAD.out.2.2.1 3
            go_wp2_with fail
            obtain ⟨w13, hw13⟩ : ∃ W : World, W = ((((w12.setCell ⟨gw, 0, none⟩ (.int .i64 n)).setCell ⟨gw, 1, none⟩ (.int .i64 b)).setCell ⟨gw, 2, none⟩ (.slice Al L'.length cL)).setCell ⟨gw, 3, none⟩ (.bool cl')) := ⟨_, rfl⟩
            rw [← hw13]
            have HPH := AQ (show PHy w w13 (fun k => (G k ∧ k < wo.heap.size) ∨ w8.heap.size ≤ k) gx gw gs cps n b Al cL cl' x' L' by rw [hw13]; exact plays_head HAD.out (blk_lt HI.out.bw) HI.out.gwge HN02.out HN26.out HN68.out)
            clear hw13 hy0 hy1 hy2 hy3 hw0 hw1 hw2 hw3 hg0 hg1 hg2 hg3 HAD HY12
            go_at_call 27
            refine (plays_told HT.out HEI.out HPH.out HST.out.told).mono ?_
            rintro e w14 ⟨rfl, hb⟩
            have HB14 := AQ hb
            clear hb
            go_wp2_with fail
            go_roundg g1
            case measure => have := HKi.out.1; omega
            case rel => exact ⟨i + 1, x', L', cl', Al, cL, _, by rw [Int.natCast_add, Int.natCast_one], ⟨by have := HKi.out; omega, by have := HLT.out; omega⟩, ⟨HREST.out⟩, ⟨HPH.out.step (by repeat (first | (with_reducible first | exact HB14.out | apply below_alloc | apply pw_below_drewN | apply below_drew1) | exact HB14.out))⟩⟩
   ·have hb16 : ((decide ((i : Int) < (l.length : Int)) && decide ((i : Int) < 16))) = false := by have h_ := HM.out; rw [List.length_take] at h_; have := HKi.out.2; simp; omega
    have HB := AQ HI.out.below
    by_cases hc : (i : Int) < (l.length : Int)
    ·have hc1 : decide ((i : Int) < (l.length : Int)) = true := decide_eq_true hc
     have hc2 : decide ((i : Int) < 16) = false := by rw [hc1, Bool.true_and] at hb16; exact hb16
     have hn1 : i < l.length := by omega
     have hn2 : ¬ i < 16 := by have := of_decide_eq_false hc2; omega
     clear hb16 hc hlt
     go_wp2_with (((with_reducible refine gate_callee (f := 15) rfl ?_); refine goesL_ _ rfl rfl Tryd.func15 (by kernel_rfl) rfl #[] rfl (by (try simp only [List.map_toArray, List.map_cons, List.map_nil]); first | done | rfl) ?_; (refine (geyserlaw05_awake.calls k true _ (TabIn.below HT.out (PB HB)) HA.out).mono ?_); rintro e w99 ⟨rfl, hb⟩; refine ⟨_, rfl, ?_⟩; have n0_ := AQ (below_step (PB HB) hb); clear HB hb; have HB := n0_; clear n0_))
     go_ret
     exact ⟨rfl, PB HB⟩
    ·have hc1 : decide ((i : Int) < (l.length : Int)) = false := decide_eq_false hc
     have hn1 : ¬ i < l.length := by omega
     clear hb16 hc hlt
     go_wp2_with (((with_reducible refine gate_callee (f := 15) rfl ?_); refine goesL_ _ rfl rfl Tryd.func15 (by kernel_rfl) rfl #[] rfl (by (try simp only [List.map_toArray, List.map_cons, List.map_nil]); first | done | rfl) ?_; (refine (geyserlaw05_awake.calls k true _ (TabIn.below HT.out (PB HB)) HA.out).mono ?_); rintro e w99 ⟨rfl, hb⟩; refine ⟨_, rfl, ?_⟩; have n0_ := AQ (below_step (PB HB) hb); clear HB hb; have HB := n0_; clear n0_))
     go_ret
     exact ⟨rfl, PB HB⟩
end Go.Proofs.YtjmgkknbgffbjaaDoor.P
namespace Go.Proofs.YtjmgkknbgffbjaaDoor.Pure
open Go.RowKit Go.Proofs.YtjmgkknbgffbjaaDoor.P Go.Proofs.YtjmgkknbgffbjaaDoorW.PrintWords Go.Proofs.YtjmgkknbgffbjaaDoorW.PrintLast Go.Proofs.YtjmgkknbgffbjaaDoorW.PrintErr Go.Proofs.YtjmgkknbgffbjaaDoorW.PrintMore
set_option linter.unusedVariables false
set_option linter.unusedSimpArgs false
theorem w64s {x : Int} (h0 : -9223372036854775808 ≤ x) (h1 : x ≤ 9223372036854775807) : wrap64 x = x := by unfold wrap64; omega
theorem getD_mid (A B : List Int) (b : Int) : rd (A ++ b :: B) (A.length : Int) = b := by
  unfold rd
  rw [Int.toNat_natCast, List.getD_eq_getElem?_getD, List.getElem?_append_right (Nat.le_refl _)]
  simp
theorem rd_mid (A B : List Int) (b : Int) : rd (A ++ b :: B) (A.length : Int) = b := getD_mid A B b
theorem new_eqS (c : ByteArray) (n : Int) (h : n ≠ 0) : fault_New.f c n = some [⟨c, true, n⟩] := by unfold fault_New.f; rw [if_neg h]
def U64 (x : Int) : Prop := 0 ≤ x ∧ x < 18446744073709551616
def hasB (l : List Int) (c : Nat) : Bool := decide (c / 64 < l.length) && (l.getD (c / 64) 0).toNat.testBit (c % 64)
theorem getD_mem {l : List Int} {i : Nat} (h : i < l.length) : l.getD i 0 ∈ l := by
  rw [List.getD_eq_getElem?_getD, List.getElem?_eq_getElem h]
  exact List.getElem_mem h
theorem bit_eq (x : Int) (hx : U64 x) (j : Nat) (hj : j < 64) : (Go.bits .and .u64 (shr .u64 x (j : Int)) 1 == 1) = x.toNat.testBit j := by
  obtain ⟨n, rfl⟩ := Int.eq_ofNat_of_zero_le hx.1
  have hn : n < 18446744073709551616 := by have := hx.2; omega
  have e1 : shr .u64 (n : Int) (j : Int) = ((n / 2 ^ j : Nat) : Int) := by
    unfold shr
    rw [Int.toNat_natCast, show IntKind.u64.bits = 64 from rfl, Nat.min_eq_left (by omega)]
    push_cast
    rfl
  have e2 : n / 2 ^ j < 18446744073709551616 := Nat.lt_of_le_of_lt (Nat.div_le_self _ _) hn
  have e3 := bits_and_u64_nat (n / 2 ^ j) 1 e2 (by decide)
  rw [e1]
  have e4 : ((1 : Nat) : Int) = 1 := rfl
  rw [e4] at e3
  rw [e3, Int.toNat_natCast, Nat.testBit_eq_decide_div_mod_eq, Nat.and_one_is_mod]
  generalize n / 2 ^ j % 2 = b
  by_cases hb : b = 1
  · subst hb; rfl
  · have : ((b : Int) == 1) = false := by simp; omega
    rw [this, decide_eq_false hb]
theorem has_eq (l : List Int) (hl : ∀ x ∈ l, U64 x) (c : Nat) (hc : c < 9223372036854775807) : packed_Has.f l (c : Int) = some (hasB l c) := by
  unfold packed_Has.f hasB
  have e1 : Int.tdiv (c : Int) 64 = ((c / 64 : Nat) : Int) := by rw [Int.tdiv_eq_ediv_of_nonneg (by omega)]; rfl
  have e2 : Int.tmod (c : Int) 64 = ((c % 64 : Nat) : Int) := by rw [Int.tmod_eq_emod_of_nonneg (by omega)]; rfl
  have e3 : c / 64 ≤ c := Nat.div_le_self _ _
  rw [if_pos (by omega), e1, e2, w64s (by omega) (by omega)]
  by_cases h : c / 64 < l.length
  · rw [if_pos (by omega), if_pos (by omega), if_pos (by omega), decide_eq_true h, Bool.true_and]
    have e4 : rd l ((c / 64 : Nat) : Int) = l.getD (c / 64) 0 := by unfold rd; rw [Int.toNat_natCast]
    rw [e4, bit_eq _ (hl _ (getD_mem h)) _ (Nat.mod_lt _ (by decide))]
  · rw [if_neg (by omega), decide_eq_false h]; rfl
theorem wrap_u (a : Nat) (ha : a < 18446744073709551616) : IntKind.u64.wrap (a : Int) = (a : Int) := by rw [IntKind.wrap_u64]; omega
theorem refbit_eq (x : Int) (hx : U64 x) (j : Nat) (hj : j < 64) : geyserref02_Bit.f x (j : Int) = some (x.toNat.testBit j) := by
  obtain ⟨n, rfl⟩ := Int.eq_ofNat_of_zero_le hx.1
  unfold geyserref02_Bit.f
  rw [wrap_u j (by omega), if_pos (by omega)]
  have e1 : shr .u64 (n : Int) (j : Int) = ((n / 2 ^ j : Nat) : Int) := by
    unfold shr
    rw [Int.toNat_natCast, show IntKind.u64.bits = 64 from rfl, Nat.min_eq_left (by omega)]
    push_cast
    rfl
  have e2 : Int.tmod ((n / 2 ^ j : Nat) : Int) 2 = ((n / 2 ^ j % 2 : Nat) : Int) := by rw [Int.tmod_eq_emod_of_nonneg (Int.natCast_nonneg _)]; rfl
  rw [e1, e2, Int.toNat_natCast, Nat.testBit_eq_decide_div_mod_eq]
  generalize n / 2 ^ j % 2 = b
  by_cases hb : b = 1
  · subst hb; rfl
  · have : ((b : Int) == 1) = false := by simp; omega
    rw [this, decide_eq_false hb]
theorem hasB_big {l : List Int} {c : Nat} (h : 64 * l.length ≤ c) : hasB l c = false := by
  unfold hasB
  rw [decide_eq_false (by omega)]
  rfl
theorem refhas_nat (l : List Int) (hl : ∀ x ∈ l, U64 x) (hn : l.length ≤ 1000000) (c : Nat) : geyserref02_Has.f l (c : Int) = some (hasB l c) := by
  unfold geyserref02_Has.f
  rw [if_neg (by omega), w64s (x := 64 * (l.length : Int)) (by omega) (by omega)]
  by_cases h : (c : Int) ≥ 64 * (l.length : Int)
  · rw [if_pos h, hasB_big (by omega)]
  · have e1 : Int.tdiv (c : Int) 64 = ((c / 64 : Nat) : Int) := by rw [Int.tdiv_eq_ediv_of_nonneg (by omega)]; rfl
    have e2 : Int.tmod (c : Int) 64 = ((c % 64 : Nat) : Int) := by rw [Int.tmod_eq_emod_of_nonneg (by omega)]; rfl
    have e4 : rd l ((c / 64 : Nat) : Int) = l.getD (c / 64) 0 := by unfold rd; rw [Int.toNat_natCast]
    rw [if_neg h, e1, e2, w64s (by omega) (by omega), if_pos (by omega), if_pos (by omega), e4, refbit_eq _ (hl _ (getD_mem (by omega))) _ (Nat.mod_lt _ (by decide))]
    unfold hasB
    rw [decide_eq_true (show c / 64 < l.length by omega), Bool.true_and]
    rfl
def wxor (a b : Int) : Int := Go.bits .xor .u64 a b
def wv (a : Int) : BitVec 64 := BitVec.ofInt 64 a
theorem wxor_wv (a b : Int) : wxor a b = ((wv a ^^^ wv b).toNat : Int) := by
  unfold wxor Go.bits wv
  show IntKind.u64.wrap _ = _
  rw [IntKind.wrap_u64]
  have := (BitVec.ofInt 64 a ^^^ BitVec.ofInt 64 b).isLt
  show (((BitVec.ofInt 64 a ^^^ BitVec.ofInt 64 b).toNat : Int)) % 18446744073709551616 = ((BitVec.ofInt 64 a ^^^ BitVec.ofInt 64 b).toNat : Int)
  omega
theorem wxor_u64 (a b : Int) : U64 (wxor a b) := by
  rw [wxor_wv]
  have := (wv a ^^^ wv b).isLt
  exact ⟨by omega, by omega⟩
def xorW (a b : List Int) : List Int := List.zipWith wxor a b
theorem xorW_len (a b : List Int) (h : a.length = b.length) : (xorW a b).length = a.length := by simp [xorW, h]
theorem xorW_u64 (a b : List Int) : ∀ x ∈ xorW a b, U64 x := by
  intro x hx
  unfold xorW at hx
  obtain ⟨i, hi, rfl⟩ := List.mem_iff_getElem.1 hx
  rw [List.getElem_zipWith]
  exact wxor_u64 _ _
theorem xor_l0 (S : List Int) : ∀ (P Q T X Y : List Int), P.length = Q.length → X.length = P.length → T.length = S.length → Y.length = S.length → (P ++ S).length < 9223372036854775807 →
    Ev (fun k => packed_Xor.l0 k (P ++ S) (Q ++ T) (X ++ Y) ((P ++ S).length : Int) (P.length : Int)) (X ++ xorW S T, []) := by
  induction S with
  | nil =>
    intro P Q T X Y hPQ hX hT hY hP
    obtain rfl : T = [] := List.eq_nil_of_length_eq_zero (by simpa using hT)
    obtain rfl : Y = [] := List.eq_nil_of_length_eq_zero (by simpa using hY)
    have e : xorW [] [] = [] := rfl
    rw [e]
    refine Ev.step (f := fun _ => some (X ++ [], [])) (fun k => ?_) (Ev.now _)
    rw [packed_Xor.l0, if_neg (by simp)]
  | cons s S ih =>
    intro P Q T X Y hPQ hX hT hY hP
    obtain ⟨t, T, rfl⟩ : ∃ t T', T = t :: T' := by cases T with | nil => simp at hT | cons t T => exact ⟨t, T, rfl⟩
    obtain ⟨y, Y, rfl⟩ : ∃ t T', Y = t :: T' := by cases Y with | nil => simp at hY | cons t T => exact ⟨t, T, rfl⟩
    have h1 : (P ++ s :: S).length = P.length + (S.length + 1) := by simp
    have h2 : (Q ++ t :: T).length = P.length + (S.length + 1) := by simp at hT ⊢; omega
    have h3 : (X ++ y :: Y).length = P.length + (S.length + 1) := by simp at hY ⊢; omega
    have h' := ih (P ++ [s]) (Q ++ [t]) T (X ++ [wxor s t]) Y (by simp [hPQ]) (by simp [hX]) (by simpa using hT) (by simpa using hY) (by simpa using hP)
    have e1 : P ++ [s] ++ S = P ++ s :: S := by simp
    have e2 : Q ++ [t] ++ T = Q ++ t :: T := by simp
    have e3 : X ++ [wxor s t] ++ Y = X ++ wxor s t :: Y := by simp
    have e4 : X ++ [wxor s t] ++ xorW S T = X ++ xorW (s :: S) (t :: T) := by simp [xorW]
    have e5 : ((P ++ [s]).length : Int) = wrap64 ((P.length : Int) + 1) := by rw [w64s (by omega) (by omega)]; simp
    rw [e1, e2, e3, e4, e5] at h'
    refine Ev.step (fun k => ?_) h'
    have r1 : rd (P ++ s :: S) (P.length : Int) = s := rd_mid P S s
    have r2 : rd (Q ++ t :: T) (P.length : Int) = t := by rw [hPQ]; exact rd_mid Q T t
    have r3 : (X ++ y :: Y).set (P.length : Int).toNat (Go.bits .xor .u64 s t) = X ++ wxor s t :: Y := by
      rw [Int.toNat_natCast, ← hX, List.set_append_right _ _ (Nat.le_refl _), Nat.sub_self]; rfl
    rw [packed_Xor.l0, if_pos (by omega), if_pos (by omega), if_pos (by omega), if_pos (by omega), if_pos (by omega), r1, r2, r3]
theorem wxor_ev (a b : List Int) (h : a.length = b.length) (ha : a.length ≤ 1000000) : Ev (fun k => packed_Xor.f k a b) (xorW a b, []) := by
  unfold packed_Xor.f
  have hx := xor_l0 a [] [] b [] (List.replicate a.length 0) rfl rfl h.symm (by simp) (by simp; omega)
  refine Ev.congr (fun k => ?_) hx
  rw [if_pos (by omega), if_pos (by omega), if_pos (by omega), Int.toNat_natCast]
  simp only [Option.bind_some, List.nil_append, List.length_replicate, List.length_nil]
  rfl
theorem wxor_nat (a b : Int) (ha : U64 a) (hb : U64 b) : (wxor a b).toNat = a.toNat ^^^ b.toNat := by
  obtain ⟨n, rfl⟩ := Int.eq_ofNat_of_zero_le ha.1
  obtain ⟨m, rfl⟩ := Int.eq_ofNat_of_zero_le hb.1
  have h1 := ha.2
  have h2 := hb.2
  rw [wxor_wv]
  unfold wv
  rw [BitVec.ofInt_natCast, BitVec.ofInt_natCast, Int.toNat_natCast, Int.toNat_natCast, Int.toNat_natCast, BitVec.toNat_xor, BitVec.toNat_ofNat, BitVec.toNat_ofNat, Nat.mod_eq_of_lt (by omega), Nat.mod_eq_of_lt (by omega)]
theorem getD_zip (a b : List Int) (h : a.length = b.length) (i : Nat) (hi : i < a.length) : (xorW a b).getD i 0 = wxor (a.getD i 0) (b.getD i 0) := by
  unfold xorW
  simp only [List.getD_eq_getElem?_getD, List.getElem?_zipWith]
  rw [List.getElem?_eq_getElem hi, List.getElem?_eq_getElem (by omega)]
  rfl
theorem hasB_xor (a b : List Int) (h : a.length = b.length) (ha : ∀ x ∈ a, U64 x) (hb : ∀ x ∈ b, U64 x) (c : Nat) : hasB (xorW a b) c = (hasB a c != hasB b c) := by
  by_cases hc : c < 64 * a.length
  · have hi : c / 64 < a.length := by omega
    unfold hasB
    rw [xorW_len a b h, ← h, getD_zip a b h _ hi, wxor_nat _ _ (ha _ (getD_mem hi)) (hb _ (getD_mem (by omega))), Nat.testBit_xor, decide_eq_true hi, Bool.true_and, Bool.true_and, Bool.true_and]
  · rw [hasB_big (l := a) (by omega), hasB_big (l := b) (by omega), hasB_big (by rw [xorW_len a b h]; omega)]
    rfl
theorem ctz_bits (x : Nat) (h0 : x ≠ 0) (h1 : x < 2 ^ 64) : Lib.ctz 64 x < 64 ∧ x.testBit (Lib.ctz 64 x) = true ∧ ∀ j, j < Lib.ctz 64 x → x.testBit j = false := by
  unfold Lib.ctz
  rw [if_neg h0]
  obtain ⟨m, hm, ht⟩ := Lib.ctzFrom_spec 64 x (by omega) h1
  generalize Lib.ctzFrom 64 x = t at *
  subst hm
  refine ⟨ht, ?_, fun j hj => ?_⟩
  · rw [Nat.testBit_two_pow_mul, Nat.sub_self, Nat.testBit_zero]
    simp
  · rw [Nat.testBit_two_pow_mul, decide_eq_false (by omega)]
    rfl
def FirstIs (l : List Int) (r : Int) : Prop :=
  (r = -1 ∧ ∀ c, c < 64 * l.length → hasB l c = false) ∨ ∃ m : Nat, r = m ∧ m < 64 * l.length ∧ hasB l m = true ∧ ∀ c, c < m → hasB l c = false
theorem first_l0 (l : List Int) (hl : ∀ x ∈ l, U64 x) (hn : l.length ≤ 1000000) : ∀ d i : Nat, i + d = l.length → (∀ c, c < 64 * i → hasB l c = false) →
    ∃ r, Ev (fun k => packed_First.l0 k l (l.length : Int) (i : Int)) r ∧ FirstIs l r := by
  intro d
  induction d with
  | zero =>
    intro i hi hno
    refine ⟨-1, ?_, .inl ⟨rfl, fun c hc => hno c (by omega)⟩⟩
    refine Ev.step (f := fun _ => some (-1)) (fun k => ?_) (Ev.now _)
    rw [packed_First.l0, if_neg (by omega)]
  | succ d ih =>
    intro i hi hno
    have hr : rd l (i : Int) = l.getD i 0 := by unfold rd; rw [Int.toNat_natCast]
    have hu := hl _ (getD_mem (l := l) (i := i) (by omega))
    have hw : ∀ j, j < 64 → hasB l (64 * i + j) = (l.getD i 0).toNat.testBit j := by
      intro j hj
      unfold hasB
      rw [show (64 * i + j) / 64 = i by omega, show (64 * i + j) % 64 = j by omega, decide_eq_true (show i < l.length by omega), Bool.true_and]
    generalize l.getD i 0 = x at *
    by_cases h0 : x = 0
    · obtain ⟨r, hr', hf⟩ := ih (i + 1) (by omega) (fun c hc => by
        by_cases hc' : c < 64 * i
        · exact hno c hc'
        · have := hw (c - 64 * i) (by omega)
          rw [show 64 * i + (c - 64 * i) = c by omega, h0] at this
          rw [this]
          exact Nat.zero_testBit _)
      refine ⟨r, ?_, hf⟩
      have e2 : ((i + 1 : Nat) : Int) = wrap64 ((i : Int) + 1) := by rw [w64s (by omega) (by omega)]; simp
      rw [e2] at hr'
      refine Ev.step (fun k => ?_) hr'
      rw [packed_First.l0, if_pos (by omega), if_pos (by omega), if_pos (by omega), hr, if_pos h0]
    · have hx0 : x.toNat ≠ 0 := by have := hu.1; omega
      have hx1 : x.toNat < 2 ^ 64 := by have := hu.2; have := hu.1; omega
      obtain ⟨b1, b2, b3⟩ := ctz_bits x.toNat hx0 hx1
      refine ⟨((64 * i + Lib.ctz 64 x.toNat : Nat) : Int), ?_, .inr ⟨_, rfl, by omega, ?_, ?_⟩⟩
      · refine Ev.step (f := fun _ => some ((64 * i + Lib.ctz 64 x.toNat : Nat) : Int)) (fun k => ?_) (Ev.now _)
        have e3 : bits_TrailingZeros64.f x = some ((Lib.ctz 64 x.toNat : Nat) : Int) := by unfold bits_TrailingZeros64.f; rw [if_pos (show 0 ≤ x ∧ x < 18446744073709551616 from hu)]
        rw [packed_First.l0, if_pos (by omega), if_pos (by omega), if_pos (by omega), hr, if_neg h0, e3]
        simp only [Option.bind_some]
        rw [w64s (x := 64 * (i : Int)) (by omega) (by omega), w64s (by omega) (by omega)]
        simp
      · rw [hw _ b1]; exact b2
      · intro c hc
        by_cases hc' : c < 64 * i
        · exact hno c hc'
        · have := hw (c - 64 * i) (by omega)
          rw [show 64 * i + (c - 64 * i) = c by omega] at this
          rw [this]
          exact b3 _ (by omega)
theorem psize_eq (n : Int) (h0 : 0 ≤ n) (h1 : n ≤ 4096) : packed_Size.f n = some (((n.toNat + 63) / 64 : Nat) : Int) := by
  obtain ⟨m, rfl⟩ := Int.eq_ofNat_of_zero_le h0
  unfold packed_Size.f
  have e : wrap64 ((m : Int) + 63) = ((m + 63 : Nat) : Int) := w64s (by omega) (by omega)
  rw [if_neg (by omega), if_neg (by omega), e, Int.tdiv_eq_ediv_of_nonneg (by omega), w64s (by omega) (by omega), Int.toNat_natCast]
  rfl
def nW (n : Int) : Nat := (n.toNat + 63) / 64
def szR (n : Int) : Int := if n < 0 ∨ n > 4096 then 0 else (nW n : Int)
theorem rsz_l0 (m : Nat) (hm : m ≤ 4096) : ∀ d i : Nat, i + d = (m + 63) / 64 → Ev (fun k => geyserref02_Size.l0 k (m : Int) (i : Int)) (((m + 63) / 64 : Nat) : Int) := by
  intro d
  induction d with
  | zero =>
    intro i hi
    have : i = (m + 63) / 64 := by omega
    subst this
    refine Ev.step (f := fun _ => some _) (fun k => ?_) (Ev.now _)
    rw [geyserref02_Size.l0, w64s (by omega) (by omega), if_neg (by omega)]
  | succ d ih =>
    intro i hi
    refine Ev.step (fun k => ?_) (ih (i + 1) (by omega))
    rw [geyserref02_Size.l0, w64s (x := 64 * (i : Int)) (by omega) (by omega), if_pos (by omega), w64s (by omega) (by omega)]
    rfl
theorem rsz_ev (n : Int) : Ev (fun k => geyserref02_Size.f k n) (szR n) := by
  unfold geyserref02_Size.f szR
  by_cases h0 : n < 0
  · rw [if_pos (.inl h0)]
    refine Ev.step (f := fun _ => some 0) (fun k => ?_) (Ev.now _)
    rw [if_pos h0, geyserref02_Size.j0, if_pos rfl]
  · by_cases h1 : n > 4096
    · rw [if_pos (.inr h1)]
      refine Ev.step (f := fun _ => some 0) (fun k => ?_) (Ev.now _)
      rw [if_neg h0, decide_eq_true h1, geyserref02_Size.j0, if_pos rfl]
    · rw [if_neg (by omega)]
      obtain ⟨m, rfl⟩ := Int.eq_ofNat_of_zero_le (by omega : 0 ≤ n)
      have h := rsz_l0 m (by omega) ((m + 63) / 64) 0 (by omega)
      refine Ev.step (fun k => ?_) h
      rw [if_neg h0, decide_eq_false h1, geyserref02_Size.j0, if_neg (by decide)]
      rfl
def fstI (l : List Int) : Int := match (List.range (64 * l.length)).find? (hasB l) with
  | some c => (c : Int)
  | none => -1
theorem fstI_is (l : List Int) : FirstIs l (fstI l) := by
  unfold fstI FirstIs
  cases h : (List.range (64 * l.length)).find? (hasB l) with
  | none =>
    refine .inl ⟨rfl, fun c hc => ?_⟩
    have := List.find?_eq_none.1 h c (List.mem_range.2 hc)
    simpa using this
  | some m =>
    have h1 := List.find?_some h
    have h2 := List.mem_range.1 (List.mem_of_find?_eq_some h)
    refine .inr ⟨m, rfl, h2, h1, fun c hc => ?_⟩
    have h3 := (List.find?_range_eq_some.1 h).2.2 c hc
    simpa using h3
theorem FirstIs.uniq {l : List Int} {r s : Int} (h : FirstIs l r) (k : FirstIs l s) : r = s := by
  rcases h with ⟨rfl, h⟩ | ⟨m, rfl, h1, h2, h3⟩
  · rcases k with ⟨rfl, _⟩ | ⟨p, rfl, k1, k2, _⟩
    · rfl
    · rw [h p k1] at k2; cases k2
  · rcases k with ⟨rfl, k⟩ | ⟨p, rfl, k1, k2, k3⟩
    · rw [k m h1] at h2; cases h2
    · have : m = p := by
        rcases Nat.lt_trichotomy m p with c | c | c
        · rw [k3 m c] at h2; cases h2
        · exact c
        · rw [h3 p c] at k2; cases k2
      rw [this]
theorem fst_ev (l : List Int) (hl : ∀ x ∈ l, U64 x) (hn : l.length ≤ 1000000) : Ev (fun k => packed_First.f k l) (fstI l) := by
  obtain ⟨r, hr, hf⟩ := first_l0 l hl hn l.length 0 (by omega) (fun c hc => by omega)
  rw [(fstI_is l).uniq hf]
  exact hr
end Go.Proofs.YtjmgkknbgffbjaaDoor.Pure
namespace Go.Proofs.YtjmgkknbgffbjaaDoor.Pure
open Go.RowKit Go.Proofs.YtjmgkknbgffbjaaDoor.P Go.Proofs.YtjmgkknbgffbjaaDoorW.PrintWords Go.Proofs.YtjmgkknbgffbjaaDoorW.PrintLast Go.Proofs.YtjmgkknbgffbjaaDoorW.PrintErr Go.Proofs.YtjmgkknbgffbjaaDoorW.PrintMore
set_option linter.unusedVariables false
set_option linter.unusedSimpArgs false
def bxor (a b : Int) : Int := Go.bits .xor .u8 a b
def bvb (a : Int) : BitVec 8 := BitVec.ofInt 8 a
theorem bxor_bv (a b : Int) : bxor a b = ((bvb a ^^^ bvb b).toNat : Int) := by
  unfold bxor Go.bits bvb
  show IntKind.u8.wrap _ = _
  rw [IntKind.wrap_u8]
  have := (BitVec.ofInt 8 a ^^^ BitVec.ofInt 8 b).isLt
  show (((BitVec.ofInt 8 a ^^^ BitVec.ofInt 8 b).toNat : Int)) % 256 = ((BitVec.ofInt 8 a ^^^ BitVec.ofInt 8 b).toNat : Int)
  omega
theorem bxor_range (a b : Int) : 0 ≤ bxor a b ∧ bxor a b ≤ 255 := by
  rw [bxor_bv]
  have := (bvb a ^^^ bvb b).isLt
  omega
def addB (a b : List Int) : List Int := List.zipWith bxor a b
def sumB (x : List Int) (l : List (List Int)) : List Int := l.foldl addB x
theorem addB_length (a b : List Int) (h : b.length = a.length) : (addB a b).length = a.length := by simp [addB, h]
theorem set_mid (A B : List Int) (b c : Int) : (A ++ b :: B).set A.length c = (A ++ [c]) ++ B := by
  rw [List.set_append_right _ _ (Nat.le_refl _)]
  simp
theorem into_l1 (L : List (List Int)) (n i : Int) (s : List Int) (r : List Int) (hs : s.length < 9223372036854775807) : ∀ (D B A C : List Int), A.length = C.length → B.length = D.length → s = C ++ D →
    Ev (fun k => symbol_into.l0 k (A ++ addB B D) L n (wrap64 (i + 1))) r → Ev (fun k => symbol_into.l1 k (A ++ B) L n i s (s.length : Int) (A.length : Int)) r := by
  intro D
  induction D with
  | nil =>
    intro B A C hA hB hs' h
    obtain rfl := List.eq_nil_of_length_eq_zero (show B.length = 0 by simpa using hB)
    refine Ev.step (f := fun k => symbol_into.l0 k (A ++ addB [] []) L n (wrap64 (i + 1))) (fun k => ?_) h
    rw [symbol_into.l1, if_neg (by rw [hs']; simp; omega)]
    rfl
  | cons d D ih =>
    intro B A C hA hB hs' h
    match B, hB with
    | b :: B, hB =>
      have hB : B.length = D.length := by simpa using hB
      have hl : s.length = C.length + (D.length + 1) := by rw [hs']; simp
      have h' := ih B (A ++ [bxor b d]) (C ++ [d]) (by simp; omega) hB (by rw [hs']; simp) (by
        have e : A ++ [bxor b d] ++ addB B D = A ++ addB (b :: B) (d :: D) := by simp [addB]
        rw [e]; exact h)
      refine Ev.step (fun k => ?_) h'
      have e1 : rd s (A.length : Int) = d := by rw [hs', hA]; exact getD_mid C D d
      rw [symbol_into.l1, if_pos (by omega), if_pos (by omega), if_pos (by omega), if_pos (by simp; omega), getD_mid, e1, Int.toNat_natCast, set_mid, w64s (by omega) (by omega)]
      have e2 : ((A ++ [bxor b d]).length : Int) = (A.length : Int) + 1 := by simp
      show symbol_into.l1 k (A ++ [Go.bits .xor .u8 b d] ++ B) L n i s (s.length : Int) ((A.length : Int) + 1) = symbol_into.l1 k (A ++ [bxor b d] ++ B) L n i s (s.length : Int) ((A ++ [bxor b d]).length : Int)
      rw [e2]; rfl
theorem rd_row (P : List (List Int)) (s : List Int) (S : List (List Int)) : rd_Lsu8 (P ++ s :: S) (P.length : Int) = s := by
  unfold rd_Lsu8
  rw [Int.toNat_natCast, List.getD_eq_getElem?_getD, List.getElem?_append_right (Nat.le_refl _)]
  simp
theorem into_l0 (S : List (List Int)) : ∀ (P : List (List Int)) (x : List Int), (P ++ S).length < 9223372036854775807 → (∀ s ∈ S, s.length = x.length) → x.length < 9223372036854775807 →
    Ev (fun k => symbol_into.l0 k x (P ++ S) ((P ++ S).length : Int) (P.length : Int)) (sumB x S) := by
  induction S with
  | nil =>
    intro P x hP _ _
    refine Ev.step (f := fun _ => some x) (fun k => ?_) (Ev.now x)
    rw [symbol_into.l0, if_neg (by simp)]
  | cons s S ih =>
    intro P x hP hS hx
    have hs : s.length = x.length := hS s (by simp)
    have h1 := addB_length x s hs
    have h' := ih (P ++ [s]) (addB x s) (by simpa using hP) (fun t ht => by rw [h1]; exact hS t (by simp [ht])) (by rw [h1]; exact hx)
    have hl : (P ++ s :: S).length = P.length + (S.length + 1) := by simp
    have e1 : P ++ [s] ++ S = P ++ s :: S := by simp
    have e2 : ((P ++ [s]).length : Int) = wrap64 ((P.length : Int) + 1) := by rw [w64s (by omega) (by omega)]; simp
    rw [e1, e2] at h'
    have h2 := into_l1 (P ++ s :: S) ((P ++ s :: S).length : Int) (P.length : Int) s _ (by omega) s x [] [] rfl hs.symm rfl h'
    refine Ev.step (fun k => ?_) h2
    rw [symbol_into.l0, if_pos (by omega), if_pos (by omega), if_pos (by omega), rd_row]
    rfl
theorem into_ev (x : List Int) (l : List (List Int)) (hl : l.length < 9223372036854775807) (h : ∀ s ∈ l, s.length = x.length) (hx : x.length < 9223372036854775807) : Ev (fun k => symbol_into.f k x l) (sumB x l) := by
  have := into_l0 l [] x (by simpa using hl) h hx
  exact this
def zeros (n : Int) : List Int := List.replicate n.toNat 0
def allZero (l : List Int) : Bool := l.all (· == 0)
theorem zero_l0 (S : List Int) : ∀ P : List Int, (P ++ S).length < 9223372036854775807 → Ev (fun k => symbol_Zero.l0 k (P ++ S) ((P ++ S).length : Int) (P.length : Int)) (allZero S) := by
  induction S with
  | nil =>
    intro P hP
    refine Ev.step (f := fun _ => some true) (fun k => ?_) (Ev.now _)
    rw [symbol_Zero.l0, if_neg (by simp)]
  | cons s S ih =>
    intro P hP
    have hl : (P ++ s :: S).length = P.length + (S.length + 1) := by simp
    by_cases hs : s = 0
    · have h' := ih (P ++ [s]) (by simpa using hP)
      have e1 : P ++ [s] ++ S = P ++ s :: S := by simp
      have e2 : ((P ++ [s]).length : Int) = wrap64 ((P.length : Int) + 1) := by rw [w64s (by omega) (by omega)]; simp
      have e3 : allZero (s :: S) = allZero S := by simp [allZero, hs]
      rw [e1, e2] at h'
      rw [e3]
      refine Ev.step (fun k => ?_) h'
      rw [symbol_Zero.l0, if_pos (by omega), if_pos (by omega), if_pos (by omega), rd_mid, if_pos hs]
    · have e3 : allZero (s :: S) = false := by simp [allZero, hs]
      rw [e3]
      refine Ev.step (f := fun _ => some false) (fun k => ?_) (Ev.now _)
      rw [symbol_Zero.l0, if_pos (by omega), if_pos (by omega), if_pos (by omega), rd_mid, if_neg hs]
theorem zero_ev (l : List Int) (hl : l.length < 9223372036854775807) : Ev (fun k => symbol_Zero.f k l) (allZero l) := by
  have := zero_l0 l [] (by simpa using hl)
  exact this
def xorName : ByteArray := ⟨#[115, 121, 109, 98, 111, 108, 46, 88, 111, 114]⟩
theorem copyL_self (n : Nat) (l : List Int) (h : l.length = n) : copyL (List.replicate n 0) l = l := by
  unfold copyL
  rw [List.length_replicate, List.take_of_length_le (by omega), List.drop_eq_nil_of_le (by simp; omega), List.append_nil]
def xorR (a b : List Int) : List Int × List FE := if a.length = b.length then (addB a b, []) else ([], [⟨xorName, true, 2⟩])
theorem xor_ev (a b : List Int) (ha : a.length ≤ 281474976710656) : Ev (fun k => symbol_Xor.f k a b) (xorR a b) := by
  unfold symbol_Xor.f xorR
  by_cases h : a.length = b.length
  · rw [if_pos h]
    have hi := into_ev a [b] (by simp) (by simp [h]) (by omega)
    refine Ev.congr (fun k => ?_) (Ev.bind (f := fun _ t => some (t, ([] : List FE))) hi (Ev.now _))
    rw [if_pos (by omega), if_pos (by omega), if_pos (by omega), Int.toNat_natCast, copyL_self _ _ rfl]
  · rw [if_neg h]
    refine Ev.congr (fun k => ?_) (Ev.now _)
    rw [if_neg (by omega), new_eqS _ 2 (by decide)]
    rfl
end Go.Proofs.YtjmgkknbgffbjaaDoor.Pure
namespace Go.Proofs.YtjmgkknbgffbjaaDoor.Pure
open Go.RowKit Go.Proofs.YtjmgkknbgffbjaaDoor.P Go.Proofs.YtjmgkknbgffbjaaDoorW.PrintWords Go.Proofs.YtjmgkknbgffbjaaDoorW.PrintLast Go.Proofs.YtjmgkknbgffbjaaDoorW.PrintErr Go.Proofs.YtjmgkknbgffbjaaDoorW.PrintMore Go.Proofs.YtjmgkknbgffbjaaDoor.Lin
set_option linter.unusedVariables false
set_option linter.unusedSimpArgs false
structure RowOK (n : Nat) (r : List Int) : Prop where
  len : r.length = nW (n : Int)
  u : ∀ x ∈ r, U64 x
  hi : ∀ c, n ≤ c → hasB r c = false
structure SymOK (m : Nat) (s : List Int) : Prop where
  len : s.length = m
  b : ∀ x ∈ s, 0 ≤ x ∧ x ≤ 255
def byB (s : List Int) (p : Nat) : Bool := (s.getD (p / 8) 0).toNat.testBit (p % 8)
def J (n : Nat) (r s : List Int) : V := fun c => if c < n then hasB r c else byB s (c - n)
theorem bvb_toNat {a : Int} (h0 : 0 ≤ a) (h1 : a ≤ 255) : (bvb a).toNat = a.toNat := by
  unfold bvb
  rw [BitVec.toNat_ofInt]
  congr 1
  show a % 256 = a
  omega
theorem bxor_test {a b : Int} (ha : 0 ≤ a ∧ a ≤ 255) (hb : 0 ≤ b ∧ b ≤ 255) (j : Nat) : (bxor a b).toNat.testBit j = (a.toNat.testBit j != b.toNat.testBit j) := by
  rw [bxor_bv, Int.toNat_natCast, BitVec.toNat_xor, bvb_toNat ha.1 ha.2, bvb_toNat hb.1 hb.2, Nat.testBit_xor]
theorem getD_rng {s : List Int} (h : ∀ x ∈ s, 0 ≤ x ∧ x ≤ 255) (i : Nat) : 0 ≤ s.getD i 0 ∧ s.getD i 0 ≤ 255 := by
  by_cases hi : i < s.length
  · rw [List.getD_eq_getElem?_getD, List.getElem?_eq_getElem hi]
    exact h _ (List.getElem_mem hi)
  · rw [List.getD_eq_getElem?_getD, List.getElem?_eq_none (by omega)]
    exact ⟨Int.le_refl _, by decide⟩
theorem getD_addB (s t : List Int) (h : t.length = s.length) (i : Nat) : (addB s t).getD i 0 = bxor (s.getD i 0) (t.getD i 0) := by
  by_cases hi : i < s.length
  · have h2 : i < t.length := by omega
    have h3 : i < (addB s t).length := by rw [addB_length s t h]; exact hi
    rw [List.getD_eq_getElem?_getD, List.getElem?_eq_getElem h3, List.getD_eq_getElem?_getD, List.getElem?_eq_getElem hi, List.getD_eq_getElem?_getD, List.getElem?_eq_getElem h2]
    simp [addB]
  · rw [List.getD_eq_getElem?_getD, List.getElem?_eq_none (by rw [addB_length s t h]; omega), List.getD_eq_getElem?_getD, List.getElem?_eq_none (by omega), List.getD_eq_getElem?_getD, List.getElem?_eq_none (by omega)]
    decide
theorem byB_add {m : Nat} {s t : List Int} (hs : SymOK m s) (ht : SymOK m t) (p : Nat) : byB (addB s t) p = (byB s p != byB t p) := by
  unfold byB
  rw [getD_addB s t (by rw [hs.len, ht.len]), bxor_test (getD_rng hs.b _) (getD_rng ht.b _)]
theorem RowOK.xor {n : Nat} {r s : List Int} (h : RowOK n r) (k : RowOK n s) : RowOK n (xorW r s) :=
  ⟨by rw [xorW_len r s (by rw [h.len, k.len]), h.len], xorW_u64 r s, fun c hc => by rw [hasB_xor r s (by rw [h.len, k.len]) h.u k.u, h.hi c hc, k.hi c hc]; rfl⟩
theorem SymOK.add {m : Nat} {s t : List Int} (h : SymOK m s) (k : SymOK m t) : SymOK m (addB s t) :=
  ⟨by rw [addB_length s t (by rw [h.len, k.len]), h.len], fun x hx => by
    unfold addB at hx
    rw [List.mem_iff_getElem] at hx
    obtain ⟨i, hi, rfl⟩ := hx
    simp only [List.getElem_zipWith]
    exact bxor_range _ _⟩
theorem J_add {n m : Nat} {r s r' s' : List Int} (hr : RowOK n r) (hs : SymOK m s) (hr' : RowOK n r') (hs' : SymOK m s') : J n (xorW r r') (addB s s') = vx (J n r s) (J n r' s') := by
  funext c
  show (if c < n then hasB (xorW r r') c else byB (addB s s') (c - n)) = ((if c < n then hasB r c else byB s (c - n)) != (if c < n then hasB r' c else byB s' (c - n)))
  by_cases hc : c < n
  · rw [if_pos hc, if_pos hc, if_pos hc, hasB_xor r r' (by rw [hr.len, hr'.len]) hr.u hr'.u]
  · rw [if_neg hc, if_neg hc, if_neg hc, byB_add hs hs']
structure SI (x : S74) (n m : Nat) : Prop where
  n1 : 1 ≤ n
  n2 : n ≤ 4096
  m1 : 1 ≤ m
  m2 : m ≤ 64
  f0 : x.f0 = (n : Int)
  f1 : x.f1 = (m : Int)
  alen : x.f3.length = n
  kept : ∀ e ∈ x.f2, RowOK n e.f0 ∧ SymOK m e.f1
  at_ : ∀ c, c < n → rd x.f3 (c : Int) = -1 ∨ ∃ i : Nat, i < x.f2.length ∧ rd x.f3 (c : Int) = (i : Int) ∧ hasB (rd_T77 x.f2 (i : Int)).f0 c = true ∧ ∀ c', c' < c → hasB (rd_T77 x.f2 (i : Int)).f0 c' = false
def KV (n : Nat) (x : S74) : List V := x.f2.map fun e => J n e.f0 e.f1
theorem rd77_mem {l : List S77} {i : Nat} (h : i < l.length) : rd_T77 l (i : Int) ∈ l := by
  unfold rd_T77
  rw [Int.toNat_natCast, List.getD_eq_getElem?_getD, List.getElem?_eq_getElem h]
  exact List.getElem_mem h
theorem hd_sys (x : S74) : rd_T74 [x] 0 = x := rfl
def DI (x : S74) (c : Nat) (row : List Int) (first : Int) : Prop :=
  (∀ c', c' < c → 0 ≤ rd x.f3 (c' : Int) → hasB row c' = false) ∧ ((first = -1 ∧ ∀ c', c' < c → hasB row c' = false) ∨ ∃ c0 : Nat, first = (c0 : Int) ∧ c0 < c ∧ rd x.f3 (c0 : Int) < 0 ∧ hasB row c0 = true ∧ ∀ c', c' < c0 → hasB row c' = false)
theorem nW_pos {n : Nat} (h : n ≤ 4096) : nW (n : Int) ≤ 64 := by unfold nW; rw [Int.toNat_natCast]; omega
theorem down_l0 {x : S74} {n m : Nat} (hI : SI x n m) : ∀ (d c : Nat) (row sym : List Int) (first : Int), c + d = n → RowOK n row → SymOK m sym → DI x c row first →
    ∃ row' sym' first', Ev (fun k => elimM_down.l0 k [x] first (c : Int) row sym) (row', sym', first') ∧ RowOK n row' ∧ SymOK m sym' ∧ Sp (KV n x) (vx (J n row sym) (J n row' sym')) ∧ DI x n row' first' := by
  have hn2 := hI.n2
  intro d
  induction d with
  | zero =>
    intro c row sym first hc hr hs hD
    obtain rfl : c = n := by omega
    refine ⟨row, sym, first, ?_, hr, hs, by rw [vx_self]; exact Sp.zero, hD⟩
    refine Ev.step (f := fun k => elimM_down.j1 k [x] first (c : Int) false row sym) (fun k => ?_) (Ev.step (f := fun _ => some (row, sym, first)) (fun k => ?_) (Ev.now _))
    · rw [elimM_down.l0, if_pos (show (c : Int) ≥ 0 by omega), if_pos (by simp), hd_sys, hI.f0, show decide ((c : Int) < (c : Int)) = false from decide_eq_false (by omega)]
    · rw [elimM_down.j1, if_neg (by decide)]
  | succ d ih =>
    intro c row sym first hc hr hs hD
    have hcn : c < n := by omega
    have hw : wrap64 ((c : Int) + 1) = ((c + 1 : Nat) : Int) := by rw [w64s (by omega) (by omega)]; rfl
    have hh := has_eq row hr.u c (by omega)
    have go1 : ∀ {r}, Ev (fun k => elimM_down.j1 k [x] first (c : Int) true row sym) r → Ev (fun k => elimM_down.l0 k [x] first (c : Int) row sym) r := fun h => Ev.step (fun k => by
      rw [elimM_down.l0, if_pos (show (c : Int) ≥ 0 by omega), if_pos (by simp), hd_sys, hI.f0, show decide ((c : Int) < (n : Int)) = true from decide_eq_true (by omega)]) h
    by_cases hb : hasB row c = true
    · rw [hb] at hh
      rcases hI.at_ c hcn with ha | ⟨i, hi, ha, hk1, hk2⟩
      · -- none begins here
        by_cases hf : first < 0
        · have hf0 : ∀ c', c' < c → hasB row c' = false := by
            rcases hD.2 with ⟨_, h⟩ | ⟨c0, e, _⟩
            · exact h
            · omega
          obtain ⟨row', sym', first', he, h1, h2, h3, h4⟩ := ih (c + 1) row sym (c : Int) (by omega) hr hs ⟨fun c' hc' h0 => by
            by_cases e : c' = c
            · subst e; omega
            · exact hD.1 c' (by omega) h0, .inr ⟨c, rfl, by omega, by rw [ha]; omega, hb, hf0⟩⟩
          refine ⟨row', sym', first', go1 (Ev.step (fun k => ?_) he), h1, h2, h3, h4⟩
          rw [elimM_down.j1, if_pos rfl, hh]
          simp only [Option.bind_some, if_true]
          rw [if_pos (by simp), if_pos (by omega), hd_sys, hI.alen, if_pos (by omega), ha, if_pos (by omega), if_pos hf, hw]
        · obtain ⟨c0, e0, h0, h1, h2, h3⟩ : ∃ c0 : Nat, first = (c0 : Int) ∧ c0 < c ∧ rd x.f3 (c0 : Int) < 0 ∧ hasB row c0 = true ∧ ∀ c', c' < c0 → hasB row c' = false := by
            rcases hD.2 with ⟨e, _⟩ | h
            · omega
            · exact h
          obtain ⟨row', sym', first', he, g1, g2, g3, g4⟩ := ih (c + 1) row sym first (by omega) hr hs ⟨fun c' hc' h0 => by
            by_cases e : c' = c
            · subst e; omega
            · exact hD.1 c' (by omega) h0, .inr ⟨c0, e0, by omega, h1, h2, h3⟩⟩
          refine ⟨row', sym', first', go1 (Ev.step (fun k => ?_) he), g1, g2, g3, g4⟩
          rw [elimM_down.j1, if_pos rfl, hh]
          simp only [Option.bind_some, if_true]
          rw [if_pos (by simp), if_pos (by omega), hd_sys, hI.alen, if_pos (by omega), ha, if_pos (by omega), if_neg hf, hw]
      · -- one begins here
        have hmem := rd77_mem hi
        obtain ⟨ro, so⟩ := hI.kept _ hmem
        have hnw := nW_pos hn2
        have hm2 := hI.m2
        have x1 := wxor_ev row (rd_T77 x.f2 (i : Int)).f0 (by rw [hr.len, ro.len]) (by rw [hr.len]; omega)
        have x2 := xor_ev sym (rd_T77 x.f2 (i : Int)).f1 (by rw [hs.len]; omega)
        have e2 : xorR sym (rd_T77 x.f2 (i : Int)).f1 = (addB sym (rd_T77 x.f2 (i : Int)).f1, []) := by unfold xorR; rw [if_pos (by rw [hs.len, so.len])]
        rw [e2] at x2
        have low : ∀ c', c' < c → hasB (xorW row (rd_T77 x.f2 (i : Int)).f0) c' = hasB row c' := fun c' hc' => by
          rw [hasB_xor row _ (by rw [hr.len, ro.len]) hr.u ro.u, hk2 c' hc']; cases hasB row c' <;> rfl
        have own : hasB (xorW row (rd_T77 x.f2 (i : Int)).f0) c = false := by
          rw [hasB_xor row _ (by rw [hr.len, ro.len]) hr.u ro.u, hb, hk1]; rfl
        obtain ⟨row', sym', first', he, g1, g2, g3, g4⟩ := ih (c + 1) (xorW row (rd_T77 x.f2 (i : Int)).f0) (addB sym (rd_T77 x.f2 (i : Int)).f1) first (by omega) (hr.xor ro) (hs.add so) ⟨fun c' hc' h0 => by
          by_cases e : c' = c
          · subst e; exact own
          · rw [low c' (by omega)]; exact hD.1 c' (by omega) h0, by
          rcases hD.2 with ⟨e, h⟩ | ⟨c0, e0, h0, h1, h2, h3⟩
          · exact .inl ⟨e, fun c' hc' => by
              by_cases e : c' = c
              · subst e; exact own
              · rw [low c' (by omega)]; exact h c' (by omega)⟩
          · exact .inr ⟨c0, e0, by omega, h1, by rw [low c0 h0]; exact h2, fun c' hc' => by rw [low c' (by omega)]; exact h3 c' hc'⟩⟩
        refine ⟨row', sym', first', go1 ?_, g1, g2, ?_, g4⟩
        · refine Ev.step (f := fun k => (packed_Xor.f k row (rd_T77 x.f2 (i : Int)).f0).bind fun bt183 => ((symbol_Xor.f k sym (rd_T77 x.f2 (i : Int)).f1).bind fun bt189 => elimM_down.l0 k [x] first ((c + 1 : Nat) : Int) bt183.1 bt189.1)) (fun k => ?_) (Ev.bind x1 (Ev.bind x2 he))
          rw [elimM_down.j1, if_pos rfl, hh]
          simp only [Option.bind_some, if_true]
          rw [if_pos (by simp), if_pos (by omega), hd_sys, hI.alen, if_pos (by omega), ha, if_neg (by omega), if_pos (by omega), if_pos (by omega), hw]
        · have e3 : vx (J n row sym) (J n row' sym') = vx (J n (rd_T77 x.f2 (i : Int)).f0 (rd_T77 x.f2 (i : Int)).f1) (vx (J n (xorW row (rd_T77 x.f2 (i : Int)).f0) (addB sym (rd_T77 x.f2 (i : Int)).f1)) (J n row' sym')) := by
            rw [J_add hr hs ro so, ← vx_assoc, ← vx_assoc, vx_comm (J n _ _) (J n row sym), vx_assoc (J n row sym), vx_self, vx_zero]
          rw [e3]
          exact Sp.add (List.mem_map_of_mem hmem) g3
    · have hb' : hasB row c = false := by simpa using hb
      rw [hb'] at hh
      obtain ⟨row', sym', first', he, h1, h2, h3, h4⟩ := ih (c + 1) row sym first (by omega) hr hs ⟨fun c' hc' h0 => by
        by_cases e : c' = c
        · subst e; exact hb'
        · exact hD.1 c' (by omega) h0, by
        rcases hD.2 with ⟨e, h⟩ | ⟨c0, e0, h0, h1, h2, h3⟩
        · exact .inl ⟨e, fun c' hc' => by
            by_cases e : c' = c
            · subst e; exact hb'
            · exact h c' (by omega)⟩
        · exact .inr ⟨c0, e0, by omega, h1, h2, h3⟩⟩
      refine ⟨row', sym', first', go1 (Ev.step (fun k => ?_) he), h1, h2, h3, h4⟩
      rw [elimM_down.j1, if_pos rfl, hh]
      simp only [Option.bind_some, Bool.false_eq_true, if_false]
      rw [hw]
theorem down_ev {x : S74} {n m : Nat} (hI : SI x n m) {row sym : List Int} (hr : RowOK n row) (hs : SymOK m sym) :
    ∃ row' sym' first', Ev (fun k => elimM_down.f k [x] row sym) (row', sym', first') ∧ RowOK n row' ∧ SymOK m sym' ∧ Sp (KV n x) (vx (J n row sym) (J n row' sym')) ∧ DI x n row' first' := by
  have hnw := nW_pos hI.n2
  have hm2 := hI.m2
  have hf := fst_ev row hr.u (by rw [hr.len]; omega)
  have key : ∀ {r}, Ev (fun k => elimM_down.l0 k [x] (-1) (fstI row) row sym) r → Ev (fun k => elimM_down.f k [x] row sym) r := fun h => by
    refine Ev.congr (f := fun k => (packed_First.f k row).bind fun t => elimM_down.l0 k [x] (-1) t row sym) (fun k => ?_) (Ev.bind hf h)
    unfold elimM_down.f
    simp only [Option.bind_some, List.nil_append, List.length_nil, Nat.zero_add]
    rw [if_pos (by rw [hr.len]; omega), if_pos (by rw [hs.len]; omega)]
  rcases fstI_is row with ⟨e0, h1⟩ | ⟨c0, e0, h1, h2, h3⟩
  · have hz : ∀ c, hasB row c = false := fun c => by
      by_cases hc : c < 64 * row.length
      · exact h1 c hc
      · exact hasB_big (by omega)
    refine ⟨row, sym, -1, key ?_, hr, hs, by rw [vx_self]; exact Sp.zero, fun c _ _ => hz c, .inl ⟨rfl, fun c _ => hz c⟩⟩
    rw [e0]
    refine Ev.step (f := fun k => elimM_down.j1 k [x] (-1) (-1) false row sym) (fun k => ?_) (Ev.step (f := fun _ => some (row, sym, -1)) (fun k => ?_) (Ev.now _))
    · rw [elimM_down.l0, if_neg (by omega)]
    · rw [elimM_down.j1, if_neg (by decide)]
  · have hc0 : c0 < n := by
      rcases Nat.lt_or_ge c0 n with h | h
      · exact h
      · rw [hr.hi c0 h] at h2; cases h2
    obtain ⟨row', sym', first', he, g⟩ := down_l0 hI (n - c0) c0 row sym (-1) (by omega) hr hs ⟨fun c hc _ => h3 c hc, .inl ⟨rfl, h3⟩⟩
    rw [← e0] at he
    exact ⟨row', sym', first', key he, g⟩
def noneFrom (row : List Int) (c d : Nat) : Bool := (List.range' c d).all fun c => !hasB row c
def wokB (row : List Int) (n : Int) : Bool := decide (row.length = nW n) && noneFrom row n.toNat (64 * row.length - n.toNat)
theorem noneFrom_iff (row : List Int) (c d : Nat) : noneFrom row c d = true ↔ ∀ e, c ≤ e → e < c + d → hasB row e = false := by
  unfold noneFrom
  rw [List.all_eq_true]
  constructor
  · intro h e h1 h2
    have := h e (List.mem_range'_1.2 ⟨h1, h2⟩)
    simpa using this
  · intro h e he
    obtain ⟨h1, h2⟩ := List.mem_range'_1.1 he
    simp [h e h1 h2]
theorem wokB_iff (row : List Int) (n : Int) (h0 : 0 ≤ n) : wokB row n = true ↔ row.length = nW n ∧ ∀ c : Nat, n ≤ c → hasB row c = false := by
  unfold wokB
  rw [Bool.and_eq_true, decide_eq_true_iff, noneFrom_iff]
  constructor
  · rintro ⟨h1, h2⟩
    refine ⟨h1, fun c hc => ?_⟩
    by_cases hl : c < 64 * row.length
    · exact h2 c (by omega) (by omega)
    · exact hasB_big (by omega)
  · rintro ⟨h1, h2⟩
    exact ⟨h1, fun e h3 h4 => h2 e (by omega)⟩
theorem rwhole_l0 (row : List Int) (hl : ∀ x ∈ row, U64 x) (hn : row.length ≤ 1000000) : ∀ d c : Nat, c + d = 64 * row.length → Ev (fun k => geyserref03_Whole.l0 k row (c : Int)) (noneFrom row c d) := by
  intro d
  induction d with
  | zero =>
    intro c hc
    refine Ev.step (f := fun _ => some true) (fun k => ?_) (Ev.now _)
    rw [geyserref03_Whole.l0, w64s (by omega) (by omega), if_neg (by omega)]
  | succ d ih =>
    intro c hc
    have e2 : wrap64 ((c : Int) + 1) = ((c + 1 : Nat) : Int) := by rw [w64s (by omega) (by omega)]; rfl
    have e3 : noneFrom row c (d + 1) = (!hasB row c && noneFrom row (c + 1) d) := by unfold noneFrom; rw [List.range'_succ]; rfl
    rw [e3]
    cases hb : hasB row c
    · rw [Bool.not_false, Bool.true_and]
      refine Ev.step (fun k => ?_) (ih (c + 1) (by omega))
      rw [geyserref03_Whole.l0, w64s (x := 64 * (row.length : Int)) (by omega) (by omega), if_pos (by omega), refhas_nat row hl hn c, hb, e2]
      simp
    · rw [Bool.not_true, Bool.false_and]
      refine Ev.step (f := fun _ => some false) (fun k => ?_) (Ev.now _)
      rw [geyserref03_Whole.l0, w64s (x := 64 * (row.length : Int)) (by omega) (by omega), if_pos (by omega), refhas_nat row hl hn c, hb]
      simp
theorem szR_in {n : Int} (h0 : 0 ≤ n) (h1 : n ≤ 4096) : szR n = (nW n : Int) := by unfold szR; rw [if_neg (by omega)]
theorem rwhole_ev (row : List Int) (n : Int) (hl : ∀ x ∈ row, U64 x) (h0 : 0 ≤ n) (h1 : n ≤ 4096) : Ev (fun k => geyserref03_Whole.f k row n) (wokB row n) := by
  unfold geyserref03_Whole.f
  have hs := rsz_ev n
  rw [szR_in h0 h1] at hs
  refine Ev.bind hs ?_
  by_cases c : row.length = nW n
  · have hw : nW n ≤ 64 := by unfold nW; omega
    have hle : n.toNat ≤ 64 * row.length := by rw [c]; unfold nW; omega
    have h := rwhole_l0 row hl (by omega) (64 * row.length - n.toNat) n.toNat (by omega)
    have e : wokB row n = noneFrom row n.toNat (64 * row.length - n.toNat) := by unfold wokB; rw [decide_eq_true c, Bool.true_and]
    rw [e]
    rw [Int.toNat_of_nonneg h0] at h
    refine Ev.congr (fun k => ?_) h
    rw [if_pos (by omega)]
  · have e : wokB row n = false := by unfold wokB; rw [decide_eq_false c, Bool.false_and]
    rw [e]
    refine Ev.congr (fun k => ?_) (Ev.now _)
    rw [if_neg (by omega)]
theorem shr_zero (x : Int) (hx : U64 x) (r : Nat) (hr : r < 64) : (shr .u64 x (r : Int) == 0) = true ↔ ∀ j, r ≤ j → x.toNat.testBit j = false := by
  obtain ⟨n, rfl⟩ := Int.eq_ofNat_of_zero_le hx.1
  have e1 : shr .u64 (n : Int) (r : Int) = ((n / 2 ^ r : Nat) : Int) := by
    unfold shr
    rw [Int.toNat_natCast, show IntKind.u64.bits = 64 from rfl, Nat.min_eq_left (by omega)]
    push_cast
    rfl
  rw [e1, Int.toNat_natCast]
  have hp : 0 < 2 ^ r := Nat.two_pow_pos r
  constructor
  · intro h j hj
    have h2 : n / 2 ^ r = 0 := by
      have := beq_iff_eq.1 h
      omega
    have h3 : n < 2 ^ r := (Nat.div_eq_zero_iff.1 h2).resolve_left (by omega)
    exact Nat.testBit_lt_two_pow (Nat.lt_of_lt_of_le h3 (Nat.pow_le_pow_right (by decide) hj))
  · intro h
    have h3 : n < 2 ^ r := Nat.lt_pow_two_of_testBit n h
    rw [beq_iff_eq, Nat.div_eq_of_lt h3]
    rfl
theorem rd_rowW (P : List (List Int)) (s : List Int) (S : List (List Int)) : rd_Lsu64 (P ++ s :: S) (P.length : Int) = s := by
  unfold rd_Lsu64
  rw [Int.toNat_natCast, List.getD_eq_getElem?_getD, List.getElem?_append_right (Nat.le_refl _)]
  simp
def bv (t : List Bool) : V := fun c => t.getD c false
def tr (row : List Int) (n : Nat) : List Bool := (List.range' 0 n).map (hasB row)
theorem rdB_mid (A B : List Bool) (b : Bool) : rdOf false (A ++ b :: B) (A.length : Int) = b := by
  unfold rdOf
  rw [Int.toNat_natCast, List.getD_eq_getElem?_getD, List.getElem?_append_right (Nat.le_refl _)]
  simp
theorem setB_mid (A B : List Bool) (b c : Bool) : (A ++ b :: B).set A.length c = A ++ c :: B := by
  rw [List.set_append_right _ _ (Nat.le_refl _), Nat.sub_self]; rfl
theorem truths_l0 (row : List Int) (hl : ∀ x ∈ row, U64 x) (hn : row.length ≤ 1000000) (n : Nat) (hN : n ≤ 1000000) : ∀ (d c : Nat) (A : List Bool), c + d = n → A.length = c →
    Ev (fun k => geyserref03_Truths.l0 k row (n : Int) (A ++ List.replicate d false) (c : Int)) (A ++ (List.range' c d).map (hasB row)) := by
  intro d
  induction d with
  | zero =>
    intro c A hc hA
    refine Ev.step (f := fun _ => some (A ++ [])) (fun k => ?_) (Ev.now _)
    rw [geyserref03_Truths.l0, if_neg (by omega)]
    rfl
  | succ d ih =>
    intro c A hc hA
    have h' := ih (c + 1) (A ++ [hasB row c]) (by omega) (by simp [hA])
    have e1 : A ++ [hasB row c] ++ (List.range' (c + 1) d).map (hasB row) = A ++ (List.range' c (d + 1)).map (hasB row) := by rw [List.range'_succ]; simp
    have e2 : ((c + 1 : Nat) : Int) = wrap64 ((c : Int) + 1) := by rw [w64s (by omega) (by omega)]; rfl
    have e3 : A ++ [hasB row c] ++ List.replicate d false = A ++ hasB row c :: List.replicate d false := by simp
    rw [e1, e2, e3] at h'
    refine Ev.step (fun k => ?_) h'
    have e4 : (A ++ List.replicate (d + 1) false).length = n := by simp; omega
    rw [geyserref03_Truths.l0, if_pos (by omega), refhas_nat row hl hn c]
    simp only [Option.bind_some]
    rw [if_pos (by omega), if_pos (by omega), Int.toNat_natCast, ← hA, List.replicate_succ, setB_mid]
theorem truths_ev (row : List Int) (n : Nat) (hl : ∀ x ∈ row, U64 x) (hn : row.length ≤ 1000000) (hN : n ≤ 1000000) : Ev (fun k => geyserref03_Truths.f k row (n : Int)) (tr row n) := by
  unfold geyserref03_Truths.f
  have h := truths_l0 row hl hn n hN n 0 [] (by omega) rfl
  refine Ev.congr (fun k => ?_) h
  rw [if_pos (by omega), if_pos (by omega), Int.toNat_natCast]
  rfl
theorem tr_len (row : List Int) (n : Nat) : (tr row n).length = n := by simp [tr]
theorem bv_tr (row : List Int) (n : Nat) (h : ∀ c : Nat, n ≤ c → hasB row c = false) : bv (tr row n) = hasB row := by
  funext c
  unfold bv tr
  by_cases hc : c < n
  · rw [List.getD_eq_getElem?_getD, List.getElem?_eq_getElem (by simpa using hc), Option.getD_some, List.getElem_map, List.getElem_range']
    simp
  · rw [List.getD_eq_getElem?_getD, List.getElem?_eq_none (by simpa using hc), h c (by omega)]
    rfl
theorem all_l0 (n : Nat) (hN : n ≤ 1000000) (S : List (List Int)) : ∀ (P : List (List Int)) (acc : List (List Bool)), (P ++ S).length ≤ 1000000 → acc.length = P.length → (∀ r ∈ S, r.length ≤ 1000000 ∧ ∀ x ∈ r, U64 x) →
    Ev (fun k => geyserref03_All.l0 k (P ++ S) (n : Int) acc (P.length : Int)) (acc ++ S.map (tr · n)) := by
  induction S with
  | nil =>
    intro P acc hP _ _
    have e : acc ++ ([] : List (List Int)).map (tr · n) = acc := by simp
    rw [e]
    refine Ev.step (f := fun _ => some acc) (fun k => ?_) (Ev.now _)
    rw [geyserref03_All.l0, if_neg (by simp)]
  | cons s S ih =>
    intro P acc hP ha hS
    have hl : (P ++ s :: S).length = P.length + (S.length + 1) := by simp
    have h' := ih (P ++ [s]) (acc ++ [tr s n]) (by simpa using hP) (by simp [ha]) (fun r hr => hS r (by simp [hr]))
    have e1 : P ++ [s] ++ S = P ++ s :: S := by simp
    have e2 : ((P ++ [s]).length : Int) = wrap64 ((P.length : Int) + 1) := by rw [w64s (by omega) (by omega)]; simp
    have e3 : acc ++ [tr s n] ++ S.map (tr · n) = acc ++ (s :: S).map (tr · n) := by simp
    rw [e1, e2, e3] at h'
    refine Ev.step (f := fun k => (geyserref03_Truths.f k s (n : Int)).bind fun t351 => (if acc.length < 5864062014805 then (geyserref03_All.l0 k (P ++ s :: S) (n : Int) (acc ++ [t351]) (wrap64 ((P.length : Int) + 1))) else (none))) (fun k => ?_) (Ev.bind (truths_ev s n (hS s (by simp)).2 (hS s (by simp)).1 hN) ?_)
    · rw [geyserref03_All.l0, if_pos (by omega), if_pos (by omega), rd_rowW]
    · refine Ev.congr (fun k => ?_) h'
      rw [if_pos (by omega)]
theorem all_ev (n : Nat) (hN : n ≤ 1000000) (rows : List (List Int)) (hn : rows.length ≤ 1000000) (h : ∀ r ∈ rows, r.length ≤ 1000000 ∧ ∀ x ∈ r, U64 x) : Ev (fun k => geyserref03_All.f k rows (n : Int)) (rows.map (tr · n)) := by
  have := all_l0 n hN rows [] [] (by simpa using hn) rfl h
  exact this
def sumT (a b : List Bool) : List Bool := List.zipWith (· != ·) a b
theorem sumT_len {a b : List Bool} {n : Nat} (ha : a.length = n) (hb : b.length = n) : (sumT a b).length = n := by unfold sumT; rw [List.length_zipWith, ha, hb, Nat.min_self]
theorem bv_sum {a b : List Bool} (h : a.length = b.length) : bv (sumT a b) = vx (bv a) (bv b) := by
  funext c
  unfold bv sumT Lin.vx
  by_cases hc : c < a.length
  · simp only [List.getD_eq_getElem?_getD, List.getElem?_zipWith]
    rw [List.getElem?_eq_getElem hc, List.getElem?_eq_getElem (by omega)]
    rfl
  · simp only [List.getD_eq_getElem?_getD, List.getElem?_zipWith]
    rw [List.getElem?_eq_none (by omega), List.getElem?_eq_none (by omega)]
    rfl
theorem tsum_l0 (S : List Bool) : ∀ (P Q T X Y : List Bool), P.length = Q.length → X.length = P.length → T.length = S.length → Y.length = S.length → (P ++ S).length < 9223372036854775807 →
    Ev (fun k => geyserref03_sum.l0 k (P ++ S) (Q ++ T) (X ++ Y) (P.length : Int)) (X ++ sumT S T) := by
  induction S with
  | nil =>
    intro P Q T X Y hPQ hX hT hY hP
    obtain rfl : T = [] := List.eq_nil_of_length_eq_zero (by simpa using hT)
    obtain rfl : Y = [] := List.eq_nil_of_length_eq_zero (by simpa using hY)
    refine Ev.step (f := fun _ => some (X ++ [])) (fun k => ?_) (Ev.now _)
    rw [geyserref03_sum.l0, if_neg (by simp)]
  | cons s S ih =>
    intro P Q T X Y hPQ hX hT hY hP
    obtain ⟨t, T, rfl⟩ : ∃ t T', T = t :: T' := by cases T with | nil => simp at hT | cons t T => exact ⟨t, T, rfl⟩
    obtain ⟨y, Y, rfl⟩ : ∃ t T', Y = t :: T' := by cases Y with | nil => simp at hY | cons t T => exact ⟨t, T, rfl⟩
    have h1 : (P ++ s :: S).length = P.length + (S.length + 1) := by simp
    have h2 : (Q ++ t :: T).length = P.length + (S.length + 1) := by simp at hT ⊢; omega
    have h3 : (X ++ y :: Y).length = P.length + (S.length + 1) := by simp at hY ⊢; omega
    have h' := ih (P ++ [s]) (Q ++ [t]) T (X ++ [s != t]) Y (by simp [hPQ]) (by simp [hX]) (by simpa using hT) (by simpa using hY) (by simpa using hP)
    have e1 : P ++ [s] ++ S = P ++ s :: S := by simp
    have e2 : Q ++ [t] ++ T = Q ++ t :: T := by simp
    have e3 : X ++ [s != t] ++ Y = X ++ (s != t) :: Y := by simp
    have e4 : X ++ [s != t] ++ sumT S T = X ++ sumT (s :: S) (t :: T) := by simp [sumT]
    have e5 : ((P ++ [s]).length : Int) = wrap64 ((P.length : Int) + 1) := by rw [w64s (by omega) (by omega)]; simp
    rw [e1, e2, e3, e4, e5] at h'
    refine Ev.step (fun k => ?_) h'
    have r1 : rdOf false (P ++ s :: S) (P.length : Int) = s := rdB_mid P S s
    have r2 : rdOf false (Q ++ t :: T) (P.length : Int) = t := by rw [hPQ]; exact rdB_mid Q T t
    have r3 : (X ++ y :: Y).set (P.length : Int).toNat (s != t) = X ++ (s != t) :: Y := by rw [Int.toNat_natCast, ← hX, setB_mid]
    rw [geyserref03_sum.l0, if_pos (by omega), if_pos (by omega), if_pos (by omega), if_pos (by omega), r1, r2, r3]
theorem tsum_ev (a b : List Bool) (h : a.length = b.length) (ha : a.length ≤ 1000000) : Ev (fun k => geyserref03_sum.f k a b) (sumT a b) := by
  unfold geyserref03_sum.f
  have hx := tsum_l0 a [] [] b [] (List.replicate a.length false) rfl rfl h.symm (by simp) (by simp; omega)
  refine Ev.congr (fun k => ?_) hx
  rw [if_pos (by omega), if_pos (by omega), Int.toNat_natCast]
  rfl
def gr (R : List (List Bool)) (i : Nat) : List Bool := R.getD i []
theorem gr_mem {R : List (List Bool)} {i : Nat} (h : i < R.length) : gr R i ∈ R := by
  unfold gr
  rw [List.getD_eq_getElem?_getD, List.getElem?_eq_getElem h]
  exact List.getElem_mem h
theorem mem_gr {R : List (List Bool)} {x : List Bool} (h : x ∈ R) : ∃ i, i < R.length ∧ gr R i = x := by
  obtain ⟨i, hi, rfl⟩ := List.mem_iff_getElem.1 h
  refine ⟨i, hi, ?_⟩
  unfold gr
  rw [List.getD_eq_getElem?_getD, List.getElem?_eq_getElem hi]
  rfl
theorem rd_gr (R : List (List Bool)) (i : Nat) : rd_Lsbool R (i : Int) = gr R i := by unfold rd_Lsbool gr; rw [Int.toNat_natCast]
theorem rdOf_bv (t : List Bool) (c : Nat) : rdOf false t (c : Int) = bv t c := by unfold rdOf bv; rw [Int.toNat_natCast]
theorem pivot_ev (R : List (List Bool)) (n c : Nat) (hc : c < n) (hR : ∀ x ∈ R, x.length = n) (hm : R.length ≤ 1000000) : ∀ d i : Nat, i + d = R.length →
    ∃ r : Int, Ev (fun k => geyserref03_pivot.l0 k R (c : Int) (i : Int)) r ∧ ((r = -1 ∧ ∀ j, i ≤ j → j < R.length → bv (gr R j) c = false) ∨ ∃ j : Nat, r = j ∧ i ≤ j ∧ j < R.length ∧ bv (gr R j) c = true) := by
  intro d
  induction d with
  | zero =>
    intro i hi
    refine ⟨-1, ?_, .inl ⟨rfl, fun j h1 h2 => by omega⟩⟩
    refine Ev.step (f := fun _ => some (-1)) (fun k => ?_) (Ev.now _)
    rw [geyserref03_pivot.l0, if_neg (by omega)]
  | succ d ih =>
    intro i hi
    have hlen : (gr R i).length = n := hR _ (gr_mem (by omega))
    by_cases hb : bv (gr R i) c = true
    · refine ⟨(i : Int), ?_, .inr ⟨i, rfl, Nat.le_refl _, by omega, hb⟩⟩
      refine Ev.step (f := fun _ => some (i : Int)) (fun k => ?_) (Ev.now _)
      rw [geyserref03_pivot.l0, if_pos (by omega), if_pos (by omega), if_pos (by omega), rd_gr, if_pos (by omega), rdOf_bv, if_pos hb]
    · obtain ⟨r, hr, h⟩ := ih (i + 1) (by omega)
      have e2 : ((i + 1 : Nat) : Int) = wrap64 ((i : Int) + 1) := by rw [w64s (by omega) (by omega)]; rfl
      rw [e2] at hr
      refine ⟨r, ?_, ?_⟩
      · refine Ev.step (fun k => ?_) hr
        rw [geyserref03_pivot.l0, if_pos (by omega), if_pos (by omega), if_pos (by omega), rd_gr, if_pos (by omega), rdOf_bv, if_neg hb]
      · rcases h with ⟨e, h⟩ | ⟨j, e, h1, h2, h3⟩
        · refine .inl ⟨e, fun j h1 h2 => ?_⟩
          by_cases hj : j = i
          · subst hj; simpa using hb
          · exact h j (by omega) h2
        · exact .inr ⟨j, e, by omega, h2, h3⟩
def swapL (R : List (List Bool)) (a b : Nat) : List (List Bool) := (R.set a (gr R b)).set b (gr R a)
theorem swap_eq (R : List (List Bool)) (a b : Nat) (ha : a < R.length) (hb : b < R.length) (hm : R.length ≤ 1000000) : geyserref03_swap.f R (a : Int) (b : Int) = some (swapL R a b) := by
  unfold geyserref03_swap.f
  simp only [Option.bind_some, List.nil_append, List.length_nil, Nat.zero_add]
  rw [if_pos (by omega), if_pos (by omega), if_pos (by omega), if_pos (by omega), if_pos (by omega), if_pos (by omega), if_pos (by omega), rd_gr, rd_gr, Int.toNat_natCast, Int.toNat_natCast]
  rfl
theorem swapL_len (R : List (List Bool)) (a b : Nat) : (swapL R a b).length = R.length := by simp [swapL]
def sg (a b k : Nat) : Nat := if k = b then a else if k = a then b else k
theorem swapL_gr (R : List (List Bool)) (a b : Nat) (ha : a < R.length) (hb : b < R.length) (k : Nat) (hk : k < R.length) : gr (swapL R a b) k = gr R (sg a b k) := by
  unfold swapL sg
  show ((R.set a (gr R b)).set b (gr R a)).getD k [] = _
  rw [List.getD_eq_getElem?_getD, List.getElem?_set]
  by_cases h1 : b = k
  · subst h1
    rw [if_pos rfl, if_pos (by simpa using hb), if_pos rfl]
    rfl
  · rw [if_neg h1, if_neg (fun h => h1 h.symm), List.getElem?_set]
    by_cases h2 : a = k
    · subst h2
      rw [if_pos rfl, if_pos ha, if_pos rfl]
      rfl
    · rw [if_neg h2, if_neg (fun h => h2 h.symm)]
      unfold gr
      rw [List.getD_eq_getElem?_getD]
def clr (R : List (List Bool)) (a c k : Nat) : List Bool := if k = a then gr R k else if bv (gr R k) c = true then sumT (gr R k) (gr R a) else gr R k
def clearL (R : List (List Bool)) (a c : Nat) : List (List Bool) := (List.range' 0 R.length).map (clr R a c)
theorem clear_l0 (R : List (List Bool)) (n a c : Nat) (ha : a < R.length) (hc : c < n) (hR : ∀ x ∈ R, x.length = n) (hn : n ≤ 1000000) (hm : R.length ≤ 1000000) : ∀ (d i : Nat) (acc : List (List Bool)), i + d = R.length → acc.length = i →
    Ev (fun k => geyserref03_clear.l0 k R (a : Int) (c : Int) acc (i : Int)) (acc ++ (List.range' i d).map (clr R a c)) := by
  intro d
  induction d with
  | zero =>
    intro i acc hi hacc
    refine Ev.step (f := fun _ => some (acc ++ [])) (fun k => ?_) (Ev.now _)
    rw [geyserref03_clear.l0, if_neg (by omega), List.append_nil]
  | succ d ih =>
    intro i acc hi hacc
    have h' := ih (i + 1) (acc ++ [clr R a c i]) (by omega) (by simp [hacc])
    have e1 : acc ++ [clr R a c i] ++ (List.range' (i + 1) d).map (clr R a c) = acc ++ (List.range' i (d + 1)).map (clr R a c) := by rw [List.range'_succ]; simp
    have e2 : ((i + 1 : Nat) : Int) = wrap64 ((i : Int) + 1) := by rw [w64s (by omega) (by omega)]; rfl
    rw [e1, e2] at h'
    have hlen : (gr R i).length = n := hR _ (gr_mem (by omega))
    have hlena : (gr R a).length = n := hR _ (gr_mem ha)
    by_cases h1 : i = a
    · have ec : clr R a c i = gr R i := if_pos h1
      rw [ec] at h'
      refine Ev.step (fun k => ?_) h'
      rw [geyserref03_clear.l0, if_pos (by omega), if_pos (by omega), if_pos (by omega), if_pos (by omega), rd_gr]
    · by_cases hb : bv (gr R i) c = true
      · have ec : clr R a c i = sumT (gr R i) (gr R a) := by unfold clr; rw [if_neg h1, if_pos hb]
        rw [ec] at h'
        refine Ev.step (f := fun k => (geyserref03_sum.f k (gr R i) (gr R a)).bind fun t310 => (if acc.length < 5864062014805 then (geyserref03_clear.l0 k R (a : Int) (c : Int) (acc ++ [t310]) (wrap64 ((i : Int) + 1))) else (none))) (fun k => ?_) (Ev.bind (tsum_ev _ _ (by omega) (by omega)) ?_)
        · rw [geyserref03_clear.l0, if_pos (by omega), if_neg (by omega), if_pos (by omega), if_pos (by omega), rd_gr, if_pos (by omega), rdOf_bv, if_pos hb, if_pos (by omega), if_pos (by omega), rd_gr]
        · refine Ev.congr (fun k => ?_) h'
          rw [if_pos (by omega)]
      · have ec : clr R a c i = gr R i := by unfold clr; rw [if_neg h1, if_neg hb]
        rw [ec] at h'
        refine Ev.step (fun k => ?_) h'
        rw [geyserref03_clear.l0, if_pos (by omega), if_neg (by omega), if_pos (by omega), if_pos (by omega), rd_gr, if_pos (by omega), rdOf_bv, if_neg hb, if_pos (by omega)]
theorem clear_ev (R : List (List Bool)) (n a c : Nat) (ha : a < R.length) (hc : c < n) (hR : ∀ x ∈ R, x.length = n) (hn : n ≤ 1000000) (hm : R.length ≤ 1000000) : Ev (fun k => geyserref03_clear.f k R (a : Int) (c : Int)) (clearL R a c) := by
  have := clear_l0 R n a c ha hc hR hn hm R.length 0 [] (by omega) rfl
  exact this
theorem clearL_len (R : List (List Bool)) (a c : Nat) : (clearL R a c).length = R.length := by simp [clearL]
theorem clearL_gr (R : List (List Bool)) (a c k : Nat) (hk : k < R.length) : gr (clearL R a c) k = clr R a c k := by
  show (clearL R a c).getD k [] = _
  rw [List.getD_eq_getElem?_getD, List.getElem?_eq_getElem (by rw [clearL_len]; exact hk), Option.getD_some]
  unfold clearL
  rw [List.getElem_map, List.getElem_range']
  simp
structure GInv (n m : Nat) (R0 R : List (List Bool)) (done c : Nat) (p : Nat → Nat) : Prop where
  len : R.length = m
  le : done ≤ m
  rows : ∀ x ∈ R, x.length = n
  piv : ∀ j, j < done → bv (gr R j) (p j) = true ∧ ∀ i, i < m → i ≠ j → bv (gr R i) (p j) = false
  low : ∀ i, done ≤ i → i < m → ∀ e, e < c → bv (gr R i) e = false
  tos : ∀ x ∈ R, Sp (R0.map bv) (bv x)
  ofs : ∀ x ∈ R0, Sp (R.map bv) (bv x)
theorem GInv.skip {n m : Nat} {R0 R : List (List Bool)} {done c : Nat} {p : Nat → Nat} (h : GInv n m R0 R done c p) (hz : ∀ j, done ≤ j → j < m → bv (gr R j) c = false) : GInv n m R0 R done (c + 1) p :=
  ⟨h.len, h.le, h.rows, h.piv, fun i h1 h2 e he => by
    by_cases c1 : e = c
    · subst c1; exact hz i h1 h2
    · exact h.low i h1 h2 e (by omega), h.tos, h.ofs⟩
theorem bv_vx {a b : List Bool} {n : Nat} (ha : a.length = n) (hb : b.length = n) (e : Nat) : bv (sumT a b) e = (bv a e != bv b e) := by
  rw [bv_sum (by omega)]; rfl
theorem GInv.take {n m : Nat} {R0 R : List (List Bool)} {done c : Nat} {p : Nat → Nat} (h : GInv n m R0 R done c p) (i : Nat) (hi1 : done ≤ i) (hi2 : i < m) (hb : bv (gr R i) c = true) :
    GInv n m R0 (clearL (swapL R done i) done c) (done + 1) (c + 1) (fun j => if j = done then c else p j) := by
  have hlenR := h.len
  have l1 : (swapL R done i).length = m := by rw [swapL_len]; exact h.len
  have hd : done < m := by omega
  have g1 : ∀ k, k < m → gr (swapL R done i) k = gr R (sg done i k) := fun k hk => swapL_gr R done i (by omega) (by omega) k (by omega)
  have sg_lt : ∀ k, k < m → sg done i k < m := by intro k hk; unfold sg; split; omega; split <;> omega
  have sg_hi : ∀ k, done ≤ k → done ≤ sg done i k := by intro k hk; unfold sg; split; omega; split <;> omega
  have sg_lo : ∀ k, k < done → sg done i k = k := by intro k hk; unfold sg; rw [if_neg (by omega), if_neg (by omega)]
  have sg_done : sg done i done = i := by unfold sg; split; omega; rw [if_pos rfl]
  have sg_ne : ∀ j k, j < done → k ≠ j → sg done i k ≠ j := by
    intro j k hj hk
    by_cases hk2 : k < done
    · rw [sg_lo k hk2]; exact hk
    · have := sg_hi k (by omega); omega
  have r1len : ∀ k, k < m → (gr (swapL R done i) k).length = n := fun k hk => by rw [g1 k hk]; exact h.rows _ (gr_mem (by rw [h.len]; exact sg_lt k hk))
  have gd : gr (swapL R done i) done = gr R i := by rw [g1 done hd, sg_done]
  have g2 : ∀ k, k < m → gr (clearL (swapL R done i) done c) k = clr (swapL R done i) done c k := fun k hk => clearL_gr _ _ _ _ (by omega)
  -- columns of what comes out
  have hcol : ∀ k, k < m → k ≠ done → ∀ e, bv (gr (clearL (swapL R done i) done c) k) e = if bv (gr (swapL R done i) k) c = true then (bv (gr (swapL R done i) k) e != bv (gr R i) e) else bv (gr (swapL R done i) k) e := by
    intro k hk hne e
    rw [g2 k hk]
    unfold clr
    rw [if_neg hne]
    split
    · rw [bv_vx (r1len k hk) (r1len done hd), gd]
    · rfl
  have hdone : gr (clearL (swapL R done i) done c) done = gr R i := by rw [g2 done hd]; unfold clr; rw [if_pos rfl, gd]
  have spk : ∀ k, k < m → Sp ((clearL (swapL R done i) done c).map bv) (bv (gr (swapL R done i) k)) := by
    have sd : Sp ((clearL (swapL R done i) done c).map bv) (bv (gr R i)) := by
      rw [← hdone]
      exact Sp.mem (List.mem_map.2 ⟨_, gr_mem (by rw [clearL_len]; omega), rfl⟩)
    intro k hk
    have sk : Sp ((clearL (swapL R done i) done c).map bv) (bv (gr (clearL (swapL R done i) done c) k)) := Sp.mem (List.mem_map.2 ⟨_, gr_mem (by rw [clearL_len]; omega), rfl⟩)
    by_cases hkd : k = done
    · subst hkd; rw [gd]; exact sd
    · rw [g2 k hk] at sk
      unfold clr at sk
      rw [if_neg hkd] at sk
      split at sk
      · rw [bv_sum (by rw [r1len k hk, r1len done hd]), gd] at sk
        have := sk.vx sd
        rwa [vx_cancel] at this
      · exact sk
  refine ⟨by rw [clearL_len, l1], by omega, ?_, ?_, ?_, ?_, ?_⟩
  · intro x hx
    obtain ⟨k, hk, rfl⟩ := mem_gr hx
    rw [clearL_len, l1] at hk
    rw [g2 k hk]
    unfold clr
    split
    · exact r1len k hk
    · split
      · exact sumT_len (r1len k hk) (r1len done hd)
      · exact r1len k hk
  · intro j hj
    by_cases hjd : j = done
    · subst hjd
      rw [if_pos rfl, hdone]
      refine ⟨hb, fun k hk hne => ?_⟩
      rw [hcol k hk hne c]
      by_cases hbit : bv (gr (swapL R j i) k) c = true
      · rw [if_pos hbit, hbit, hb]; rfl
      · rw [if_neg hbit]; simpa using hbit
    · rw [if_neg hjd]
      obtain ⟨p1, p2⟩ := h.piv j (by omega)
      have hz : bv (gr R i) (p j) = false := p2 i hi2 (by omega)
      refine ⟨?_, fun k hk hne => ?_⟩
      · rw [hcol j (by omega) hjd, g1 j (by omega), sg_lo j (by omega), p1, hz]
        split <;> rfl
      · by_cases hkd : k = done
        · subst hkd; rw [hdone]; exact hz
        · have hzk : bv (gr (swapL R done i) k) (p j) = false := by rw [g1 k hk]; exact p2 _ (sg_lt k hk) (sg_ne j k (by omega) hne)
          rw [hcol k hk hkd, hzk, hz]
          split <;> rfl
  · intro k hk1 hk2 e he
    by_cases hec : e = c
    · subst hec
      rw [hcol k hk2 (by omega) e]
      by_cases hbit : bv (gr (swapL R done i) k) e = true
      · rw [if_pos hbit, hbit, hb]; rfl
      · rw [if_neg hbit]; simpa using hbit
    · have z1 : bv (gr (swapL R done i) k) e = false := by rw [g1 k hk2]; exact h.low _ (sg_hi k (by omega)) (sg_lt k hk2) e (by omega)
      have z2 : bv (gr R i) e = false := h.low i hi1 hi2 e (by omega)
      rw [hcol k hk2 (by omega) e, z1, z2]
      split <;> rfl
  · intro x hx
    obtain ⟨k, hk, rfl⟩ := mem_gr hx
    rw [clearL_len, l1] at hk
    have s1 : ∀ k, k < m → Sp (R0.map bv) (bv (gr (swapL R done i) k)) := fun k hk => by rw [g1 k hk]; exact h.tos _ (gr_mem (by rw [h.len]; exact sg_lt k hk))
    rw [g2 k hk]
    unfold clr
    split
    · exact s1 k hk
    · split
      · rw [bv_sum (by rw [r1len k hk, r1len done hd])]; exact (s1 k hk).vx (s1 done hd)
      · exact s1 k hk
  · intro x hx
    refine (h.ofs x hx).trans fun u hu => ?_
    obtain ⟨y, hy, rfl⟩ := List.mem_map.1 hu
    obtain ⟨k, hk, rfl⟩ := mem_gr hy
    rw [h.len] at hk
    have hs := spk (sg done i k) (sg_lt k hk)
    rw [g1 _ (sg_lt k hk)] at hs
    have inv : sg done i (sg done i k) = k := by
      unfold sg
      by_cases a1 : k = i
      · rw [if_pos a1]
        by_cases a2 : done = i
        · rw [if_pos a2]; omega
        · rw [if_neg a2, if_pos rfl]; omega
      · rw [if_neg a1]
        by_cases a2 : k = done
        · rw [if_pos a2, if_pos rfl]; omega
        · rw [if_neg a2, if_neg a1, if_neg a2]
    rwa [inv] at hs
theorem ind_cols : ∀ L : List V, (∀ j, ∀ h : j < L.length, ∃ c, L[j] c = true ∧ ∀ i, ∀ hi : i < L.length, i ≠ j → L[i] c = false) → Ind L
  | [], _ => trivial
  | v :: L, h => by
    refine ⟨fun hs => ?_, ind_cols L fun j hj => ?_⟩
    · obtain ⟨c, h1, h2⟩ := h 0 (by simp)
      have h3 : v c = true := h1
      have h4 := Sp.col (c := c) (fun u hu => by
        obtain ⟨i, hi, rfl⟩ := List.mem_iff_getElem.1 hu
        exact h2 (i + 1) (by simp; omega) (by omega)) hs
      rw [h3] at h4
      cases h4
    · obtain ⟨c, h1, h2⟩ := h (j + 1) (by simp; omega)
      exact ⟨c, h1, fun i hi hne => h2 (i + 1) (by simp; omega) (by omega)⟩
theorem GInv.rk {n m : Nat} {R0 R : List (List Bool)} {done : Nat} {p : Nat → Nat} (h : GInv n m R0 R done n p) : Rk (R0.map bv) done := by
  have hlenR := h.len
  have hle := h.le
  have hlen : ((R.take done).map bv).length = done := by rw [List.length_map, List.length_take]; omega
  have hget : ∀ j, ∀ hj : j < ((R.take done).map bv).length, ((R.take done).map bv)[j] = bv (gr R j) := by
    intro j hj
    rw [List.getElem_map, List.getElem_take]
    unfold gr
    rw [List.getD_eq_getElem?_getD, List.getElem?_eq_getElem (by omega)]
    rfl
  refine ⟨(R.take done).map bv, ind_cols _ fun j hj => ⟨p j, ?_, fun i hi hne => ?_⟩, hlen, fun b hb => ?_, fun x hx => ?_⟩
  · rw [hget j hj]; exact (h.piv j (by omega)).1
  · rw [hget i hi]; exact (h.piv j (by omega)).2 i (by omega) hne
  · obtain ⟨y, hy, rfl⟩ := List.mem_map.1 hb
    exact h.tos y (List.mem_of_mem_take hy)
  · obtain ⟨y, hy, rfl⟩ := List.mem_map.1 hx
    refine (h.ofs y hy).trans fun u hu => ?_
    obtain ⟨z, hz, rfl⟩ := List.mem_map.1 hu
    obtain ⟨k, hk, rfl⟩ := mem_gr hz
    by_cases hkd : k < done
    · have := List.getElem_mem (l := (R.take done).map bv) (n := k) (by omega)
      rw [hget k (by omega)] at this
      exact Sp.mem this
    · have hz0 : bv (gr R k) = v0 := by
        funext e
        by_cases he : e < n
        · exact h.low k (by omega) (by omega) e he
        · have hl := h.rows _ (gr_mem hk)
          unfold bv
          rw [List.getD_eq_getElem?_getD, List.getElem?_eq_none (by omega)]
          rfl
      rw [hz0]; exact Sp.zero
theorem gauss_l0 (n m : Nat) (hn : n ≤ 1000000) (hm : m ≤ 1000000) (R0 : List (List Bool)) : ∀ (d c : Nat) (R : List (List Bool)) (done : Nat) (p : Nat → Nat), c + d = n → GInv n m R0 R done c p →
    ∃ R' done' p', Ev (fun k => geyserref03_Gauss.l0 k R (n : Int) (done : Int) (c : Int)) (R'.take done') ∧ GInv n m R0 R' done' n p' := by
  intro d
  induction d with
  | zero =>
    intro c R done p hc h
    obtain rfl : c = n := by omega
    have hlenR := h.len
    have hle := h.le
    refine ⟨R, done, p, ?_, h⟩
    refine Ev.step (f := fun _ => some (R.take done)) (fun k => ?_) (Ev.now _)
    rw [geyserref03_Gauss.l0, if_neg (by omega), if_pos (by omega), if_pos (by omega), Int.toNat_natCast]
  | succ d ih =>
    intro c R done p hc h
    have hlenR := h.len
    have hle := h.le
    have e2 : ((c + 1 : Nat) : Int) = wrap64 ((c : Int) + 1) := by rw [w64s (by omega) (by omega)]; rfl
    obtain ⟨r, hr, hcase⟩ := pivot_ev R n c (by omega) h.rows (by omega) (R.length - done) done (by omega)
    have hr' : Ev (fun k => geyserref03_pivot.f k R (done : Int) (c : Int)) r := hr
    rcases hcase with ⟨rfl, hz⟩ | ⟨i, rfl, h1, h2, h3⟩
    · obtain ⟨R', done', p', hev, hI⟩ := ih (c + 1) R done p (by omega) (h.skip (fun j a b => hz j a (by omega)))
      rw [e2] at hev
      refine ⟨R', done', p', ?_, hI⟩
      refine Ev.step (f := fun k => (geyserref03_pivot.f k R (done : Int) (c : Int)).bind fun t335 => (if t335 < 0 then (geyserref03_Gauss.l0 k R (n : Int) (done : Int) (wrap64 ((c : Int) + 1))) else ((geyserref03_swap.f R (done : Int) t335).bind fun t336 => ((geyserref03_clear.f k t336 (done : Int) (c : Int)).bind fun t339 => (geyserref03_Gauss.l0 k t339 (n : Int) (wrap64 ((done : Int) + 1)) (wrap64 ((c : Int) + 1))))))) (fun k => ?_) (Ev.bind hr' ?_)
      · rw [geyserref03_Gauss.l0, if_pos (by omega)]
      · refine Ev.congr (fun k => ?_) hev
        rw [if_pos (by decide)]
    · have hI1 := h.take i h1 (by omega) h3
      obtain ⟨R', done', p', hev, hI⟩ := ih (c + 1) _ (done + 1) _ (by omega) hI1
      have e3 : ((done + 1 : Nat) : Int) = wrap64 ((done : Int) + 1) := by rw [w64s (by omega) (by omega)]; rfl
      rw [e2, e3] at hev
      have l1 : (swapL R done i).length = m := by rw [swapL_len]; exact h.len
      have hrows1 : ∀ x ∈ swapL R done i, x.length = n := by
        intro x hx
        obtain ⟨k, hk, rfl⟩ := mem_gr hx
        rw [swapL_gr R done i (by omega) (by omega) k (by omega)]
        refine h.rows _ (gr_mem ?_)
        unfold sg; split; omega; split <;> omega
      have hclr := clear_ev (swapL R done i) n done c (by omega) (by omega) hrows1 hn (by omega)
      refine ⟨R', done', p', ?_, hI⟩
      refine Ev.step (f := fun k => (geyserref03_pivot.f k R (done : Int) (c : Int)).bind fun t335 => (if t335 < 0 then (geyserref03_Gauss.l0 k R (n : Int) (done : Int) (wrap64 ((c : Int) + 1))) else ((geyserref03_swap.f R (done : Int) t335).bind fun t336 => ((geyserref03_clear.f k t336 (done : Int) (c : Int)).bind fun t339 => (geyserref03_Gauss.l0 k t339 (n : Int) (wrap64 ((done : Int) + 1)) (wrap64 ((c : Int) + 1))))))) (fun k => ?_) (Ev.bind hr' ?_)
      · rw [geyserref03_Gauss.l0, if_pos (by omega)]
      · refine Ev.congr (fun k => ?_) (Ev.bind (f := fun k t339 => geyserref03_Gauss.l0 k t339 (n : Int) (wrap64 ((done : Int) + 1)) (wrap64 ((c : Int) + 1))) hclr hev)
        rw [if_neg (by omega), swap_eq R done i (by omega) (by omega) (by omega)]
        rfl
def Mat (rows : List (List Int)) (n : Nat) : Prop := rows.length ≤ 1000000 ∧ n ≤ 4096 ∧ ∀ r ∈ rows, wokB r n = true ∧ ∀ x ∈ r, U64 x
theorem Mat.row {rows : List (List Int)} {n : Nat} (h : Mat rows n) : ∀ r ∈ rows, r.length = nW n ∧ (∀ a ∈ r, U64 a) ∧ ∀ c : Nat, n ≤ c → hasB r c = false := by
  intro r hr
  obtain ⟨h1, h2⟩ := h.2.2 r hr
  obtain ⟨h3, h4⟩ := (wokB_iff r n (by omega)).1 h1
  exact ⟨h3, h2, fun c hc => h4 c (by omega)⟩
theorem nW_le {n : Nat} (h : n ≤ 4096) : nW (n : Int) ≤ 64 := by unfold nW; rw [Int.toNat_natCast]; omega
theorem gauss_ev (R0 : List (List Bool)) (n : Nat) (hn : n ≤ 1000000) (hm : R0.length ≤ 1000000) (hR : ∀ x ∈ R0, x.length = n) : ∃ R' done' p', Ev (fun k => geyserref03_Gauss.f k R0 (n : Int)) (R'.take done') ∧ GInv n R0.length R0 R' done' n p' := by
  have h0 : GInv n R0.length R0 R0 0 0 (fun _ => 0) := ⟨rfl, Nat.zero_le _, hR, fun j hj => by omega, fun i _ _ e he => by omega, fun x hx => Sp.mem (List.mem_map.2 ⟨x, hx, rfl⟩), fun x hx => Sp.mem (List.mem_map.2 ⟨x, hx, rfl⟩)⟩
  exact gauss_l0 n R0.length hn hm R0 n 0 R0 0 (fun _ => 0) (by omega) h0
theorem rrank_ev (rows : List (List Int)) (n : Nat) (h : Mat rows n) : ∃ r : Nat, Ev (fun k => geyserref03_Rank.f k rows (n : Int)) (r : Int) ∧ Rk (rows.map hasB) r := by
  obtain ⟨h1, h2, h3⟩ := h
  have hw := nW_le h2
  have hrow := Mat.row ⟨h1, h2, h3⟩
  have hall := all_ev n (by omega) rows h1 (fun r hr => ⟨by have := (hrow r hr).1; omega, (hrow r hr).2.1⟩)
  obtain ⟨R', done', p', hg, hI⟩ := gauss_ev (rows.map (tr · n)) n (by omega) (by simpa using h1) (fun x hx => by
    obtain ⟨r, _, rfl⟩ := List.mem_map.1 hx
    exact tr_len r n)
  have hrk := hI.rk
  have em : (rows.map (tr · n)).map bv = rows.map hasB := by
    rw [List.map_map]
    refine List.map_congr_left fun r hr => ?_
    exact bv_tr r n (hrow r hr).2.2
  rw [em] at hrk
  have hlt : (R'.take done').length = done' := by rw [List.length_take]; have := hI.len; have := hI.le; omega
  refine ⟨done', ?_, hrk⟩
  unfold geyserref03_Rank.f
  refine Ev.bind hall ?_
  refine Ev.bind hg ?_
  rw [hlt]
  exact Ev.now _
theorem fits_yes {x : S74} {n m : Nat} (hI : SI x n m) {row : List Int} (hr : RowOK n row) : elimM_fits.f [x] row = some true := by
  have hn1 := hI.n1
  have hn2 := hI.n2
  have hnw := nW_pos hn2
  have hw : nW (n : Int) = (n + 63) / 64 := by unfold nW; rw [Int.toNat_natCast]
  unfold elimM_fits.f
  rw [if_pos (by simp), hd_sys, hI.f0, psize_eq (n : Int) (by omega) (by omega), Int.toNat_natCast]
  simp only [Option.bind_some]
  rw [if_pos (by rw [hr.len, hw])]
  by_cases h : Int.tmod (n : Int) 64 = 0
  · rw [if_pos h]
  · rw [if_neg h]
    have ht : Int.tmod (n : Int) 64 = ((n % 64 : Nat) : Int) := by rw [Int.tmod_eq_emod_of_nonneg (by omega)]; omega
    have hne : n % 64 ≠ 0 := fun e => h (by rw [ht, e]; rfl)
    have hl : row.length = n / 64 + 1 := by rw [hr.len, hw]; omega
    have e1 : wrap64 ((row.length : Int) - 1) = ((n / 64 : Nat) : Int) := by rw [hl, w64s (by omega) (by omega)]; omega
    rw [e1, if_pos (by omega), if_pos (by omega), if_pos (by rw [ht]; omega), ht]
    have hmem : rd row ((n / 64 : Nat) : Int) ∈ row := by
      unfold rd
      rw [Int.toNat_natCast]
      exact getD_mem (by omega)
    have hz := (shr_zero (rd row ((n / 64 : Nat) : Int)) (hr.u _ hmem) (n % 64) (by omega)).2 (fun j hj => by
      by_cases hj2 : j < 64
      · have h2 := hr.hi (64 * (n / 64) + j) (by omega)
        unfold hasB at h2
        rw [show (64 * (n / 64) + j) / 64 = n / 64 by omega, show (64 * (n / 64) + j) % 64 = j by omega, decide_eq_true (by omega), Bool.true_and] at h2
        unfold rd
        rw [Int.toNat_natCast]
        exact h2
      · have hu := hr.u _ hmem
        obtain ⟨q, hq⟩ := Int.eq_ofNat_of_zero_le hu.1
        rw [hq, Int.toNat_natCast]
        refine Nat.testBit_lt_two_pow (Nat.lt_of_lt_of_le (show q < 2 ^ 64 by have := hu.2; rw [hq] at this; omega) (Nat.pow_le_pow_right (by decide) (by omega))))
    rw [hz]
structure IP (x : S74) (n : Nat) (P : List Nat) : Prop where
  plen : P.length = x.f2.length
  lt : ∀ p ∈ P, p < n ∧ 0 ≤ rd x.f3 (p : Int)
  own : ∀ q ∈ (x.f2.map fun e => hasB e.f0).zip P, q.1 q.2 = true
  tri : ((x.f2.map fun e => hasB e.f0).zip P).Pairwise fun b d => d.1 b.2 = false
theorem tri_zero' : ∀ (L : List (V × Nat)), L.Pairwise (fun b d => d.1 b.2 = false) → (∀ q ∈ L, q.1 q.2 = true) → ∀ v : V, Sp (L.map (·.1)) v → (∀ q ∈ L, v q.2 = false) → v = v0
  | [], _, _, v, h, _ => Sp.nil h
  | b :: L, ht, ho, v, h, hz => by
    obtain ⟨t1, t2⟩ := List.pairwise_cons.1 ht
    have hb := hz b (by simp)
    rcases Sp.cons h with h1 | h1
    · exact tri_zero' L t2 (fun q hq => ho q (List.mem_cons_of_mem _ hq)) v h1 (fun q hq => hz q (List.mem_cons_of_mem _ hq))
    · have hc : (Lin.vx v b.1) b.2 = false := Sp.col (c := b.2) (fun u hu => by
        obtain ⟨q, hq, rfl⟩ := List.mem_map.1 hu
        exact t1 q hq) h1
      unfold Lin.vx at hc
      rw [hb, ho b (by simp)] at hc
      cases hc
theorem tri_ind (L : List (V × Nat)) (ht : L.Pairwise fun b d => d.1 b.2 = false) (ho : ∀ q ∈ L, q.1 q.2 = true) : Ind (L.map (·.1)).reverse := by
  have key : ∀ R : List (V × Nat), (R.reverse).Pairwise (fun b d => d.1 b.2 = false) → (∀ q ∈ R, q.1 q.2 = true) → Ind (R.map (·.1)) := by
    intro R
    induction R with
    | nil => exact fun _ _ => trivial
    | cons b R ih =>
      intro ht ho
      rw [List.reverse_cons] at ht
      obtain ⟨t1, _, t3⟩ := List.pairwise_append.1 ht
      refine ⟨fun h => ?_, ih t1 (fun q hq => ho q (List.mem_cons_of_mem _ hq))⟩
      have h2 : Sp (R.reverse.map (·.1)) b.1 := h.sub (fun u hu => by simpa using hu)
      have h3 := tri_zero' R.reverse t1 (fun q hq => ho q (List.mem_cons_of_mem _ (List.mem_reverse.1 hq))) b.1 h2 (fun q hq => t3 q hq b (by simp))
      have h4 := ho b (List.mem_cons_self ..)
      rw [h3] at h4
      cases h4
  have h := key L.reverse (by rw [List.reverse_reverse]; exact ht) (fun q hq => ho q (List.mem_reverse.1 hq))
  rwa [List.map_reverse] at h
def freshS (x : S74) (row sym : List Int) (c : Nat) : S74 := ⟨x.f0, x.f1, x.f2 ++ [⟨row, sym⟩], x.f3.set c (x.f2.length : Int), false⟩
def clashS (x : S74) : S74 := ⟨x.f0, x.f1, x.f2, x.f3, true⟩
theorem rd_set (l : List Int) (c d : Nat) (v : Int) (hc : c < l.length) : rd (l.set c v) (d : Int) = if d = c then v else rd l (d : Int) := by
  unfold rd
  rw [Int.toNat_natCast, List.getD_eq_getElem?_getD, List.getElem?_set, List.getD_eq_getElem?_getD]
  by_cases h : c = d
  · subst h
    rw [if_pos rfl, if_pos hc, if_pos rfl]; rfl
  · rw [if_neg h, if_neg (fun e => h e.symm)]
theorem rd77_app {l : List S77} (e : S77) {i : Nat} (h : i < l.length) : rd_T77 (l ++ [e]) (i : Int) = rd_T77 l (i : Int) := by
  unfold rd_T77
  rw [Int.toNat_natCast, List.getD_eq_getElem?_getD, List.getElem?_append_left h, List.getD_eq_getElem?_getD]
theorem rd77_last (l : List S77) (e : S77) : rd_T77 (l ++ [e]) (l.length : Int) = e := by
  unfold rd_T77
  rw [Int.toNat_natCast, List.getD_eq_getElem?_getD, List.getElem?_append_right (Nat.le_refl _), Nat.sub_self]
  rfl
theorem SI.fresh {x : S74} {n m : Nat} (hI : SI x n m) {row sym : List Int} (hr : RowOK n row) (hs : SymOK m sym) {c : Nat} (hc : c < n) (hb : hasB row c = true) (hlow : ∀ c', c' < c → hasB row c' = false) : SI (freshS x row sym c) n m :=
  ⟨hI.n1, hI.n2, hI.m1, hI.m2, hI.f0, hI.f1, by show (x.f3.set c _).length = n; rw [List.length_set]; exact hI.alen, fun e he => by
    rcases List.mem_append.1 (show e ∈ x.f2 ++ [⟨row, sym⟩] from he) with h | h
    · exact hI.kept e h
    · obtain rfl : e = ⟨row, sym⟩ := by simpa using h
      exact ⟨hr, hs⟩, fun d hd => by
    have e1 : rd (freshS x row sym c).f3 (d : Int) = if d = c then (x.f2.length : Int) else rd x.f3 (d : Int) := rd_set x.f3 c d _ (by rw [hI.alen]; exact hc)
    have e2 : (freshS x row sym c).f2.length = x.f2.length + 1 := by show (x.f2 ++ [_]).length = _; simp
    rw [e1, e2]
    by_cases h : d = c
    · subst h
      rw [if_pos rfl]
      refine .inr ⟨x.f2.length, by omega, rfl, ?_⟩
      have e3 : rd_T77 (freshS x row sym d).f2 (x.f2.length : Int) = ⟨row, sym⟩ := rd77_last x.f2 _
      rw [e3]
      exact ⟨hb, hlow⟩
    · rw [if_neg h]
      rcases hI.at_ d hd with ha | ⟨i, hi, ha, h1⟩
      · exact .inl ha
      · refine .inr ⟨i, by omega, ha, ?_⟩
        have e3 : rd_T77 (freshS x row sym c).f2 (i : Int) = rd_T77 x.f2 (i : Int) := rd77_app _ hi
        rw [e3]
        exact h1⟩
theorem SI.clash {x : S74} {n m : Nat} (hI : SI x n m) : SI (clashS x) n m := ⟨hI.n1, hI.n2, hI.m1, hI.m2, hI.f0, hI.f1, hI.alen, hI.kept, hI.at_⟩
theorem IP.fresh {x : S74} {n m : Nat} (hI : SI x n m) {P : List Nat} (hP : IP x n P) {row sym : List Int} {c : Nat} (hc : c < n) (hat : rd x.f3 (c : Int) < 0) (hb : hasB row c = true) (hz : ∀ c', c' < n → 0 ≤ rd x.f3 (c' : Int) → hasB row c' = false) : IP (freshS x row sym c) n (P ++ [c]) := by
  have ez : ((freshS x row sym c).f2.map fun e => hasB e.f0).zip (P ++ [c]) = ((x.f2.map fun e => hasB e.f0).zip P) ++ [(hasB row, c)] := by
    show ((x.f2 ++ [(⟨row, sym⟩ : S77)]).map fun e => hasB e.f0).zip (P ++ [c]) = _
    rw [List.map_append, List.zip_append (by rw [List.length_map, hP.plen])]
    rfl
  refine ⟨by show (P ++ [c]).length = (x.f2 ++ [_]).length; simp [hP.plen], fun p hp => ?_, ?_, ?_⟩
  · have e1 : rd (freshS x row sym c).f3 (p : Int) = if p = c then (x.f2.length : Int) else rd x.f3 (p : Int) := rd_set x.f3 c p _ (by rw [hI.alen]; exact hc)
    rw [e1]
    rcases List.mem_append.1 hp with h | h
    · obtain ⟨h1, h2⟩ := hP.lt p h
      rw [if_neg (fun e => by subst e; omega)]
      exact ⟨h1, h2⟩
    · obtain rfl : p = c := by simpa using h
      rw [if_pos rfl]
      exact ⟨hc, by omega⟩
  · rw [ez]
    intro q hq
    rcases List.mem_append.1 hq with h | h
    · exact hP.own q h
    · obtain rfl : q = (hasB row, c) := by simpa using h
      exact hb
  · rw [ez]
    refine List.pairwise_append.2 ⟨hP.tri, List.pairwise_singleton _ _, fun b hb' d hd => ?_⟩
    obtain rfl : d = (hasB row, c) := by simpa using hd
    have hm : b.2 ∈ P := (List.of_mem_zip hb').2
    obtain ⟨h1, h2⟩ := hP.lt _ hm
    exact hz _ h1 h2
theorem eadd_ev {x : S74} {n m : Nat} (hI : SI x n m) (h4 : x.f4 = false) (hlen : x.f2.length < 1000000) {row sym : List Int} (hr : RowOK n row) (hs : SymOK m sym) :
    ∃ row' sym', RowOK n row' ∧ SymOK m sym' ∧ Sp (KV n x) (vx (J n row sym) (J n row' sym')) ∧ (∀ c, c < n → 0 ≤ rd x.f3 (c : Int) → hasB row' c = false) ∧
      ((∃ c, c < n ∧ rd x.f3 (c : Int) < 0 ∧ hasB row' c = true ∧ SI (freshS x row' sym' c) n m ∧ Ev (fun k => elim_System_Add.f k [x] row sym) (1, [], [freshS x row' sym' c])) ∨
       ((∀ c, hasB row' c = false) ∧ ((allZero sym' = true ∧ Ev (fun k => elim_System_Add.f k [x] row sym) (2, [], [x])) ∨ (allZero sym' = false ∧ Ev (fun k => elim_System_Add.f k [x] row sym) (3, [], [clashS x]))))) := by
  have hm2 := hI.m2
  obtain ⟨row', sym', first', he, hr', hs', hsp, hD⟩ := down_ev hI hr hs
  refine ⟨row', sym', hr', hs', hsp, fun c hc h0 => hD.1 c hc h0, ?_⟩
  have key : ∀ {r}, Ev (fun k => if 0 ≤ first' then
          (if first' < (x.f3.length : Int) ∧ x.f2.length < 2932031007402 then some (1, [], [⟨x.f0, x.f1, x.f2 ++ [⟨row', sym'⟩], x.f3.set first'.toNat (x.f2.length : Int), false⟩]) else none)
        else (symbol_Zero.f k sym').bind fun b => if b = true then some (2, [], [x]) else some (3, [], [⟨x.f0, x.f1, x.f2, x.f3, true⟩])) r → Ev (fun k => elim_System_Add.f k [x] row sym) r := fun h => by
    refine Ev.congr (f := fun k => (elimM_down.f k [x] row sym).bind fun z => if 0 ≤ z.2.2 then
          (if z.2.2 < (x.f3.length : Int) ∧ x.f2.length < 2932031007402 then some (1, [], [⟨x.f0, x.f1, x.f2 ++ [⟨z.1, z.2.1⟩], x.f3.set z.2.2.toNat (x.f2.length : Int), false⟩]) else none)
        else (symbol_Zero.f k z.2.1).bind fun b => if b = true then some (2, [], [x]) else some (3, [], [⟨x.f0, x.f1, x.f2, x.f3, true⟩])) (fun k => ?_) (Ev.bind he h)
    show elimM_Add.g k x row sym = _
    unfold elimM_Add.g
    rw [if_neg (by rw [h4]; decide), fits_yes hI hr]
    simp only [Option.bind_some]
    rw [if_pos ⟨trivial, by rw [hs.len, hI.f1]⟩]
  rcases hD.2 with ⟨e, hz⟩ | ⟨c0, e, hc0, hat, hb, hlow⟩
  · refine .inr ⟨fun c => ?_, ?_⟩
    · rcases Nat.lt_or_ge c n with h | h
      · exact hz c h
      · exact hr'.hi c h
    · have hzv := zero_ev sym' (by rw [hs'.len]; omega)
      cases ha : allZero sym' with
      | true =>
        rw [ha] at hzv
        refine .inl ⟨rfl, key ?_⟩
        refine Ev.congr (f := fun k => (symbol_Zero.f k sym').bind fun b => if b = true then some (2, [], [x]) else some (3, [], [⟨x.f0, x.f1, x.f2, x.f3, true⟩])) (fun k => by rw [if_neg (by omega)]) (Ev.bind hzv ?_)
        exact Ev.congr (f := fun _ => some (2, [], [x])) (fun k => if_pos rfl) (Ev.now _)
      | false =>
        rw [ha] at hzv
        refine .inr ⟨rfl, key ?_⟩
        refine Ev.congr (f := fun k => (symbol_Zero.f k sym').bind fun b => if b = true then some (2, [], [x]) else some (3, [], [⟨x.f0, x.f1, x.f2, x.f3, true⟩])) (fun k => by rw [if_neg (by omega)]) (Ev.bind hzv ?_)
        exact Ev.congr (f := fun _ => some (3, [], [clashS x])) (fun k => if_neg Bool.false_ne_true) (Ev.now _)
  · refine .inl ⟨c0, hc0, hat, hb, hI.fresh hr' hs' hc0 hb hlow, key ?_⟩
    refine Ev.congr (f := fun _ => some (1, [], [freshS x row' sym' c0])) (fun k => ?_) (Ev.now _)
    rw [if_pos (by omega), if_pos ⟨by rw [hI.alen]; omega, by omega⟩, e, Int.toNat_natCast]
    rfl
def newS (n m : Nat) : S74 := ⟨(n : Int), (m : Int), [], List.replicate n (-1), false⟩
theorem new_eq {n m : Nat} (h1 : 1 ≤ n) (h2 : n ≤ 4096) (h3 : 1 ≤ m) (h4 : m ≤ 64) : elim_New.f (n : Int) (m : Int) = some ([newS n m], []) := by
  unfold elim_New.f
  rw [if_pos ⟨by omega, by omega, by omega, by omega⟩, Int.toNat_natCast]
  rfl
theorem newS_at (n m : Nat) (c : Nat) (hc : c < n) : rd (newS n m).f3 (c : Int) = -1 := by
  unfold rd newS
  rw [Int.toNat_natCast, List.getD_eq_getElem?_getD, List.getElem?_replicate, if_pos hc]
  rfl
theorem SI.new {n m : Nat} (h1 : 1 ≤ n) (h2 : n ≤ 4096) (h3 : 1 ≤ m) (h4 : m ≤ 64) : SI (newS n m) n m :=
  ⟨h1, h2, h3, h4, rfl, rfl, by show (List.replicate n (-1 : Int)).length = n; simp, (fun e he => by cases he), fun c hc => .inl (newS_at n m c hc)⟩
theorem IP.new (n m : Nat) : IP (newS n m) n [] := ⟨rfl, (fun p hp => by cases hp), (fun q hq => by cases hq), List.Pairwise.nil⟩
theorem rank_eq (x : S74) : elim_System_Rank.f [x] = some (x.f2.length : Int) := by
  unfold elim_System_Rank.f elimM_Rank.f
  rw [if_neg (by simp), if_pos (by simp), hd_sys]
theorem gauss2_l0 (n N m : Nat) (hN : N ≤ n) (hn : n ≤ 1000000) (hm : m ≤ 1000000) (R0 : List (List Bool)) : ∀ (d c : Nat) (R : List (List Bool)) (done : Nat) (p : Nat → Nat), c + d = N → GInv n m R0 R done c p → (∀ j, j < done → p j < c) →
    ∃ R' done' p', Ev (fun k => geyserref03_Gauss.l0 k R (N : Int) (done : Int) (c : Int)) (R'.take done') ∧ GInv n m R0 R' done' N p' ∧ ∀ j, j < done' → p' j < N := by
  intro d
  induction d with
  | zero =>
    intro c R done p hc h hp
    obtain rfl : c = N := by omega
    have hlenR := h.len
    have hle := h.le
    refine ⟨R, done, p, ?_, h, hp⟩
    refine Ev.step (f := fun _ => some (R.take done)) (fun k => ?_) (Ev.now _)
    rw [geyserref03_Gauss.l0, if_neg (by omega), if_pos (by omega), if_pos (by omega), Int.toNat_natCast]
  | succ d ih =>
    intro c R done p hc h hp
    have hlenR := h.len
    have hle := h.le
    have e2 : ((c + 1 : Nat) : Int) = wrap64 ((c : Int) + 1) := by rw [w64s (by omega) (by omega)]; rfl
    obtain ⟨r, hr, hcase⟩ := pivot_ev R n c (by omega) h.rows (by omega) (R.length - done) done (by omega)
    have hr' : Ev (fun k => geyserref03_pivot.f k R (done : Int) (c : Int)) r := hr
    rcases hcase with ⟨rfl, hz⟩ | ⟨i, rfl, h1, h2, h3⟩
    · obtain ⟨R', done', p', hev, hI, hp'⟩ := ih (c + 1) R done p (by omega) (h.skip (fun j a b => hz j a (by omega))) (fun j hj => by have := hp j hj; omega)
      rw [e2] at hev
      refine ⟨R', done', p', ?_, hI, hp'⟩
      refine Ev.step (f := fun k => (geyserref03_pivot.f k R (done : Int) (c : Int)).bind fun t335 => (if t335 < 0 then (geyserref03_Gauss.l0 k R (N : Int) (done : Int) (wrap64 ((c : Int) + 1))) else ((geyserref03_swap.f R (done : Int) t335).bind fun t336 => ((geyserref03_clear.f k t336 (done : Int) (c : Int)).bind fun t339 => (geyserref03_Gauss.l0 k t339 (N : Int) (wrap64 ((done : Int) + 1)) (wrap64 ((c : Int) + 1))))))) (fun k => ?_) (Ev.bind hr' ?_)
      · rw [geyserref03_Gauss.l0, if_pos (by omega)]
      · refine Ev.congr (fun k => ?_) hev
        rw [if_pos (by decide)]
    · have hI1 := h.take i h1 (by omega) h3
      obtain ⟨R', done', p', hev, hI, hp'⟩ := ih (c + 1) _ (done + 1) _ (by omega) hI1 (fun j hj => by
        show (if j = done then c else p j) < c + 1
        by_cases e : j = done
        · rw [if_pos e]; omega
        · rw [if_neg e]; have := hp j (by omega); omega)
      have e3 : ((done + 1 : Nat) : Int) = wrap64 ((done : Int) + 1) := by rw [w64s (by omega) (by omega)]; rfl
      rw [e2, e3] at hev
      have hrows1 : ∀ x ∈ swapL R done i, x.length = n := by
        intro x hx
        obtain ⟨k, hk, rfl⟩ := mem_gr hx
        have l1 : (swapL R done i).length = m := by rw [swapL_len]; exact h.len
        rw [swapL_gr R done i (by omega) (by omega) k (by omega)]
        refine h.rows _ (gr_mem ?_)
        unfold sg; split; omega; split <;> omega
      have hclr := clear_ev (swapL R done i) n done c (by rw [swapL_len]; omega) (by omega) hrows1 hn (by rw [swapL_len]; omega)
      refine ⟨R', done', p', ?_, hI, hp'⟩
      refine Ev.step (f := fun k => (geyserref03_pivot.f k R (done : Int) (c : Int)).bind fun t335 => (if t335 < 0 then (geyserref03_Gauss.l0 k R (N : Int) (done : Int) (wrap64 ((c : Int) + 1))) else ((geyserref03_swap.f R (done : Int) t335).bind fun t336 => ((geyserref03_clear.f k t336 (done : Int) (c : Int)).bind fun t339 => (geyserref03_Gauss.l0 k t339 (N : Int) (wrap64 ((done : Int) + 1)) (wrap64 ((c : Int) + 1))))))) (fun k => ?_) (Ev.bind hr' ?_)
      · rw [geyserref03_Gauss.l0, if_pos (by omega)]
      · refine Ev.congr (fun k => ?_) (Ev.bind (f := fun k t339 => geyserref03_Gauss.l0 k t339 (N : Int) (wrap64 ((done : Int) + 1)) (wrap64 ((c : Int) + 1))) hclr hev)
        rw [if_neg (by omega), swap_eq R done i (by omega) (by omega) (by omega)]
        rfl
theorem gauss2_ev (R0 : List (List Bool)) (n N : Nat) (hN : N ≤ n) (hn : n ≤ 1000000) (hm : R0.length ≤ 1000000) (hR : ∀ x ∈ R0, x.length = n) : ∃ R' done' p', Ev (fun k => geyserref03_Gauss.f k R0 (N : Int)) (R'.take done') ∧ GInv n R0.length R0 R' done' N p' ∧ ∀ j, j < done' → p' j < N := by
  have h0 : GInv n R0.length R0 R0 0 0 (fun _ => 0) := ⟨rfl, Nat.zero_le _, hR, fun j hj => by omega, fun i _ _ e he => by omega, fun x hx => Sp.mem (List.mem_map.2 ⟨x, hx, rfl⟩), fun x hx => Sp.mem (List.mem_map.2 ⟨x, hx, rfl⟩)⟩
  exact gauss2_l0 n N R0.length hN hn hm R0 N 0 R0 0 (fun _ => 0) (by omega) h0 (fun j hj => by omega)
theorem Rk.snoc {L : List V} {v : V} {r s : Nat} (h : Rk (L ++ [v]) r) (k : Rk L s) : r = s ↔ Sp L v := by
  constructor
  · intro e
    rcases Classical.em (Sp L v) with g | g
    · exact g
    · exfalso
      obtain ⟨B, b1, b2, b3, b4⟩ := k
      obtain ⟨D, d1, d2, d3, d4⟩ := h
      have := steinitz D (v :: B) ⟨fun hs => g (hs.trans b3), b1⟩ (fun u hu => by
        rcases List.mem_cons.1 hu with rfl | hu
        · exact d4 _ (by simp)
        · exact (b3 u hu).trans (fun w hw => d4 w (List.mem_append_left _ hw)))
      rw [List.length_cons, b2, d2] at this
      omega
  · intro hs
    exact h.eq k (fun x hx => by
      rcases List.mem_append.1 hx with g | g
      · exact Sp.mem g
      · obtain rfl : x = v := by simpa using g
        exact hs) (fun x hx => Sp.mem (List.mem_append_left _ hx))
theorem spans_ev (rows : List (List Int)) (row : List Int) (n : Nat) (h : Mat (rows ++ [row]) n) (hl : rows.length < 1000000) : ∃ b : Bool, Ev (fun k => geyserref03_Spans.f k rows (n : Int) row) b ∧ (b = true ↔ Sp (rows.map hasB) (hasB row)) := by
  have h2 : Mat rows n := ⟨by omega, h.2.1, fun r hr => h.2.2 r (List.mem_append_left _ hr)⟩
  obtain ⟨r1, e1, k1⟩ := rrank_ev _ n h
  obtain ⟨r2, e2, k2⟩ := rrank_ev _ n h2
  rw [List.map_append, List.map_singleton] at k1
  refine ⟨((r1 : Int) == (r2 : Int)), ?_, ?_⟩
  · refine Ev.congr (f := fun k => (geyserref03_Rank.f k (rows ++ [row]) (n : Int)).bind fun t603 => ((geyserref03_Rank.f k rows (n : Int)).bind fun t604 => (some (t603 == t604)))) (fun k => ?_) (Ev.bind e1 (Ev.bind e2 (Ev.now _)))
    unfold geyserref03_Spans.f
    simp only [Option.bind_some, List.nil_append, List.length_nil, Nat.zero_add]
    rw [if_pos (by omega), if_pos (by omega)]
  · rw [← Rk.snoc k1 k2, beq_iff_eq]
    omega
def longL (n : Nat) (row sym : List Int) : List Bool := (List.range (n + 8 * sym.length)).map (J n row sym)
theorem longL_len (n : Nat) (row sym : List Int) : (longL n row sym).length = n + 8 * sym.length := by simp [longL]
theorem longL_next (n : Nat) (row sym : List Int) (c : Nat) (h : c < n + 8 * sym.length) : (longL n row sym).take c ++ [J n row sym c] = (longL n row sym).take (c + 1) := by
  rw [List.take_add_one, List.getElem?_eq_getElem (by rw [longL_len]; exact h)]
  simp [longL]
theorem bv_longL (n : Nat) (row sym : List Int) : bv (longL n row sym) = J n row sym := by
  funext c
  unfold bv
  by_cases h : c < n + 8 * sym.length
  · rw [List.getD_eq_getElem?_getD, List.getElem?_eq_getElem (by rw [longL_len]; exact h)]
    simp [longL]
  · rw [List.getD_eq_getElem?_getD, List.getElem?_eq_none (by rw [longL_len]; omega)]
    unfold J byB
    rw [if_neg (by omega), List.getD_eq_getElem?_getD, List.getElem?_eq_none (by omega)]
    exact (Nat.zero_testBit _).symm
theorem long_l (n : Nat) (hn : n ≤ 4096) (row sym : List Int) (hs : ∀ x ∈ sym, 0 ≤ x ∧ x ≤ 255) (hl : sym.length ≤ 1000000) : ∀ (q i : Nat), i + q = sym.length →
    Ev (fun k => geyserref05_long.l0 k sym ((longL n row sym).take (n + 8 * i)) (i : Int)) (longL n row sym) := by
  intro q
  induction q with
  | zero =>
    intro i hi
    refine Ev.step (f := fun _ => some (longL n row sym)) (fun k => ?_) (Ev.now _)
    rw [geyserref05_long.l0, if_neg (by omega), List.take_of_length_le (by rw [longL_len]; omega)]
  | succ q ih =>
    intro i hi
    have hlt : i < sym.length := by omega
    have hw : wrap64 ((i : Int) + 1) = ((i + 1 : Nat) : Int) := by rw [w64s (by omega) (by omega)]; rfl
    have hmem : rd sym (i : Int) ∈ sym := by unfold rd; rw [Int.toNat_natCast]; exact getD_mem hlt
    have hb := hs _ hmem
    have inner : ∀ (d b : Nat), b + d = 8 → Ev (fun k => geyserref05_long.l1 k sym ((longL n row sym).take (n + 8 * i + b)) (i : Int) (b : Int)) (longL n row sym) := by
      intro d
      induction d with
      | zero =>
        intro b hb8
        obtain rfl : b = 8 := by omega
        refine Ev.step (fun k => ?_) (ih (i + 1) (by omega))
        rw [geyserref05_long.l1, if_neg (by decide), hw, show n + 8 * i + 8 = n + 8 * (i + 1) by omega]
      | succ d ih2 =>
        intro b hb8
        have hwb : wrap64 ((b : Int) + 1) = ((b + 1 : Nat) : Int) := by rw [w64s (by omega) (by omega)]; rfl
        have hbit : geyserref02_Bit.f (IntKind.u64.wrap (rd sym (i : Int))) (b : Int) = some (J n row sym (n + 8 * i + b)) := by
          obtain ⟨z, hz⟩ := Int.eq_ofNat_of_zero_le hb.1
          have hz2 : z ≤ 255 := by have := hb.2; omega
          rw [hz, wrap_u z (by omega), refbit_eq (z : Int) ⟨by omega, by omega⟩ b (by omega)]
          have hj : J n row sym (n + 8 * i + b) = byB sym (8 * i + b) := by
            unfold J
            rw [if_neg (by omega), show n + 8 * i + b - n = 8 * i + b by omega]
          rw [hj]
          unfold byB
          rw [show (8 * i + b) / 8 = i by omega, show (8 * i + b) % 8 = b by omega]
          have hr : sym.getD i 0 = (z : Int) := by rw [← hz]; unfold rd; rw [Int.toNat_natCast]
          rw [hr]
        refine Ev.step (fun k => ?_) (ih2 (b + 1) (by omega))
        rw [geyserref05_long.l1, if_pos (by omega), if_pos (by omega), if_pos (by omega), hbit, Option.bind_some, if_pos (by rw [List.length_take, longL_len]; omega), longL_next n row sym _ (by omega), hwb]
        rfl
    refine Ev.step (fun k => ?_) (inner 8 0 (by omega))
    rw [geyserref05_long.l0, if_pos (by omega)]
    rfl
theorem long_ev (n : Nat) (hn : n ≤ 4096) (row sym : List Int) (hu : ∀ x ∈ row, U64 x) (hrl : row.length ≤ 1000000) (hs : ∀ x ∈ sym, 0 ≤ x ∧ x ≤ 255) (hl : sym.length ≤ 1000000) : Ev (fun k => geyserref05_long.f k row sym (n : Int)) (longL n row sym) := by
  have e : tr row n = (longL n row sym).take n := by
    refine List.ext_getElem (by rw [tr_len, List.length_take, longL_len]; omega) (fun c h1 h2 => ?_)
    have hc : c < n := by rw [tr_len] at h1; exact h1
    simp [tr, longL, J, hc]
  have h := long_l n hn row sym hs hl sym.length 0 (by omega)
  rw [Nat.mul_zero, Nat.add_zero, ← e] at h
  unfold geyserref05_long.f
  exact Ev.bind (truths_ev row n hu hrl (by omega)) h
theorem rd98_mem {l : List S98} {i : Nat} (h : i < l.length) : rd_T98 l (i : Int) ∈ l := by
  unfold rd_T98
  rw [Int.toNat_natCast, List.getD_eq_getElem?_getD, List.getElem?_eq_getElem h]
  exact List.getElem_mem h
theorem take98 {α : Type} (f : S98 → α) (l : List S98) (i : Nat) (h : i < l.length) : (l.take i).map f ++ [f (rd_T98 l (i : Int))] = (l.take (i + 1)).map f := by
  rw [List.take_add_one, List.getElem?_eq_getElem h, List.map_append]
  unfold rd_T98
  rw [Int.toNat_natCast, List.getD_eq_getElem?_getD, List.getElem?_eq_getElem h]
  rfl
theorem rows05_ev (a b : Int) (l : List S98) (c : Bool) (hl : l.length ≤ 1000000) : Ev (fun k => geyserref05_Rows.f k a b l c) (l.map (·.f0)) := by
  have h : ∀ (d i : Nat), i + d = l.length → Ev (fun k => geyserref05_Rows.l0 k ((l.take i).map (·.f0)) (i : Int) a b l c) (l.map (·.f0)) := by
    intro d
    induction d with
    | zero =>
      intro i hi
      refine Ev.step (f := fun _ => some (l.map (·.f0))) (fun k => ?_) (Ev.now _)
      rw [geyserref05_Rows.l0, if_neg (by omega), List.take_of_length_le (by omega)]
    | succ d ih =>
      intro i hi
      have hw : wrap64 ((i : Int) + 1) = ((i + 1 : Nat) : Int) := by rw [w64s (by omega) (by omega)]; rfl
      refine Ev.step (fun k => ?_) (ih (i + 1) (by omega))
      rw [geyserref05_Rows.l0, if_pos (by omega), if_pos (by omega), if_pos (by rw [List.length_map, List.length_take]; omega), hw, take98 (·.f0) l i (by omega)]
  exact h l.length 0 (by omega)
structure LOK (n m : Nat) (l : List S98) : Prop where
  len : l.length ≤ 100000
  ok : ∀ e ∈ l, RowOK n e.f0 ∧ SymOK m e.f1
theorem LOK.long {n m : Nat} (h1 : n ≤ 4096) (h2 : m ≤ 64) {row sym : List Int} (hr : RowOK n row) (hs : SymOK m sym) : Ev (fun k => geyserref05_long.f k row sym (n : Int)) (longL n row sym) :=
  long_ev n h1 row sym hr.u (by rw [hr.len]; have := nW_pos h1; omega) hs.b (by rw [hs.len]; omega)
theorem longs_ev {n m : Nat} (h1 : n ≤ 4096) (h2 : m ≤ 64) (b : Int) {l : List S98} (c : Bool) (hl : LOK n m l) {row sym : List Int} (hr : RowOK n row) (hs : SymOK m sym) : Ev (fun k => geyserref05_longs.f k (n : Int) b l c row sym) (l.map (fun e => longL n e.f0 e.f1) ++ [longL n row sym]) := by
  have hlen := hl.len
  have h : ∀ (d i : Nat), i + d = l.length → Ev (fun k => geyserref05_longs.l0 k row sym ((l.take i).map (fun e => longL n e.f0 e.f1)) (i : Int) (n : Int) b l c) (l.map (fun e => longL n e.f0 e.f1) ++ [longL n row sym]) := by
    intro d
    induction d with
    | zero =>
      intro i hi
      refine Ev.step (f := fun k => (geyserref05_long.f k row sym (n : Int)).bind fun t633 => (if ((l.take i).map (fun e => longL n e.f0 e.f1)).length < 5864062014805 then (some ((l.take i).map (fun e => longL n e.f0 e.f1) ++ [t633])) else (none))) (fun k => ?_) (Ev.bind (LOK.long h1 h2 hr hs) (Ev.congr (f := fun _ => some (l.map (fun e => longL n e.f0 e.f1) ++ [longL n row sym])) (fun k => ?_) (Ev.now _)))
      · rw [geyserref05_longs.l0, if_neg (by omega)]
      · rw [if_pos (by rw [List.length_map, List.length_take]; omega), List.take_of_length_le (by omega)]
    | succ d ih =>
      intro i hi
      have hw : wrap64 ((i : Int) + 1) = ((i + 1 : Nat) : Int) := by rw [w64s (by omega) (by omega)]; rfl
      obtain ⟨ro, so⟩ := hl.ok _ (rd98_mem (i := i) (by omega))
      refine Ev.step (f := fun k => (geyserref05_long.f k ((rd_T98 l (i : Int)).f0) ((rd_T98 l (i : Int)).f1) (n : Int)).bind fun t627 => (if ((l.take i).map (fun e => longL n e.f0 e.f1)).length < 5864062014805 then (geyserref05_longs.l0 k row sym ((l.take i).map (fun e => longL n e.f0 e.f1) ++ [t627]) ((i + 1 : Nat) : Int) (n : Int) b l c) else (none))) (fun k => ?_) (Ev.bind (LOK.long h1 h2 ro so) (Ev.congr (fun k => ?_) (ih (i + 1) (by omega))))
      · rw [geyserref05_longs.l0, if_pos (by omega), if_pos (by omega), hw]
      · rw [if_pos (by rw [List.length_map, List.length_take]; omega), take98 (fun e => longL n e.f0 e.f1) l i (by omega)]
  exact h l.length 0 (by omega)
theorem gauss_len (R0 : List (List Bool)) (n : Nat) (hn : n ≤ 1000000) (hm : R0.length ≤ 1000000) (hR : ∀ x ∈ R0, x.length = n) : ∃ (G : List (List Bool)) (r : Nat), Ev (fun k => geyserref03_Gauss.f k R0 (n : Int)) G ∧ G.length = r ∧ Rk (R0.map bv) r := by
  obtain ⟨R', done', p', he, hI⟩ := gauss_ev R0 n hn hm hR
  exact ⟨_, done', he, by rw [List.length_take, hI.len]; have := hI.le; omega, hI.rk⟩
theorem kind_ev {n m : Nat} (n1 : 1 ≤ n) (h1 : n ≤ 4096) (m1 : 1 ≤ m) (h2 : m ≤ 64) {l : List S98} (c : Bool) (hl : LOK n m l) {row sym : List Int} (hr : RowOK n row) (hs : SymOK m sym) :
    ∃ kind : Int, Ev (fun k => geyserref05_Kind.f k (n : Int) (m : Int) l c row sym) kind ∧
      ((kind = 1 ∧ ¬ Sp (l.map fun e => hasB e.f0) (hasB row)) ∨ (kind = 2 ∧ Sp (l.map fun e => J n e.f0 e.f1) (J n row sym)) ∨ (kind = 3 ∧ Sp (l.map fun e => hasB e.f0) (hasB row) ∧ ¬ Sp (l.map fun e => J n e.f0 e.f1) (J n row sym))) := by
  have hlen := hl.len
  have eR := rows05_ev (n : Int) (m : Int) l c (by omega)
  have hmat : Mat (l.map (·.f0) ++ [row]) n := ⟨by rw [List.length_append, List.length_map, List.length_singleton]; omega, h1, fun r h => by
    have g : RowOK n r := by
      rcases List.mem_append.1 h with g | g
      · obtain ⟨e, he, rfl⟩ := List.mem_map.1 g
        exact (hl.ok e he).1
      · obtain rfl : r = row := by simpa using g
        exact hr
    exact ⟨(wokB_iff r n (by omega)).2 ⟨g.len, fun c hc => g.hi c (by omega)⟩, g.u⟩⟩
  obtain ⟨b, eS, hb⟩ := spans_ev (l.map (·.f0)) row n hmat (by rw [List.length_map]; omega)
  rw [List.map_map] at hb
  have hb' : b = true ↔ Sp (l.map fun e => hasB e.f0) (hasB row) := hb
  have key : ∀ {r}, Ev (fun k => if b = true then ((geyserref05_longs.f k (n : Int) (m : Int) l c row sym).bind fun t644 => ((geyserref03_Gauss.f k t644 (wrap64 ((n : Int) + (wrap64 (8 * (m : Int)))))).bind fun t647 => (if 0 ≤ (wrap64 ((t644.length : Int) - 1)) then (if (wrap64 ((t644.length : Int) - 1)) ≤ (t644.length : Int) then ((geyserref03_Gauss.f k (t644.take ((wrap64 ((t644.length : Int) - 1)) : Int).toNat) (wrap64 ((n : Int) + (wrap64 (8 * (m : Int)))))).bind fun t655 => (if (t647.length : Int) = (t655.length : Int) then (some 2) else (some 3))) else (none)) else (none)))) else (some 1)) r → Ev (fun k => geyserref05_Kind.f k (n : Int) (m : Int) l c row sym) r := fun h => Ev.bind eR (Ev.bind eS h)
  cases b with
  | false =>
    refine ⟨1, key (Ev.congr (fun k => if_neg Bool.false_ne_true) (Ev.now _)), .inl ⟨rfl, fun h => by cases hb'.2 h⟩⟩
  | true =>
    have eW : wrap64 ((n : Int) + (wrap64 (8 * (m : Int)))) = ((n + 8 * m : Nat) : Int) := by
      rw [w64s (x := 8 * (m : Int)) (by omega) (by omega), w64s (by omega) (by omega)]; omega
    have hLen : ∀ x ∈ l.map (fun e => longL n e.f0 e.f1), x.length = n + 8 * m := fun x hx => by
      obtain ⟨e, he, rfl⟩ := List.mem_map.1 hx
      rw [longL_len, (hl.ok e he).2.len]
    obtain ⟨G1, r1, g1, l1, k1⟩ := gauss_len (l.map (fun e => longL n e.f0 e.f1) ++ [longL n row sym]) (n + 8 * m) (by omega) (by rw [List.length_append, List.length_map, List.length_singleton]; omega) (fun x hx => by
      rcases List.mem_append.1 hx with g | g
      · exact hLen x g
      · obtain rfl : x = longL n row sym := by simpa using g
        rw [longL_len, hs.len])
    obtain ⟨G2, r2, g2, l2, k2⟩ := gauss_len (l.map (fun e => longL n e.f0 e.f1)) (n + 8 * m) (by omega) (by rw [List.length_map]; omega) hLen
    have em : (l.map (fun e => longL n e.f0 e.f1)).map bv = l.map fun e => J n e.f0 e.f1 := by
      rw [List.map_map]
      exact List.map_congr_left (fun e _ => bv_longL n e.f0 e.f1)
    rw [List.map_append, List.map_singleton, bv_longL, em] at k1
    rw [em] at k2
    have hsn := Rk.snoc k1 k2
    have eL : ((l.map (fun e => longL n e.f0 e.f1) ++ [longL n row sym]).length : Int) = ((l.length + 1 : Nat) : Int) := by rw [List.length_append, List.length_map, List.length_singleton]
    have eL2 : wrap64 (((l.length + 1 : Nat) : Int) - 1) = ((l.length : Nat) : Int) := by rw [w64s (by omega) (by omega)]; omega
    have eT : (l.map (fun e => longL n e.f0 e.f1) ++ [longL n row sym]).take l.length = l.map (fun e => longL n e.f0 e.f1) := by
      rw [List.take_append_of_le_length (by rw [List.length_map]; exact Nat.le_refl _), List.take_of_length_le (by rw [List.length_map]; exact Nat.le_refl _)]
    have fin : Ev (fun k => geyserref05_Kind.f k (n : Int) (m : Int) l c row sym) (if r1 = r2 then 2 else 3) := key (by
      refine Ev.congr (fun k => if_pos rfl) (Ev.bind (longs_ev h1 h2 (m : Int) c hl hr hs) ?_)
      rw [eW]
      refine Ev.bind g1 ?_
      refine Ev.congr (f := fun k => (geyserref03_Gauss.f k (l.map (fun e => longL n e.f0 e.f1)) ((n + 8 * m : Nat) : Int)).bind fun t655 => (if (G1.length : Int) = (t655.length : Int) then (some 2) else (some 3))) (fun k => ?_) (Ev.bind g2 (Ev.congr (f := fun _ => some (if r1 = r2 then 2 else 3)) (fun k => ?_) (Ev.now _)))
      · rw [eL, eL2, if_pos (by omega), if_pos (by omega), Int.toNat_natCast, eT]
      · rw [l1, l2]
        by_cases e : r1 = r2
        · rw [if_pos e, if_pos (by omega)]
        · rw [if_neg e, if_neg (by omega)])
    by_cases e : r1 = r2
    · rw [if_pos e] at fin
      exact ⟨2, fin, .inr (.inl ⟨rfl, hsn.1 e⟩)⟩
    · rw [if_neg e] at fin
      exact ⟨3, fin, .inr (.inr ⟨rfl, hb'.1 rfl, fun h => e (hsn.2 h)⟩)⟩
def pf (D : Nat → Nat → Bool) (v : V) (p : Nat) : Nat → Nat → Bool
  | _, 0 => false
  | c, d + 1 => ((v c && D c p) != pf D v p (c + 1) d)
theorem pf_vx (D : Nat → Nat → Bool) (u v : V) (p : Nat) : ∀ d c, pf D (vx u v) p c d = (pf D u p c d != pf D v p c d)
  | 0, _ => rfl
  | d + 1, c => by
    show ((vx u v c && D c p) != pf D (vx u v) p (c + 1) d) = (((u c && D c p) != pf D u p (c + 1) d) != ((v c && D c p) != pf D v p (c + 1) d))
    rw [pf_vx D u v p d (c + 1)]
    show (((u c != v c) && D c p) != _) = _
    cases u c <;> cases v c <;> cases D c p <;> cases pf D u p (c + 1) d <;> cases pf D v p (c + 1) d <;> rfl
theorem pf_none (D : Nat → Nat → Bool) (v : V) (p : Nat) : ∀ d c, (∀ c', c ≤ c' → c' < c + d → v c' = false) → pf D v p c d = false
  | 0, _, _ => rfl
  | d + 1, c, h => by
    show ((v c && D c p) != pf D v p (c + 1) d) = false
    rw [h c (Nat.le_refl _) (by omega), pf_none D v p d (c + 1) (fun c' h1 h2 => h c' (by omega) (by omega))]
    rfl
def Tr (n : Nat) (D : Nat → Nat → Bool) (v : V) : Prop := ∀ p, v (n + p) = pf D v p 0 n
theorem Tr.zero (n : Nat) (D : Nat → Nat → Bool) : Tr n D v0 := fun p => (pf_none D v0 p n 0 (fun _ _ _ => rfl)).symm
theorem Tr.vx {n : Nat} {D : Nat → Nat → Bool} {u v : V} (h : Tr n D u) (k : Tr n D v) : Tr n D (Lin.vx u v) := fun p => by
  rw [pf_vx, ← h p, ← k p]; rfl
theorem Tr.sp {n : Nat} {D : Nat → Nat → Bool} {L : List V} (hL : ∀ u ∈ L, Tr n D u) {v : V} (h : Sp L v) : Tr n D v := by
  induction h with
  | zero => exact Tr.zero n D
  | add hu _ ih => exact (hL _ hu).vx ih
theorem byB_ext {m : Nat} {s t : List Int} (hs : SymOK m s) (ht : SymOK m t) (h : ∀ p, byB s p = byB t p) : s = t := by
  refine List.ext_getElem (by rw [hs.len, ht.len]) (fun i h1 h2 => ?_)
  have b1 := hs.b _ (List.getElem_mem h1)
  have b2 := ht.b _ (List.getElem_mem h2)
  have e : (s[i]).toNat = (t[i]).toNat := by
    refine Nat.eq_of_testBit_eq (fun j => ?_)
    by_cases hj : j < 8
    · have := h (8 * i + j)
      unfold byB at this
      rw [show (8 * i + j) / 8 = i by omega, show (8 * i + j) % 8 = j by omega, List.getD_eq_getElem?_getD, List.getElem?_eq_getElem h1, List.getD_eq_getElem?_getD, List.getElem?_eq_getElem h2] at this
      exact this
    · have hp : 256 ≤ 2 ^ j := Nat.le_trans (show 256 ≤ 2 ^ 8 by decide) (Nat.pow_le_pow_right (by decide) (by omega))
      rw [Nat.testBit_lt_two_pow (by omega), Nat.testBit_lt_two_pow (by omega)]
  omega
theorem SymOK.zeros (m : Nat) : SymOK m (zeros (m : Int)) :=
  ⟨by unfold Pure.zeros; rw [Int.toNat_natCast, List.length_replicate], fun x hx => by
    obtain rfl := List.eq_of_mem_replicate hx
    exact ⟨Int.le_refl _, by decide⟩⟩
theorem byB_zeros (m p : Nat) : byB (zeros (m : Int)) p = false := by
  unfold byB zeros
  rw [List.getD_eq_getElem?_getD, List.getElem?_replicate]
  by_cases h : p / 8 < (m : Int).toNat
  · rw [if_pos h]; exact Nat.zero_testBit _
  · rw [if_neg h]; exact Nat.zero_testBit _
theorem allZero_zeros (n : Int) : allZero (zeros n) = true := by
  unfold allZero zeros
  rw [List.all_eq_true]
  intro x hx
  rw [List.eq_of_mem_replicate hx]
  rfl
theorem allZero_of {m : Nat} {s : List Int} (hs : SymOK m s) (h : ∀ p, byB s p = false) : allZero s = true := by
  rw [byB_ext hs (SymOK.zeros m) (fun p => by rw [h p, byB_zeros])]
  exact allZero_zeros _
theorem of_allZero {m : Nat} {s : List Int} (hs : SymOK m s) (h : allZero s = true) : s = zeros (m : Int) := by
  unfold zeros
  rw [Int.toNat_natCast, ← hs.len]
  refine List.eq_replicate_of_mem (fun x hx => ?_)
  have := List.all_eq_true.1 h x hx
  simpa using this
theorem J_lo {n c : Nat} (r s : List Int) (h : c < n) : J n r s c = hasB r c := if_pos h
theorem J_hi (n p : Nat) (r s : List Int) : J n r s (n + p) = byB s p := by
  unfold J
  rw [if_neg (by omega), Nat.add_sub_cancel_left]
def pr (n : Nat) (v : V) : V := fun c => if c < n then v c else false
theorem pr_vx (n : Nat) (u v : V) : pr n (vx u v) = vx (pr n u) (pr n v) := by
  funext c
  unfold pr vx
  by_cases h : c < n
  · simp [h]
  · simp [h]
theorem pr_v0 (n : Nat) : pr n v0 = v0 := by funext c; unfold pr v0; by_cases h : c < n <;> simp [h]
theorem pr_sp {n : Nat} {L : List V} {v : V} (h : Sp L v) : Sp (L.map (pr n)) (pr n v) := by
  induction h with
  | zero => rw [pr_v0]; exact Sp.zero
  | add hu _ ih => rw [pr_vx]; exact Sp.add (List.mem_map_of_mem hu) ih
theorem pr_J {n : Nat} {r : List Int} (hr : RowOK n r) (s : List Int) : pr n (J n r s) = hasB r := by
  funext c
  unfold pr
  by_cases h : c < n
  · rw [if_pos h, J_lo r s h]
  · rw [if_neg h, hr.hi c (by omega)]
theorem pr_KV {x : S74} {n m : Nat} (hI : SI x n m) : (KV n x).map (pr n) = x.f2.map fun e => hasB e.f0 := by
  unfold KV
  rw [List.map_map]
  refine List.map_congr_left (fun e he => ?_)
  exact pr_J (hI.kept e he).1 _
structure TI (x : S74) (n m : Nat) (D : Nat → Nat → Bool) (L : List V) : Prop where
  si : SI x n m
  ip : ∃ P, IP x n P
  f4 : x.f4 = false
  tr : ∀ v ∈ L, Tr n D v
  up : ∀ v ∈ L, Sp (KV n x) v
  dn : ∀ v ∈ KV n x, Sp L v
  kl : x.f2.length ≤ L.length
theorem IP.map_fst {x : S74} {n : Nat} {P : List Nat} (h : IP x n P) : ((x.f2.map fun e => hasB e.f0).zip P).map (·.1) = x.f2.map fun e => hasB e.f0 :=
  List.map_fst_zip (by rw [List.length_map, h.plen]; exact Nat.le_refl _)
theorem TI.null {x : S74} {n m : Nat} {D : Nat → Nat → Bool} {L : List V} (h : TI x n m D L) {row : List Int} (hr : RowOK n row) (hs : Sp (x.f2.map fun e => hasB e.f0) (hasB row)) (hz : ∀ c, c < n → 0 ≤ rd x.f3 (c : Int) → hasB row c = false) : ∀ c, hasB row c = false := by
  obtain ⟨P, hP⟩ := h.ip
  have := tri_zero' _ hP.tri hP.own (hasB row) (by rw [hP.map_fst]; exact hs) (fun q hq => by
    have hm : q.2 ∈ P := (List.of_mem_zip hq).2
    obtain ⟨h1, h2⟩ := hP.lt _ hm
    exact hz _ h1 h2)
  intro c
  rw [this]; rfl
theorem TI.trK {x : S74} {n m : Nat} {D : Nat → Nat → Bool} {L : List V} (h : TI x n m D L) : ∀ v ∈ KV n x, Tr n D v := fun v hv => Tr.sp h.tr (h.dn v hv)
theorem TI.new {n m : Nat} (h1 : 1 ≤ n) (h2 : n ≤ 4096) (h3 : 1 ≤ m) (h4 : m ≤ 64) (D : Nat → Nat → Bool) : TI (newS n m) n m D [] :=
  ⟨SI.new h1 h2 h3 h4, ⟨[], IP.new n m⟩, rfl, (fun v hv => by cases hv), (fun v hv => by cases hv), (fun v hv => by cases hv), Nat.le_refl _⟩
theorem KV_fresh (n : Nat) (x : S74) (row sym : List Int) (c : Nat) : KV n (freshS x row sym c) = KV n x ++ [J n row sym] := by
  unfold KV freshS
  rw [List.map_append]; rfl
theorem vx_back {L : List V} {a b : V} (h : Sp L (vx a b)) (k : Sp L b) : Sp L a := by
  have := h.vx k
  rwa [vx_cancel] at this
theorem TI.add {x : S74} {n m : Nat} {D : Nat → Nat → Bool} {L : List V} (h : TI x n m D L) (hL : L.length < 1000000) {row sym : List Int} (hr : RowOK n row) (hs : SymOK m sym) (ht : Tr n D (J n row sym)) :
    (∃ x', Ev (fun k => elim_System_Add.f k [x] row sym) (1, [], [x']) ∧ TI x' n m D (L ++ [J n row sym]) ∧ x'.f2.length = x.f2.length + 1 ∧ ¬ Sp (L.map (pr n)) (hasB row)) ∨
    (Ev (fun k => elim_System_Add.f k [x] row sym) (2, [], [x]) ∧ TI x n m D (L ++ [J n row sym]) ∧ Sp L (J n row sym)) := by
  have hkl := h.kl
  obtain ⟨row', sym', hr', hs', hsp, hz, hc⟩ := eadd_ev h.si h.f4 (by omega) hr hs
  have tr1 : Tr n D (J n row' sym') := by
    have h1 := Tr.sp h.trK hsp
    have h2 := ht.vx h1
    rwa [← vx_assoc, vx_self, zero_vx] at h2
  have tr2 : ∀ v ∈ L ++ [J n row sym], Tr n D v := fun v hv => by
    rcases List.mem_append.1 hv with g | g
    · exact h.tr v g
    · obtain rfl : v = J n row sym := by simpa using g
      exact ht
  have lft : ∀ {v}, Sp L v → Sp (L ++ [J n row sym]) v := fun g => g.sub (fun u hu => List.mem_append_left _ hu)
  rcases hc with ⟨c, hc, hat, hb, hsi, he⟩ | ⟨h0, hc⟩
  · refine .inl ⟨_, he, ⟨hsi, ?_, rfl, tr2, ?_, ?_, ?_⟩, ?_, ?_⟩
    · obtain ⟨P, hP⟩ := h.ip
      exact ⟨_, hP.fresh h.si hc hat hb hz⟩
    · intro v hv
      rw [KV_fresh]
      rcases List.mem_append.1 hv with g | g
      · exact (h.up v g).sub (fun u hu => List.mem_append_left _ hu)
      · obtain rfl : v = J n row sym := by simpa using g
        exact vx_back (hsp.sub (fun u hu => List.mem_append_left _ hu)) (Sp.mem (by simp))
    · intro v hv
      rw [KV_fresh] at hv
      rcases List.mem_append.1 hv with g | g
      · exact lft (h.dn v g)
      · obtain rfl : v = J n row' sym' := by simpa using g
        have h1 : Sp (L ++ [J n row sym]) (vx (J n row sym) (J n row' sym')) := lft (hsp.trans h.dn)
        rw [vx_comm] at h1
        exact vx_back h1 (Sp.mem (by simp))
    · show (x.f2 ++ [_]).length ≤ (L ++ [_]).length
      simp only [List.length_append, List.length_singleton]
      omega
    · show (x.f2 ++ [_]).length = _
      simp
    · intro hh
      have h1 : Sp (x.f2.map fun e => hasB e.f0) (hasB row) := by
        refine hh.trans (fun u hu => ?_)
        obtain ⟨w, hw, rfl⟩ := List.mem_map.1 hu
        rw [← pr_KV h.si]
        exact pr_sp (h.up w hw)
      have h2 := pr_sp (n := n) hsp
      rw [pr_vx, pr_J hr, pr_J hr', pr_KV h.si, vx_comm] at h2
      have h3 := h.null hr' (vx_back h2 h1) hz c
      rw [h3] at hb
      cases hb
  · have hz0 : ∀ p, byB sym' p = false := fun p => by
      have := tr1 p
      rw [J_hi] at this
      rw [this]
      exact pf_none D _ p n 0 (fun c _ hc => by rw [J_lo row' sym' (by omega), h0 c])
    have hj : J n row' sym' = v0 := by
      funext c
      by_cases hc : c < n
      · rw [J_lo row' sym' hc, h0 c]; rfl
      · rw [show c = n + (c - n) by omega, J_hi, hz0]; rfl
    rw [hj, vx_zero] at hsp
    rcases hc with ⟨ha, he⟩ | ⟨ha, he⟩
    · refine .inr ⟨he, ⟨h.si, h.ip, h.f4, tr2, ?_, ?_, ?_⟩, hsp.trans h.dn⟩
      · intro v hv
        rcases List.mem_append.1 hv with g | g
        · exact h.up v g
        · obtain rfl : v = J n row sym := by simpa using g
          exact hsp
      · exact fun v hv => lft (h.dn v hv)
      · rw [List.length_append]; omega
    · rw [allZero_of hs' hz0] at ha
      cases ha
theorem TI.rk {x : S74} {n m : Nat} {D : Nat → Nat → Bool} {L : List V} (h : TI x n m D L) : Rk (L.map (pr n)) x.f2.length := by
  obtain ⟨P, hP⟩ := h.ip
  have hi := tri_ind _ hP.tri hP.own
  rw [hP.map_fst] at hi
  refine ⟨_, hi, by rw [List.length_reverse, List.length_map], fun b hb => ?_, fun v hv => ?_⟩
  · have hb' := List.mem_reverse.1 hb
    rw [← pr_KV h.si] at hb'
    obtain ⟨w, hw, rfl⟩ := List.mem_map.1 hb'
    exact pr_sp (h.dn w hw)
  · obtain ⟨w, hw, rfl⟩ := List.mem_map.1 hv
    have := pr_sp (n := n) (h.up w hw)
    rw [pr_KV h.si] at this
    exact this.sub (fun u hu => List.mem_reverse.2 hu)
def LV (n : Nat) (l : List S98) : List V := l.map fun e => J n e.f0 e.f1
structure Like (x : S74) (n m : Nat) (l : List S98) : Prop where
  si : SI x n m
  ip : ∃ P, IP x n P
  lok : LOK n m l
  cnt : x.f2.length = l.length
  up : ∀ v ∈ LV n l, Sp (KV n x) v
  dn : ∀ v ∈ KV n x, Sp (LV n l) v
theorem LOK.prJ {n m : Nat} {l : List S98} (h : LOK n m l) : (LV n l).map (pr n) = l.map fun e => hasB e.f0 := by
  unfold LV
  rw [List.map_map]
  exact List.map_congr_left (fun e he => pr_J (h.ok e he).1 _)
theorem Like.new {n m : Nat} (h1 : 1 ≤ n) (h2 : n ≤ 4096) (h3 : 1 ≤ m) (h4 : m ≤ 64) : Like (newS n m) n m [] :=
  ⟨SI.new h1 h2 h3 h4, ⟨[], IP.new n m⟩, ⟨Nat.zero_le _, (fun e he => by cases he)⟩, rfl, (fun v hv => by cases hv), (fun v hv => by cases hv)⟩
theorem Like.null {x : S74} {n m : Nat} {l : List S98} (h : Like x n m l) {row : List Int} (hr : RowOK n row) (hs : Sp (x.f2.map fun e => hasB e.f0) (hasB row)) (hz : ∀ c, c < n → 0 ≤ rd x.f3 (c : Int) → hasB row c = false) : ∀ c, hasB row c = false := by
  obtain ⟨P, hP⟩ := h.ip
  have := tri_zero' _ hP.tri hP.own (hasB row) (by rw [hP.map_fst]; exact hs) (fun q hq => by
    have hm : q.2 ∈ P := (List.of_mem_zip hq).2
    obtain ⟨h1, h2⟩ := hP.lt _ hm
    exact hz _ h1 h2)
  intro c
  rw [this]; rfl
theorem Like.rows {x : S74} {n m : Nat} {l : List S98} (h : Like x n m l) (v : V) : Sp (x.f2.map fun e => hasB e.f0) v ↔ Sp (l.map fun e => hasB e.f0) v := by
  rw [← pr_KV h.si, ← h.lok.prJ]
  exact ⟨fun g => g.trans (fun u hu => by obtain ⟨w, hw, rfl⟩ := List.mem_map.1 hu; exact pr_sp (h.dn w hw)), fun g => g.trans (fun u hu => by obtain ⟨w, hw, rfl⟩ := List.mem_map.1 hu; exact pr_sp (h.up w hw))⟩
theorem Like.joint {x : S74} {n m : Nat} {l : List S98} (h : Like x n m l) (v : V) : Sp (KV n x) v ↔ Sp (LV n l) v := ⟨fun g => g.trans h.dn, fun g => g.trans h.up⟩
theorem Like.add {x : S74} {n m : Nat} {l : List S98} (h : Like x n m l) (h4 : x.f4 = false) (hl : l.length < 99999) (c : Bool) {row sym : List Int} (hr : RowOK n row) (hs : SymOK m sym) :
    (Ev (fun k => geyserref05_Kind.f k (n : Int) (m : Int) l c row sym) 1 ∧ ∃ x', Ev (fun k => elim_System_Add.f k [x] row sym) (1, [], [x']) ∧ x'.f4 = false ∧ Like x' n m (l ++ [⟨row, sym⟩])) ∨
    (Ev (fun k => geyserref05_Kind.f k (n : Int) (m : Int) l c row sym) 2 ∧ Ev (fun k => elim_System_Add.f k [x] row sym) (2, [], [x])) ∨
    (Ev (fun k => geyserref05_Kind.f k (n : Int) (m : Int) l c row sym) 3 ∧ Ev (fun k => elim_System_Add.f k [x] row sym) (3, [], [clashS x]) ∧ Like (clashS x) n m l) := by
  have hc := h.cnt
  obtain ⟨kind, ek, hk⟩ := kind_ev h.si.n1 h.si.n2 h.si.m1 h.si.m2 c h.lok hr hs
  obtain ⟨row', sym', hr', hs', hsp, hz, hcase⟩ := eadd_ev h.si h4 (by omega) hr hs
  have hpr := pr_sp (n := n) hsp
  rw [pr_vx, pr_J hr, pr_J hr', pr_KV h.si] at hpr
  have nul : Sp (l.map fun e => hasB e.f0) (hasB row) → ∀ d, hasB row' d = false := fun g => by
    rw [vx_comm] at hpr
    exact h.null hr' (vx_back hpr ((h.rows _).2 g)) hz
  rcases hcase with ⟨p, hp, hat, hb, hsi, he⟩ | ⟨h0, hcase⟩
  · have hno : ¬ Sp (l.map fun e => hasB e.f0) (hasB row) := fun g => by rw [nul g p] at hb; cases hb
    rcases hk with ⟨rfl, _⟩ | ⟨rfl, g⟩ | ⟨rfl, g, _⟩
    · refine .inl ⟨ek, _, he, rfl, hsi, ?_, ⟨by rw [List.length_append, List.length_singleton]; omega, fun e hm => ?_⟩, ?_, ?_, ?_⟩
      · obtain ⟨P, hP⟩ := h.ip
        exact ⟨_, hP.fresh h.si hp hat hb hz⟩
      · rcases List.mem_append.1 hm with g | g
        · exact h.lok.ok e g
        · obtain rfl : e = ⟨row, sym⟩ := by simpa using g
          exact ⟨hr, hs⟩
      · show (x.f2 ++ [_]).length = _
        rw [List.length_append, List.length_append, hc]; rfl
      · intro v hv
        rw [KV_fresh]
        unfold LV at hv
        rw [List.map_append] at hv
        rcases List.mem_append.1 hv with g | g
        · exact (h.up v g).sub (fun u hu => List.mem_append_left _ hu)
        · obtain rfl : v = J n row sym := by simpa using g
          exact vx_back (hsp.sub (fun u hu => List.mem_append_left _ hu)) (Sp.mem (by simp))
      · intro v hv
        have lft : ∀ {v}, Sp (LV n l) v → Sp (LV n (l ++ [⟨row, sym⟩])) v := fun g => g.sub (fun u hu => by unfold LV; rw [List.map_append]; exact List.mem_append_left _ hu)
        rw [KV_fresh] at hv
        rcases List.mem_append.1 hv with g | g
        · exact lft (h.dn v g)
        · obtain rfl : v = J n row' sym' := by simpa using g
          have h1 := lft (hsp.trans h.dn)
          rw [vx_comm] at h1
          exact vx_back h1 (Sp.mem (by unfold LV; rw [List.map_append]; simp))
    · exfalso
      have := pr_sp (n := n) g
      rw [pr_J hr] at this
      exact hno (by rw [← h.lok.prJ]; exact this)
    · exact absurd g hno
  · have hin : Sp (l.map fun e => hasB e.f0) (hasB row) := by
      have e0 : hasB row' = v0 := by funext d; exact h0 d
      rw [e0, vx_zero] at hpr
      exact (h.rows _).1 hpr
    rcases hcase with ⟨ha, he⟩ | ⟨ha, he⟩
    · have hj : J n row' sym' = v0 := by
        funext d
        by_cases hd : d < n
        · rw [J_lo row' sym' hd, h0 d]; rfl
        · rw [show d = n + (d - n) by omega, J_hi, of_allZero hs' ha, byB_zeros]; rfl
      rw [hj, vx_zero] at hsp
      rcases hk with ⟨rfl, g⟩ | ⟨rfl, g⟩ | ⟨rfl, _, g⟩
      · exact absurd hin g
      · exact .inr (.inl ⟨ek, he⟩)
      · exact absurd ((h.joint _).1 hsp) g
    · rcases hk with ⟨rfl, g⟩ | ⟨rfl, g⟩ | ⟨rfl, _, g⟩
      · exact absurd hin g
      · exfalso
        have g2 : Sp (KV n x) (J n row sym) := (h.joint _).2 g
        have g3 : Sp (KV n x) (J n row' sym') := by
          rw [vx_comm] at hsp
          exact vx_back hsp g2
        -- nothing but 0 hangs on the kept ones and has no row
        obtain ⟨P, hP⟩ := h.ip
        have hz0 : J n row' sym' = v0 := by
          have hl : ((KV n x).zip P).map (·.1) = KV n x := List.map_fst_zip (by unfold KV; rw [List.length_map, hP.plen]; exact Nat.le_refl _)
          have ht : ((KV n x).zip P).Pairwise fun b d => d.1 b.2 = false := by
            have := hP.tri
            rw [List.pairwise_iff_getElem] at this ⊢
            intro i j hi hj hij
            have hi' : i < ((x.f2.map fun e => hasB e.f0).zip P).length := by simpa [KV] using hi
            have hj' : j < ((x.f2.map fun e => hasB e.f0).zip P).length := by simpa [KV] using hj
            have g := this i j hi' hj' hij
            simp only [List.getElem_zip, List.getElem_map, KV] at g ⊢
            have hpn : P[i]'(by simp at hi; omega) < n := (hP.lt _ (List.getElem_mem _)).1
            rw [J_lo _ _ hpn]; exact g
          have ho : ∀ q ∈ (KV n x).zip P, q.1 q.2 = true := by
            intro q hq
            obtain ⟨i, hi, rfl⟩ := List.mem_iff_getElem.1 hq
            have hi' : i < ((x.f2.map fun e => hasB e.f0).zip P).length := by simpa [KV] using hi
            have g := hP.own _ (List.getElem_mem hi')
            simp only [List.getElem_zip, List.getElem_map, KV] at g ⊢
            have hpn : P[i]'(by simp at hi; omega) < n := (hP.lt _ (List.getElem_mem _)).1
            rw [J_lo _ _ hpn]; exact g
          refine tri_zero' _ ht ho _ (by rw [hl]; exact g3) (fun q hq => ?_)
          have hpn := (hP.lt _ (List.of_mem_zip hq).2).1
          rw [J_lo _ _ hpn]; exact h0 _
        have hz1 : ∀ p, byB sym' p = false := fun p => by
          have := congrFun hz0 (n + p)
          rwa [J_hi] at this
        rw [allZero_of hs' hz1] at ha
        cases ha
      · exact .inr (.inr ⟨ek, he, h.si.clash, by obtain ⟨P, hP⟩ := h.ip; exact ⟨P, hP.plen, hP.lt, hP.own, hP.tri⟩, h.lok, h.cnt, h.up, h.dn⟩)
theorem shl_one (j : Nat) (hj : j < 64) : shl .u64 1 (j : Int) = ((2 ^ j : Nat) : Int) := by
  have h : (2 : Nat) ^ j < 2 ^ 64 := Nat.pow_lt_pow_right (by decide) hj
  unfold shl
  rw [Int.toNat_natCast, show IntKind.u64.bits = 64 from rfl, Nat.min_eq_left (by omega), Int.one_mul, IntKind.wrap_u64]
  have h2 : ((2 : Int) ^ j) = ((2 ^ j : Nat) : Int) := by push_cast; rfl
  rw [h2]
  generalize (2 : Nat) ^ j = q at h ⊢
  omega
theorem hasB_zero (n c : Nat) : hasB (List.replicate n 0) c = false := by
  unfold hasB
  have : (List.replicate n (0 : Int)).getD (c / 64) 0 = 0 := by
    rw [List.getD_eq_getElem?_getD, List.getElem?_replicate]; split <;> rfl
  rw [this]
  simp
def setB (x : List Int) (c : Int) : List Int := x.set ((wrap64 (Int.tdiv c 64)) : Int).toNat (Go.bits .or .u64 (rd x (wrap64 (Int.tdiv c 64))) (shl .u64 1 (Int.tmod c 64)))
theorem setB_eq (x : List Int) (c : Nat) (hc : c < 9223372036854775807) : setB x (c : Int) = x.set (c / 64) (Go.bits .or .u64 (x.getD (c / 64) 0) ((2 ^ (c % 64) : Nat) : Int)) := by
  unfold setB rd
  have e1 : Int.tdiv (c : Int) 64 = ((c / 64 : Nat) : Int) := by rw [Int.tdiv_eq_ediv_of_nonneg (by omega)]; rfl
  have e2 : Int.tmod (c : Int) 64 = ((c % 64 : Nat) : Int) := by rw [Int.tmod_eq_emod_of_nonneg (by omega)]; rfl
  rw [e1, e2, w64s (by omega) (by omega), Int.toNat_natCast, shl_one _ (by omega)]
theorem word_or (a : Int) (ha : U64 a) (j : Nat) (hj : j < 64) : Go.bits .or .u64 a ((2 ^ j : Nat) : Int) = ((a.toNat ||| 2 ^ j : Nat) : Int) := by
  obtain ⟨n, rfl⟩ := Int.eq_ofNat_of_zero_le ha.1
  have hn : n < 18446744073709551616 := by have := ha.2; omega
  have h : (2 : Nat) ^ j < 2 ^ 64 := Nat.pow_lt_pow_right (by decide) hj
  rw [bits_or_u64_nat n (2 ^ j) hn (by omega), Int.toNat_natCast]
theorem setB_len (x : List Int) (c : Int) : (setB x c).length = x.length := by simp [setB]
theorem setB_u64 (x : List Int) (hx : ∀ a ∈ x, U64 a) (c : Nat) (hc : c < 64 * x.length) (hc' : c < 9223372036854775807) : ∀ a ∈ setB x (c : Int), U64 a := by
  rw [setB_eq x c hc', word_or _ (hx _ (getD_mem (by omega))) _ (Nat.mod_lt _ (by decide))]
  intro a ha
  rcases List.mem_or_eq_of_mem_set ha with h | h
  · exact hx a h
  · subst h
    have h1 := hx _ (getD_mem (l := x) (i := c / 64) (by omega))
    have h2 : (x.getD (c / 64) 0).toNat < 2 ^ 64 := by have := h1.2; omega
    have h3 : (2 : Nat) ^ (c % 64) < 2 ^ 64 := Nat.pow_lt_pow_right (by decide) (Nat.mod_lt _ (by decide))
    have h4 : (x.getD (c / 64) 0).toNat ||| 2 ^ (c % 64) < 2 ^ 64 := Nat.or_lt_two_pow h2 h3
    exact ⟨by omega, by omega⟩
theorem setB_has (x : List Int) (hx : ∀ a ∈ x, U64 a) (c : Nat) (hc : c < 64 * x.length) (hc' : c < 9223372036854775807) (d : Nat) : hasB (setB x (c : Int)) d = (hasB x d || decide (d = c)) := by
  rw [setB_eq x c hc', word_or _ (hx _ (getD_mem (by omega))) _ (Nat.mod_lt _ (by decide))]
  unfold hasB
  rw [List.length_set]
  by_cases h : d / 64 = c / 64
  · have e : (x.set (c / 64) (((x.getD (c / 64) 0).toNat ||| 2 ^ (c % 64) : Nat) : Int)).getD (d / 64) 0 = (((x.getD (c / 64) 0).toNat ||| 2 ^ (c % 64) : Nat) : Int) := by
      rw [h, List.getD_eq_getElem?_getD, List.getElem?_set_self (by omega)]; rfl
    rw [e, Int.toNat_natCast, Nat.testBit_or, Nat.testBit_two_pow, h, decide_eq_true (show c / 64 < x.length by omega), Bool.true_and, Bool.true_and]
    congr 1
    by_cases h2 : d = c
    · subst h2; simp
    · rw [decide_eq_false h2, decide_eq_false (by omega)]
  · have e : (x.set (c / 64) (((x.getD (c / 64) 0).toNat ||| 2 ^ (c % 64) : Nat) : Int)).getD (d / 64) 0 = x.getD (d / 64) 0 := by
      rw [List.getD_eq_getElem?_getD, List.getElem?_set_ne (by omega), List.getD_eq_getElem?_getD]
    rw [e, decide_eq_false (show ¬ d = c by omega), Bool.or_false]
def packName : ByteArray := ⟨#[112, 97, 99, 107, 101, 100, 46, 80, 97, 99, 107]⟩
theorem pcheck_l0 (n : Int) (S : List Int) : ∀ P : List Int, (P ++ S).length < 9223372036854775807 →
    Ev (fun k => packed_check.l0 k n (P ++ S) ((P ++ S).length : Int) (P.length : Int)) (if ∀ c ∈ S, 0 ≤ c ∧ c < n then 0 else 1) := by
  induction S with
  | nil =>
    intro P hP
    rw [if_pos (by simp)]
    refine Ev.step (f := fun _ => some 0) (fun k => ?_) (Ev.now _)
    rw [packed_check.l0, if_neg (by simp)]
  | cons c S ih =>
    intro P hP
    have hlen : (P ++ c :: S).length = P.length + (S.length + 1) := by simp
    by_cases hc : 0 ≤ c ∧ c < n
    · have h' := ih (P ++ [c]) (by simpa using hP)
      have e1 : P ++ [c] ++ S = P ++ c :: S := by simp
      have e2 : ((P ++ [c]).length : Int) = wrap64 ((P.length : Int) + 1) := by rw [w64s (by omega) (by omega)]; simp
      have e3 : (if ∀ t ∈ c :: S, 0 ≤ t ∧ t < n then (0 : Int) else 1) = (if ∀ t ∈ S, 0 ≤ t ∧ t < n then 0 else 1) := by
        by_cases hS : ∀ t ∈ S, 0 ≤ t ∧ t < n
        · rw [if_pos hS, if_pos (by intro t ht; rcases List.mem_cons.1 ht with rfl | ht; exact hc; exact hS t ht)]
        · rw [if_neg hS, if_neg (fun h => hS (fun t ht => h t (by simp [ht])))]
      rw [e1, e2] at h'
      rw [e3]
      refine Ev.step (fun k => ?_) h'
      rw [packed_check.l0, if_pos (by omega), if_pos (by omega), if_pos (by omega), rd_mid, if_neg (by omega), if_neg (by omega)]
    · rw [if_neg (fun h => hc (h c (by simp)))]
      refine Ev.step (f := fun _ => some 1) (fun k => ?_) (Ev.now _)
      rw [packed_check.l0, if_pos (by omega), if_pos (by omega), if_pos (by omega), rd_mid]
      by_cases h0 : c < 0
      · rw [if_pos h0]
      · rw [if_neg h0, if_pos (by omega)]
def colsBad (l : List Int) (n : Int) : Int := if 0 ≤ n ∧ n ≤ 4096 ∧ ∀ c ∈ l, 0 ≤ c ∧ c < n then 0 else 1
theorem pcheck_ev (l : List Int) (n : Int) (hl : l.length < 9223372036854775807) : Ev (fun k => packed_check.f k l n) (colsBad l n) := by
  unfold packed_check.f colsBad
  by_cases h0 : n < 0
  · simp only [if_pos h0]; rw [if_neg (by omega)]; exact Ev.now _
  · by_cases h1 : n > 4096
    · simp only [if_neg h0, if_pos h1]; rw [if_neg (by omega)]; exact Ev.now _
    · simp only [if_neg h0, if_neg h1]
      have h := pcheck_l0 n l [] (by simpa using hl)
      have e : (if 0 ≤ n ∧ n ≤ 4096 ∧ ∀ c ∈ l, 0 ≤ c ∧ c < n then (0 : Int) else 1) = (if ∀ c ∈ l, 0 ≤ c ∧ c < n then 0 else 1) := by
        by_cases hS : ∀ t ∈ l, 0 ≤ t ∧ t < n
        · rw [if_pos hS, if_pos ⟨by omega, by omega, hS⟩]
        · rw [if_neg hS, if_neg (fun h => hS h.2.2)]
      rw [e]
      exact h
theorem word_facts (m n : Nat) (hm : m < 64 * n) (hn : n ≤ 1000000) : 0 ≤ wrap64 (Int.tdiv (m : Int) 64) ∧ wrap64 (Int.tdiv (m : Int) 64) < (n : Int) ∧ 0 ≤ Int.tmod (m : Int) 64 := by
  have e3 : Int.tdiv (m : Int) 64 = ((m / 64 : Nat) : Int) := by rw [Int.tdiv_eq_ediv_of_nonneg (by omega)]; rfl
  have e4 : Int.tmod (m : Int) 64 = ((m % 64 : Nat) : Int) := by rw [Int.tmod_eq_emod_of_nonneg (by omega)]; rfl
  rw [e3, e4, w64s (by omega) (by omega)]
  exact ⟨by omega, by omega, by omega⟩
theorem pack_l0 (S : List Int) : ∀ (P x : List Int), (P ++ S).length < 9223372036854775807 → (∀ c ∈ S, 0 ≤ c ∧ c < 64 * (x.length : Int)) → (∀ a ∈ x, U64 a) → x.length ≤ 1000000 →
    ∃ r, Ev (fun k => packed_Pack.l0 k x (P ++ S) ((P ++ S).length : Int) (P.length : Int)) r ∧
      (r = ([], [⟨packName, true, 2⟩]) ∨ ∃ y, r = (y, []) ∧ y.length = x.length ∧ (∀ a ∈ y, U64 a) ∧ S.Nodup ∧ (∀ c ∈ S, hasB x c.toNat = false) ∧ ∀ d : Nat, hasB y d = (hasB x d || decide ((d : Int) ∈ S))) := by
  induction S with
  | nil =>
    intro P x hP _ hx _
    refine ⟨(x, []), ?_, .inr ⟨x, rfl, rfl, hx, List.nodup_nil, by simp, by simp⟩⟩
    refine Ev.step (f := fun _ => some (x, [])) (fun k => ?_) (Ev.now _)
    rw [packed_Pack.l0, if_neg (by simp)]
  | cons c S ih =>
    intro P x hP hS hx hn
    have hlen : (P ++ c :: S).length = P.length + (S.length + 1) := by simp
    obtain ⟨m, rfl⟩ := Int.eq_ofNat_of_zero_le (hS c (by simp)).1
    have hm : m < 64 * x.length := by have := (hS (m : Int) (by simp)).2; omega
    have hm' : m < 9223372036854775807 := by omega
    by_cases hb : hasB x m = true
    · refine ⟨_, ?_, .inl rfl⟩
      refine Ev.step (f := fun _ => some ([], [⟨packName, true, 2⟩])) (fun k => ?_) (Ev.now _)
      rw [packed_Pack.l0, if_pos (by omega), if_pos (by omega), if_pos (by omega), rd_mid, has_eq x hx m hm']
      simp only [Option.bind_some]
      rw [if_pos hb, new_eqS _ 2 (by decide)]
      rfl
    · have h1 := setB_len x (m : Int)
      obtain ⟨r, hr, h⟩ := ih (P ++ [(m : Int)]) (setB x (m : Int)) (by simpa using hP) (fun t ht => by rw [h1]; exact hS t (by simp [ht])) (setB_u64 x hx m hm (by omega)) (by omega)
      have e1 : P ++ [(m : Int)] ++ S = P ++ (m : Int) :: S := by simp
      have e2 : ((P ++ [(m : Int)]).length : Int) = wrap64 ((P.length : Int) + 1) := by rw [w64s (by omega) (by omega)]; simp
      rw [e1, e2] at hr
      refine ⟨r, ?_, ?_⟩
      · refine Ev.step (fun k => ?_) hr
        obtain ⟨f1, f2, f3⟩ := word_facts m x.length hm hn
        rw [packed_Pack.l0, if_pos (by omega), if_pos (by omega), if_pos (by omega), rd_mid, has_eq x hx m hm']
        simp only [Option.bind_some]
        rw [if_neg hb, if_pos f1, if_pos f2, if_pos f3]
        rfl
      · rcases h with h | ⟨y, h, hy, hu, hnd, hno, hh⟩
        · exact .inl h
        · refine .inr ⟨y, h, by rw [hy, h1], hu, ?_, ?_, ?_⟩
          · refine List.nodup_cons.2 ⟨fun hin => ?_, hnd⟩
            have := hno _ hin
            rw [Int.toNat_natCast, setB_has x hx m hm (by omega)] at this
            simp at this
          · intro t ht
            rcases List.mem_cons.1 ht with rfl | ht
            · rw [Int.toNat_natCast]; simpa using hb
            · have := hno t ht
              rw [setB_has x hx m hm (by omega)] at this
              simp at this
              exact this.1
          · intro d
            rw [hh d, setB_has x hx m hm (by omega)]
            by_cases hd : d = m
            · subst hd; simp
            · have : ¬ (d : Int) = (m : Int) := by omega
              simp [hd, this]
theorem pack_ev (l : List Int) (n : Int) (hl : l.length < 9223372036854775807) : ∃ r, Ev (fun k => packed_Pack.f k l n) r ∧
    ((∃ e, e ≠ 0 ∧ r = ([], [⟨packName, true, e⟩])) ∨ ∃ y, r = (y, []) ∧ y.length = (n.toNat + 63) / 64 ∧ n ≤ 4096 ∧ (∀ a ∈ y, U64 a) ∧ l.Nodup ∧ (∀ c ∈ l, 0 ≤ c ∧ c < n) ∧ ∀ d : Nat, hasB y d = decide ((d : Int) ∈ l)) := by
  have hc := pcheck_ev l n hl
  unfold packed_Pack.f
  by_cases h : 0 ≤ n ∧ n ≤ 4096 ∧ ∀ c ∈ l, 0 ≤ c ∧ c < n
  · have e0 : colsBad l n = 0 := by unfold colsBad; rw [if_pos h]
    obtain ⟨h0, h1, h2⟩ := h
    have hlen : (List.replicate ((n.toNat + 63) / 64) (0 : Int)).length = (n.toNat + 63) / 64 := by simp
    obtain ⟨r, hr, ho⟩ := pack_l0 l [] (List.replicate ((n.toNat + 63) / 64) 0) (by simpa using hl) (fun c hc => by have := h2 c hc; rw [hlen]; omega) (fun a ha => by have := List.eq_of_mem_replicate ha; subst this; exact ⟨by decide, by decide⟩) (by rw [hlen]; omega)
    refine ⟨r, ?_, ?_⟩
    · refine Ev.bind hc ?_
      simp only [e0, if_true, psize_eq n h0 h1, Option.bind_some, Int.toNat_natCast]
      refine Ev.congr (fun k => ?_) hr
      rw [if_pos (by omega), if_pos (by omega)]
      rfl
    · rcases ho with rfl | ⟨y, rfl, hy, hu, hnd, hno, hh⟩
      · exact .inl ⟨2, by decide, rfl⟩
      · refine .inr ⟨y, rfl, by rw [hy, hlen], h1, hu, hnd, h2, fun d => ?_⟩
        rw [hh d, hasB_zero, Bool.false_or]
  · have e0 : colsBad l n = 1 := by unfold colsBad; rw [if_neg h]
    refine ⟨([], [⟨packName, true, 1⟩]), ?_, .inl ⟨1, by decide, rfl⟩⟩
    refine Ev.bind hc ?_
    simp only [e0]
    refine Ev.congr (fun k => ?_) (Ev.now _)
    rw [if_neg (by decide), new_eqS _ 1 (by decide)]
    rfl
theorem one_ev {n : Nat} (h1 : 1 ≤ n) (h2 : n ≤ 4096) {c : Nat} (hc : c < n) : ∃ pk, Ev (fun k => packed_Pack.f k [(c : Int)] (n : Int)) (pk, []) ∧ RowOK n pk ∧ ∀ d, hasB pk d = decide (d = c) := by
  obtain ⟨r, hr, h⟩ := pack_ev [(c : Int)] (n : Int) (by show 1 < _; decide)
  have hin : ∀ t ∈ [(c : Int)], 0 ≤ t ∧ t < (n : Int) := fun t ht => by
    obtain rfl : t = (c : Int) := by simpa using ht
    exact ⟨by omega, by omega⟩
  rcases h with ⟨e, he, hr'⟩ | ⟨y, rfl, hy, _, hu, _, _, hh⟩
  · exfalso
    have hc0 := pcheck_ev [(c : Int)] (n : Int) (by show 1 < _; decide)
    have e0 : colsBad [(c : Int)] (n : Int) = 0 := by unfold colsBad; rw [if_pos ⟨by omega, by omega, hin⟩]
    rw [e0] at hc0
    have hlen : (List.replicate ((n : Int).toNat + 63) (0 : Int)).length = (n : Int).toNat + 63 := by simp
    have hb0 : hasB (List.replicate (nW (n : Int)) 0) c = false := hasB_zero _ _
    have g : Ev (fun k => packed_Pack.f k [(c : Int)] (n : Int)) (setB (List.replicate (nW (n : Int)) 0) (c : Int), []) := by
      obtain ⟨f1, f2, f3⟩ := word_facts c (nW (n : Int)) (by unfold nW; rw [Int.toNat_natCast]; omega) (by have := nW_pos h2; omega)
      unfold packed_Pack.f
      refine Ev.bind hc0 ?_
      refine Ev.congr (f := fun k => packed_Pack.l0 k (List.replicate (nW (n : Int)) 0) [(c : Int)] 1 0) (fun k => ?_) ?_
      · rw [if_pos rfl, psize_eq (n : Int) (by omega) (by omega), Option.bind_some, if_pos (by omega), Int.toNat_natCast, if_pos (by omega)]
        rfl
      · refine Ev.step (f := fun k => packed_Pack.l0 k (setB (List.replicate (nW (n : Int)) 0) (c : Int)) [(c : Int)] 1 1) (fun k => ?_) (Ev.step (f := fun _ => some (setB (List.replicate (nW (n : Int)) 0) (c : Int), [])) (fun k => ?_) (Ev.now _))
        · have er : rd [(c : Int)] 0 = (c : Int) := rfl
          rw [packed_Pack.l0, if_pos (by decide), if_pos (by decide), if_pos (by show (0 : Int) < 1; decide), er, has_eq _ (fun a ha => by have := List.eq_of_mem_replicate ha; subst this; exact ⟨by decide, by decide⟩) c (by omega), hb0, Option.bind_some, if_neg Bool.false_ne_true, if_pos f1, if_pos (by rw [List.length_replicate]; exact f2), if_pos f3, show wrap64 (0 + 1) = 1 from w64s (by decide) (by decide)]
          rfl
        · rw [packed_Pack.l0, if_neg (by decide)]
    obtain ⟨K1, g1⟩ := g
    obtain ⟨K2, g2⟩ := hr
    have e1 := g1 (max K1 K2) (Nat.le_max_left _ _)
    have e2 := g2 (max K1 K2) (Nat.le_max_right _ _)
    rw [e1] at e2
    have e3 := Option.some.inj e2
    rw [hr'] at e3
    have e4 := congrArg Prod.snd e3
    cases e4
  · refine ⟨y, hr, ⟨by rw [hy]; rfl, hu, fun d hd => by rw [hh d]; simp; omega⟩, fun d => ?_⟩
    rw [hh d]
    by_cases h : d = c
    · subst h; simp
    · rw [decide_eq_false h]
      simp
      omega
def ev (c : Nat) : V := fun d => decide (d = c)
def valName : ByteArray := ⟨#[101, 108, 105, 109, 46, 86, 97, 108, 117, 101]⟩
theorem supp_sp : ∀ (n : Nat) (v : V), (∀ c, n ≤ c → v c = false) → Sp ((List.range n).map ev) v
  | 0, v, h => by
    have : v = v0 := by funext c; exact h c (Nat.zero_le _)
    rw [this]; exact Sp.zero
  | n + 1, v, h => by
    have lft : ∀ {u}, Sp ((List.range n).map ev) u → Sp ((List.range (n + 1)).map ev) u := fun g => g.sub (fun w hw => by
      rw [List.range_succ, List.map_append]; exact List.mem_append_left _ hw)
    have hn : Sp ((List.range (n + 1)).map ev) (ev n) := Sp.mem (List.mem_map_of_mem (List.mem_range.2 (by omega)))
    by_cases hb : v n = true
    · have := lft (supp_sp n (vx v (ev n)) (fun c hc => by
        show (v c != decide (c = n)) = false
        by_cases e : c = n
        · subst e; rw [hb, decide_eq_true rfl]; rfl
        · rw [h c (by omega), decide_eq_false e]; rfl))
      exact vx_back this hn
    · exact lft (supp_sp n v (fun c hc => by
        by_cases e : c = n
        · subst e; simpa using hb
        · exact h c (by omega)))
theorem ev_ind (n : Nat) : Ind ((List.range n).map ev) := by
  refine ind_cols _ (fun j hj => ⟨j, ?_, fun i hi hne => ?_⟩)
  · simp [ev]
  · simp [ev]
    omega
theorem TI.full {x : S74} {n m : Nat} {D : Nat → Nat → Bool} {L : List V} (h : TI x n m D L) : (∀ c, c < n → Sp (L.map (pr n)) (ev c)) ↔ x.f2.length = n := by
  obtain ⟨B, b1, b2, b3, b4⟩ := h.rk
  have hsup : ∀ b ∈ B, Sp ((List.range n).map ev) b := fun b hb => supp_sp n b (fun c hc => Sp.col (fun u hu => by
    obtain ⟨w, _, rfl⟩ := List.mem_map.1 hu
    unfold pr
    rw [if_neg (by omega)]) (b3 b hb))
  constructor
  · intro hall
    refine Nat.le_antisymm ?_ ?_
    · have := steinitz _ B b1 hsup
      rw [List.length_map, List.length_range, b2] at this
      exact this
    · have := steinitz B _ (ev_ind n) (fun u hu => by
        obtain ⟨c, hc, rfl⟩ := List.mem_map.1 hu
        exact (hall c (List.mem_range.1 hc)).trans b4)
      rw [List.length_map, List.length_range, b2] at this
      exact this
  · intro e c hc
    rcases Classical.em (Sp B (ev c)) with g | g
    · exact g.trans b3
    · exfalso
      have := steinitz _ (ev c :: B) ⟨g, b1⟩ (fun u hu => by
        rcases List.mem_cons.1 hu with rfl | hu
        · exact Sp.mem (List.mem_map_of_mem (List.mem_range.2 hc))
        · exact hsup u hu)
      rw [List.length_map, List.length_range, List.length_cons, b2] at this
      omega
theorem clashed_eq (x : S74) : elim_System_Clashed.f [x] = some x.f4 := by
  unfold elim_System_Clashed.f
  rw [if_neg (by simp)]
  unfold elimM_Clashed.f
  rw [if_pos (by simp), hd_sys]
def allName : ByteArray := ⟨#[101, 108, 105, 109, 46, 65, 108, 108]⟩
theorem valM {x : S74} (k : Nat) (c : Int) : elim_System_Value.f k [x] c = elimM_Value.f k [x] c := if_neg (by simp)
theorem Like.sound {x : S74} {n m : Nat} {l : List S98} (h : Like x n m l) {v : V} (g3 : Sp (KV n x) v) (h0 : ∀ d, d < n → v d = false) : v = v0 := by
  obtain ⟨P, hP⟩ := h.ip
  have hl : ((KV n x).zip P).map (·.1) = KV n x := List.map_fst_zip (by unfold KV; rw [List.length_map, hP.plen]; exact Nat.le_refl _)
  have ht : ((KV n x).zip P).Pairwise fun b d => d.1 b.2 = false := by
    have := hP.tri
    rw [List.pairwise_iff_getElem] at this ⊢
    intro i j hi hj hij
    have hi' : i < ((x.f2.map fun e => hasB e.f0).zip P).length := by simpa [KV] using hi
    have hj' : j < ((x.f2.map fun e => hasB e.f0).zip P).length := by simpa [KV] using hj
    have g := this i j hi' hj' hij
    simp only [List.getElem_zip, List.getElem_map, KV] at g ⊢
    have hpn : P[i]'(by simp at hi; omega) < n := (hP.lt _ (List.getElem_mem _)).1
    rw [J_lo _ _ hpn]; exact g
  have ho : ∀ q ∈ (KV n x).zip P, q.1 q.2 = true := by
    intro q hq
    obtain ⟨i, hi, rfl⟩ := List.mem_iff_getElem.1 hq
    have hi' : i < ((x.f2.map fun e => hasB e.f0).zip P).length := by simpa [KV] using hi
    have g := hP.own _ (List.getElem_mem hi')
    simp only [List.getElem_zip, List.getElem_map, KV] at g ⊢
    have hpn : P[i]'(by simp at hi; omega) < n := (hP.lt _ (List.getElem_mem _)).1
    rw [J_lo _ _ hpn]; exact g
  exact tri_zero' _ ht ho _ (by rw [hl]; exact g3) (fun q hq => h0 _ (hP.lt _ (List.of_mem_zip hq).2).1)
theorem Like.one {x : S74} {n m : Nat} {l : List S98} (h : Like x n m l) {s t : List Int} (hs : SymOK m s) (ht : SymOK m t) {u : List Int} (hu : Sp (KV n x) (J n u s)) (hv : Sp (KV n x) (J n u t)) : s = t := by
  have g := hu.vx hv
  have g2 := h.sound g (fun d hd => by
    show (J n u s d != J n u t d) = false
    rw [J_lo _ _ hd, J_lo _ _ hd]
    cases hasB u d <;> rfl)
  refine byB_ext hs ht (fun p => ?_)
  have := congrFun g2 (n + p)
  have g3 : (J n u s (n + p) != J n u t (n + p)) = false := this
  rw [J_hi, J_hi] at g3
  simpa using g3
theorem Like.val {x : S74} {n m : Nat} {l : List S98} (h : Like x n m l) (h4 : x.f4 = false) {c : Nat} (hc : c < n) :
    ∃ pk, RowOK n pk ∧ (∀ d, hasB pk d = decide (d = c)) ∧ ((∃ s, SymOK m s ∧ Ev (fun k => elim_System_Value.f k [x] (c : Int)) (s, []) ∧ Sp (KV n x) (J n pk s)) ∨
    (Ev (fun k => elim_System_Value.f k [x] (c : Int)) ([], [⟨valName, true, 4⟩]) ∧ ¬ Sp (l.map fun e => hasB e.f0) (hasB pk))) := by
  have hI := h.si
  have n2 := hI.n2
  have m2 := hI.m2
  obtain ⟨pk, he, hr, hh⟩ := one_ev hI.n1 n2 hc
  obtain ⟨row', sym', first', hd, hr', hs', hsp, hD⟩ := down_ev hI hr (SymOK.zeros m)
  have key : ∀ {r}, Ev (fun k => if first' ≥ 0 then some (([] : List Int), [(⟨valName, true, 4⟩ : FE)]) else some (copyL (List.replicate m 0) sym', ([] : List FE))) r → Ev (fun k => elim_System_Value.f k [x] (c : Int)) r := fun g => by
    refine Ev.congr (f := fun k => elimM_Value.j0 k [x] (c : Int) false) (fun k => ?_) (Ev.step (f := fun k => (packed_Pack.f k [(c : Int)] (n : Int)).bind fun bt286 => (elimM_down.f k [x] bt286.1 (zeros (m : Int))).bind fun bt296 => (if bt296.2.2 ≥ 0 then some ([], [(⟨valName, true, 4⟩ : FE)]) else some (copyL (List.replicate m 0) bt296.2.1, ([] : List FE)))) (fun k => ?_) (Ev.bind he (Ev.bind hd g)))
    · unfold elim_System_Value.f
      rw [if_neg (by simp)]
      unfold elimM_Value.f
      rw [if_pos (by simp), hd_sys, h4, if_neg Bool.false_ne_true, if_neg (by omega), hI.f0, decide_eq_false (by omega)]
    · rw [elimM_Value.j0, if_neg Bool.false_ne_true, if_pos (by simp), hd_sys, hI.f0, hI.f1]
      refine congrArg _ (funext fun bt => ?_)
      rw [if_pos (by omega), Int.toNat_natCast, if_pos (by omega)]
      rfl
  refine ⟨pk, hr, hh, ?_⟩
  rcases hD.2 with ⟨e, hz⟩ | ⟨c0, e, hc0, hat, hb, hlow⟩
  · refine .inl ⟨sym', hs', key (Ev.congr (f := fun _ => some (sym', [])) (fun k => ?_) (Ev.now _)), ?_⟩
    · rw [if_neg (by omega), copyL_self m sym' hs'.len]
    · have e2 : vx (J n pk (zeros (m : Int))) (J n row' sym') = J n pk sym' := by
        funext d
        show (J n pk (zeros (m : Int)) d != J n row' sym' d) = J n pk sym' d
        by_cases hd : d < n
        · rw [J_lo _ _ hd, J_lo _ _ hd, J_lo _ _ hd, hz d hd]; cases hasB pk d <;> rfl
        · rw [show d = n + (d - n) by omega, J_hi, J_hi, J_hi, byB_zeros]; cases byB sym' (d - n) <;> rfl
      rwa [e2] at hsp
  · refine .inr ⟨key (Ev.congr (f := fun _ => some ([], [⟨valName, true, 4⟩])) (fun k => if_pos (by omega)) (Ev.now _)), fun hs => ?_⟩
    have g := pr_sp (n := n) hsp
    rw [pr_vx, pr_J hr, pr_J hr', pr_KV hI, vx_comm] at g
    have h3 := h.null hr' (vx_back g ((h.rows _).2 hs)) (fun c hc h0 => hD.1 c hc h0) c0
    rw [h3] at hb
    cases hb
def bitN (b : Bool) : Nat := if b then 1 else 0
def numT (t : List Bool) (j : Nat) : Nat → Nat
  | 0 => 0
  | d + 1 => bitN (t.getD j false) + 2 * numT t (j + 1) d
theorem numT_lt (t : List Bool) : ∀ d j, numT t j d < 2 ^ d
  | 0, _ => Nat.one_pos
  | d + 1, j => by
    have := numT_lt t d (j + 1)
    unfold numT bitN
    rw [Nat.pow_succ]
    split <;> omega
theorem numT_bit (t : List Bool) : ∀ d j p, p < d → (numT t j d).testBit p = t.getD (j + p) false
  | 0, _, _, h => by omega
  | d + 1, j, 0, _ => by
    show (bitN (t.getD j false) + 2 * numT t (j + 1) d).testBit 0 = t.getD j false
    rw [Nat.testBit_zero]
    unfold bitN
    cases t.getD j false <;> simp <;> omega
  | d + 1, j, p + 1, h => by
    show (bitN (t.getD j false) + 2 * numT t (j + 1) d).testBit (p + 1) = t.getD (j + (p + 1)) false
    rw [Nat.testBit_succ]
    have e : (bitN (t.getD j false) + 2 * numT t (j + 1) d) / 2 = numT t (j + 1) d := by unfold bitN; split <;> omega
    rw [e, numT_bit t d (j + 1) p (by omega), show j + 1 + p = j + (p + 1) by omega]
theorem byteOf_l (t : List Bool) (ht : t.length = 8) : ∀ (b acc : Nat), b ≤ 8 → acc = numT t b (8 - b) → Ev (fun k => geyserref05_byteOf.l0 k t (acc : Int) ((b : Int) - 1)) ((numT t 0 8 : Nat) : Int) := by
  intro b
  induction b with
  | zero =>
    intro acc _ ha
    have := numT_lt t 8 0
    refine Ev.step (f := fun _ => some ((numT t 0 8 : Nat) : Int)) (fun k => ?_) (Ev.now _)
    rw [geyserref05_byteOf.l0, if_neg (by omega), ha]
    congr 1
    show ((numT t 0 8 : Nat) : Int) % 256 = _
    omega
  | succ b ih =>
    intro acc hb ha
    have hlt := numT_lt t (8 - (b + 1)) (b + 1)
    have hp : 2 ^ (8 - (b + 1)) ≤ 2 ^ 8 := Nat.pow_le_pow_right (by decide) (by omega)
    have hacc : acc < 256 := by rw [ha]; omega
    have e1 : ((b + 1 : Nat) : Int) - 1 = (b : Int) := by omega
    have e2 : wrap64 ((b : Int) - 1) = (b : Int) - 1 := w64s (by omega) (by omega)
    have e3 : wrap64 (2 * (acc : Int)) = 2 * (acc : Int) := w64s (by omega) (by omega)
    have e4 : wrap64 (2 * (acc : Int) + 1) = 2 * (acc : Int) + 1 := w64s (by omega) (by omega)
    have en : numT t b (8 - b) = bitN (t.getD b false) + 2 * numT t (b + 1) (8 - (b + 1)) := by
      rw [show 8 - b = (8 - (b + 1)) + 1 by omega]; rfl
    have er : rdOf false t (b : Int) = t.getD b false := by unfold rdOf; rw [Int.toNat_natCast]
    rw [e1]
    cases hv : t.getD b false with
    | true =>
      have g := ih (2 * acc + 1) (by omega) (by rw [en, hv, ha]; unfold bitN; rw [if_pos rfl]; omega)
      refine Ev.step (fun k => ?_) g
      rw [geyserref05_byteOf.l0, if_pos (by omega), if_pos (by omega), if_pos (by omega), er, hv, if_pos rfl, e2, e3, e4]
      rfl
    | false =>
      have g := ih (2 * acc) (by omega) (by rw [en, hv, ha]; unfold bitN; rw [if_neg Bool.false_ne_true]; omega)
      refine Ev.step (fun k => ?_) g
      rw [geyserref05_byteOf.l0, if_pos (by omega), if_pos (by omega), if_pos (by omega), er, hv, if_neg Bool.false_ne_true, e2, e3]
      rfl
theorem byteOf_ev (t : List Bool) (ht : t.length = 8) : Ev (fun k => geyserref05_byteOf.f k t) ((numT t 0 8 : Nat) : Int) := byteOf_l t ht 8 0 (Nat.le_refl _) rfl
theorem bytes_l {m : Nat} (hm : m ≤ 64) {s : List Int} (hs : SymOK m s) (t : List Bool) (ht : t.length = 8 * m) (hb : ∀ p, p < 8 * m → t.getD p false = byB s p) : ∀ (d i : Nat), i + d = m →
    Ev (fun k => geyserref05_bytes.l0 k t (s.take i) ((8 * i : Nat) : Int)) s := by
  have hlen := hs.len
  intro d
  induction d with
  | zero =>
    intro i hi
    have e1 : wrap64 (((8 * i : Nat) : Int) + 8) = ((8 * i + 8 : Nat) : Int) := by rw [w64s (by omega) (by omega)]; omega
    refine Ev.step (f := fun _ => some s) (fun k => ?_) (Ev.now _)
    rw [geyserref05_bytes.l0, e1, if_neg (by omega), List.take_of_length_le (by omega)]
  | succ d ih =>
    intro i hi
    have hlt : i < s.length := by omega
    have e1 : wrap64 (((8 * i : Nat) : Int) + 8) = ((8 * i + 8 : Nat) : Int) := by rw [w64s (by omega) (by omega)]; omega
    have h8 : ((t.take (8 * i + 8)).drop (8 * i)).length = 8 := by rw [List.length_drop, List.length_take]; omega
    have hgd : ∀ j, j < 8 → ((t.take (8 * i + 8)).drop (8 * i)).getD j false = byB s (8 * i + j) := fun j hj => by
      rw [← hb (8 * i + j) (by omega), List.getD_eq_getElem?_getD, List.getElem?_drop, List.getElem?_take_of_lt (by omega), ← List.getD_eq_getElem?_getD]
    have hx := hs.b _ (List.getElem_mem hlt)
    have hnum : ((numT ((t.take (8 * i + 8)).drop (8 * i)) 0 8 : Nat) : Int) = s[i] := by
      have : numT ((t.take (8 * i + 8)).drop (8 * i)) 0 8 = (s[i]).toNat := by
        refine Nat.eq_of_testBit_eq (fun p => ?_)
        by_cases hp : p < 8
        · rw [numT_bit _ 8 0 p hp, Nat.zero_add, hgd p hp]
          unfold byB
          rw [show (8 * i + p) / 8 = i by omega, show (8 * i + p) % 8 = p by omega, List.getD_eq_getElem?_getD, List.getElem?_eq_getElem hlt]
          rfl
        · have h256 : 256 ≤ 2 ^ p := Nat.le_trans (show 256 ≤ 2 ^ 8 by decide) (Nat.pow_le_pow_right (by decide) (by omega))
          have hn := numT_lt ((t.take (8 * i + 8)).drop (8 * i)) 8 0
          rw [Nat.testBit_lt_two_pow (by omega), Nat.testBit_lt_two_pow (by omega)]
      omega
    have et : s.take i ++ [s[i]] = s.take (i + 1) := by rw [List.take_add_one, List.getElem?_eq_getElem hlt]; rfl
    have g := ih (i + 1) (by omega)
    refine Ev.step (f := fun k => (geyserref05_byteOf.f k ((t.take (8 * i + 8)).drop (8 * i))).bind fun t703 => (if (s.take i).length < 140737488355328 then (geyserref05_bytes.l0 k t (s.take i ++ [t703]) ((8 * (i + 1) : Nat) : Int)) else (none))) (fun k => ?_) (Ev.bind (byteOf_ev _ h8) (Ev.congr (fun k => ?_) g))
    · rw [geyserref05_bytes.l0, e1, if_pos (by omega), if_pos (by omega), if_pos (by omega), Int.toNat_natCast, Int.toNat_natCast]
      rfl
    · rw [hnum, if_pos (by rw [List.length_take]; omega), et]
theorem bytes_ev {m : Nat} (hm : m ≤ 64) {s : List Int} (hs : SymOK m s) (t : List Bool) (ht : t.length = 8 * m) (hb : ∀ p, p < 8 * m → t.getD p false = byB s p) : Ev (fun k => geyserref05_bytes.f k t) s := bytes_l hm hs t ht hb m 0 (by omega)
theorem rowOK_of {row : List Int} {n : Nat} (hu : ∀ a ∈ row, U64 a) (h : wokB row (n : Int) = true) : RowOK n row := by
  obtain ⟨h1, h2⟩ := (wokB_iff row (n : Int) (by omega)).1 h
  exact ⟨h1, hu, fun c hc => h2 c (by omega)⟩
theorem fits_eq {x : S74} {n m : Nat} (hI : SI x n m) (row : List Int) (hu : ∀ a ∈ row, U64 a) : elimM_fits.f [x] row = some (wokB row (n : Int)) := by
  have hn1 := hI.n1
  have hn2 := hI.n2
  have hnw := nW_pos hn2
  have hw : nW (n : Int) = (n + 63) / 64 := by unfold nW; rw [Int.toNat_natCast]
  cases hk : wokB row (n : Int) with
  | true => exact fits_yes hI (rowOK_of hu hk)
  | false =>
    have hno : ¬ (row.length = nW (n : Int) ∧ ∀ c : Nat, (n : Int) ≤ c → hasB row c = false) := fun g => by
      rw [(wokB_iff row (n : Int) (by omega)).2 g] at hk; cases hk
    unfold elimM_fits.f
    rw [if_pos (by simp), hd_sys, hI.f0, psize_eq (n : Int) (by omega) (by omega), Int.toNat_natCast]
    simp only [Option.bind_some]
    by_cases hl0 : row.length = nW (n : Int)
    · rw [if_pos (by rw [hl0, hw])]
      have hex : ∃ c : Nat, n ≤ c ∧ hasB row c = true := by
        refine Classical.byContradiction fun g => hno ⟨hl0, fun c hc => ?_⟩
        cases hb : hasB row c with
        | false => rfl
        | true => exact absurd ⟨c, by omega, hb⟩ g
      obtain ⟨c, hc, hb⟩ := hex
      have hcl : c / 64 < row.length := by
        refine Classical.byContradiction fun g => ?_
        unfold hasB at hb
        rw [decide_eq_false (by omega), Bool.false_and] at hb
        cases hb
      by_cases h : Int.tmod (n : Int) 64 = 0
      · exfalso
        rw [Int.tmod_eq_emod_of_nonneg (by omega)] at h
        omega
      · rw [if_neg h]
        have ht : Int.tmod (n : Int) 64 = ((n % 64 : Nat) : Int) := by rw [Int.tmod_eq_emod_of_nonneg (by omega)]; omega
        have hne : n % 64 ≠ 0 := fun e => h (by rw [ht, e]; rfl)
        have hl : row.length = n / 64 + 1 := by rw [hl0, hw]; omega
        have e1 : wrap64 ((row.length : Int) - 1) = ((n / 64 : Nat) : Int) := by rw [hl, w64s (by omega) (by omega)]; omega
        rw [e1, if_pos (by omega), if_pos (by omega), if_pos (by rw [ht]; omega), ht]
        have hmem : rd row ((n / 64 : Nat) : Int) ∈ row := by
          unfold rd
          rw [Int.toNat_natCast]
          exact getD_mem (by omega)
        congr 1
        cases hz : (shr .u64 (rd row ((n / 64 : Nat) : Int)) ((n % 64 : Nat) : Int) == 0) with
        | false => rfl
        | true =>
          exfalso
          have hq := (shr_zero (rd row ((n / 64 : Nat) : Int)) (hu _ hmem) (n % 64) (by omega)).1 hz (c % 64) (by omega)
          unfold hasB at hb
          rw [decide_eq_true (by omega), Bool.true_and] at hb
          unfold rd at hq
          rw [Int.toNat_natCast, show n / 64 = c / 64 by omega, hb] at hq
          cases hq
    · rw [if_neg (by rw [hw] at hl0; omega)]
def addName : ByteArray := ⟨#[101, 108, 105, 109, 46, 65, 100, 100]⟩
theorem ref_clashed (n m : Int) (l : List S98) (row sym : List Int) : Ev (fun k => geyserref05_Add.f k n m l true row sym) (n, m, l, true, 0, 7) :=
  Ev.congr (f := fun _ => some (n, m, l, true, 0, 7)) (fun k => by unfold geyserref05_Add.f; rw [if_pos rfl]) (Ev.now _)
theorem ref_form {n m : Nat} (h2 : n ≤ 4096) (l : List S98) {row sym : List Int} (hu : ∀ a ∈ row, U64 a) (h : ¬ (wokB row (n : Int) = true ∧ (sym.length : Int) = (m : Int))) : Ev (fun k => geyserref05_Add.f k (n : Int) (m : Int) l false row sym) ((n : Int), (m : Int), l, false, 0, 2) := by
  have hj : ∀ k, geyserref05_Add.j0 (k + 1) row sym true (n : Int) (m : Int) l false = some ((n : Int), (m : Int), l, false, 0, 2) := fun k => by rw [geyserref05_Add.j0, if_pos rfl]
  refine Ev.congr (f := fun k => (geyserref03_Whole.f k row (n : Int)).bind fun t660 => (if t660 = true then (geyserref05_Add.j0 k row sym ((sym.length : Int) != (m : Int)) (n : Int) (m : Int) l false) else (geyserref05_Add.j0 k row sym true (n : Int) (m : Int) l false))) (fun k => by unfold geyserref05_Add.f; rw [if_neg Bool.false_ne_true]) (Ev.bind (rwhole_ev row (n : Int) hu (by omega) (by omega)) ?_)
  refine Ev.step (f := fun _ => some ((n : Int), (m : Int), l, false, 0, 2)) (fun k => ?_) (Ev.now _)
  by_cases hw : wokB row (n : Int) = true
  · rw [if_pos hw, show ((sym.length : Int) != (m : Int)) = true from bne_iff_ne.mpr (fun e => h ⟨hw, e⟩), hj]
  · rw [if_neg hw, hj]
theorem ref_kind {n m : Nat} (h2 : n ≤ 4096) {l : List S98} (hl : l.length < 1000000) {row sym : List Int} (hr : RowOK n row) (hs : SymOK m sym) (hm : m ≤ 64) {kind : Int} (hk : Ev (fun k => geyserref05_Kind.f k (n : Int) (m : Int) l false row sym) kind) :
    Ev (fun k => geyserref05_Add.f k (n : Int) (m : Int) l false row sym) ((n : Int), (m : Int), (if kind = 1 then l ++ [⟨row, sym⟩] else l), (kind == 3), kind, 0) := by
  have hw : wokB row (n : Int) = true := (wokB_iff row (n : Int) (by omega)).2 ⟨hr.len, fun c hc => hr.hi c (by omega)⟩
  have hrl : row.length ≤ 64 := by rw [hr.len]; exact nW_pos h2
  have hsl := hs.len
  refine Ev.congr (f := fun k => (geyserref03_Whole.f k row (n : Int)).bind fun t660 => (if t660 = true then (geyserref05_Add.j0 k row sym ((sym.length : Int) != (m : Int)) (n : Int) (m : Int) l false) else (geyserref05_Add.j0 k row sym true (n : Int) (m : Int) l false))) (fun k => by unfold geyserref05_Add.f; rw [if_neg Bool.false_ne_true]) (Ev.bind (rwhole_ev row (n : Int) hr.u (by omega) (by omega)) ?_)
  refine Ev.step (fun k => ?_) (Ev.bind (f := fun _ t => some ((n : Int), (m : Int), (if t = 1 then l ++ [(⟨row, sym⟩ : S98)] else l), (t == 3), t, 0)) hk (Ev.now _))
  rw [if_pos hw, show ((sym.length : Int) != (m : Int)) = false from bne_eq_false_iff_eq.mpr (by omega), geyserref05_Add.j0, if_neg Bool.false_ne_true]
  refine congrArg _ (funext fun t => ?_)
  by_cases ht : t = 1
  · simp only [Option.bind_some, List.nil_append, List.length_nil, Nat.zero_add]
    rw [if_pos ht, if_pos ht, if_pos (by omega), if_pos (by omega), if_pos (by omega), if_pos (by omega)]
  · rw [if_neg ht, if_neg ht]
theorem sys_form {x : S74} {n m : Nat} (hI : SI x n m) (h4 : x.f4 = false) {row sym : List Int} (hu : ∀ a ∈ row, U64 a) (h : ¬ (wokB row (n : Int) = true ∧ (sym.length : Int) = (m : Int))) (k : Nat) : elimM_Add.g k x row sym = some (0, [⟨addName, true, 2⟩], [x]) := by
  unfold elimM_Add.g
  rw [if_neg (by rw [h4]; exact Bool.false_ne_true), fits_eq hI row hu, Option.bind_some, if_neg (by rw [hI.f1]; exact h)]
  rfl
theorem sys_clashed {x : S74} (h4 : x.f4 = true) (row sym : List Int) (k : Nat) : elimM_Add.g k x row sym = some (0, [⟨addName, true, 7⟩], [x]) := by
  unfold elimM_Add.g
  rw [if_pos h4]
  rfl
structure Both (x : S74) (n m : Nat) (l : List S98) (cl : Bool) : Prop where
  like : Like x n m l
  cl : x.f4 = cl
theorem Both.round {x : S74} {n m : Nat} {l : List S98} {cl : Bool} (h : Both x n m l cl) (hl : l.length < 9999) {row sym : List Int} (hu : ∀ a ∈ row, U64 a) (hb : ∀ a ∈ sym, 0 ≤ a ∧ a ≤ 255) :
    ∃ (x' : S74) (l' : List S98) (cl' : Bool) (kind bad : Int) (er : List FE), Ev (fun k => geyserref05_Add.f k (n : Int) (m : Int) l cl row sym) ((n : Int), (m : Int), l', cl', kind, bad) ∧ Ev (fun k => elimM_Add.g k x row sym) (kind, er, [x']) ∧ geyserlaw05_tells.f er bad addName = some true ∧ Both x' n m l' cl' ∧ l'.length ≤ l.length + 1 := by
  have hI := h.like.si
  have hc := h.cl
  cases cl with
  | true => exact ⟨x, l, true, 0, 7, [⟨addName, true, 7⟩], ref_clashed _ _ _ _ _, Ev.congr (fun k => sys_clashed hc row sym k) (Ev.now _), by decide +kernel, h, by omega⟩
  | false =>
    by_cases hok : wokB row (n : Int) = true ∧ (sym.length : Int) = (m : Int)
    · have hr := rowOK_of hu hok.1
      have hs : SymOK m sym := ⟨by omega, hb⟩
      rcases h.like.add hc (by omega) false hr hs with ⟨ek, x', es, h4, hL⟩ | ⟨ek, es⟩ | ⟨ek, es, hL⟩
      · exact ⟨x', _, false, 1, 0, [], ref_kind hI.n2 (by omega) hr hs hI.m2 ek, es, by decide +kernel, ⟨hL, h4⟩, by simp⟩
      · exact ⟨x, l, false, 2, 0, [], ref_kind hI.n2 (by omega) hr hs hI.m2 ek, es, by decide +kernel, h, by omega⟩
      · exact ⟨clashS x, l, true, 3, 0, [], ref_kind hI.n2 (by omega) hr hs hI.m2 ek, es, by decide +kernel, ⟨hL, rfl⟩, by omega⟩
    · exact ⟨x, l, false, 0, 2, [⟨addName, true, 2⟩], ref_form hI.n2 l hu hok, Ev.congr (fun k => sys_form hI hc hu hok k) (Ev.now _), by decide +kernel, h, by omega⟩
end Go.Proofs.YtjmgkknbgffbjaaDoor.Pure
