-- joined by join.py: Px27 PureAwake05 Px37 PureElimRanks
import Derived.Test.YtjmgkknbgffbjaaDoorMElimRanks4
namespace Go.Proofs.YtjmgkknbgffbjaaDoor.P
open Go.RowKit Go.Proofs.YtjmgkknbgffbjaaDoorW.PrintWords Go.Proofs.YtjmgkknbgffbjaaDoorW.PrintLast Go.Proofs.YtjmgkknbgffbjaaDoorW.PrintErr Go.Proofs.YtjmgkknbgffbjaaDoorW.PrintMore
attribute [local go_sem] max2_int min2_int max_two min_two max_three min_three max_four min_four run_eql_errOf run_neq_errOf eqGuard_errOf run_eql_ptrOf run_neq_ptrOf eqGuard_ptrOf   -- for this text's walks alone
set_option linter.unusedVariables false
set_option linter.unusedSimpArgs false
def geyserlaw05_awake.j0 : Nat → List (S74) → Bool → Option (Bool)
 | 0, _, _ => none
 | k + 1, x1, x18 => if x18 = true then (some false) else ((elim_System_Add.f k x1 (([3] : List Int)) (([3] : List Int))).bind fun bt259 => ((elim_System_Add.f k bt259.2.2 (([1] : List Int)) (([1] : List Int))).bind fun bt270 => ((elim_System_Value.f k bt270.2.2 1).bind fun bt275 => (if (bt259.2.1.length : Int) = 0 then (if (bt270.2.1.length : Int) = 0 then (if (bt275.2.length : Int) = 0 then (if bt259.1 = 1 then (if bt270.1 = 1 then (if (strOfNums bt275.1).toList = ([2] : List UInt8) then ((elim_System_Whole.f bt270.2.2).bind fun t281 => (some t281)) else (some false)) else (some false)) else (some false)) else (some false)) else (some false)) else (some false)))))
def geyserlaw05_awake.f (k : Nat)  : Option (Bool) := (elim_New.f 2 1).bind fun bt247 => (if (bt247.2.length : Int) = 0 then (geyserlaw05_awake.j0 k bt247.1 ((bt247.1.length : Int) == 0)) else (geyserlaw05_awake.j0 k bt247.1 true))
theorem geyserlaw05_awake.mono_l : ∀ k, (∀ y0 y1, LeO (geyserlaw05_awake.j0 k y0 y1) (geyserlaw05_awake.j0 (k + 1) y0 y1))
 | 0 => fun _ _ r h => by simp [geyserlaw05_awake.j0] at h
 | k + 1 => by
  have ih0 := geyserlaw05_awake.mono_l k
  ·intro y0 y1
   unfold geyserlaw05_awake.j0
   repeat' first
   | (with_reducible exact ih0 _ _)
   | (with_reducible exact elim_System_Add.mono _ _ _ _)
   | (with_reducible exact elim_System_Value.mono _ _ _)
   | (with_reducible exact LeO.refl _)
   | (with_reducible exact LeO.none _)
   | (with_reducible refine LeO.ite ?_ ?_)
   | (with_reducible refine LeO.bind ?_ (fun _ => ?_))
   | exact ih0 _ _
   | exact elim_System_Add.mono _ _ _ _
   | exact elim_System_Value.mono _ _ _
   | exact LeO.none _
   | refine LeO.ite ?_ ?_
   | refine LeO.bind ?_ (fun _ => ?_)
theorem geyserlaw05_awake.mono : ∀ k, LeO (geyserlaw05_awake.f k ) (geyserlaw05_awake.f (k + 1) ) := by
 intro  k
 have ih0 := geyserlaw05_awake.mono_l k
 unfold geyserlaw05_awake.f
 repeat' first
   | (with_reducible exact ih0 _ _)
   | (with_reducible exact elim_System_Add.mono _ _ _ _)
   | (with_reducible exact elim_System_Value.mono _ _ _)
   | (with_reducible exact LeO.refl _)
   | (with_reducible exact LeO.none _)
   | (with_reducible refine LeO.ite ?_ ?_)
   | (with_reducible refine LeO.bind ?_ (fun _ => ?_))
   | exact ih0 _ _
   | exact elim_System_Add.mono _ _ _ _
   | exact elim_System_Value.mono _ _ _
   | exact LeO.none _
   | refine LeO.ite ?_ ?_
   | refine LeO.bind ?_ (fun _ => ?_)
set_option maxHeartbeats 8000000 in
set_option maxRecDepth 100000 in
theorem geyserlaw05_awake.calls (k : Nat)  (r : Bool) (w : World) (ht : TabIn w) (h : geyserlaw05_awake.f k  = some r) :
  Calls Tryd.prog 15 #[] w fun e w' => e = .returned (.bool r) ∧ Below w.heap.size w w' := by
 have HB := AQ (Below.refl w.heap.size w)
 have HT := AQ ht
 clear ht
 have H : ((elim_New.f 2 1).bind fun bt247 => (if (bt247.2.length : Int) = 0 then (geyserlaw05_awake.j0 k bt247.1 ((bt247.1.length : Int) == 0)) else (geyserlaw05_awake.j0 k bt247.1 true))) = some r := h
 clear h
 replace H := Option.bind_eq_some_iff.mp H
 obtain ⟨⟨t247, t248⟩, A10, H⟩ := H
 replace H : (if (t248.length : Int) = 0 then (geyserlaw05_awake.j0 k t247 ((t247.length : Int) == 0)) else (geyserlaw05_awake.j0 k t247 true)) = some r := H
 have A1 := AQ A10
 clear A10
 have HC2 := AQ H
 clear H
 go_enter Tryd.func15, Tryd.ntmps15
 go_upto_region 2 with (first | ((with_reducible refine gate_callee (f := 10) rfl ?_); refine goesL_ (some 10) rfl rfl Tryd.func10 (by kernel_rfl) rfl #[.int .i64 2, .int .i64 1] rfl (by (try simp only [List.map_toArray, List.map_cons, List.map_nil]); first | done | rfl | (simp only [List.length_drop, List.length_take]; rfl)) ?_; (with_reducible refine (elim_New.calls 2 1 t247 t248 _ A1.out).mono ?_); rintro e w3 ⟨v249, v251, rfl, ho0, ho1, hb⟩; refine ⟨_, rfl, ?_⟩; have n0_ := AQ (Kd.R_lower ho0 (below_size (PB HB))); have n1_ := AQ (Kd.R_lower ho1 (below_size (PB HB))); have n2_ := AQ (below_step (PB HB) hb); clear HB; have HO250 := n0_; have HO252 := n1_; have HB := n2_; clear n0_ n1_ n2_; (try clear hb); (try clear hb2); (try clear hk); (try clear hi); (try clear ho0); (try clear ho1)))
 (try simp only [Act.put, List.setIfInBounds_toArray, List.set_cons_zero, List.set_cons_succ])
 go_cut [18] (fun v18 wc => ∃ (kq : Nat) (x18_1 : Bool), v18 = .bool x18_1 ∧ Aside0 (geyserlaw05_awake.j0 kq t247 x18_1 = some r) ∧ Aside0 (kq ≤ k) ∧ Aside0 (Kd.R k74 74 wc w.heap.size (fun _ => True) v249 t247) ∧ Aside0 (Below w.heap.size w wc))
 case first =>
  have H := HC2.out
  clear HC2
  by_cases c4 : (t248.length : Int) = 0
  ·rw [if_pos c4] at H
   have c4b0 : ((t248.length : Int) == 0) = true := beq_iff_eq.mpr c4
   have c4b1 : ((t248.length : Int) != 0) = false := bne_eq_false_iff_eq.mpr c4
   clear c4
   (first | rw [c4b0] | rw [c4b1] | (simp only [i64_w, i32_w]; rw [c4b0]) | skip)
   have H' := AQ H
   clear H
   obtain ⟨Ao5, co5, eo5⟩ := Kd.R_slice HO252.out
   subst eo5
   obtain ⟨Ao6, co6, eo6⟩ := Kd.R_slice HO250.out
   subst eo6
   go_wp2
   go_meet
   case rel => exact ⟨_, (((t247.length : Int) == 0)), (by first | rfl | (simp; done) | (simp [*]; done)), H', ⟨by first | omega | exact Nat.le_refl _⟩, ⟨PR HO250⟩, ⟨PB HB⟩⟩
  ·rw [if_neg c4] at H
   have c4b0 : ((t248.length : Int) == 0) = false := beq_eq_false_iff_ne.mpr c4
   have c4b1 : ((t248.length : Int) != 0) = true := bne_iff_ne.mpr c4
   have c4b2 : ¬ (t248 = []) := fun h_ => c4 (by rw [h_]; rfl)
   (first | rw [c4b0] | rw [c4b1] | (simp only [i64_w, i32_w]; rw [c4b0]) | skip)
   have H' := AQ H
   clear H
   obtain ⟨Ao7, co7, eo7⟩ := Kd.R_slice HO252.out
   subst eo7
   go_wp2
   go_meet
   case rel => exact ⟨_, (true), (by first | rfl | (simp; done) | (simp [*]; done)), H', ⟨by first | omega | exact Nat.le_refl _⟩, ⟨PR HO250⟩, ⟨PB HB⟩⟩
 case rest =>
  clear HC2
  try clear c1
  try clear p2
  try clear c4
  try clear c4b0
  try clear c4b1
  try clear c4b2
  obtain ⟨kq, x18_1, rfl, HA, HJ1, HO_1, HB⟩ := hcut
  cases kq with
  | zero => exact absurd HA.out (by simp [geyserlaw05_awake.j0])
  | succ kj1 =>
   have H := HA.out
   clear HA
   simp only [geyserlaw05_awake.j0] at H
   by_cases c8 : x18_1 = true
   ·subst c8
    have H1 : (some false) = some r := by rw [if_pos rfl] at H; exact H
    clear H
    have H := H1
    clear H1
    obtain rfl := Option.some.inj H
    go_wp2
    go_ret
    exact ⟨by first | rfl | (simp [errW_none, errW_some] <;> rfl) | (simp [*, errW_none, errW_some] <;> rfl), PB HB⟩
   ·replace c8 := Bool.eq_false_iff.mpr c8
    subst c8
    have H1 : ((elim_System_Add.f kj1 t247 (([3] : List Int)) (([3] : List Int))).bind fun bt259 => ((elim_System_Add.f kj1 bt259.2.2 (([1] : List Int)) (([1] : List Int))).bind fun bt270 => ((elim_System_Value.f kj1 bt270.2.2 1).bind fun bt275 => (if (bt259.2.1.length : Int) = 0 then (if (bt270.2.1.length : Int) = 0 then (if (bt275.2.length : Int) = 0 then (if bt259.1 = 1 then (if bt270.1 = 1 then (if (strOfNums bt275.1).toList = ([2] : List UInt8) then ((elim_System_Whole.f bt270.2.2).bind fun t281 => (some t281)) else (some false)) else (some false)) else (some false)) else (some false)) else (some false)) else (some false))))) = some r := by rw [if_neg (show ¬ (false = true) by decide)] at H; exact H
    clear H
    have H := H1
    clear H1
    obtain ⟨y253, hy253⟩ : ∃ y_ : List Int, y_ = (([3] : List Int)) := ⟨_, rfl⟩
    replace H : ((elim_System_Add.f kj1 t247 y253 (([3] : List Int))).bind fun bt259 => ((elim_System_Add.f kj1 bt259.2.2 (([1] : List Int)) (([1] : List Int))).bind fun bt270 => ((elim_System_Value.f kj1 bt270.2.2 1).bind fun bt275 => (if (bt259.2.1.length : Int) = 0 then (if (bt270.2.1.length : Int) = 0 then (if (bt275.2.length : Int) = 0 then (if bt259.1 = 1 then (if bt270.1 = 1 then (if (strOfNums bt275.1).toList = ([2] : List UInt8) then ((elim_System_Whole.f bt270.2.2).bind fun t281 => (some t281)) else (some false)) else (some false)) else (some false)) else (some false)) else (some false)) else (some false))))) = some r := by first | (rw [hy253]; with_reducible exact H) | (have H2_ := (Option.bind_some _ _).symm.trans H; rw [hy253]; with_reducible exact H2_) | (have H2_ := (Option.bind_some _ _).symm.trans H; with_reducible exact H2_) | with_reducible exact H | (rw [hy253]; exact H) | exact H
    have Ny253 := AQ hy253
    clear hy253
    obtain ⟨y256, hy256⟩ : ∃ y_ : List Int, y_ = (([3] : List Int)) := ⟨_, rfl⟩
    replace H : ((elim_System_Add.f kj1 t247 y253 y256).bind fun bt259 => ((elim_System_Add.f kj1 bt259.2.2 (([1] : List Int)) (([1] : List Int))).bind fun bt270 => ((elim_System_Value.f kj1 bt270.2.2 1).bind fun bt275 => (if (bt259.2.1.length : Int) = 0 then (if (bt270.2.1.length : Int) = 0 then (if (bt275.2.length : Int) = 0 then (if bt259.1 = 1 then (if bt270.1 = 1 then (if (strOfNums bt275.1).toList = ([2] : List UInt8) then ((elim_System_Whole.f bt270.2.2).bind fun t281 => (some t281)) else (some false)) else (some false)) else (some false)) else (some false)) else (some false)) else (some false))))) = some r := by first | (rw [hy256]; with_reducible exact H) | (have H2_ := (Option.bind_some _ _).symm.trans H; rw [hy256]; with_reducible exact H2_) | (have H2_ := (Option.bind_some _ _).symm.trans H; with_reducible exact H2_) | with_reducible exact H | (rw [hy256]; exact H) | exact H
    have Ny256 := AQ hy256
    clear hy256
    replace H := Option.bind_eq_some_iff.mp H
    obtain ⟨⟨t259, t260, t263⟩, A90, H⟩ := H
    replace H : ((elim_System_Add.f kj1 t263 (([1] : List Int)) (([1] : List Int))).bind fun bt270 => ((elim_System_Value.f kj1 bt270.2.2 1).bind fun bt275 => (if (t260.length : Int) = 0 then (if (bt270.2.1.length : Int) = 0 then (if (bt275.2.length : Int) = 0 then (if t259 = 1 then (if bt270.1 = 1 then (if (strOfNums bt275.1).toList = ([2] : List UInt8) then ((elim_System_Whole.f bt270.2.2).bind fun t281 => (some t281)) else (some false)) else (some false)) else (some false)) else (some false)) else (some false)) else (some false)))) = some r := H
    have A9 := AQ A90
    clear A90
    obtain ⟨y264, hy264⟩ : ∃ y_ : List Int, y_ = (([1] : List Int)) := ⟨_, rfl⟩
    replace H : ((elim_System_Add.f kj1 t263 y264 (([1] : List Int))).bind fun bt270 => ((elim_System_Value.f kj1 bt270.2.2 1).bind fun bt275 => (if (t260.length : Int) = 0 then (if (bt270.2.1.length : Int) = 0 then (if (bt275.2.length : Int) = 0 then (if t259 = 1 then (if bt270.1 = 1 then (if (strOfNums bt275.1).toList = ([2] : List UInt8) then ((elim_System_Whole.f bt270.2.2).bind fun t281 => (some t281)) else (some false)) else (some false)) else (some false)) else (some false)) else (some false)) else (some false)))) = some r := by first | (rw [hy264]; with_reducible exact H) | (have H2_ := (Option.bind_some _ _).symm.trans H; rw [hy264]; with_reducible exact H2_) | (have H2_ := (Option.bind_some _ _).symm.trans H; with_reducible exact H2_) | with_reducible exact H | (rw [hy264]; exact H) | exact H
    have Ny264 := AQ hy264
    clear hy264
    obtain ⟨y267, hy267⟩ : ∃ y_ : List Int, y_ = (([1] : List Int)) := ⟨_, rfl⟩
    replace H : ((elim_System_Add.f kj1 t263 y264 y267).bind fun bt270 => ((elim_System_Value.f kj1 bt270.2.2 1).bind fun bt275 => (if (t260.length : Int) = 0 then (if (bt270.2.1.length : Int) = 0 then (if (bt275.2.length : Int) = 0 then (if t259 = 1 then (if bt270.1 = 1 then (if (strOfNums bt275.1).toList = ([2] : List UInt8) then ((elim_System_Whole.f bt270.2.2).bind fun t281 => (some t281)) else (some false)) else (some false)) else (some false)) else (some false)) else (some false)) else (some false)))) = some r := by first | (rw [hy267]; with_reducible exact H) | (have H2_ := (Option.bind_some _ _).symm.trans H; rw [hy267]; with_reducible exact H2_) | (have H2_ := (Option.bind_some _ _).symm.trans H; with_reducible exact H2_) | with_reducible exact H | (rw [hy267]; exact H) | exact H
    have Ny267 := AQ hy267
    clear hy267
    replace H := Option.bind_eq_some_iff.mp H
    obtain ⟨⟨t270, t271, t274⟩, A100, H⟩ := H
    replace H : ((elim_System_Value.f kj1 t274 1).bind fun bt275 => (if (t260.length : Int) = 0 then (if (t271.length : Int) = 0 then (if (bt275.2.length : Int) = 0 then (if t259 = 1 then (if t270 = 1 then (if (strOfNums bt275.1).toList = ([2] : List UInt8) then ((elim_System_Whole.f t274).bind fun t281 => (some t281)) else (some false)) else (some false)) else (some false)) else (some false)) else (some false)) else (some false))) = some r := H
    have A10 := AQ A100
    clear A100
    replace H := Option.bind_eq_some_iff.mp H
    obtain ⟨⟨t275, t276⟩, A110, H⟩ := H
    replace H : (if (t260.length : Int) = 0 then (if (t271.length : Int) = 0 then (if (t276.length : Int) = 0 then (if t259 = 1 then (if t270 = 1 then (if (strOfNums t275).toList = ([2] : List UInt8) then ((elim_System_Whole.f t274).bind fun t281 => (some t281)) else (some false)) else (some false)) else (some false)) else (some false)) else (some false)) else (some false)) = some r := H
    have A11 := AQ A110
    clear A110
    by_cases c12 : (t260.length : Int) = 0
    ·rw [if_pos c12] at H
     have c12b0 : ((t260.length : Int) == 0) = true := beq_iff_eq.mpr c12
     have c12b1 : ((t260.length : Int) != 0) = false := bne_eq_false_iff_eq.mpr c12
     clear c12
     by_cases c13 : (t271.length : Int) = 0
     ·rw [if_pos c13] at H
      have c13b0 : ((t271.length : Int) == 0) = true := beq_iff_eq.mpr c13
      have c13b1 : ((t271.length : Int) != 0) = false := bne_eq_false_iff_eq.mpr c13
      clear c13
      by_cases c14 : (t276.length : Int) = 0
      ·rw [if_pos c14] at H
       have c14b0 : ((t276.length : Int) == 0) = true := beq_iff_eq.mpr c14
       have c14b1 : ((t276.length : Int) != 0) = false := bne_eq_false_iff_eq.mpr c14
       clear c14
       by_cases c15 : t259 = 1
       ·rw [if_pos c15] at H
        have c15b0 : (t259 == 1) = true := beq_iff_eq.mpr c15
        have c15b1 : (t259 != 1) = false := bne_eq_false_iff_eq.mpr c15
        clear c15
        by_cases c16 : t270 = 1
        ·rw [if_pos c16] at H
         have c16b0 : (t270 == 1) = true := beq_iff_eq.mpr c16
         have c16b1 : (t270 != 1) = false := bne_eq_false_iff_eq.mpr c16
         clear c16
         by_cases c17 : (strOfNums t275).toList = ([2] : List UInt8)
         ·rw [if_pos c17] at H
          have c17b0 : ((strOfNums t275).toList == ([2] : List UInt8)) = true := beq_iff_eq.mpr c17
          have c17b1 : ((strOfNums t275).toList != ([2] : List UInt8)) = false := bne_eq_false_iff_eq.mpr c17
          clear c17
          replace H := Option.bind_eq_some_iff.mp H
          obtain ⟨t281, A180, H⟩ := H
          replace H : (some t281) = some r := H
          have A18 := AQ A180
          clear A180
          obtain rfl := Option.some.inj H
          go_wp2_with (first | ((with_reducible refine gate_dst (N := 21) rfl ?_); refine Kd.R_lit (Kd.int .u64) _ 35 ?hg (N := 21) ?hd (xs := ([3] : List Int)) (inner := [.int .u64 3]) (ok := fun _ => True) (okp := fun _ => True) ?hr ?hp (fun _ hk => hk) trivial (Below.refl _ _) (Nat.le_refl _) (by simp) ?_; (case hd => rfl); (case hg => rfl); (case hr => first | (go_simp; done) | (go_simp; rfl)); (case hp => exact (Reps.one (show Kd.M (Kd.int .u64) _ _ _ 3 [.int .u64 3] from rfl) (Reps.none _ _))); intro v254 w19 ho20 hb hg_ hnew_; clear hg_ hnew_; (first | rw [← Ny253.out] at ho20 | (simp only [Int.reduceToNat] at ho20; rw [← Ny253.out] at ho20)); have n0_ := AQ (Kd.R_elder' (PR HO_1) (Kd.R_base ho20) hb); have n1_ := AQ (Kd.R_lower ho20 (below_size (PB HB))); have n2_ := AQ (below_step (PB HB) hb); clear HO_1; clear HB; have HO_1 := n0_; have HO255 := n1_; have HB := n2_; clear n0_ n1_ n2_; clear hb ho20) | ((with_reducible refine gate_dst (N := 22) rfl ?_); refine Kd.R_lit (Kd.int .u8) _ 5 ?hg (N := 22) ?hd (xs := ([3] : List Int)) (inner := [.int .u8 3]) (ok := fun _ => True) (okp := fun _ => True) ?hr ?hp (fun _ hk => hk) trivial (Below.refl _ _) (Nat.le_refl _) (by simp) ?_; (case hd => rfl); (case hg => rfl); (case hr => first | (go_simp; done) | (go_simp; rfl)); (case hp => exact (Reps.one (show Kd.M (Kd.int .u8) _ _ _ 3 [.int .u8 3] from rfl) (Reps.none _ _))); intro v257 w21 ho22 hb hg_ hnew_; clear hg_ hnew_; (first | rw [← Ny256.out] at ho22 | (simp only [Int.reduceToNat] at ho22; rw [← Ny256.out] at ho22)); have n0_ := AQ (Kd.R_elder' (PR HO_1) (Kd.R_base ho22) hb); have n1_ := AQ (Kd.R_below (PR HO255) hb); have n2_ := AQ (Kd.R_lower ho22 (below_size (PB HB))); have n3_ := AQ (below_step (PB HB) hb); clear HO_1; clear HO255; clear HB; have HO_1 := n0_; have HO255 := n1_; have HO258 := n2_; have HB := n3_; clear n0_ n1_ n2_ n3_; clear hb ho22; obtain ⟨Ao23, co23, eo23⟩ := Kd.R_slice HO_1.out; subst eo23; obtain ⟨Ao24, co24, eo24⟩ := Kd.R_slice HO255.out; subst eo24; obtain ⟨Ao25, co25, eo25⟩ := Kd.R_slice HO258.out; subst eo25) | ((with_reducible refine gate_callee (f := 11) rfl ?_); refine goesL_ (some 23) rfl rfl Tryd.func11 (by kernel_rfl) rfl #[ptrOf (.slice Ao23 t247.length co23), .slice Ao24 y253.length co24, .slice Ao25 y256.length co25] rfl (by (try simp only [List.map_toArray, List.map_cons, List.map_nil]); first | done | rfl | (simp only [List.length_drop, List.length_take]; rfl)) ?_; (with_reducible refine (elim_System_Add.calls kj1 (fun k_ => (some k_ ≠ (.slice Ao24 y253.length co24 : Value).ownBlock ∧ some k_ ≠ (.slice Ao25 y256.length co25 : Value).ownBlock)) (.slice Ao23 t247.length co23) t247 _ _ y253 _ _ y256 t259 t260 t263 w _ ?side1 ?side2 ?side3 ?side4 ?side5 ?side6 ?side7 A9.out).mono ?_); (case side1 => first | exact HT.out | exact TabIn.below HT.out (PB HB) | (repeat (first | apply TabIn.drewN | apply TabIn.drew | exact HT.out))); (case side2 => exact PB HB); (case side3 => (with_reducible repeat (first | apply Kd.R_alloc | apply Kd.R_drewN | apply Kd.R_drew)); exact Kd.R_mono HO_1.out (fun _ hk => ⟨hk.1.2, hk.2⟩)); (case side4 => exact QC HO255); (case side5 => exact (Kd.R_reads' HO255.out).2.1); (case side6 => exact QC HO258); (case side7 => exact (Kd.R_reads' HO258.out).2.1); rintro e w26 ⟨v261, rfl, ho0, hy0, hb, hkp⟩; refine ⟨_, rfl, ?_⟩; have n0_ := AQ (Kd.R_mono (ok' := fun k_ => (some k_ ≠ (.slice Ao24 y253.length co24 : Value).ownBlock ∧ some k_ ≠ (.slice Ao25 y256.length co25 : Value).ownBlock)) hy0 (fun k_ hk_ => Or.elim hk_ (fun hs_ => hs_) (fun hn_ => ⟨(Kd.fresh' (Kd.R_lt (PR HO255)) k_ hn_), (Kd.fresh' (Kd.R_lt (PR HO258)) k_ hn_)⟩))); have n1_ := AQ (Kd.R_skept (PR HO255) hkp (by decide)); have n2_ := AQ (Kd.R_skept (PR HO258) hkp (by decide)); have n3_ := AQ (Kd.R_lower ho0 (below_size (PB HB))); have n4_ := AQ (hb); clear HO_1; clear HO255; clear HO258; clear HB; have HO_1 := n0_; have HO255 := n1_; have HO258 := n2_; have HO262 := n3_; have HB := n4_; clear n0_ n1_ n2_ n3_ n4_; (try clear hb); (try clear hkp); (try clear hy0); (try clear ho0)) | ((with_reducible refine gate_dst (N := 28) rfl ?_); refine Kd.R_lit (Kd.int .u64) _ 35 ?hg (N := 28) ?hd (xs := ([1] : List Int)) (inner := [.int .u64 1]) (ok := fun _ => True) (okp := fun _ => True) ?hr ?hp (fun _ hk => hk) trivial (Below.refl _ _) (Nat.le_refl _) (by simp) ?_; (case hd => rfl); (case hg => rfl); (case hr => first | (go_simp; done) | (go_simp; rfl)); (case hp => exact (Reps.one (show Kd.M (Kd.int .u64) _ _ _ 1 [.int .u64 1] from rfl) (Reps.none _ _))); intro v265 w27 ho28 hb hg_ hnew_; clear hg_ hnew_; (first | rw [← Ny264.out] at ho28 | (simp only [Int.reduceToNat] at ho28; rw [← Ny264.out] at ho28)); have n0_ := AQ (Kd.R_elder' (PR HO_1) (Kd.R_base ho28) hb); have n1_ := AQ (Kd.R_elder' (PR HO255) (Kd.R_base ho28) hb); have n2_ := AQ (Kd.R_below (PR HO258) hb); have n3_ := AQ (Kd.R_below (PR HO262) hb); have n4_ := AQ (Kd.R_lower (Kd.R_new' ho28 (Kd.R_lt (PR HO255))) (below_size (PB HB))); have n5_ := AQ (below_step (PB HB) hb); clear HO_1; clear HO255; clear HO258; clear HO262; clear HB; have HO_1 := n0_; have HO255 := n1_; have HO258 := n2_; have HO262 := n3_; have HO266 := n4_; have HB := n5_; clear n0_ n1_ n2_ n3_ n4_ n5_; clear hb ho28) | ((with_reducible refine gate_dst (N := 29) rfl ?_); refine Kd.R_lit (Kd.int .u8) _ 5 ?hg (N := 29) ?hd (xs := ([1] : List Int)) (inner := [.int .u8 1]) (ok := fun _ => True) (okp := fun _ => True) ?hr ?hp (fun _ hk => hk) trivial (Below.refl _ _) (Nat.le_refl _) (by simp) ?_; (case hd => rfl); (case hg => rfl); (case hr => first | (go_simp; done) | (go_simp; rfl)); (case hp => exact (Reps.one (show Kd.M (Kd.int .u8) _ _ _ 1 [.int .u8 1] from rfl) (Reps.none _ _))); intro v268 w29 ho30 hb hg_ hnew_; clear hg_ hnew_; (first | rw [← Ny267.out] at ho30 | (simp only [Int.reduceToNat] at ho30; rw [← Ny267.out] at ho30)); have n0_ := AQ (Kd.R_elder' (PR HO_1) (Kd.R_base ho30) hb); have n1_ := AQ (Kd.R_below (PR HO255) hb); have n2_ := AQ (Kd.R_elder' (PR HO258) (Kd.R_base ho30) hb); have n3_ := AQ (Kd.R_below (PR HO262) hb); have n4_ := AQ (Kd.R_below (PR HO266) hb); have n5_ := AQ (Kd.R_lower (Kd.R_new' ho30 (Kd.R_lt (PR HO258))) (below_size (PB HB))); have n6_ := AQ (below_step (PB HB) hb); clear HO_1; clear HO255; clear HO258; clear HO262; clear HO266; clear HB; have HO_1 := n0_; have HO255 := n1_; have HO258 := n2_; have HO262 := n3_; have HO266 := n4_; have HO269 := n5_; have HB := n6_; clear n0_ n1_ n2_ n3_ n4_ n5_ n6_; clear hb ho30; obtain ⟨Ao31, co31, eo31⟩ := Kd.R_slice HO266.out; subst eo31; obtain ⟨Ao32, co32, eo32⟩ := Kd.R_slice HO269.out; subst eo32) | ((with_reducible refine gate_callee (f := 11) rfl ?_); refine goesL_ (some 30) rfl rfl Tryd.func11 (by kernel_rfl) rfl #[ptrOf (.slice Ao23 t247.length co23), .slice Ao31 y264.length co31, .slice Ao32 y267.length co32] rfl (by (try simp only [List.map_toArray, List.map_cons, List.map_nil]); first | done | rfl | (simp only [List.length_drop, List.length_take]; rfl)) ?_; (with_reducible refine (elim_System_Add.calls kj1 (fun k_ => (((some k_ ≠ (.slice Ao24 y253.length co24 : Value).ownBlock ∧ some k_ ≠ (.slice Ao25 y256.length co25 : Value).ownBlock) ∧ some k_ ≠ (.slice Ao31 y264.length co31 : Value).ownBlock) ∧ some k_ ≠ (.slice Ao32 y267.length co32 : Value).ownBlock)) (.slice Ao23 t247.length co23) t263 _ _ y264 _ _ y267 t270 t271 t274 w _ ?side1 ?side2 ?side3 ?side4 ?side5 ?side6 ?side7 A10.out).mono ?_); (case side1 => first | exact HT.out | exact TabIn.below HT.out (PB HB) | (repeat (first | apply TabIn.drewN | apply TabIn.drew | exact HT.out))); (case side2 => exact PB HB); (case side3 => exact PR HO_1); (case side4 => exact QC HO266); (case side5 => exact (Kd.R_reads' HO266.out).2.1); (case side6 => exact QC HO269); (case side7 => exact (Kd.R_reads' HO269.out).2.1); rintro e w33 ⟨v272, rfl, ho0, hy0, hb, hkp⟩; refine ⟨_, rfl, ?_⟩; have n0_ := AQ (Kd.R_mono (ok' := fun k_ => (((some k_ ≠ (.slice Ao24 y253.length co24 : Value).ownBlock ∧ some k_ ≠ (.slice Ao25 y256.length co25 : Value).ownBlock) ∧ some k_ ≠ (.slice Ao31 y264.length co31 : Value).ownBlock) ∧ some k_ ≠ (.slice Ao32 y267.length co32 : Value).ownBlock)) hy0 (fun k_ hk_ => Or.elim hk_ (fun hs_ => hs_) (fun hn_ => ⟨⟨⟨(Kd.fresh' (Kd.R_lt (PR HO255)) k_ hn_), (Kd.fresh' (Kd.R_lt (PR HO258)) k_ hn_)⟩, (Kd.fresh' (Kd.R_lt (PR HO266)) k_ hn_)⟩, (Kd.fresh' (Kd.R_lt (PR HO269)) k_ hn_)⟩))); have n1_ := AQ (Kd.R_skept (PR HO255) hkp (by decide)); have n2_ := AQ (Kd.R_skept (PR HO258) hkp (by decide)); have n3_ := AQ (Kd.R_skept (PR HO262) hkp (by decide)); have n4_ := AQ (Kd.R_skept (PR HO266) hkp (by decide)); have n5_ := AQ (Kd.R_skept (PR HO269) hkp (by decide)); have n6_ := AQ (Kd.R_lower ho0 (below_size (PB HB))); have n7_ := AQ (hb); clear HO_1; clear HO255; clear HO258; clear HO262; clear HO266; clear HO269; clear HB; have HO_1 := n0_; have HO255 := n1_; have HO258 := n2_; have HO262 := n3_; have HO266 := n4_; have HO269 := n5_; have HO273 := n6_; have HB := n7_; clear n0_ n1_ n2_ n3_ n4_ n5_ n6_ n7_; (try clear hb); (try clear hkp); (try clear hy0); (try clear ho0)) | ((with_reducible refine gate_callee (f := 13) rfl ?_); refine goesL_ (some 35) rfl rfl Tryd.func13 (by kernel_rfl) rfl #[ptrOf (.slice Ao23 t274.length co23), .int .i64 1] rfl (by (try simp only [List.map_toArray, List.map_cons, List.map_nil]); first | done | (rw [show t274.length = t247.length from (Kd.R_reads' HO_1.out).1.symm] <;> rfl) | rfl | (simp only [List.length_drop, List.length_take]; rfl)) ?_; (with_reducible refine (elim_System_Value.calls kj1 _ _ t274 1 t275 t276 _ ?side1 ?side2 ?side3 A11.out).mono ?_); (case side1 => first | exact HT.out | exact TabIn.below HT.out (PB HB) | (repeat (first | apply TabIn.drewN | apply TabIn.drew | exact HT.out))); (case side2 => exact QC HO_1); (case side3 => rw [show t274.length = t247.length from (Kd.R_reads' HO_1.out).1.symm]; exact (Kd.R_reads' HO_1.out).2.1); rintro e w34 ⟨v277, v279, rfl, ho0, ho1, hb⟩; refine ⟨_, rfl, ?_⟩; have n0_ := AQ (Kd.R_elder' (PR HO_1) (Kd.R_base ho0) hb); have n1_ := AQ (Kd.R_below (PR HO255) hb); have n2_ := AQ (Kd.R_elder' (PR HO258) (Kd.R_base ho0) hb); have n3_ := AQ (Kd.R_below (PR HO262) hb); have n4_ := AQ (Kd.R_below (PR HO266) hb); have n5_ := AQ (Kd.R_elder' (PR HO269) (Kd.R_base ho0) hb); have n6_ := AQ (Kd.R_below (PR HO273) hb); have n7_ := AQ (Kd.R_lower (Kd.R_new' (Kd.R_new' ho0 (Kd.R_lt (PR HO258))) (Kd.R_lt (PR HO269))) (below_size (PB HB))); have n8_ := AQ (Kd.R_lower ho1 (below_size (PB HB))); have n9_ := AQ (below_step (PB HB) hb); clear HO_1; clear HO255; clear HO258; clear HO262; clear HO266; clear HO269; clear HO273; clear HB; have HO_1 := n0_; have HO255 := n1_; have HO258 := n2_; have HO262 := n3_; have HO266 := n4_; have HO269 := n5_; have HO273 := n6_; have HO278 := n7_; have HO280 := n8_; have HB := n9_; clear n0_ n1_ n2_ n3_ n4_ n5_ n6_ n7_ n8_ n9_; (try clear hb); (try clear hb2); (try clear hk); (try clear hi); (try clear ho0); (try clear ho1); obtain ⟨Ao35, co35, eo35⟩ := Kd.R_slice HO262.out; subst eo35; obtain ⟨Ao36, co36, eo36⟩ := Kd.R_slice HO273.out; subst eo36; obtain ⟨Ao37, co37, eo37⟩ := Kd.R_slice HO280.out; subst eo37; have hcv38 := own_string (P := Tryd.prog) Tryd.underlying36 Tryd.underlying5 Tryd.underlying9 (Kd.own_of_R HO278.out)) | (go_at_call 18; refine calls_of_args (args' := #[ptrOf (.slice Ao23 t274.length co23)]) (by first | (rw [show t274.length = t247.length from (Kd.R_reads' HO_1.out).1.symm] <;> rfl) | rfl) ?_; (with_reducible refine (elim_System_Whole.calls _ _ t274 t281 _ ?side1 ?side2 A18.out).mono ?_); (case side1 => exact QC HO_1); (case side2 => rw [show t274.length = t247.length from (Kd.R_reads' HO_1.out).1.symm]; exact (Kd.R_reads' HO_1.out).2.1); rintro e w39 ⟨rfl, hb⟩; have n0_ := AQ (Kd.R_below (PR HO_1) hb); have n1_ := AQ (Kd.R_below (PR HO255) hb); have n2_ := AQ (Kd.R_below (PR HO258) hb); have n3_ := AQ (Kd.R_below (PR HO262) hb); have n4_ := AQ (Kd.R_below (PR HO266) hb); have n5_ := AQ (Kd.R_below (PR HO269) hb); have n6_ := AQ (Kd.R_below (PR HO273) hb); have n7_ := AQ (Kd.R_below (PR HO278) hb); have n8_ := AQ (Kd.R_below (PR HO280) hb); have n9_ := AQ (below_step (PB HB) hb); clear HO_1; clear HO255; clear HO258; clear HO262; clear HO266; clear HO269; clear HO273; clear HO278; clear HO280; clear HB; have HO_1 := n0_; have HO255 := n1_; have HO258 := n2_; have HO262 := n3_; have HO266 := n4_; have HO269 := n5_; have HO273 := n6_; have HO278 := n7_; have HO280 := n8_; have HB := n9_; clear n0_ n1_ n2_ n3_ n4_ n5_ n6_ n7_ n8_ n9_; (try clear hb); (try clear hb2); (try clear hk); (try clear hi)))
          go_ret
          exact ⟨by first | rfl | (simp [errW_none, errW_some] <;> rfl) | (simp [*, errW_none, errW_some] <;> rfl), PB HB⟩
         ·rw [if_neg c17] at H
          have c17b0 : ((strOfNums t275).toList == ([2] : List UInt8)) = false := beq_eq_false_iff_ne.mpr c17
          have c17b1 : ((strOfNums t275).toList != ([2] : List UInt8)) = true := bne_iff_ne.mpr c17
          obtain rfl := Option.some.inj H
          go_wp2_with (first | ((with_reducible refine gate_dst (N := 21) rfl ?_); refine Kd.R_lit (Kd.int .u64) _ 35 ?hg (N := 21) ?hd (xs := ([3] : List Int)) (inner := [.int .u64 3]) (ok := fun _ => True) (okp := fun _ => True) ?hr ?hp (fun _ hk => hk) trivial (Below.refl _ _) (Nat.le_refl _) (by simp) ?_; (case hd => rfl); (case hg => rfl); (case hr => first | (go_simp; done) | (go_simp; rfl)); (case hp => exact (Reps.one (show Kd.M (Kd.int .u64) _ _ _ 3 [.int .u64 3] from rfl) (Reps.none _ _))); intro v254 w40 ho41 hb hg_ hnew_; clear hg_ hnew_; (first | rw [← Ny253.out] at ho41 | (simp only [Int.reduceToNat] at ho41; rw [← Ny253.out] at ho41)); have n0_ := AQ (Kd.R_elder' (PR HO_1) (Kd.R_base ho41) hb); have n1_ := AQ (Kd.R_lower ho41 (below_size (PB HB))); have n2_ := AQ (below_step (PB HB) hb); clear HO_1; clear HB; have HO_1 := n0_; have HO255 := n1_; have HB := n2_; clear n0_ n1_ n2_; clear hb ho41) | ((with_reducible refine gate_dst (N := 22) rfl ?_); refine Kd.R_lit (Kd.int .u8) _ 5 ?hg (N := 22) ?hd (xs := ([3] : List Int)) (inner := [.int .u8 3]) (ok := fun _ => True) (okp := fun _ => True) ?hr ?hp (fun _ hk => hk) trivial (Below.refl _ _) (Nat.le_refl _) (by simp) ?_; (case hd => rfl); (case hg => rfl); (case hr => first | (go_simp; done) | (go_simp; rfl)); (case hp => exact (Reps.one (show Kd.M (Kd.int .u8) _ _ _ 3 [.int .u8 3] from rfl) (Reps.none _ _))); intro v257 w42 ho43 hb hg_ hnew_; clear hg_ hnew_; (first | rw [← Ny256.out] at ho43 | (simp only [Int.reduceToNat] at ho43; rw [← Ny256.out] at ho43)); have n0_ := AQ (Kd.R_elder' (PR HO_1) (Kd.R_base ho43) hb); have n1_ := AQ (Kd.R_below (PR HO255) hb); have n2_ := AQ (Kd.R_lower ho43 (below_size (PB HB))); have n3_ := AQ (below_step (PB HB) hb); clear HO_1; clear HO255; clear HB; have HO_1 := n0_; have HO255 := n1_; have HO258 := n2_; have HB := n3_; clear n0_ n1_ n2_ n3_; clear hb ho43; obtain ⟨Ao44, co44, eo44⟩ := Kd.R_slice HO_1.out; subst eo44; obtain ⟨Ao45, co45, eo45⟩ := Kd.R_slice HO255.out; subst eo45; obtain ⟨Ao46, co46, eo46⟩ := Kd.R_slice HO258.out; subst eo46) | ((with_reducible refine gate_callee (f := 11) rfl ?_); refine goesL_ (some 23) rfl rfl Tryd.func11 (by kernel_rfl) rfl #[ptrOf (.slice Ao44 t247.length co44), .slice Ao45 y253.length co45, .slice Ao46 y256.length co46] rfl (by (try simp only [List.map_toArray, List.map_cons, List.map_nil]); first | done | rfl | (simp only [List.length_drop, List.length_take]; rfl)) ?_; (with_reducible refine (elim_System_Add.calls kj1 (fun k_ => (some k_ ≠ (.slice Ao45 y253.length co45 : Value).ownBlock ∧ some k_ ≠ (.slice Ao46 y256.length co46 : Value).ownBlock)) (.slice Ao44 t247.length co44) t247 _ _ y253 _ _ y256 t259 t260 t263 w _ ?side1 ?side2 ?side3 ?side4 ?side5 ?side6 ?side7 A9.out).mono ?_); (case side1 => first | exact HT.out | exact TabIn.below HT.out (PB HB) | (repeat (first | apply TabIn.drewN | apply TabIn.drew | exact HT.out))); (case side2 => exact PB HB); (case side3 => (with_reducible repeat (first | apply Kd.R_alloc | apply Kd.R_drewN | apply Kd.R_drew)); exact Kd.R_mono HO_1.out (fun _ hk => ⟨hk.1.2, hk.2⟩)); (case side4 => exact QC HO255); (case side5 => exact (Kd.R_reads' HO255.out).2.1); (case side6 => exact QC HO258); (case side7 => exact (Kd.R_reads' HO258.out).2.1); rintro e w47 ⟨v261, rfl, ho0, hy0, hb, hkp⟩; refine ⟨_, rfl, ?_⟩; have n0_ := AQ (Kd.R_mono (ok' := fun k_ => (some k_ ≠ (.slice Ao45 y253.length co45 : Value).ownBlock ∧ some k_ ≠ (.slice Ao46 y256.length co46 : Value).ownBlock)) hy0 (fun k_ hk_ => Or.elim hk_ (fun hs_ => hs_) (fun hn_ => ⟨(Kd.fresh' (Kd.R_lt (PR HO255)) k_ hn_), (Kd.fresh' (Kd.R_lt (PR HO258)) k_ hn_)⟩))); have n1_ := AQ (Kd.R_skept (PR HO255) hkp (by decide)); have n2_ := AQ (Kd.R_skept (PR HO258) hkp (by decide)); have n3_ := AQ (Kd.R_lower ho0 (below_size (PB HB))); have n4_ := AQ (hb); clear HO_1; clear HO255; clear HO258; clear HB; have HO_1 := n0_; have HO255 := n1_; have HO258 := n2_; have HO262 := n3_; have HB := n4_; clear n0_ n1_ n2_ n3_ n4_; (try clear hb); (try clear hkp); (try clear hy0); (try clear ho0)) | ((with_reducible refine gate_dst (N := 28) rfl ?_); refine Kd.R_lit (Kd.int .u64) _ 35 ?hg (N := 28) ?hd (xs := ([1] : List Int)) (inner := [.int .u64 1]) (ok := fun _ => True) (okp := fun _ => True) ?hr ?hp (fun _ hk => hk) trivial (Below.refl _ _) (Nat.le_refl _) (by simp) ?_; (case hd => rfl); (case hg => rfl); (case hr => first | (go_simp; done) | (go_simp; rfl)); (case hp => exact (Reps.one (show Kd.M (Kd.int .u64) _ _ _ 1 [.int .u64 1] from rfl) (Reps.none _ _))); intro v265 w48 ho49 hb hg_ hnew_; clear hg_ hnew_; (first | rw [← Ny264.out] at ho49 | (simp only [Int.reduceToNat] at ho49; rw [← Ny264.out] at ho49)); have n0_ := AQ (Kd.R_elder' (PR HO_1) (Kd.R_base ho49) hb); have n1_ := AQ (Kd.R_elder' (PR HO255) (Kd.R_base ho49) hb); have n2_ := AQ (Kd.R_below (PR HO258) hb); have n3_ := AQ (Kd.R_below (PR HO262) hb); have n4_ := AQ (Kd.R_lower (Kd.R_new' ho49 (Kd.R_lt (PR HO255))) (below_size (PB HB))); have n5_ := AQ (below_step (PB HB) hb); clear HO_1; clear HO255; clear HO258; clear HO262; clear HB; have HO_1 := n0_; have HO255 := n1_; have HO258 := n2_; have HO262 := n3_; have HO266 := n4_; have HB := n5_; clear n0_ n1_ n2_ n3_ n4_ n5_; clear hb ho49) | ((with_reducible refine gate_dst (N := 29) rfl ?_); refine Kd.R_lit (Kd.int .u8) _ 5 ?hg (N := 29) ?hd (xs := ([1] : List Int)) (inner := [.int .u8 1]) (ok := fun _ => True) (okp := fun _ => True) ?hr ?hp (fun _ hk => hk) trivial (Below.refl _ _) (Nat.le_refl _) (by simp) ?_; (case hd => rfl); (case hg => rfl); (case hr => first | (go_simp; done) | (go_simp; rfl)); (case hp => exact (Reps.one (show Kd.M (Kd.int .u8) _ _ _ 1 [.int .u8 1] from rfl) (Reps.none _ _))); intro v268 w50 ho51 hb hg_ hnew_; clear hg_ hnew_; (first | rw [← Ny267.out] at ho51 | (simp only [Int.reduceToNat] at ho51; rw [← Ny267.out] at ho51)); have n0_ := AQ (Kd.R_elder' (PR HO_1) (Kd.R_base ho51) hb); have n1_ := AQ (Kd.R_below (PR HO255) hb); have n2_ := AQ (Kd.R_elder' (PR HO258) (Kd.R_base ho51) hb); have n3_ := AQ (Kd.R_below (PR HO262) hb); have n4_ := AQ (Kd.R_below (PR HO266) hb); have n5_ := AQ (Kd.R_lower (Kd.R_new' ho51 (Kd.R_lt (PR HO258))) (below_size (PB HB))); have n6_ := AQ (below_step (PB HB) hb); clear HO_1; clear HO255; clear HO258; clear HO262; clear HO266; clear HB; have HO_1 := n0_; have HO255 := n1_; have HO258 := n2_; have HO262 := n3_; have HO266 := n4_; have HO269 := n5_; have HB := n6_; clear n0_ n1_ n2_ n3_ n4_ n5_ n6_; clear hb ho51; obtain ⟨Ao52, co52, eo52⟩ := Kd.R_slice HO266.out; subst eo52; obtain ⟨Ao53, co53, eo53⟩ := Kd.R_slice HO269.out; subst eo53) | ((with_reducible refine gate_callee (f := 11) rfl ?_); refine goesL_ (some 30) rfl rfl Tryd.func11 (by kernel_rfl) rfl #[ptrOf (.slice Ao44 t247.length co44), .slice Ao52 y264.length co52, .slice Ao53 y267.length co53] rfl (by (try simp only [List.map_toArray, List.map_cons, List.map_nil]); first | done | rfl | (simp only [List.length_drop, List.length_take]; rfl)) ?_; (with_reducible refine (elim_System_Add.calls kj1 (fun k_ => (((some k_ ≠ (.slice Ao45 y253.length co45 : Value).ownBlock ∧ some k_ ≠ (.slice Ao46 y256.length co46 : Value).ownBlock) ∧ some k_ ≠ (.slice Ao52 y264.length co52 : Value).ownBlock) ∧ some k_ ≠ (.slice Ao53 y267.length co53 : Value).ownBlock)) (.slice Ao44 t247.length co44) t263 _ _ y264 _ _ y267 t270 t271 t274 w _ ?side1 ?side2 ?side3 ?side4 ?side5 ?side6 ?side7 A10.out).mono ?_); (case side1 => first | exact HT.out | exact TabIn.below HT.out (PB HB) | (repeat (first | apply TabIn.drewN | apply TabIn.drew | exact HT.out))); (case side2 => exact PB HB); (case side3 => exact PR HO_1); (case side4 => exact QC HO266); (case side5 => exact (Kd.R_reads' HO266.out).2.1); (case side6 => exact QC HO269); (case side7 => exact (Kd.R_reads' HO269.out).2.1); rintro e w54 ⟨v272, rfl, ho0, hy0, hb, hkp⟩; refine ⟨_, rfl, ?_⟩; have n0_ := AQ (Kd.R_mono (ok' := fun k_ => (((some k_ ≠ (.slice Ao45 y253.length co45 : Value).ownBlock ∧ some k_ ≠ (.slice Ao46 y256.length co46 : Value).ownBlock) ∧ some k_ ≠ (.slice Ao52 y264.length co52 : Value).ownBlock) ∧ some k_ ≠ (.slice Ao53 y267.length co53 : Value).ownBlock)) hy0 (fun k_ hk_ => Or.elim hk_ (fun hs_ => hs_) (fun hn_ => ⟨⟨⟨(Kd.fresh' (Kd.R_lt (PR HO255)) k_ hn_), (Kd.fresh' (Kd.R_lt (PR HO258)) k_ hn_)⟩, (Kd.fresh' (Kd.R_lt (PR HO266)) k_ hn_)⟩, (Kd.fresh' (Kd.R_lt (PR HO269)) k_ hn_)⟩))); have n1_ := AQ (Kd.R_skept (PR HO255) hkp (by decide)); have n2_ := AQ (Kd.R_skept (PR HO258) hkp (by decide)); have n3_ := AQ (Kd.R_skept (PR HO262) hkp (by decide)); have n4_ := AQ (Kd.R_skept (PR HO266) hkp (by decide)); have n5_ := AQ (Kd.R_skept (PR HO269) hkp (by decide)); have n6_ := AQ (Kd.R_lower ho0 (below_size (PB HB))); have n7_ := AQ (hb); clear HO_1; clear HO255; clear HO258; clear HO262; clear HO266; clear HO269; clear HB; have HO_1 := n0_; have HO255 := n1_; have HO258 := n2_; have HO262 := n3_; have HO266 := n4_; have HO269 := n5_; have HO273 := n6_; have HB := n7_; clear n0_ n1_ n2_ n3_ n4_ n5_ n6_ n7_; (try clear hb); (try clear hkp); (try clear hy0); (try clear ho0)) | ((with_reducible refine gate_callee (f := 13) rfl ?_); refine goesL_ (some 35) rfl rfl Tryd.func13 (by kernel_rfl) rfl #[ptrOf (.slice Ao44 t274.length co44), .int .i64 1] rfl (by (try simp only [List.map_toArray, List.map_cons, List.map_nil]); first | done | (rw [show t274.length = t247.length from (Kd.R_reads' HO_1.out).1.symm] <;> rfl) | rfl | (simp only [List.length_drop, List.length_take]; rfl)) ?_; (with_reducible refine (elim_System_Value.calls kj1 _ _ t274 1 t275 t276 _ ?side1 ?side2 ?side3 A11.out).mono ?_); (case side1 => first | exact HT.out | exact TabIn.below HT.out (PB HB) | (repeat (first | apply TabIn.drewN | apply TabIn.drew | exact HT.out))); (case side2 => exact QC HO_1); (case side3 => rw [show t274.length = t247.length from (Kd.R_reads' HO_1.out).1.symm]; exact (Kd.R_reads' HO_1.out).2.1); rintro e w55 ⟨v277, v279, rfl, ho0, ho1, hb⟩; refine ⟨_, rfl, ?_⟩; have n0_ := AQ (Kd.R_elder' (PR HO_1) (Kd.R_base ho0) hb); have n1_ := AQ (Kd.R_below (PR HO255) hb); have n2_ := AQ (Kd.R_elder' (PR HO258) (Kd.R_base ho0) hb); have n3_ := AQ (Kd.R_below (PR HO262) hb); have n4_ := AQ (Kd.R_below (PR HO266) hb); have n5_ := AQ (Kd.R_elder' (PR HO269) (Kd.R_base ho0) hb); have n6_ := AQ (Kd.R_below (PR HO273) hb); have n7_ := AQ (Kd.R_lower (Kd.R_new' (Kd.R_new' ho0 (Kd.R_lt (PR HO258))) (Kd.R_lt (PR HO269))) (below_size (PB HB))); have n8_ := AQ (Kd.R_lower ho1 (below_size (PB HB))); have n9_ := AQ (below_step (PB HB) hb); clear HO_1; clear HO255; clear HO258; clear HO262; clear HO266; clear HO269; clear HO273; clear HB; have HO_1 := n0_; have HO255 := n1_; have HO258 := n2_; have HO262 := n3_; have HO266 := n4_; have HO269 := n5_; have HO273 := n6_; have HO278 := n7_; have HO280 := n8_; have HB := n9_; clear n0_ n1_ n2_ n3_ n4_ n5_ n6_ n7_ n8_ n9_; (try clear hb); (try clear hb2); (try clear hk); (try clear hi); (try clear ho0); (try clear ho1); obtain ⟨Ao56, co56, eo56⟩ := Kd.R_slice HO262.out; subst eo56; obtain ⟨Ao57, co57, eo57⟩ := Kd.R_slice HO273.out; subst eo57; obtain ⟨Ao58, co58, eo58⟩ := Kd.R_slice HO280.out; subst eo58; have hcv59 := own_string (P := Tryd.prog) Tryd.underlying36 Tryd.underlying5 Tryd.underlying9 (Kd.own_of_R HO278.out)))
          go_ret
          exact ⟨by first | rfl | (simp [errW_none, errW_some] <;> rfl) | (simp [*, errW_none, errW_some] <;> rfl), PB HB⟩
        ·rw [if_neg c16] at H
         have c16b0 : (t270 == 1) = false := beq_eq_false_iff_ne.mpr c16
         have c16b1 : (t270 != 1) = true := bne_iff_ne.mpr c16
         obtain rfl := Option.some.inj H
         go_wp2_with (first | ((with_reducible refine gate_dst (N := 21) rfl ?_); refine Kd.R_lit (Kd.int .u64) _ 35 ?hg (N := 21) ?hd (xs := ([3] : List Int)) (inner := [.int .u64 3]) (ok := fun _ => True) (okp := fun _ => True) ?hr ?hp (fun _ hk => hk) trivial (Below.refl _ _) (Nat.le_refl _) (by simp) ?_; (case hd => rfl); (case hg => rfl); (case hr => first | (go_simp; done) | (go_simp; rfl)); (case hp => exact (Reps.one (show Kd.M (Kd.int .u64) _ _ _ 3 [.int .u64 3] from rfl) (Reps.none _ _))); intro v254 w60 ho61 hb hg_ hnew_; clear hg_ hnew_; (first | rw [← Ny253.out] at ho61 | (simp only [Int.reduceToNat] at ho61; rw [← Ny253.out] at ho61)); have n0_ := AQ (Kd.R_elder' (PR HO_1) (Kd.R_base ho61) hb); have n1_ := AQ (Kd.R_lower ho61 (below_size (PB HB))); have n2_ := AQ (below_step (PB HB) hb); clear HO_1; clear HB; have HO_1 := n0_; have HO255 := n1_; have HB := n2_; clear n0_ n1_ n2_; clear hb ho61) | ((with_reducible refine gate_dst (N := 22) rfl ?_); refine Kd.R_lit (Kd.int .u8) _ 5 ?hg (N := 22) ?hd (xs := ([3] : List Int)) (inner := [.int .u8 3]) (ok := fun _ => True) (okp := fun _ => True) ?hr ?hp (fun _ hk => hk) trivial (Below.refl _ _) (Nat.le_refl _) (by simp) ?_; (case hd => rfl); (case hg => rfl); (case hr => first | (go_simp; done) | (go_simp; rfl)); (case hp => exact (Reps.one (show Kd.M (Kd.int .u8) _ _ _ 3 [.int .u8 3] from rfl) (Reps.none _ _))); intro v257 w62 ho63 hb hg_ hnew_; clear hg_ hnew_; (first | rw [← Ny256.out] at ho63 | (simp only [Int.reduceToNat] at ho63; rw [← Ny256.out] at ho63)); have n0_ := AQ (Kd.R_elder' (PR HO_1) (Kd.R_base ho63) hb); have n1_ := AQ (Kd.R_below (PR HO255) hb); have n2_ := AQ (Kd.R_lower ho63 (below_size (PB HB))); have n3_ := AQ (below_step (PB HB) hb); clear HO_1; clear HO255; clear HB; have HO_1 := n0_; have HO255 := n1_; have HO258 := n2_; have HB := n3_; clear n0_ n1_ n2_ n3_; clear hb ho63; obtain ⟨Ao64, co64, eo64⟩ := Kd.R_slice HO_1.out; subst eo64; obtain ⟨Ao65, co65, eo65⟩ := Kd.R_slice HO255.out; subst eo65; obtain ⟨Ao66, co66, eo66⟩ := Kd.R_slice HO258.out; subst eo66) | ((with_reducible refine gate_callee (f := 11) rfl ?_); refine goesL_ (some 23) rfl rfl Tryd.func11 (by kernel_rfl) rfl #[ptrOf (.slice Ao64 t247.length co64), .slice Ao65 y253.length co65, .slice Ao66 y256.length co66] rfl (by (try simp only [List.map_toArray, List.map_cons, List.map_nil]); first | done | rfl | (simp only [List.length_drop, List.length_take]; rfl)) ?_; (with_reducible refine (elim_System_Add.calls kj1 (fun k_ => (some k_ ≠ (.slice Ao65 y253.length co65 : Value).ownBlock ∧ some k_ ≠ (.slice Ao66 y256.length co66 : Value).ownBlock)) (.slice Ao64 t247.length co64) t247 _ _ y253 _ _ y256 t259 t260 t263 w _ ?side1 ?side2 ?side3 ?side4 ?side5 ?side6 ?side7 A9.out).mono ?_); (case side1 => first | exact HT.out | exact TabIn.below HT.out (PB HB) | (repeat (first | apply TabIn.drewN | apply TabIn.drew | exact HT.out))); (case side2 => exact PB HB); (case side3 => (with_reducible repeat (first | apply Kd.R_alloc | apply Kd.R_drewN | apply Kd.R_drew)); exact Kd.R_mono HO_1.out (fun _ hk => ⟨hk.1.2, hk.2⟩)); (case side4 => exact QC HO255); (case side5 => exact (Kd.R_reads' HO255.out).2.1); (case side6 => exact QC HO258); (case side7 => exact (Kd.R_reads' HO258.out).2.1); rintro e w67 ⟨v261, rfl, ho0, hy0, hb, hkp⟩; refine ⟨_, rfl, ?_⟩; have n0_ := AQ (Kd.R_mono (ok' := fun k_ => (some k_ ≠ (.slice Ao65 y253.length co65 : Value).ownBlock ∧ some k_ ≠ (.slice Ao66 y256.length co66 : Value).ownBlock)) hy0 (fun k_ hk_ => Or.elim hk_ (fun hs_ => hs_) (fun hn_ => ⟨(Kd.fresh' (Kd.R_lt (PR HO255)) k_ hn_), (Kd.fresh' (Kd.R_lt (PR HO258)) k_ hn_)⟩))); have n1_ := AQ (Kd.R_skept (PR HO255) hkp (by decide)); have n2_ := AQ (Kd.R_skept (PR HO258) hkp (by decide)); have n3_ := AQ (Kd.R_lower ho0 (below_size (PB HB))); have n4_ := AQ (hb); clear HO_1; clear HO255; clear HO258; clear HB; have HO_1 := n0_; have HO255 := n1_; have HO258 := n2_; have HO262 := n3_; have HB := n4_; clear n0_ n1_ n2_ n3_ n4_; (try clear hb); (try clear hkp); (try clear hy0); (try clear ho0)) | ((with_reducible refine gate_dst (N := 28) rfl ?_); refine Kd.R_lit (Kd.int .u64) _ 35 ?hg (N := 28) ?hd (xs := ([1] : List Int)) (inner := [.int .u64 1]) (ok := fun _ => True) (okp := fun _ => True) ?hr ?hp (fun _ hk => hk) trivial (Below.refl _ _) (Nat.le_refl _) (by simp) ?_; (case hd => rfl); (case hg => rfl); (case hr => first | (go_simp; done) | (go_simp; rfl)); (case hp => exact (Reps.one (show Kd.M (Kd.int .u64) _ _ _ 1 [.int .u64 1] from rfl) (Reps.none _ _))); intro v265 w68 ho69 hb hg_ hnew_; clear hg_ hnew_; (first | rw [← Ny264.out] at ho69 | (simp only [Int.reduceToNat] at ho69; rw [← Ny264.out] at ho69)); have n0_ := AQ (Kd.R_elder' (PR HO_1) (Kd.R_base ho69) hb); have n1_ := AQ (Kd.R_elder' (PR HO255) (Kd.R_base ho69) hb); have n2_ := AQ (Kd.R_below (PR HO258) hb); have n3_ := AQ (Kd.R_below (PR HO262) hb); have n4_ := AQ (Kd.R_lower (Kd.R_new' ho69 (Kd.R_lt (PR HO255))) (below_size (PB HB))); have n5_ := AQ (below_step (PB HB) hb); clear HO_1; clear HO255; clear HO258; clear HO262; clear HB; have HO_1 := n0_; have HO255 := n1_; have HO258 := n2_; have HO262 := n3_; have HO266 := n4_; have HB := n5_; clear n0_ n1_ n2_ n3_ n4_ n5_; clear hb ho69) | ((with_reducible refine gate_dst (N := 29) rfl ?_); refine Kd.R_lit (Kd.int .u8) _ 5 ?hg (N := 29) ?hd (xs := ([1] : List Int)) (inner := [.int .u8 1]) (ok := fun _ => True) (okp := fun _ => True) ?hr ?hp (fun _ hk => hk) trivial (Below.refl _ _) (Nat.le_refl _) (by simp) ?_; (case hd => rfl); (case hg => rfl); (case hr => first | (go_simp; done) | (go_simp; rfl)); (case hp => exact (Reps.one (show Kd.M (Kd.int .u8) _ _ _ 1 [.int .u8 1] from rfl) (Reps.none _ _))); intro v268 w70 ho71 hb hg_ hnew_; clear hg_ hnew_; (first | rw [← Ny267.out] at ho71 | (simp only [Int.reduceToNat] at ho71; rw [← Ny267.out] at ho71)); have n0_ := AQ (Kd.R_elder' (PR HO_1) (Kd.R_base ho71) hb); have n1_ := AQ (Kd.R_below (PR HO255) hb); have n2_ := AQ (Kd.R_elder' (PR HO258) (Kd.R_base ho71) hb); have n3_ := AQ (Kd.R_below (PR HO262) hb); have n4_ := AQ (Kd.R_below (PR HO266) hb); have n5_ := AQ (Kd.R_lower (Kd.R_new' ho71 (Kd.R_lt (PR HO258))) (below_size (PB HB))); have n6_ := AQ (below_step (PB HB) hb); clear HO_1; clear HO255; clear HO258; clear HO262; clear HO266; clear HB; have HO_1 := n0_; have HO255 := n1_; have HO258 := n2_; have HO262 := n3_; have HO266 := n4_; have HO269 := n5_; have HB := n6_; clear n0_ n1_ n2_ n3_ n4_ n5_ n6_; clear hb ho71; obtain ⟨Ao72, co72, eo72⟩ := Kd.R_slice HO266.out; subst eo72; obtain ⟨Ao73, co73, eo73⟩ := Kd.R_slice HO269.out; subst eo73) | ((with_reducible refine gate_callee (f := 11) rfl ?_); refine goesL_ (some 30) rfl rfl Tryd.func11 (by kernel_rfl) rfl #[ptrOf (.slice Ao64 t247.length co64), .slice Ao72 y264.length co72, .slice Ao73 y267.length co73] rfl (by (try simp only [List.map_toArray, List.map_cons, List.map_nil]); first | done | rfl | (simp only [List.length_drop, List.length_take]; rfl)) ?_; (with_reducible refine (elim_System_Add.calls kj1 (fun k_ => (((some k_ ≠ (.slice Ao65 y253.length co65 : Value).ownBlock ∧ some k_ ≠ (.slice Ao66 y256.length co66 : Value).ownBlock) ∧ some k_ ≠ (.slice Ao72 y264.length co72 : Value).ownBlock) ∧ some k_ ≠ (.slice Ao73 y267.length co73 : Value).ownBlock)) (.slice Ao64 t247.length co64) t263 _ _ y264 _ _ y267 t270 t271 t274 w _ ?side1 ?side2 ?side3 ?side4 ?side5 ?side6 ?side7 A10.out).mono ?_); (case side1 => first | exact HT.out | exact TabIn.below HT.out (PB HB) | (repeat (first | apply TabIn.drewN | apply TabIn.drew | exact HT.out))); (case side2 => exact PB HB); (case side3 => exact PR HO_1); (case side4 => exact QC HO266); (case side5 => exact (Kd.R_reads' HO266.out).2.1); (case side6 => exact QC HO269); (case side7 => exact (Kd.R_reads' HO269.out).2.1); rintro e w74 ⟨v272, rfl, ho0, hy0, hb, hkp⟩; refine ⟨_, rfl, ?_⟩; have n0_ := AQ (Kd.R_mono (ok' := fun k_ => (((some k_ ≠ (.slice Ao65 y253.length co65 : Value).ownBlock ∧ some k_ ≠ (.slice Ao66 y256.length co66 : Value).ownBlock) ∧ some k_ ≠ (.slice Ao72 y264.length co72 : Value).ownBlock) ∧ some k_ ≠ (.slice Ao73 y267.length co73 : Value).ownBlock)) hy0 (fun k_ hk_ => Or.elim hk_ (fun hs_ => hs_) (fun hn_ => ⟨⟨⟨(Kd.fresh' (Kd.R_lt (PR HO255)) k_ hn_), (Kd.fresh' (Kd.R_lt (PR HO258)) k_ hn_)⟩, (Kd.fresh' (Kd.R_lt (PR HO266)) k_ hn_)⟩, (Kd.fresh' (Kd.R_lt (PR HO269)) k_ hn_)⟩))); have n1_ := AQ (Kd.R_skept (PR HO255) hkp (by decide)); have n2_ := AQ (Kd.R_skept (PR HO258) hkp (by decide)); have n3_ := AQ (Kd.R_skept (PR HO262) hkp (by decide)); have n4_ := AQ (Kd.R_skept (PR HO266) hkp (by decide)); have n5_ := AQ (Kd.R_skept (PR HO269) hkp (by decide)); have n6_ := AQ (Kd.R_lower ho0 (below_size (PB HB))); have n7_ := AQ (hb); clear HO_1; clear HO255; clear HO258; clear HO262; clear HO266; clear HO269; clear HB; have HO_1 := n0_; have HO255 := n1_; have HO258 := n2_; have HO262 := n3_; have HO266 := n4_; have HO269 := n5_; have HO273 := n6_; have HB := n7_; clear n0_ n1_ n2_ n3_ n4_ n5_ n6_ n7_; (try clear hb); (try clear hkp); (try clear hy0); (try clear ho0)) | ((with_reducible refine gate_callee (f := 13) rfl ?_); refine goesL_ (some 35) rfl rfl Tryd.func13 (by kernel_rfl) rfl #[ptrOf (.slice Ao64 t274.length co64), .int .i64 1] rfl (by (try simp only [List.map_toArray, List.map_cons, List.map_nil]); first | done | (rw [show t274.length = t247.length from (Kd.R_reads' HO_1.out).1.symm] <;> rfl) | rfl | (simp only [List.length_drop, List.length_take]; rfl)) ?_; (with_reducible refine (elim_System_Value.calls kj1 _ _ t274 1 t275 t276 _ ?side1 ?side2 ?side3 A11.out).mono ?_); (case side1 => first | exact HT.out | exact TabIn.below HT.out (PB HB) | (repeat (first | apply TabIn.drewN | apply TabIn.drew | exact HT.out))); (case side2 => exact QC HO_1); (case side3 => rw [show t274.length = t247.length from (Kd.R_reads' HO_1.out).1.symm]; exact (Kd.R_reads' HO_1.out).2.1); rintro e w75 ⟨v277, v279, rfl, ho0, ho1, hb⟩; refine ⟨_, rfl, ?_⟩; have n0_ := AQ (Kd.R_elder' (PR HO_1) (Kd.R_base ho0) hb); have n1_ := AQ (Kd.R_below (PR HO255) hb); have n2_ := AQ (Kd.R_elder' (PR HO258) (Kd.R_base ho0) hb); have n3_ := AQ (Kd.R_below (PR HO262) hb); have n4_ := AQ (Kd.R_below (PR HO266) hb); have n5_ := AQ (Kd.R_elder' (PR HO269) (Kd.R_base ho0) hb); have n6_ := AQ (Kd.R_below (PR HO273) hb); have n7_ := AQ (Kd.R_lower (Kd.R_new' (Kd.R_new' ho0 (Kd.R_lt (PR HO258))) (Kd.R_lt (PR HO269))) (below_size (PB HB))); have n8_ := AQ (Kd.R_lower ho1 (below_size (PB HB))); have n9_ := AQ (below_step (PB HB) hb); clear HO_1; clear HO255; clear HO258; clear HO262; clear HO266; clear HO269; clear HO273; clear HB; have HO_1 := n0_; have HO255 := n1_; have HO258 := n2_; have HO262 := n3_; have HO266 := n4_; have HO269 := n5_; have HO273 := n6_; have HO278 := n7_; have HO280 := n8_; have HB := n9_; clear n0_ n1_ n2_ n3_ n4_ n5_ n6_ n7_ n8_ n9_; (try clear hb); (try clear hb2); (try clear hk); (try clear hi); (try clear ho0); (try clear ho1); obtain ⟨Ao76, co76, eo76⟩ := Kd.R_slice HO262.out; subst eo76; obtain ⟨Ao77, co77, eo77⟩ := Kd.R_slice HO273.out; subst eo77; obtain ⟨Ao78, co78, eo78⟩ := Kd.R_slice HO280.out; subst eo78))
         go_ret
         exact ⟨by first | rfl | (simp [errW_none, errW_some] <;> rfl) | (simp [*, errW_none, errW_some] <;> rfl), PB HB⟩
       ·rw [if_neg c15] at H
        have c15b0 : (t259 == 1) = false := beq_eq_false_iff_ne.mpr c15
        have c15b1 : (t259 != 1) = true := bne_iff_ne.mpr c15
        obtain rfl := Option.some.inj H
        go_wp2_with (first | ((with_reducible refine gate_dst (N := 21) rfl ?_); refine Kd.R_lit (Kd.int .u64) _ 35 ?hg (N := 21) ?hd (xs := ([3] : List Int)) (inner := [.int .u64 3]) (ok := fun _ => True) (okp := fun _ => True) ?hr ?hp (fun _ hk => hk) trivial (Below.refl _ _) (Nat.le_refl _) (by simp) ?_; (case hd => rfl); (case hg => rfl); (case hr => first | (go_simp; done) | (go_simp; rfl)); (case hp => exact (Reps.one (show Kd.M (Kd.int .u64) _ _ _ 3 [.int .u64 3] from rfl) (Reps.none _ _))); intro v254 w79 ho80 hb hg_ hnew_; clear hg_ hnew_; (first | rw [← Ny253.out] at ho80 | (simp only [Int.reduceToNat] at ho80; rw [← Ny253.out] at ho80)); have n0_ := AQ (Kd.R_elder' (PR HO_1) (Kd.R_base ho80) hb); have n1_ := AQ (Kd.R_lower ho80 (below_size (PB HB))); have n2_ := AQ (below_step (PB HB) hb); clear HO_1; clear HB; have HO_1 := n0_; have HO255 := n1_; have HB := n2_; clear n0_ n1_ n2_; clear hb ho80) | ((with_reducible refine gate_dst (N := 22) rfl ?_); refine Kd.R_lit (Kd.int .u8) _ 5 ?hg (N := 22) ?hd (xs := ([3] : List Int)) (inner := [.int .u8 3]) (ok := fun _ => True) (okp := fun _ => True) ?hr ?hp (fun _ hk => hk) trivial (Below.refl _ _) (Nat.le_refl _) (by simp) ?_; (case hd => rfl); (case hg => rfl); (case hr => first | (go_simp; done) | (go_simp; rfl)); (case hp => exact (Reps.one (show Kd.M (Kd.int .u8) _ _ _ 3 [.int .u8 3] from rfl) (Reps.none _ _))); intro v257 w81 ho82 hb hg_ hnew_; clear hg_ hnew_; (first | rw [← Ny256.out] at ho82 | (simp only [Int.reduceToNat] at ho82; rw [← Ny256.out] at ho82)); have n0_ := AQ (Kd.R_elder' (PR HO_1) (Kd.R_base ho82) hb); have n1_ := AQ (Kd.R_below (PR HO255) hb); have n2_ := AQ (Kd.R_lower ho82 (below_size (PB HB))); have n3_ := AQ (below_step (PB HB) hb); clear HO_1; clear HO255; clear HB; have HO_1 := n0_; have HO255 := n1_; have HO258 := n2_; have HB := n3_; clear n0_ n1_ n2_ n3_; clear hb ho82; obtain ⟨Ao83, co83, eo83⟩ := Kd.R_slice HO_1.out; subst eo83; obtain ⟨Ao84, co84, eo84⟩ := Kd.R_slice HO255.out; subst eo84; obtain ⟨Ao85, co85, eo85⟩ := Kd.R_slice HO258.out; subst eo85) | ((with_reducible refine gate_callee (f := 11) rfl ?_); refine goesL_ (some 23) rfl rfl Tryd.func11 (by kernel_rfl) rfl #[ptrOf (.slice Ao83 t247.length co83), .slice Ao84 y253.length co84, .slice Ao85 y256.length co85] rfl (by (try simp only [List.map_toArray, List.map_cons, List.map_nil]); first | done | rfl | (simp only [List.length_drop, List.length_take]; rfl)) ?_; (with_reducible refine (elim_System_Add.calls kj1 (fun k_ => (some k_ ≠ (.slice Ao84 y253.length co84 : Value).ownBlock ∧ some k_ ≠ (.slice Ao85 y256.length co85 : Value).ownBlock)) (.slice Ao83 t247.length co83) t247 _ _ y253 _ _ y256 t259 t260 t263 w _ ?side1 ?side2 ?side3 ?side4 ?side5 ?side6 ?side7 A9.out).mono ?_); (case side1 => first | exact HT.out | exact TabIn.below HT.out (PB HB) | (repeat (first | apply TabIn.drewN | apply TabIn.drew | exact HT.out))); (case side2 => exact PB HB); (case side3 => (with_reducible repeat (first | apply Kd.R_alloc | apply Kd.R_drewN | apply Kd.R_drew)); exact Kd.R_mono HO_1.out (fun _ hk => ⟨hk.1.2, hk.2⟩)); (case side4 => exact QC HO255); (case side5 => exact (Kd.R_reads' HO255.out).2.1); (case side6 => exact QC HO258); (case side7 => exact (Kd.R_reads' HO258.out).2.1); rintro e w86 ⟨v261, rfl, ho0, hy0, hb, hkp⟩; refine ⟨_, rfl, ?_⟩; have n0_ := AQ (Kd.R_mono (ok' := fun k_ => (some k_ ≠ (.slice Ao84 y253.length co84 : Value).ownBlock ∧ some k_ ≠ (.slice Ao85 y256.length co85 : Value).ownBlock)) hy0 (fun k_ hk_ => Or.elim hk_ (fun hs_ => hs_) (fun hn_ => ⟨(Kd.fresh' (Kd.R_lt (PR HO255)) k_ hn_), (Kd.fresh' (Kd.R_lt (PR HO258)) k_ hn_)⟩))); have n1_ := AQ (Kd.R_skept (PR HO255) hkp (by decide)); have n2_ := AQ (Kd.R_skept (PR HO258) hkp (by decide)); have n3_ := AQ (Kd.R_lower ho0 (below_size (PB HB))); have n4_ := AQ (hb); clear HO_1; clear HO255; clear HO258; clear HB; have HO_1 := n0_; have HO255 := n1_; have HO258 := n2_; have HO262 := n3_; have HB := n4_; clear n0_ n1_ n2_ n3_ n4_; (try clear hb); (try clear hkp); (try clear hy0); (try clear ho0)) | ((with_reducible refine gate_dst (N := 28) rfl ?_); refine Kd.R_lit (Kd.int .u64) _ 35 ?hg (N := 28) ?hd (xs := ([1] : List Int)) (inner := [.int .u64 1]) (ok := fun _ => True) (okp := fun _ => True) ?hr ?hp (fun _ hk => hk) trivial (Below.refl _ _) (Nat.le_refl _) (by simp) ?_; (case hd => rfl); (case hg => rfl); (case hr => first | (go_simp; done) | (go_simp; rfl)); (case hp => exact (Reps.one (show Kd.M (Kd.int .u64) _ _ _ 1 [.int .u64 1] from rfl) (Reps.none _ _))); intro v265 w87 ho88 hb hg_ hnew_; clear hg_ hnew_; (first | rw [← Ny264.out] at ho88 | (simp only [Int.reduceToNat] at ho88; rw [← Ny264.out] at ho88)); have n0_ := AQ (Kd.R_elder' (PR HO_1) (Kd.R_base ho88) hb); have n1_ := AQ (Kd.R_elder' (PR HO255) (Kd.R_base ho88) hb); have n2_ := AQ (Kd.R_below (PR HO258) hb); have n3_ := AQ (Kd.R_below (PR HO262) hb); have n4_ := AQ (Kd.R_lower (Kd.R_new' ho88 (Kd.R_lt (PR HO255))) (below_size (PB HB))); have n5_ := AQ (below_step (PB HB) hb); clear HO_1; clear HO255; clear HO258; clear HO262; clear HB; have HO_1 := n0_; have HO255 := n1_; have HO258 := n2_; have HO262 := n3_; have HO266 := n4_; have HB := n5_; clear n0_ n1_ n2_ n3_ n4_ n5_; clear hb ho88) | ((with_reducible refine gate_dst (N := 29) rfl ?_); refine Kd.R_lit (Kd.int .u8) _ 5 ?hg (N := 29) ?hd (xs := ([1] : List Int)) (inner := [.int .u8 1]) (ok := fun _ => True) (okp := fun _ => True) ?hr ?hp (fun _ hk => hk) trivial (Below.refl _ _) (Nat.le_refl _) (by simp) ?_; (case hd => rfl); (case hg => rfl); (case hr => first | (go_simp; done) | (go_simp; rfl)); (case hp => exact (Reps.one (show Kd.M (Kd.int .u8) _ _ _ 1 [.int .u8 1] from rfl) (Reps.none _ _))); intro v268 w89 ho90 hb hg_ hnew_; clear hg_ hnew_; (first | rw [← Ny267.out] at ho90 | (simp only [Int.reduceToNat] at ho90; rw [← Ny267.out] at ho90)); have n0_ := AQ (Kd.R_elder' (PR HO_1) (Kd.R_base ho90) hb); have n1_ := AQ (Kd.R_below (PR HO255) hb); have n2_ := AQ (Kd.R_elder' (PR HO258) (Kd.R_base ho90) hb); have n3_ := AQ (Kd.R_below (PR HO262) hb); have n4_ := AQ (Kd.R_below (PR HO266) hb); have n5_ := AQ (Kd.R_lower (Kd.R_new' ho90 (Kd.R_lt (PR HO258))) (below_size (PB HB))); have n6_ := AQ (below_step (PB HB) hb); clear HO_1; clear HO255; clear HO258; clear HO262; clear HO266; clear HB; have HO_1 := n0_; have HO255 := n1_; have HO258 := n2_; have HO262 := n3_; have HO266 := n4_; have HO269 := n5_; have HB := n6_; clear n0_ n1_ n2_ n3_ n4_ n5_ n6_; clear hb ho90; obtain ⟨Ao91, co91, eo91⟩ := Kd.R_slice HO266.out; subst eo91; obtain ⟨Ao92, co92, eo92⟩ := Kd.R_slice HO269.out; subst eo92) | ((with_reducible refine gate_callee (f := 11) rfl ?_); refine goesL_ (some 30) rfl rfl Tryd.func11 (by kernel_rfl) rfl #[ptrOf (.slice Ao83 t247.length co83), .slice Ao91 y264.length co91, .slice Ao92 y267.length co92] rfl (by (try simp only [List.map_toArray, List.map_cons, List.map_nil]); first | done | rfl | (simp only [List.length_drop, List.length_take]; rfl)) ?_; (with_reducible refine (elim_System_Add.calls kj1 (fun k_ => (((some k_ ≠ (.slice Ao84 y253.length co84 : Value).ownBlock ∧ some k_ ≠ (.slice Ao85 y256.length co85 : Value).ownBlock) ∧ some k_ ≠ (.slice Ao91 y264.length co91 : Value).ownBlock) ∧ some k_ ≠ (.slice Ao92 y267.length co92 : Value).ownBlock)) (.slice Ao83 t247.length co83) t263 _ _ y264 _ _ y267 t270 t271 t274 w _ ?side1 ?side2 ?side3 ?side4 ?side5 ?side6 ?side7 A10.out).mono ?_); (case side1 => first | exact HT.out | exact TabIn.below HT.out (PB HB) | (repeat (first | apply TabIn.drewN | apply TabIn.drew | exact HT.out))); (case side2 => exact PB HB); (case side3 => exact PR HO_1); (case side4 => exact QC HO266); (case side5 => exact (Kd.R_reads' HO266.out).2.1); (case side6 => exact QC HO269); (case side7 => exact (Kd.R_reads' HO269.out).2.1); rintro e w93 ⟨v272, rfl, ho0, hy0, hb, hkp⟩; refine ⟨_, rfl, ?_⟩; have n0_ := AQ (Kd.R_mono (ok' := fun k_ => (((some k_ ≠ (.slice Ao84 y253.length co84 : Value).ownBlock ∧ some k_ ≠ (.slice Ao85 y256.length co85 : Value).ownBlock) ∧ some k_ ≠ (.slice Ao91 y264.length co91 : Value).ownBlock) ∧ some k_ ≠ (.slice Ao92 y267.length co92 : Value).ownBlock)) hy0 (fun k_ hk_ => Or.elim hk_ (fun hs_ => hs_) (fun hn_ => ⟨⟨⟨(Kd.fresh' (Kd.R_lt (PR HO255)) k_ hn_), (Kd.fresh' (Kd.R_lt (PR HO258)) k_ hn_)⟩, (Kd.fresh' (Kd.R_lt (PR HO266)) k_ hn_)⟩, (Kd.fresh' (Kd.R_lt (PR HO269)) k_ hn_)⟩))); have n1_ := AQ (Kd.R_skept (PR HO255) hkp (by decide)); have n2_ := AQ (Kd.R_skept (PR HO258) hkp (by decide)); have n3_ := AQ (Kd.R_skept (PR HO262) hkp (by decide)); have n4_ := AQ (Kd.R_skept (PR HO266) hkp (by decide)); have n5_ := AQ (Kd.R_skept (PR HO269) hkp (by decide)); have n6_ := AQ (Kd.R_lower ho0 (below_size (PB HB))); have n7_ := AQ (hb); clear HO_1; clear HO255; clear HO258; clear HO262; clear HO266; clear HO269; clear HB; have HO_1 := n0_; have HO255 := n1_; have HO258 := n2_; have HO262 := n3_; have HO266 := n4_; have HO269 := n5_; have HO273 := n6_; have HB := n7_; clear n0_ n1_ n2_ n3_ n4_ n5_ n6_ n7_; (try clear hb); (try clear hkp); (try clear hy0); (try clear ho0)) | ((with_reducible refine gate_callee (f := 13) rfl ?_); refine goesL_ (some 35) rfl rfl Tryd.func13 (by kernel_rfl) rfl #[ptrOf (.slice Ao83 t274.length co83), .int .i64 1] rfl (by (try simp only [List.map_toArray, List.map_cons, List.map_nil]); first | done | (rw [show t274.length = t247.length from (Kd.R_reads' HO_1.out).1.symm] <;> rfl) | rfl | (simp only [List.length_drop, List.length_take]; rfl)) ?_; (with_reducible refine (elim_System_Value.calls kj1 _ _ t274 1 t275 t276 _ ?side1 ?side2 ?side3 A11.out).mono ?_); (case side1 => first | exact HT.out | exact TabIn.below HT.out (PB HB) | (repeat (first | apply TabIn.drewN | apply TabIn.drew | exact HT.out))); (case side2 => exact QC HO_1); (case side3 => rw [show t274.length = t247.length from (Kd.R_reads' HO_1.out).1.symm]; exact (Kd.R_reads' HO_1.out).2.1); rintro e w94 ⟨v277, v279, rfl, ho0, ho1, hb⟩; refine ⟨_, rfl, ?_⟩; have n0_ := AQ (Kd.R_elder' (PR HO_1) (Kd.R_base ho0) hb); have n1_ := AQ (Kd.R_below (PR HO255) hb); have n2_ := AQ (Kd.R_elder' (PR HO258) (Kd.R_base ho0) hb); have n3_ := AQ (Kd.R_below (PR HO262) hb); have n4_ := AQ (Kd.R_below (PR HO266) hb); have n5_ := AQ (Kd.R_elder' (PR HO269) (Kd.R_base ho0) hb); have n6_ := AQ (Kd.R_below (PR HO273) hb); have n7_ := AQ (Kd.R_lower (Kd.R_new' (Kd.R_new' ho0 (Kd.R_lt (PR HO258))) (Kd.R_lt (PR HO269))) (below_size (PB HB))); have n8_ := AQ (Kd.R_lower ho1 (below_size (PB HB))); have n9_ := AQ (below_step (PB HB) hb); clear HO_1; clear HO255; clear HO258; clear HO262; clear HO266; clear HO269; clear HO273; clear HB; have HO_1 := n0_; have HO255 := n1_; have HO258 := n2_; have HO262 := n3_; have HO266 := n4_; have HO269 := n5_; have HO273 := n6_; have HO278 := n7_; have HO280 := n8_; have HB := n9_; clear n0_ n1_ n2_ n3_ n4_ n5_ n6_ n7_ n8_ n9_; (try clear hb); (try clear hb2); (try clear hk); (try clear hi); (try clear ho0); (try clear ho1); obtain ⟨Ao95, co95, eo95⟩ := Kd.R_slice HO262.out; subst eo95; obtain ⟨Ao96, co96, eo96⟩ := Kd.R_slice HO273.out; subst eo96; obtain ⟨Ao97, co97, eo97⟩ := Kd.R_slice HO280.out; subst eo97))
        go_ret
        exact ⟨by first | rfl | (simp [errW_none, errW_some] <;> rfl) | (simp [*, errW_none, errW_some] <;> rfl), PB HB⟩
      ·rw [if_neg c14] at H
       have c14b0 : ((t276.length : Int) == 0) = false := beq_eq_false_iff_ne.mpr c14
       have c14b1 : ((t276.length : Int) != 0) = true := bne_iff_ne.mpr c14
       have c14b2 : ¬ (t276 = []) := fun h_ => c14 (by rw [h_]; rfl)
       obtain rfl := Option.some.inj H
       go_wp2_with (first | ((with_reducible refine gate_dst (N := 21) rfl ?_); refine Kd.R_lit (Kd.int .u64) _ 35 ?hg (N := 21) ?hd (xs := ([3] : List Int)) (inner := [.int .u64 3]) (ok := fun _ => True) (okp := fun _ => True) ?hr ?hp (fun _ hk => hk) trivial (Below.refl _ _) (Nat.le_refl _) (by simp) ?_; (case hd => rfl); (case hg => rfl); (case hr => first | (go_simp; done) | (go_simp; rfl)); (case hp => exact (Reps.one (show Kd.M (Kd.int .u64) _ _ _ 3 [.int .u64 3] from rfl) (Reps.none _ _))); intro v254 w98 ho99 hb hg_ hnew_; clear hg_ hnew_; (first | rw [← Ny253.out] at ho99 | (simp only [Int.reduceToNat] at ho99; rw [← Ny253.out] at ho99)); have n0_ := AQ (Kd.R_elder' (PR HO_1) (Kd.R_base ho99) hb); have n1_ := AQ (Kd.R_lower ho99 (below_size (PB HB))); have n2_ := AQ (below_step (PB HB) hb); clear HO_1; clear HB; have HO_1 := n0_; have HO255 := n1_; have HB := n2_; clear n0_ n1_ n2_; clear hb ho99) | ((with_reducible refine gate_dst (N := 22) rfl ?_); refine Kd.R_lit (Kd.int .u8) _ 5 ?hg (N := 22) ?hd (xs := ([3] : List Int)) (inner := [.int .u8 3]) (ok := fun _ => True) (okp := fun _ => True) ?hr ?hp (fun _ hk => hk) trivial (Below.refl _ _) (Nat.le_refl _) (by simp) ?_; (case hd => rfl); (case hg => rfl); (case hr => first | (go_simp; done) | (go_simp; rfl)); (case hp => exact (Reps.one (show Kd.M (Kd.int .u8) _ _ _ 3 [.int .u8 3] from rfl) (Reps.none _ _))); intro v257 w100 ho101 hb hg_ hnew_; clear hg_ hnew_; (first | rw [← Ny256.out] at ho101 | (simp only [Int.reduceToNat] at ho101; rw [← Ny256.out] at ho101)); have n0_ := AQ (Kd.R_elder' (PR HO_1) (Kd.R_base ho101) hb); have n1_ := AQ (Kd.R_below (PR HO255) hb); have n2_ := AQ (Kd.R_lower ho101 (below_size (PB HB))); have n3_ := AQ (below_step (PB HB) hb); clear HO_1; clear HO255; clear HB; have HO_1 := n0_; have HO255 := n1_; have HO258 := n2_; have HB := n3_; clear n0_ n1_ n2_ n3_; clear hb ho101; obtain ⟨Ao102, co102, eo102⟩ := Kd.R_slice HO_1.out; subst eo102; obtain ⟨Ao103, co103, eo103⟩ := Kd.R_slice HO255.out; subst eo103; obtain ⟨Ao104, co104, eo104⟩ := Kd.R_slice HO258.out; subst eo104) | ((with_reducible refine gate_callee (f := 11) rfl ?_); refine goesL_ (some 23) rfl rfl Tryd.func11 (by kernel_rfl) rfl #[ptrOf (.slice Ao102 t247.length co102), .slice Ao103 y253.length co103, .slice Ao104 y256.length co104] rfl (by (try simp only [List.map_toArray, List.map_cons, List.map_nil]); first | done | rfl | (simp only [List.length_drop, List.length_take]; rfl)) ?_; (with_reducible refine (elim_System_Add.calls kj1 (fun k_ => (some k_ ≠ (.slice Ao103 y253.length co103 : Value).ownBlock ∧ some k_ ≠ (.slice Ao104 y256.length co104 : Value).ownBlock)) (.slice Ao102 t247.length co102) t247 _ _ y253 _ _ y256 t259 t260 t263 w _ ?side1 ?side2 ?side3 ?side4 ?side5 ?side6 ?side7 A9.out).mono ?_); (case side1 => first | exact HT.out | exact TabIn.below HT.out (PB HB) | (repeat (first | apply TabIn.drewN | apply TabIn.drew | exact HT.out))); (case side2 => exact PB HB); (case side3 => (with_reducible repeat (first | apply Kd.R_alloc | apply Kd.R_drewN | apply Kd.R_drew)); exact Kd.R_mono HO_1.out (fun _ hk => ⟨hk.1.2, hk.2⟩)); (case side4 => exact QC HO255); (case side5 => exact (Kd.R_reads' HO255.out).2.1); (case side6 => exact QC HO258); (case side7 => exact (Kd.R_reads' HO258.out).2.1); rintro e w105 ⟨v261, rfl, ho0, hy0, hb, hkp⟩; refine ⟨_, rfl, ?_⟩; have n0_ := AQ (Kd.R_mono (ok' := fun k_ => (some k_ ≠ (.slice Ao103 y253.length co103 : Value).ownBlock ∧ some k_ ≠ (.slice Ao104 y256.length co104 : Value).ownBlock)) hy0 (fun k_ hk_ => Or.elim hk_ (fun hs_ => hs_) (fun hn_ => ⟨(Kd.fresh' (Kd.R_lt (PR HO255)) k_ hn_), (Kd.fresh' (Kd.R_lt (PR HO258)) k_ hn_)⟩))); have n1_ := AQ (Kd.R_skept (PR HO255) hkp (by decide)); have n2_ := AQ (Kd.R_skept (PR HO258) hkp (by decide)); have n3_ := AQ (Kd.R_lower ho0 (below_size (PB HB))); have n4_ := AQ (hb); clear HO_1; clear HO255; clear HO258; clear HB; have HO_1 := n0_; have HO255 := n1_; have HO258 := n2_; have HO262 := n3_; have HB := n4_; clear n0_ n1_ n2_ n3_ n4_; (try clear hb); (try clear hkp); (try clear hy0); (try clear ho0)) | ((with_reducible refine gate_dst (N := 28) rfl ?_); refine Kd.R_lit (Kd.int .u64) _ 35 ?hg (N := 28) ?hd (xs := ([1] : List Int)) (inner := [.int .u64 1]) (ok := fun _ => True) (okp := fun _ => True) ?hr ?hp (fun _ hk => hk) trivial (Below.refl _ _) (Nat.le_refl _) (by simp) ?_; (case hd => rfl); (case hg => rfl); (case hr => first | (go_simp; done) | (go_simp; rfl)); (case hp => exact (Reps.one (show Kd.M (Kd.int .u64) _ _ _ 1 [.int .u64 1] from rfl) (Reps.none _ _))); intro v265 w106 ho107 hb hg_ hnew_; clear hg_ hnew_; (first | rw [← Ny264.out] at ho107 | (simp only [Int.reduceToNat] at ho107; rw [← Ny264.out] at ho107)); have n0_ := AQ (Kd.R_elder' (PR HO_1) (Kd.R_base ho107) hb); have n1_ := AQ (Kd.R_elder' (PR HO255) (Kd.R_base ho107) hb); have n2_ := AQ (Kd.R_below (PR HO258) hb); have n3_ := AQ (Kd.R_below (PR HO262) hb); have n4_ := AQ (Kd.R_lower (Kd.R_new' ho107 (Kd.R_lt (PR HO255))) (below_size (PB HB))); have n5_ := AQ (below_step (PB HB) hb); clear HO_1; clear HO255; clear HO258; clear HO262; clear HB; have HO_1 := n0_; have HO255 := n1_; have HO258 := n2_; have HO262 := n3_; have HO266 := n4_; have HB := n5_; clear n0_ n1_ n2_ n3_ n4_ n5_; clear hb ho107) | ((with_reducible refine gate_dst (N := 29) rfl ?_); refine Kd.R_lit (Kd.int .u8) _ 5 ?hg (N := 29) ?hd (xs := ([1] : List Int)) (inner := [.int .u8 1]) (ok := fun _ => True) (okp := fun _ => True) ?hr ?hp (fun _ hk => hk) trivial (Below.refl _ _) (Nat.le_refl _) (by simp) ?_; (case hd => rfl); (case hg => rfl); (case hr => first | (go_simp; done) | (go_simp; rfl)); (case hp => exact (Reps.one (show Kd.M (Kd.int .u8) _ _ _ 1 [.int .u8 1] from rfl) (Reps.none _ _))); intro v268 w108 ho109 hb hg_ hnew_; clear hg_ hnew_; (first | rw [← Ny267.out] at ho109 | (simp only [Int.reduceToNat] at ho109; rw [← Ny267.out] at ho109)); have n0_ := AQ (Kd.R_elder' (PR HO_1) (Kd.R_base ho109) hb); have n1_ := AQ (Kd.R_below (PR HO255) hb); have n2_ := AQ (Kd.R_elder' (PR HO258) (Kd.R_base ho109) hb); have n3_ := AQ (Kd.R_below (PR HO262) hb); have n4_ := AQ (Kd.R_below (PR HO266) hb); have n5_ := AQ (Kd.R_lower (Kd.R_new' ho109 (Kd.R_lt (PR HO258))) (below_size (PB HB))); have n6_ := AQ (below_step (PB HB) hb); clear HO_1; clear HO255; clear HO258; clear HO262; clear HO266; clear HB; have HO_1 := n0_; have HO255 := n1_; have HO258 := n2_; have HO262 := n3_; have HO266 := n4_; have HO269 := n5_; have HB := n6_; clear n0_ n1_ n2_ n3_ n4_ n5_ n6_; clear hb ho109; obtain ⟨Ao110, co110, eo110⟩ := Kd.R_slice HO266.out; subst eo110; obtain ⟨Ao111, co111, eo111⟩ := Kd.R_slice HO269.out; subst eo111) | ((with_reducible refine gate_callee (f := 11) rfl ?_); refine goesL_ (some 30) rfl rfl Tryd.func11 (by kernel_rfl) rfl #[ptrOf (.slice Ao102 t247.length co102), .slice Ao110 y264.length co110, .slice Ao111 y267.length co111] rfl (by (try simp only [List.map_toArray, List.map_cons, List.map_nil]); first | done | rfl | (simp only [List.length_drop, List.length_take]; rfl)) ?_; (with_reducible refine (elim_System_Add.calls kj1 (fun k_ => (((some k_ ≠ (.slice Ao103 y253.length co103 : Value).ownBlock ∧ some k_ ≠ (.slice Ao104 y256.length co104 : Value).ownBlock) ∧ some k_ ≠ (.slice Ao110 y264.length co110 : Value).ownBlock) ∧ some k_ ≠ (.slice Ao111 y267.length co111 : Value).ownBlock)) (.slice Ao102 t247.length co102) t263 _ _ y264 _ _ y267 t270 t271 t274 w _ ?side1 ?side2 ?side3 ?side4 ?side5 ?side6 ?side7 A10.out).mono ?_); (case side1 => first | exact HT.out | exact TabIn.below HT.out (PB HB) | (repeat (first | apply TabIn.drewN | apply TabIn.drew | exact HT.out))); (case side2 => exact PB HB); (case side3 => exact PR HO_1); (case side4 => exact QC HO266); (case side5 => exact (Kd.R_reads' HO266.out).2.1); (case side6 => exact QC HO269); (case side7 => exact (Kd.R_reads' HO269.out).2.1); rintro e w112 ⟨v272, rfl, ho0, hy0, hb, hkp⟩; refine ⟨_, rfl, ?_⟩; have n0_ := AQ (Kd.R_mono (ok' := fun k_ => (((some k_ ≠ (.slice Ao103 y253.length co103 : Value).ownBlock ∧ some k_ ≠ (.slice Ao104 y256.length co104 : Value).ownBlock) ∧ some k_ ≠ (.slice Ao110 y264.length co110 : Value).ownBlock) ∧ some k_ ≠ (.slice Ao111 y267.length co111 : Value).ownBlock)) hy0 (fun k_ hk_ => Or.elim hk_ (fun hs_ => hs_) (fun hn_ => ⟨⟨⟨(Kd.fresh' (Kd.R_lt (PR HO255)) k_ hn_), (Kd.fresh' (Kd.R_lt (PR HO258)) k_ hn_)⟩, (Kd.fresh' (Kd.R_lt (PR HO266)) k_ hn_)⟩, (Kd.fresh' (Kd.R_lt (PR HO269)) k_ hn_)⟩))); have n1_ := AQ (Kd.R_skept (PR HO255) hkp (by decide)); have n2_ := AQ (Kd.R_skept (PR HO258) hkp (by decide)); have n3_ := AQ (Kd.R_skept (PR HO262) hkp (by decide)); have n4_ := AQ (Kd.R_skept (PR HO266) hkp (by decide)); have n5_ := AQ (Kd.R_skept (PR HO269) hkp (by decide)); have n6_ := AQ (Kd.R_lower ho0 (below_size (PB HB))); have n7_ := AQ (hb); clear HO_1; clear HO255; clear HO258; clear HO262; clear HO266; clear HO269; clear HB; have HO_1 := n0_; have HO255 := n1_; have HO258 := n2_; have HO262 := n3_; have HO266 := n4_; have HO269 := n5_; have HO273 := n6_; have HB := n7_; clear n0_ n1_ n2_ n3_ n4_ n5_ n6_ n7_; (try clear hb); (try clear hkp); (try clear hy0); (try clear ho0)) | ((with_reducible refine gate_callee (f := 13) rfl ?_); refine goesL_ (some 35) rfl rfl Tryd.func13 (by kernel_rfl) rfl #[ptrOf (.slice Ao102 t274.length co102), .int .i64 1] rfl (by (try simp only [List.map_toArray, List.map_cons, List.map_nil]); first | done | (rw [show t274.length = t247.length from (Kd.R_reads' HO_1.out).1.symm] <;> rfl) | rfl | (simp only [List.length_drop, List.length_take]; rfl)) ?_; (with_reducible refine (elim_System_Value.calls kj1 _ _ t274 1 t275 t276 _ ?side1 ?side2 ?side3 A11.out).mono ?_); (case side1 => first | exact HT.out | exact TabIn.below HT.out (PB HB) | (repeat (first | apply TabIn.drewN | apply TabIn.drew | exact HT.out))); (case side2 => exact QC HO_1); (case side3 => rw [show t274.length = t247.length from (Kd.R_reads' HO_1.out).1.symm]; exact (Kd.R_reads' HO_1.out).2.1); rintro e w113 ⟨v277, v279, rfl, ho0, ho1, hb⟩; refine ⟨_, rfl, ?_⟩; have n0_ := AQ (Kd.R_elder' (PR HO_1) (Kd.R_base ho0) hb); have n1_ := AQ (Kd.R_below (PR HO255) hb); have n2_ := AQ (Kd.R_elder' (PR HO258) (Kd.R_base ho0) hb); have n3_ := AQ (Kd.R_below (PR HO262) hb); have n4_ := AQ (Kd.R_below (PR HO266) hb); have n5_ := AQ (Kd.R_elder' (PR HO269) (Kd.R_base ho0) hb); have n6_ := AQ (Kd.R_below (PR HO273) hb); have n7_ := AQ (Kd.R_lower (Kd.R_new' (Kd.R_new' ho0 (Kd.R_lt (PR HO258))) (Kd.R_lt (PR HO269))) (below_size (PB HB))); have n8_ := AQ (Kd.R_lower ho1 (below_size (PB HB))); have n9_ := AQ (below_step (PB HB) hb); clear HO_1; clear HO255; clear HO258; clear HO262; clear HO266; clear HO269; clear HO273; clear HB; have HO_1 := n0_; have HO255 := n1_; have HO258 := n2_; have HO262 := n3_; have HO266 := n4_; have HO269 := n5_; have HO273 := n6_; have HO278 := n7_; have HO280 := n8_; have HB := n9_; clear n0_ n1_ n2_ n3_ n4_ n5_ n6_ n7_ n8_ n9_; (try clear hb); (try clear hb2); (try clear hk); (try clear hi); (try clear ho0); (try clear ho1); obtain ⟨Ao114, co114, eo114⟩ := Kd.R_slice HO262.out; subst eo114; obtain ⟨Ao115, co115, eo115⟩ := Kd.R_slice HO273.out; subst eo115; obtain ⟨Ao116, co116, eo116⟩ := Kd.R_slice HO280.out; subst eo116))
       go_ret
       exact ⟨by first | rfl | (simp [errW_none, errW_some] <;> rfl) | (simp [*, errW_none, errW_some] <;> rfl), PB HB⟩
     ·rw [if_neg c13] at H
      have c13b0 : ((t271.length : Int) == 0) = false := beq_eq_false_iff_ne.mpr c13
      have c13b1 : ((t271.length : Int) != 0) = true := bne_iff_ne.mpr c13
      have c13b2 : ¬ (t271 = []) := fun h_ => c13 (by rw [h_]; rfl)
      obtain rfl := Option.some.inj H
      go_wp2_with (first | ((with_reducible refine gate_dst (N := 21) rfl ?_); refine Kd.R_lit (Kd.int .u64) _ 35 ?hg (N := 21) ?hd (xs := ([3] : List Int)) (inner := [.int .u64 3]) (ok := fun _ => True) (okp := fun _ => True) ?hr ?hp (fun _ hk => hk) trivial (Below.refl _ _) (Nat.le_refl _) (by simp) ?_; (case hd => rfl); (case hg => rfl); (case hr => first | (go_simp; done) | (go_simp; rfl)); (case hp => exact (Reps.one (show Kd.M (Kd.int .u64) _ _ _ 3 [.int .u64 3] from rfl) (Reps.none _ _))); intro v254 w117 ho118 hb hg_ hnew_; clear hg_ hnew_; (first | rw [← Ny253.out] at ho118 | (simp only [Int.reduceToNat] at ho118; rw [← Ny253.out] at ho118)); have n0_ := AQ (Kd.R_elder' (PR HO_1) (Kd.R_base ho118) hb); have n1_ := AQ (Kd.R_lower ho118 (below_size (PB HB))); have n2_ := AQ (below_step (PB HB) hb); clear HO_1; clear HB; have HO_1 := n0_; have HO255 := n1_; have HB := n2_; clear n0_ n1_ n2_; clear hb ho118) | ((with_reducible refine gate_dst (N := 22) rfl ?_); refine Kd.R_lit (Kd.int .u8) _ 5 ?hg (N := 22) ?hd (xs := ([3] : List Int)) (inner := [.int .u8 3]) (ok := fun _ => True) (okp := fun _ => True) ?hr ?hp (fun _ hk => hk) trivial (Below.refl _ _) (Nat.le_refl _) (by simp) ?_; (case hd => rfl); (case hg => rfl); (case hr => first | (go_simp; done) | (go_simp; rfl)); (case hp => exact (Reps.one (show Kd.M (Kd.int .u8) _ _ _ 3 [.int .u8 3] from rfl) (Reps.none _ _))); intro v257 w119 ho120 hb hg_ hnew_; clear hg_ hnew_; (first | rw [← Ny256.out] at ho120 | (simp only [Int.reduceToNat] at ho120; rw [← Ny256.out] at ho120)); have n0_ := AQ (Kd.R_elder' (PR HO_1) (Kd.R_base ho120) hb); have n1_ := AQ (Kd.R_below (PR HO255) hb); have n2_ := AQ (Kd.R_lower ho120 (below_size (PB HB))); have n3_ := AQ (below_step (PB HB) hb); clear HO_1; clear HO255; clear HB; have HO_1 := n0_; have HO255 := n1_; have HO258 := n2_; have HB := n3_; clear n0_ n1_ n2_ n3_; clear hb ho120; obtain ⟨Ao121, co121, eo121⟩ := Kd.R_slice HO_1.out; subst eo121; obtain ⟨Ao122, co122, eo122⟩ := Kd.R_slice HO255.out; subst eo122; obtain ⟨Ao123, co123, eo123⟩ := Kd.R_slice HO258.out; subst eo123) | ((with_reducible refine gate_callee (f := 11) rfl ?_); refine goesL_ (some 23) rfl rfl Tryd.func11 (by kernel_rfl) rfl #[ptrOf (.slice Ao121 t247.length co121), .slice Ao122 y253.length co122, .slice Ao123 y256.length co123] rfl (by (try simp only [List.map_toArray, List.map_cons, List.map_nil]); first | done | rfl | (simp only [List.length_drop, List.length_take]; rfl)) ?_; (with_reducible refine (elim_System_Add.calls kj1 (fun k_ => (some k_ ≠ (.slice Ao122 y253.length co122 : Value).ownBlock ∧ some k_ ≠ (.slice Ao123 y256.length co123 : Value).ownBlock)) (.slice Ao121 t247.length co121) t247 _ _ y253 _ _ y256 t259 t260 t263 w _ ?side1 ?side2 ?side3 ?side4 ?side5 ?side6 ?side7 A9.out).mono ?_); (case side1 => first | exact HT.out | exact TabIn.below HT.out (PB HB) | (repeat (first | apply TabIn.drewN | apply TabIn.drew | exact HT.out))); (case side2 => exact PB HB); (case side3 => (with_reducible repeat (first | apply Kd.R_alloc | apply Kd.R_drewN | apply Kd.R_drew)); exact Kd.R_mono HO_1.out (fun _ hk => ⟨hk.1.2, hk.2⟩)); (case side4 => exact QC HO255); (case side5 => exact (Kd.R_reads' HO255.out).2.1); (case side6 => exact QC HO258); (case side7 => exact (Kd.R_reads' HO258.out).2.1); rintro e w124 ⟨v261, rfl, ho0, hy0, hb, hkp⟩; refine ⟨_, rfl, ?_⟩; have n0_ := AQ (Kd.R_mono (ok' := fun k_ => (some k_ ≠ (.slice Ao122 y253.length co122 : Value).ownBlock ∧ some k_ ≠ (.slice Ao123 y256.length co123 : Value).ownBlock)) hy0 (fun k_ hk_ => Or.elim hk_ (fun hs_ => hs_) (fun hn_ => ⟨(Kd.fresh' (Kd.R_lt (PR HO255)) k_ hn_), (Kd.fresh' (Kd.R_lt (PR HO258)) k_ hn_)⟩))); have n1_ := AQ (Kd.R_skept (PR HO255) hkp (by decide)); have n2_ := AQ (Kd.R_skept (PR HO258) hkp (by decide)); have n3_ := AQ (Kd.R_lower ho0 (below_size (PB HB))); have n4_ := AQ (hb); clear HO_1; clear HO255; clear HO258; clear HB; have HO_1 := n0_; have HO255 := n1_; have HO258 := n2_; have HO262 := n3_; have HB := n4_; clear n0_ n1_ n2_ n3_ n4_; (try clear hb); (try clear hkp); (try clear hy0); (try clear ho0)) | ((with_reducible refine gate_dst (N := 28) rfl ?_); refine Kd.R_lit (Kd.int .u64) _ 35 ?hg (N := 28) ?hd (xs := ([1] : List Int)) (inner := [.int .u64 1]) (ok := fun _ => True) (okp := fun _ => True) ?hr ?hp (fun _ hk => hk) trivial (Below.refl _ _) (Nat.le_refl _) (by simp) ?_; (case hd => rfl); (case hg => rfl); (case hr => first | (go_simp; done) | (go_simp; rfl)); (case hp => exact (Reps.one (show Kd.M (Kd.int .u64) _ _ _ 1 [.int .u64 1] from rfl) (Reps.none _ _))); intro v265 w125 ho126 hb hg_ hnew_; clear hg_ hnew_; (first | rw [← Ny264.out] at ho126 | (simp only [Int.reduceToNat] at ho126; rw [← Ny264.out] at ho126)); have n0_ := AQ (Kd.R_elder' (PR HO_1) (Kd.R_base ho126) hb); have n1_ := AQ (Kd.R_elder' (PR HO255) (Kd.R_base ho126) hb); have n2_ := AQ (Kd.R_below (PR HO258) hb); have n3_ := AQ (Kd.R_below (PR HO262) hb); have n4_ := AQ (Kd.R_lower (Kd.R_new' ho126 (Kd.R_lt (PR HO255))) (below_size (PB HB))); have n5_ := AQ (below_step (PB HB) hb); clear HO_1; clear HO255; clear HO258; clear HO262; clear HB; have HO_1 := n0_; have HO255 := n1_; have HO258 := n2_; have HO262 := n3_; have HO266 := n4_; have HB := n5_; clear n0_ n1_ n2_ n3_ n4_ n5_; clear hb ho126) | ((with_reducible refine gate_dst (N := 29) rfl ?_); refine Kd.R_lit (Kd.int .u8) _ 5 ?hg (N := 29) ?hd (xs := ([1] : List Int)) (inner := [.int .u8 1]) (ok := fun _ => True) (okp := fun _ => True) ?hr ?hp (fun _ hk => hk) trivial (Below.refl _ _) (Nat.le_refl _) (by simp) ?_; (case hd => rfl); (case hg => rfl); (case hr => first | (go_simp; done) | (go_simp; rfl)); (case hp => exact (Reps.one (show Kd.M (Kd.int .u8) _ _ _ 1 [.int .u8 1] from rfl) (Reps.none _ _))); intro v268 w127 ho128 hb hg_ hnew_; clear hg_ hnew_; (first | rw [← Ny267.out] at ho128 | (simp only [Int.reduceToNat] at ho128; rw [← Ny267.out] at ho128)); have n0_ := AQ (Kd.R_elder' (PR HO_1) (Kd.R_base ho128) hb); have n1_ := AQ (Kd.R_below (PR HO255) hb); have n2_ := AQ (Kd.R_elder' (PR HO258) (Kd.R_base ho128) hb); have n3_ := AQ (Kd.R_below (PR HO262) hb); have n4_ := AQ (Kd.R_below (PR HO266) hb); have n5_ := AQ (Kd.R_lower (Kd.R_new' ho128 (Kd.R_lt (PR HO258))) (below_size (PB HB))); have n6_ := AQ (below_step (PB HB) hb); clear HO_1; clear HO255; clear HO258; clear HO262; clear HO266; clear HB; have HO_1 := n0_; have HO255 := n1_; have HO258 := n2_; have HO262 := n3_; have HO266 := n4_; have HO269 := n5_; have HB := n6_; clear n0_ n1_ n2_ n3_ n4_ n5_ n6_; clear hb ho128; obtain ⟨Ao129, co129, eo129⟩ := Kd.R_slice HO266.out; subst eo129; obtain ⟨Ao130, co130, eo130⟩ := Kd.R_slice HO269.out; subst eo130) | ((with_reducible refine gate_callee (f := 11) rfl ?_); refine goesL_ (some 30) rfl rfl Tryd.func11 (by kernel_rfl) rfl #[ptrOf (.slice Ao121 t247.length co121), .slice Ao129 y264.length co129, .slice Ao130 y267.length co130] rfl (by (try simp only [List.map_toArray, List.map_cons, List.map_nil]); first | done | rfl | (simp only [List.length_drop, List.length_take]; rfl)) ?_; (with_reducible refine (elim_System_Add.calls kj1 (fun k_ => (((some k_ ≠ (.slice Ao122 y253.length co122 : Value).ownBlock ∧ some k_ ≠ (.slice Ao123 y256.length co123 : Value).ownBlock) ∧ some k_ ≠ (.slice Ao129 y264.length co129 : Value).ownBlock) ∧ some k_ ≠ (.slice Ao130 y267.length co130 : Value).ownBlock)) (.slice Ao121 t247.length co121) t263 _ _ y264 _ _ y267 t270 t271 t274 w _ ?side1 ?side2 ?side3 ?side4 ?side5 ?side6 ?side7 A10.out).mono ?_); (case side1 => first | exact HT.out | exact TabIn.below HT.out (PB HB) | (repeat (first | apply TabIn.drewN | apply TabIn.drew | exact HT.out))); (case side2 => exact PB HB); (case side3 => exact PR HO_1); (case side4 => exact QC HO266); (case side5 => exact (Kd.R_reads' HO266.out).2.1); (case side6 => exact QC HO269); (case side7 => exact (Kd.R_reads' HO269.out).2.1); rintro e w131 ⟨v272, rfl, ho0, hy0, hb, hkp⟩; refine ⟨_, rfl, ?_⟩; have n0_ := AQ (Kd.R_mono (ok' := fun k_ => (((some k_ ≠ (.slice Ao122 y253.length co122 : Value).ownBlock ∧ some k_ ≠ (.slice Ao123 y256.length co123 : Value).ownBlock) ∧ some k_ ≠ (.slice Ao129 y264.length co129 : Value).ownBlock) ∧ some k_ ≠ (.slice Ao130 y267.length co130 : Value).ownBlock)) hy0 (fun k_ hk_ => Or.elim hk_ (fun hs_ => hs_) (fun hn_ => ⟨⟨⟨(Kd.fresh' (Kd.R_lt (PR HO255)) k_ hn_), (Kd.fresh' (Kd.R_lt (PR HO258)) k_ hn_)⟩, (Kd.fresh' (Kd.R_lt (PR HO266)) k_ hn_)⟩, (Kd.fresh' (Kd.R_lt (PR HO269)) k_ hn_)⟩))); have n1_ := AQ (Kd.R_skept (PR HO255) hkp (by decide)); have n2_ := AQ (Kd.R_skept (PR HO258) hkp (by decide)); have n3_ := AQ (Kd.R_skept (PR HO262) hkp (by decide)); have n4_ := AQ (Kd.R_skept (PR HO266) hkp (by decide)); have n5_ := AQ (Kd.R_skept (PR HO269) hkp (by decide)); have n6_ := AQ (Kd.R_lower ho0 (below_size (PB HB))); have n7_ := AQ (hb); clear HO_1; clear HO255; clear HO258; clear HO262; clear HO266; clear HO269; clear HB; have HO_1 := n0_; have HO255 := n1_; have HO258 := n2_; have HO262 := n3_; have HO266 := n4_; have HO269 := n5_; have HO273 := n6_; have HB := n7_; clear n0_ n1_ n2_ n3_ n4_ n5_ n6_ n7_; (try clear hb); (try clear hkp); (try clear hy0); (try clear ho0)) | ((with_reducible refine gate_callee (f := 13) rfl ?_); refine goesL_ (some 35) rfl rfl Tryd.func13 (by kernel_rfl) rfl #[ptrOf (.slice Ao121 t274.length co121), .int .i64 1] rfl (by (try simp only [List.map_toArray, List.map_cons, List.map_nil]); first | done | (rw [show t274.length = t247.length from (Kd.R_reads' HO_1.out).1.symm] <;> rfl) | rfl | (simp only [List.length_drop, List.length_take]; rfl)) ?_; (with_reducible refine (elim_System_Value.calls kj1 _ _ t274 1 t275 t276 _ ?side1 ?side2 ?side3 A11.out).mono ?_); (case side1 => first | exact HT.out | exact TabIn.below HT.out (PB HB) | (repeat (first | apply TabIn.drewN | apply TabIn.drew | exact HT.out))); (case side2 => exact QC HO_1); (case side3 => rw [show t274.length = t247.length from (Kd.R_reads' HO_1.out).1.symm]; exact (Kd.R_reads' HO_1.out).2.1); rintro e w132 ⟨v277, v279, rfl, ho0, ho1, hb⟩; refine ⟨_, rfl, ?_⟩; have n0_ := AQ (Kd.R_elder' (PR HO_1) (Kd.R_base ho0) hb); have n1_ := AQ (Kd.R_below (PR HO255) hb); have n2_ := AQ (Kd.R_elder' (PR HO258) (Kd.R_base ho0) hb); have n3_ := AQ (Kd.R_below (PR HO262) hb); have n4_ := AQ (Kd.R_below (PR HO266) hb); have n5_ := AQ (Kd.R_elder' (PR HO269) (Kd.R_base ho0) hb); have n6_ := AQ (Kd.R_below (PR HO273) hb); have n7_ := AQ (Kd.R_lower (Kd.R_new' (Kd.R_new' ho0 (Kd.R_lt (PR HO258))) (Kd.R_lt (PR HO269))) (below_size (PB HB))); have n8_ := AQ (Kd.R_lower ho1 (below_size (PB HB))); have n9_ := AQ (below_step (PB HB) hb); clear HO_1; clear HO255; clear HO258; clear HO262; clear HO266; clear HO269; clear HO273; clear HB; have HO_1 := n0_; have HO255 := n1_; have HO258 := n2_; have HO262 := n3_; have HO266 := n4_; have HO269 := n5_; have HO273 := n6_; have HO278 := n7_; have HO280 := n8_; have HB := n9_; clear n0_ n1_ n2_ n3_ n4_ n5_ n6_ n7_ n8_ n9_; (try clear hb); (try clear hb2); (try clear hk); (try clear hi); (try clear ho0); (try clear ho1); obtain ⟨Ao133, co133, eo133⟩ := Kd.R_slice HO262.out; subst eo133; obtain ⟨Ao134, co134, eo134⟩ := Kd.R_slice HO273.out; subst eo134))
      go_ret
      exact ⟨by first | rfl | (simp [errW_none, errW_some] <;> rfl) | (simp [*, errW_none, errW_some] <;> rfl), PB HB⟩
    ·rw [if_neg c12] at H
     have c12b0 : ((t260.length : Int) == 0) = false := beq_eq_false_iff_ne.mpr c12
     have c12b1 : ((t260.length : Int) != 0) = true := bne_iff_ne.mpr c12
     have c12b2 : ¬ (t260 = []) := fun h_ => c12 (by rw [h_]; rfl)
     obtain rfl := Option.some.inj H
     go_wp2_with (first | ((with_reducible refine gate_dst (N := 21) rfl ?_); refine Kd.R_lit (Kd.int .u64) _ 35 ?hg (N := 21) ?hd (xs := ([3] : List Int)) (inner := [.int .u64 3]) (ok := fun _ => True) (okp := fun _ => True) ?hr ?hp (fun _ hk => hk) trivial (Below.refl _ _) (Nat.le_refl _) (by simp) ?_; (case hd => rfl); (case hg => rfl); (case hr => first | (go_simp; done) | (go_simp; rfl)); (case hp => exact (Reps.one (show Kd.M (Kd.int .u64) _ _ _ 3 [.int .u64 3] from rfl) (Reps.none _ _))); intro v254 w135 ho136 hb hg_ hnew_; clear hg_ hnew_; (first | rw [← Ny253.out] at ho136 | (simp only [Int.reduceToNat] at ho136; rw [← Ny253.out] at ho136)); have n0_ := AQ (Kd.R_elder' (PR HO_1) (Kd.R_base ho136) hb); have n1_ := AQ (Kd.R_lower ho136 (below_size (PB HB))); have n2_ := AQ (below_step (PB HB) hb); clear HO_1; clear HB; have HO_1 := n0_; have HO255 := n1_; have HB := n2_; clear n0_ n1_ n2_; clear hb ho136) | ((with_reducible refine gate_dst (N := 22) rfl ?_); refine Kd.R_lit (Kd.int .u8) _ 5 ?hg (N := 22) ?hd (xs := ([3] : List Int)) (inner := [.int .u8 3]) (ok := fun _ => True) (okp := fun _ => True) ?hr ?hp (fun _ hk => hk) trivial (Below.refl _ _) (Nat.le_refl _) (by simp) ?_; (case hd => rfl); (case hg => rfl); (case hr => first | (go_simp; done) | (go_simp; rfl)); (case hp => exact (Reps.one (show Kd.M (Kd.int .u8) _ _ _ 3 [.int .u8 3] from rfl) (Reps.none _ _))); intro v257 w137 ho138 hb hg_ hnew_; clear hg_ hnew_; (first | rw [← Ny256.out] at ho138 | (simp only [Int.reduceToNat] at ho138; rw [← Ny256.out] at ho138)); have n0_ := AQ (Kd.R_elder' (PR HO_1) (Kd.R_base ho138) hb); have n1_ := AQ (Kd.R_below (PR HO255) hb); have n2_ := AQ (Kd.R_lower ho138 (below_size (PB HB))); have n3_ := AQ (below_step (PB HB) hb); clear HO_1; clear HO255; clear HB; have HO_1 := n0_; have HO255 := n1_; have HO258 := n2_; have HB := n3_; clear n0_ n1_ n2_ n3_; clear hb ho138; obtain ⟨Ao139, co139, eo139⟩ := Kd.R_slice HO_1.out; subst eo139; obtain ⟨Ao140, co140, eo140⟩ := Kd.R_slice HO255.out; subst eo140; obtain ⟨Ao141, co141, eo141⟩ := Kd.R_slice HO258.out; subst eo141) | ((with_reducible refine gate_callee (f := 11) rfl ?_); refine goesL_ (some 23) rfl rfl Tryd.func11 (by kernel_rfl) rfl #[ptrOf (.slice Ao139 t247.length co139), .slice Ao140 y253.length co140, .slice Ao141 y256.length co141] rfl (by (try simp only [List.map_toArray, List.map_cons, List.map_nil]); first | done | rfl | (simp only [List.length_drop, List.length_take]; rfl)) ?_; (with_reducible refine (elim_System_Add.calls kj1 (fun k_ => (some k_ ≠ (.slice Ao140 y253.length co140 : Value).ownBlock ∧ some k_ ≠ (.slice Ao141 y256.length co141 : Value).ownBlock)) (.slice Ao139 t247.length co139) t247 _ _ y253 _ _ y256 t259 t260 t263 w _ ?side1 ?side2 ?side3 ?side4 ?side5 ?side6 ?side7 A9.out).mono ?_); (case side1 => first | exact HT.out | exact TabIn.below HT.out (PB HB) | (repeat (first | apply TabIn.drewN | apply TabIn.drew | exact HT.out))); (case side2 => exact PB HB); (case side3 => (with_reducible repeat (first | apply Kd.R_alloc | apply Kd.R_drewN | apply Kd.R_drew)); exact Kd.R_mono HO_1.out (fun _ hk => ⟨hk.1.2, hk.2⟩)); (case side4 => exact QC HO255); (case side5 => exact (Kd.R_reads' HO255.out).2.1); (case side6 => exact QC HO258); (case side7 => exact (Kd.R_reads' HO258.out).2.1); rintro e w142 ⟨v261, rfl, ho0, hy0, hb, hkp⟩; refine ⟨_, rfl, ?_⟩; have n0_ := AQ (Kd.R_mono (ok' := fun k_ => (some k_ ≠ (.slice Ao140 y253.length co140 : Value).ownBlock ∧ some k_ ≠ (.slice Ao141 y256.length co141 : Value).ownBlock)) hy0 (fun k_ hk_ => Or.elim hk_ (fun hs_ => hs_) (fun hn_ => ⟨(Kd.fresh' (Kd.R_lt (PR HO255)) k_ hn_), (Kd.fresh' (Kd.R_lt (PR HO258)) k_ hn_)⟩))); have n1_ := AQ (Kd.R_skept (PR HO255) hkp (by decide)); have n2_ := AQ (Kd.R_skept (PR HO258) hkp (by decide)); have n3_ := AQ (Kd.R_lower ho0 (below_size (PB HB))); have n4_ := AQ (hb); clear HO_1; clear HO255; clear HO258; clear HB; have HO_1 := n0_; have HO255 := n1_; have HO258 := n2_; have HO262 := n3_; have HB := n4_; clear n0_ n1_ n2_ n3_ n4_; (try clear hb); (try clear hkp); (try clear hy0); (try clear ho0)) | ((with_reducible refine gate_dst (N := 28) rfl ?_); refine Kd.R_lit (Kd.int .u64) _ 35 ?hg (N := 28) ?hd (xs := ([1] : List Int)) (inner := [.int .u64 1]) (ok := fun _ => True) (okp := fun _ => True) ?hr ?hp (fun _ hk => hk) trivial (Below.refl _ _) (Nat.le_refl _) (by simp) ?_; (case hd => rfl); (case hg => rfl); (case hr => first | (go_simp; done) | (go_simp; rfl)); (case hp => exact (Reps.one (show Kd.M (Kd.int .u64) _ _ _ 1 [.int .u64 1] from rfl) (Reps.none _ _))); intro v265 w143 ho144 hb hg_ hnew_; clear hg_ hnew_; (first | rw [← Ny264.out] at ho144 | (simp only [Int.reduceToNat] at ho144; rw [← Ny264.out] at ho144)); have n0_ := AQ (Kd.R_elder' (PR HO_1) (Kd.R_base ho144) hb); have n1_ := AQ (Kd.R_elder' (PR HO255) (Kd.R_base ho144) hb); have n2_ := AQ (Kd.R_below (PR HO258) hb); have n3_ := AQ (Kd.R_below (PR HO262) hb); have n4_ := AQ (Kd.R_lower (Kd.R_new' ho144 (Kd.R_lt (PR HO255))) (below_size (PB HB))); have n5_ := AQ (below_step (PB HB) hb); clear HO_1; clear HO255; clear HO258; clear HO262; clear HB; have HO_1 := n0_; have HO255 := n1_; have HO258 := n2_; have HO262 := n3_; have HO266 := n4_; have HB := n5_; clear n0_ n1_ n2_ n3_ n4_ n5_; clear hb ho144) | ((with_reducible refine gate_dst (N := 29) rfl ?_); refine Kd.R_lit (Kd.int .u8) _ 5 ?hg (N := 29) ?hd (xs := ([1] : List Int)) (inner := [.int .u8 1]) (ok := fun _ => True) (okp := fun _ => True) ?hr ?hp (fun _ hk => hk) trivial (Below.refl _ _) (Nat.le_refl _) (by simp) ?_; (case hd => rfl); (case hg => rfl); (case hr => first | (go_simp; done) | (go_simp; rfl)); (case hp => exact (Reps.one (show Kd.M (Kd.int .u8) _ _ _ 1 [.int .u8 1] from rfl) (Reps.none _ _))); intro v268 w145 ho146 hb hg_ hnew_; clear hg_ hnew_; (first | rw [← Ny267.out] at ho146 | (simp only [Int.reduceToNat] at ho146; rw [← Ny267.out] at ho146)); have n0_ := AQ (Kd.R_elder' (PR HO_1) (Kd.R_base ho146) hb); have n1_ := AQ (Kd.R_below (PR HO255) hb); have n2_ := AQ (Kd.R_elder' (PR HO258) (Kd.R_base ho146) hb); have n3_ := AQ (Kd.R_below (PR HO262) hb); have n4_ := AQ (Kd.R_below (PR HO266) hb); have n5_ := AQ (Kd.R_lower (Kd.R_new' ho146 (Kd.R_lt (PR HO258))) (below_size (PB HB))); have n6_ := AQ (below_step (PB HB) hb); clear HO_1; clear HO255; clear HO258; clear HO262; clear HO266; clear HB; have HO_1 := n0_; have HO255 := n1_; have HO258 := n2_; have HO262 := n3_; have HO266 := n4_; have HO269 := n5_; have HB := n6_; clear n0_ n1_ n2_ n3_ n4_ n5_ n6_; clear hb ho146; obtain ⟨Ao147, co147, eo147⟩ := Kd.R_slice HO266.out; subst eo147; obtain ⟨Ao148, co148, eo148⟩ := Kd.R_slice HO269.out; subst eo148) | ((with_reducible refine gate_callee (f := 11) rfl ?_); refine goesL_ (some 30) rfl rfl Tryd.func11 (by kernel_rfl) rfl #[ptrOf (.slice Ao139 t247.length co139), .slice Ao147 y264.length co147, .slice Ao148 y267.length co148] rfl (by (try simp only [List.map_toArray, List.map_cons, List.map_nil]); first | done | rfl | (simp only [List.length_drop, List.length_take]; rfl)) ?_; (with_reducible refine (elim_System_Add.calls kj1 (fun k_ => (((some k_ ≠ (.slice Ao140 y253.length co140 : Value).ownBlock ∧ some k_ ≠ (.slice Ao141 y256.length co141 : Value).ownBlock) ∧ some k_ ≠ (.slice Ao147 y264.length co147 : Value).ownBlock) ∧ some k_ ≠ (.slice Ao148 y267.length co148 : Value).ownBlock)) (.slice Ao139 t247.length co139) t263 _ _ y264 _ _ y267 t270 t271 t274 w _ ?side1 ?side2 ?side3 ?side4 ?side5 ?side6 ?side7 A10.out).mono ?_); (case side1 => first | exact HT.out | exact TabIn.below HT.out (PB HB) | (repeat (first | apply TabIn.drewN | apply TabIn.drew | exact HT.out))); (case side2 => exact PB HB); (case side3 => exact PR HO_1); (case side4 => exact QC HO266); (case side5 => exact (Kd.R_reads' HO266.out).2.1); (case side6 => exact QC HO269); (case side7 => exact (Kd.R_reads' HO269.out).2.1); rintro e w149 ⟨v272, rfl, ho0, hy0, hb, hkp⟩; refine ⟨_, rfl, ?_⟩; have n0_ := AQ (Kd.R_mono (ok' := fun k_ => (((some k_ ≠ (.slice Ao140 y253.length co140 : Value).ownBlock ∧ some k_ ≠ (.slice Ao141 y256.length co141 : Value).ownBlock) ∧ some k_ ≠ (.slice Ao147 y264.length co147 : Value).ownBlock) ∧ some k_ ≠ (.slice Ao148 y267.length co148 : Value).ownBlock)) hy0 (fun k_ hk_ => Or.elim hk_ (fun hs_ => hs_) (fun hn_ => ⟨⟨⟨(Kd.fresh' (Kd.R_lt (PR HO255)) k_ hn_), (Kd.fresh' (Kd.R_lt (PR HO258)) k_ hn_)⟩, (Kd.fresh' (Kd.R_lt (PR HO266)) k_ hn_)⟩, (Kd.fresh' (Kd.R_lt (PR HO269)) k_ hn_)⟩))); have n1_ := AQ (Kd.R_skept (PR HO255) hkp (by decide)); have n2_ := AQ (Kd.R_skept (PR HO258) hkp (by decide)); have n3_ := AQ (Kd.R_skept (PR HO262) hkp (by decide)); have n4_ := AQ (Kd.R_skept (PR HO266) hkp (by decide)); have n5_ := AQ (Kd.R_skept (PR HO269) hkp (by decide)); have n6_ := AQ (Kd.R_lower ho0 (below_size (PB HB))); have n7_ := AQ (hb); clear HO_1; clear HO255; clear HO258; clear HO262; clear HO266; clear HO269; clear HB; have HO_1 := n0_; have HO255 := n1_; have HO258 := n2_; have HO262 := n3_; have HO266 := n4_; have HO269 := n5_; have HO273 := n6_; have HB := n7_; clear n0_ n1_ n2_ n3_ n4_ n5_ n6_ n7_; (try clear hb); (try clear hkp); (try clear hy0); (try clear ho0)) | ((with_reducible refine gate_callee (f := 13) rfl ?_); refine goesL_ (some 35) rfl rfl Tryd.func13 (by kernel_rfl) rfl #[ptrOf (.slice Ao139 t274.length co139), .int .i64 1] rfl (by (try simp only [List.map_toArray, List.map_cons, List.map_nil]); first | done | (rw [show t274.length = t247.length from (Kd.R_reads' HO_1.out).1.symm] <;> rfl) | rfl | (simp only [List.length_drop, List.length_take]; rfl)) ?_; (with_reducible refine (elim_System_Value.calls kj1 _ _ t274 1 t275 t276 _ ?side1 ?side2 ?side3 A11.out).mono ?_); (case side1 => first | exact HT.out | exact TabIn.below HT.out (PB HB) | (repeat (first | apply TabIn.drewN | apply TabIn.drew | exact HT.out))); (case side2 => exact QC HO_1); (case side3 => rw [show t274.length = t247.length from (Kd.R_reads' HO_1.out).1.symm]; exact (Kd.R_reads' HO_1.out).2.1); rintro e w150 ⟨v277, v279, rfl, ho0, ho1, hb⟩; refine ⟨_, rfl, ?_⟩; have n0_ := AQ (Kd.R_elder' (PR HO_1) (Kd.R_base ho0) hb); have n1_ := AQ (Kd.R_below (PR HO255) hb); have n2_ := AQ (Kd.R_elder' (PR HO258) (Kd.R_base ho0) hb); have n3_ := AQ (Kd.R_below (PR HO262) hb); have n4_ := AQ (Kd.R_below (PR HO266) hb); have n5_ := AQ (Kd.R_elder' (PR HO269) (Kd.R_base ho0) hb); have n6_ := AQ (Kd.R_below (PR HO273) hb); have n7_ := AQ (Kd.R_lower (Kd.R_new' (Kd.R_new' ho0 (Kd.R_lt (PR HO258))) (Kd.R_lt (PR HO269))) (below_size (PB HB))); have n8_ := AQ (Kd.R_lower ho1 (below_size (PB HB))); have n9_ := AQ (below_step (PB HB) hb); clear HO_1; clear HO255; clear HO258; clear HO262; clear HO266; clear HO269; clear HO273; clear HB; have HO_1 := n0_; have HO255 := n1_; have HO258 := n2_; have HO262 := n3_; have HO266 := n4_; have HO269 := n5_; have HO273 := n6_; have HO278 := n7_; have HO280 := n8_; have HB := n9_; clear n0_ n1_ n2_ n3_ n4_ n5_ n6_ n7_ n8_ n9_; (try clear hb); (try clear hb2); (try clear hk); (try clear hi); (try clear ho0); (try clear ho1); obtain ⟨Ao151, co151, eo151⟩ := Kd.R_slice HO262.out; subst eo151))
     go_ret
     exact ⟨by first | rfl | (simp [errW_none, errW_some] <;> rfl) | (simp [*, errW_none, errW_some] <;> rfl), PB HB⟩
end Go.Proofs.YtjmgkknbgffbjaaDoor.P
namespace Go.Proofs.YtjmgkknbgffbjaaDoor.Pure
open Go.RowKit Go.Proofs.YtjmgkknbgffbjaaDoor.P Go.Proofs.YtjmgkknbgffbjaaDoorW.PrintWords Go.Proofs.YtjmgkknbgffbjaaDoorW.PrintLast Go.Proofs.YtjmgkknbgffbjaaDoorW.PrintErr Go.Proofs.YtjmgkknbgffbjaaDoorW.PrintMore
set_option linter.unusedVariables false
set_option linter.unusedSimpArgs false
set_option maxRecDepth 100000 in
theorem awake05_ev : Ev (fun k => geyserlaw05_awake.f k) true := by
  refine Ev.of (fun k => geyserlaw05_awake.mono k) (k := 200) ?_
  kernel_rfl
end Go.Proofs.YtjmgkknbgffbjaaDoor.Pure
namespace Go.Proofs.YtjmgkknbgffbjaaDoor.P
open Go.RowKit Go.Proofs.YtjmgkknbgffbjaaDoorW.PrintWords Go.Proofs.YtjmgkknbgffbjaaDoorW.PrintLast Go.Proofs.YtjmgkknbgffbjaaDoorW.PrintErr Go.Proofs.YtjmgkknbgffbjaaDoorW.PrintMore
attribute [local go_sem] max2_int min2_int max_two min_two max_three min_three max_four min_four run_eql_errOf run_neq_errOf eqGuard_errOf run_eql_ptrOf run_neq_ptrOf eqGuard_ptrOf   -- for this text's walks alone
set_option linter.unusedVariables false
set_option linter.unusedSimpArgs false
mutual
def geyserlaw05_ElimRanks.j0 : Nat → List (S74) → Bool → Int → List (List Int) → List Int → Option (Bool)
 | 0, _, _, _, _, _ => none
 | k + 1, x3, x23, x416000, x416001, x416002 => if x23 = true then (some false) else (geyserlaw05_ElimRanks.l0 k x3 (([] : List (List Int))) 0 x416000 x416001 x416002)
def geyserlaw05_ElimRanks.l0 : Nat → List (S74) → List (List Int) → Int → Int → List (List Int) → List Int → Option (Bool)
 | 0, _, _, _, _, _, _ => none
 | k + 1, x3, x5, x6, x416000, x416001, x416002 => if x6 < (x416002.length : Int) then (if 0 ≤ x6 then (if x5.length < 5864062014805 then ((some (x5 ++ [(([rd x416002 x6] : List Int))] : List (List Int))).bind fun y437 => ((geyserlaw05_True_sym.f k x416000 x416001 x416002 (rd x416002 x6)).bind fun t445 => ((elim_System_Add.f k x3 (([rd x416002 x6] : List Int)) t445).bind fun bt448 => ((elim_System_Rank.f bt448.2.2).bind fun t453 => ((geyserref03_Rank.f k y437 (x416001.length : Int)).bind fun t454 => (if t453 = t454 then (geyserlaw05_ElimRanks.l0 k bt448.2.2 y437 (wrap64 (x6 + 1)) x416000 x416001 x416002) else (some false))))))) else (none)) else (none)) else ((geyserlaw05_awake.f k).bind fun t432 => (some t432))
end
def geyserlaw05_ElimRanks.f (k : Nat) (a0_0 : Int) (l0_1 : List (List Int)) (l0_2 : List Int) : Option (Bool) := (geyserlaw05_fit.f k a0_0 l0_1 l0_2).bind fun bt416 => ((elim_New.f (bt416.2.1.length : Int) bt416.1).bind fun bt423 => (if (bt423.2.length : Int) = 0 then (geyserlaw05_ElimRanks.j0 k bt423.1 ((bt423.1.length : Int) == 0) bt416.1 bt416.2.1 bt416.2.2) else (geyserlaw05_ElimRanks.j0 k bt423.1 true bt416.1 bt416.2.1 bt416.2.2)))
theorem geyserlaw05_ElimRanks.mono_l : ∀ k, (∀ y0 y1 y2 y3 y4, LeO (geyserlaw05_ElimRanks.j0 k y0 y1 y2 y3 y4) (geyserlaw05_ElimRanks.j0 (k + 1) y0 y1 y2 y3 y4)) ∧ (∀ y0 y1 y2 y3 y4 y5, LeO (geyserlaw05_ElimRanks.l0 k y0 y1 y2 y3 y4 y5) (geyserlaw05_ElimRanks.l0 (k + 1) y0 y1 y2 y3 y4 y5))
 | 0 => ⟨fun _ _ _ _ _ r h => by simp [geyserlaw05_ElimRanks.j0] at h, fun _ _ _ _ _ _ r h => by simp [geyserlaw05_ElimRanks.l0] at h⟩
 | k + 1 => by
  obtain ⟨ih0, ih1⟩ := geyserlaw05_ElimRanks.mono_l k
  refine ⟨?_, ?_⟩
  ·intro y0 y1 y2 y3 y4
   unfold geyserlaw05_ElimRanks.j0
   repeat' first
   | (with_reducible exact ih0 _ _ _ _ _)
   | (with_reducible exact ih1 _ _ _ _ _ _)
   | (with_reducible exact elim_System_Add.mono _ _ _ _)
   | (with_reducible exact geyserlaw05_True_sym.mono _ _ _ _ _)
   | (with_reducible exact geyserlaw05_awake.mono _)
   | (with_reducible exact geyserlaw05_fit.mono _ _ _ _)
   | (with_reducible exact geyserref03_Rank.mono _ _ _)
   | (with_reducible exact LeO.refl _)
   | (with_reducible exact LeO.none _)
   | (with_reducible refine LeO.ite ?_ ?_)
   | (with_reducible refine LeO.bind ?_ (fun _ => ?_))
   | exact ih0 _ _ _ _ _
   | exact ih1 _ _ _ _ _ _
   | exact elim_System_Add.mono _ _ _ _
   | exact geyserlaw05_True_sym.mono _ _ _ _ _
   | exact geyserlaw05_awake.mono _
   | exact geyserlaw05_fit.mono _ _ _ _
   | exact geyserref03_Rank.mono _ _ _
   | exact LeO.none _
   | refine LeO.ite ?_ ?_
   | refine LeO.bind ?_ (fun _ => ?_)
  ·intro y0 y1 y2 y3 y4 y5
   unfold geyserlaw05_ElimRanks.l0
   repeat' first
   | (with_reducible exact ih0 _ _ _ _ _)
   | (with_reducible exact ih1 _ _ _ _ _ _)
   | (with_reducible exact elim_System_Add.mono _ _ _ _)
   | (with_reducible exact geyserlaw05_True_sym.mono _ _ _ _ _)
   | (with_reducible exact geyserlaw05_awake.mono _)
   | (with_reducible exact geyserlaw05_fit.mono _ _ _ _)
   | (with_reducible exact geyserref03_Rank.mono _ _ _)
   | (with_reducible exact LeO.refl _)
   | (with_reducible exact LeO.none _)
   | (with_reducible refine LeO.ite ?_ ?_)
   | (with_reducible refine LeO.bind ?_ (fun _ => ?_))
   | exact ih0 _ _ _ _ _
   | exact ih1 _ _ _ _ _ _
   | exact elim_System_Add.mono _ _ _ _
   | exact geyserlaw05_True_sym.mono _ _ _ _ _
   | exact geyserlaw05_awake.mono _
   | exact geyserlaw05_fit.mono _ _ _ _
   | exact geyserref03_Rank.mono _ _ _
   | exact LeO.none _
   | refine LeO.ite ?_ ?_
   | refine LeO.bind ?_ (fun _ => ?_)
theorem geyserlaw05_ElimRanks.mono : ∀ a0 a1 a2 k, LeO (geyserlaw05_ElimRanks.f k a0 a1 a2) (geyserlaw05_ElimRanks.f (k + 1) a0 a1 a2) := by
 intro a0 a1 a2 k
 obtain ⟨ih0, ih1⟩ := geyserlaw05_ElimRanks.mono_l k
 unfold geyserlaw05_ElimRanks.f
 repeat' first
   | (with_reducible exact ih0 _ _ _ _ _)
   | (with_reducible exact ih1 _ _ _ _ _ _)
   | (with_reducible exact elim_System_Add.mono _ _ _ _)
   | (with_reducible exact geyserlaw05_True_sym.mono _ _ _ _ _)
   | (with_reducible exact geyserlaw05_awake.mono _)
   | (with_reducible exact geyserlaw05_fit.mono _ _ _ _)
   | (with_reducible exact geyserref03_Rank.mono _ _ _)
   | (with_reducible exact LeO.refl _)
   | (with_reducible exact LeO.none _)
   | (with_reducible refine LeO.ite ?_ ?_)
   | (with_reducible refine LeO.bind ?_ (fun _ => ?_))
   | exact ih0 _ _ _ _ _
   | exact ih1 _ _ _ _ _ _
   | exact elim_System_Add.mono _ _ _ _
   | exact geyserlaw05_True_sym.mono _ _ _ _ _
   | exact geyserlaw05_awake.mono _
   | exact geyserlaw05_fit.mono _ _ _ _
   | exact geyserref03_Rank.mono _ _ _
   | exact LeO.none _
   | refine LeO.ite ?_ ?_
   | refine LeO.bind ?_ (fun _ => ?_)
def geyserlaw05_ElimRanks.T10 : Bool × List (List Nat × List Nat) := (true, [([], []), ([], []), ([1], [1]), ([], []), ([2, 3], [2, 3]), ([4], [4]), ([5], [5]), ([], []), ([], []), ([8], [8]), ([], []), ([9, 10], [9, 10]), ([11], [11]), ([7, 12], [7, 12]), ([0, 6, 13, 13], [0, 6, 13])])
def geyserlaw05_ElimRanks.B10 : List Nat := [0, 0, 2, 0, 14, 30, 62, 0, 0, 256, 0, 1792, 3840, 8064, 16383]
theorem geyserlaw05_ElimRanks.tab10 : rtab .any (opsOf Tryd.f4 10) = geyserlaw05_ElimRanks.T10 := by kernel_rfl
theorem geyserlaw05_ElimRanks.bits10 : waitsOk geyserlaw05_ElimRanks.T10.2 geyserlaw05_ElimRanks.B10 = true := by kernel_rfl
def geyserlaw05_ElimRanks.T11 : Bool × List (List Nat × List Nat) := (true, [([], []), ([0], [0]), ([], []), ([], []), ([3], [3]), ([4], [4]), ([2, 5, 1], [2, 5]), ([1, 6], [1, 6])])
def geyserlaw05_ElimRanks.B11 : List Nat := [0, 1, 0, 0, 8, 24, 63, 127]
theorem geyserlaw05_ElimRanks.tab11 : rtab .any (opsOf Tryd.f4 11) = geyserlaw05_ElimRanks.T11 := by kernel_rfl
theorem geyserlaw05_ElimRanks.bits11 : waitsOk geyserlaw05_ElimRanks.T11.2 geyserlaw05_ElimRanks.B11 = true := by kernel_rfl
set_option maxHeartbeats 8000000 in
set_option maxRecDepth 100000 in
theorem geyserlaw05_ElimRanks.calls (k : Nat) (a0_0 : Int) (A0_1 : Option Addr) (c0_1 : Nat) (l0_1 : List (List Int)) (A0_2 : Option Addr) (c0_2 : Nat) (l0_2 : List Int) (r : Bool) (w : World) (ht : TabIn w) (hr0_1 : Kd.C (Kd.slice 5 (Kd.int .u8)) w A0_1 l0_1.length l0_1) (hc0_1 : l0_1.length ≤ c0_1) (hr0_2 : Kd.C (Kd.int .u64) w A0_2 l0_2.length l0_2) (hc0_2 : l0_2.length ≤ c0_2) (h : geyserlaw05_ElimRanks.f k a0_0 l0_1 l0_2 = some r) :
  Calls Tryd.prog 4 #[.agg #[.int .i64 a0_0, .slice A0_1 l0_1.length c0_1, .slice A0_2 l0_2.length c0_2]] w fun e w' => e = .returned (.bool r) ∧ Below w.heap.size w w' := by
 have hu25 := Tryd.underlying25
 have HR0_1 := AQ hr0_1
 have HC0_1 := AQ hc0_1
 clear hr0_1 hc0_1
 have HR0_2 := AQ hr0_2
 have HC0_2 := AQ hc0_2
 clear hr0_2 hc0_2
 have HB := AQ (Below.refl w.heap.size w)
 have HT := AQ ht
 clear ht
 have H : ((geyserlaw05_fit.f k a0_0 l0_1 l0_2).bind fun bt416 => ((elim_New.f (bt416.2.1.length : Int) bt416.1).bind fun bt423 => (if (bt423.2.length : Int) = 0 then (geyserlaw05_ElimRanks.j0 k bt423.1 ((bt423.1.length : Int) == 0) bt416.1 bt416.2.1 bt416.2.2) else (geyserlaw05_ElimRanks.j0 k bt423.1 true bt416.1 bt416.2.1 bt416.2.2)))) = some r := h
 clear h
 replace H := Option.bind_eq_some_iff.mp H
 obtain ⟨⟨t416, t417, t420⟩, A20, H⟩ := H
 replace H : ((elim_New.f (t417.length : Int) t416).bind fun bt423 => (if (bt423.2.length : Int) = 0 then (geyserlaw05_ElimRanks.j0 k bt423.1 ((bt423.1.length : Int) == 0) t416 t417 t420) else (geyserlaw05_ElimRanks.j0 k bt423.1 true t416 t417 t420))) = some r := H
 have A2 := AQ A20
 clear A20
 replace H := Option.bind_eq_some_iff.mp H
 obtain ⟨⟨t423, t424⟩, A30, H⟩ := H
 replace H : (if (t424.length : Int) = 0 then (geyserlaw05_ElimRanks.j0 k t423 ((t423.length : Int) == 0) t416 t417 t420) else (geyserlaw05_ElimRanks.j0 k t423 true t416 t417 t420)) = some r := H
 have A3 := AQ A30
 clear A30
 have HC4 := AQ H
 clear H
 go_enter Tryd.func4, Tryd.ntmps4
 go_upto_region 3 with (first | ((with_reducible refine gate_dst (N := 1) rfl ?_); refine box_event ?hg (N := 1) ?hd (cs := #[.int .i64 a0_0, .slice A0_1 l0_1.length c0_1, .slice A0_2 l0_2.length c0_2]) (t := 25) ?hr ?_; (case hd => rfl); (case hg => rfl); (case hr => first | (go_simp; done) | (go_simp; rfl)); intro gb415 hg w5 hbox hb; have n0_ := AQ (below_step (PB HB) hb); have n1_ := AQ (hbox); have n2_ := AQ ((by rw [hg]; exact (below_size (PB HB)) : w.heap.size ≤ gb415)); have n3_ := AQ ((by rw [hg]; exact (below_size (PB HB)) : w.heap.size ≤ gb415)); clear HB; have HB := n0_; have BK415 := n1_; have GW415 := n2_; have GE415 := n3_; clear n0_ n1_ n2_ n3_; clear hb hbox hg; have hcz6_0 : w5.cell? ⟨gb415, 0, none⟩ = some (.int .i64 a0_0) := (blk_cell BK415.out 0).trans rfl; have hcz6_1 : w5.cell? ⟨gb415, 1, none⟩ = some (.slice A0_1 l0_1.length c0_1) := (blk_cell BK415.out 1).trans rfl; have hcz6_2 : w5.cell? ⟨gb415, 2, none⟩ = some (.slice A0_2 l0_2.length c0_2) := (blk_cell BK415.out 2).trans rfl; have hfz6_0 := blk_frozen BK415.out 0; have hfz6_1 := blk_frozen BK415.out 1; have hfz6_2 := blk_frozen BK415.out 2) | ((with_reducible refine gate_callee (f := 9) rfl ?_); refine goesL_ (some 8) rfl rfl Tryd.func9 (by kernel_rfl) rfl #[.agg #[.int .i64 a0_0, .slice A0_1 l0_1.length c0_1, .slice A0_2 l0_2.length c0_2]] rfl (by (try simp only [List.map_toArray, List.map_cons, List.map_nil]); first | done | rfl | (simp only [List.length_drop, List.length_take]; rfl)) ?_; (with_reducible refine (geyserlaw05_fit.calls k a0_0 _ _ l0_1 _ _ l0_2 t416 t417 t420 _ ?side1 ?side2 ?side3 ?side4 A2.out).mono ?_); (case side1 => repeat (first | exact (Kd.C_below HR0_1.out HB.out) | (with_reducible refine Kd.C_alloc ?_ _) | (with_reducible refine Kd.C_drewN ?_ _) | (with_reducible refine Kd.C_drew ?_))); (case side2 => exact HC0_1.out); (case side3 => repeat (first | exact (Kd.C_below HR0_2.out HB.out) | (with_reducible refine Kd.C_alloc ?_ _) | (with_reducible refine Kd.C_drewN ?_ _) | (with_reducible refine Kd.C_drew ?_))); (case side4 => exact HC0_2.out); rintro e w7 ⟨v418, v421, rfl, ho0, ho1, hb⟩; refine ⟨_, rfl, ?_⟩; have n0_ := AQ (Kd.S_lower ho0 (below_size (by repeat (first | (with_reducible first | exact HB.out | apply below_alloc | apply pw_below_drewN | apply below_drew1 | refine below_set ?_ GE415.out) | exact HB.out)))); have n1_ := AQ (Kd.R_lower ho1 (below_size (by repeat (first | (with_reducible first | exact HB.out | apply below_alloc | apply pw_below_drewN | apply below_drew1 | refine below_set ?_ GE415.out) | exact HB.out)))); have n2_ := AQ (blk_below (g := gb415) (o := .cells #[.int .i64 a0_0, .slice A0_1 l0_1.length c0_1, .slice A0_2 l0_2.length c0_2] 25 (0, 0)) (PK BK415) hb); have n3_ := AQ (below_step (by repeat (first | (with_reducible first | exact HB.out | apply below_alloc | apply pw_below_drewN | apply below_drew1 | refine below_set ?_ GE415.out) | exact HB.out)) hb); clear BK415; clear HB; have HO419 := n0_; have HO422 := n1_; have BK415 := n2_; have HB := n3_; clear n0_ n1_ n2_ n3_; (try clear hb); (try clear hb2); (try clear hk); (try clear hi); (try clear ho0); (try clear ho1); have hcz8_0 : w7.cell? ⟨gb415, 0, none⟩ = some (.int .i64 a0_0) := (blk_cell BK415.out 0).trans rfl; have hcz8_1 : w7.cell? ⟨gb415, 1, none⟩ = some (.slice A0_1 l0_1.length c0_1) := (blk_cell BK415.out 1).trans rfl; have hcz8_2 : w7.cell? ⟨gb415, 2, none⟩ = some (.slice A0_2 l0_2.length c0_2) := (blk_cell BK415.out 2).trans rfl; have hfz8_0 := blk_frozen BK415.out 0; have hfz8_1 := blk_frozen BK415.out 1; have hfz8_2 := blk_frozen BK415.out 2; obtain ⟨Ao9, co9, eo9⟩ := Kd.S_slice HO419.out; subst eo9; obtain ⟨Ao10, co10, eo10⟩ := Kd.R_slice HO422.out; subst eo10) | ((with_reducible refine gate_callee (f := 10) rfl ?_); refine goesL_ (some 15) rfl rfl Tryd.func10 (by kernel_rfl) rfl #[.int .i64 (t417.length : Int), .int .i64 t416] rfl (by (try simp only [List.map_toArray, List.map_cons, List.map_nil]); first | done | rfl | (simp only [List.length_drop, List.length_take]; rfl)) ?_; (with_reducible refine (elim_New.calls (t417.length : Int) t416 t423 t424 _ A3.out).mono ?_); rintro e w11 ⟨v425, v427, rfl, ho0, ho1, hb⟩; refine ⟨_, rfl, ?_⟩; have n0_ := AQ (Kd.S_below (by (with_reducible repeat (first | apply Kd.S_alloc | apply Kd.S_drewN | apply Kd.S_drew)); exact (Kd.S_mono (Kd.S_far (p := ⟨gb415, 2, none⟩) (Kd.S_far (p := ⟨gb415, 1, none⟩) (Kd.S_far (p := ⟨gb415, 0, none⟩) (Kd.S_types HO419.out BK415.out (by decide)) (fun _ hk => hk.2) (.int .i64 t416)) (fun _ hk => hk.2) (.slice Ao9 t417.length co9)) (fun _ hk => hk.2) (.slice Ao10 t420.length co10)) (fun _ h_ => h_.1))) hb); have n1_ := AQ (Kd.R_below (by (with_reducible repeat (first | apply Kd.R_alloc | apply Kd.R_drewN | apply Kd.R_drew)); exact (Kd.R_mono (Kd.R_far (p := ⟨gb415, 2, none⟩) (Kd.R_far (p := ⟨gb415, 1, none⟩) (Kd.R_far (p := ⟨gb415, 0, none⟩) (Kd.R_types HO422.out BK415.out (by decide)) (fun _ hk => hk.2) (.int .i64 t416)) (fun _ hk => hk.2) (.slice Ao9 t417.length co9)) (fun _ hk => hk.2) (.slice Ao10 t420.length co10)) (fun _ h_ => h_.1))) hb); have n2_ := AQ (Kd.R_lower (Kd.R_new' ho0 (Kd.R_lt (by (with_reducible repeat (first | apply Kd.R_alloc | apply Kd.R_drewN | apply Kd.R_drew)); exact (Kd.R_mono (Kd.R_far (p := ⟨gb415, 2, none⟩) (Kd.R_far (p := ⟨gb415, 1, none⟩) (Kd.R_far (p := ⟨gb415, 0, none⟩) (Kd.R_types HO422.out BK415.out (by decide)) (fun _ hk => hk.2) (.int .i64 t416)) (fun _ hk => hk.2) (.slice Ao9 t417.length co9)) (fun _ hk => hk.2) (.slice Ao10 t420.length co10)) (fun _ h_ => h_.1))))) (below_size (by repeat (first | (with_reducible first | exact HB.out | apply below_alloc | apply pw_below_drewN | apply below_drew1 | refine below_set ?_ GE415.out) | exact HB.out)))); have n3_ := AQ (Kd.R_lower ho1 (below_size (by repeat (first | (with_reducible first | exact HB.out | apply below_alloc | apply pw_below_drewN | apply below_drew1 | refine below_set ?_ GE415.out) | exact HB.out)))); have n4_ := AQ (blk_below (g := gb415) (o := .cells #[.int .i64 t416, .slice Ao9 t417.length co9, .slice Ao10 t420.length co10] 25 (0, 0)) (by (with_reducible repeat (first | refine blk_drewN ?_ _ | refine blk_drew ?_ | refine blk_alloc ?_ _)); refine blk_put (cs := #[.int .i64 t416, .slice Ao9 t417.length co9, .slice A0_2 l0_2.length c0_2]) ?_ 2 _ rfl; (with_reducible repeat (first | refine blk_drewN ?_ _ | refine blk_drew ?_ | refine blk_alloc ?_ _)); refine blk_put (cs := #[.int .i64 t416, .slice A0_1 l0_1.length c0_1, .slice A0_2 l0_2.length c0_2]) ?_ 1 _ rfl; (with_reducible repeat (first | refine blk_drewN ?_ _ | refine blk_drew ?_ | refine blk_alloc ?_ _)); refine blk_put (cs := #[.int .i64 a0_0, .slice A0_1 l0_1.length c0_1, .slice A0_2 l0_2.length c0_2]) ?_ 0 _ rfl; exact PK BK415) hb); have n5_ := AQ (below_step (by repeat (first | (with_reducible first | exact HB.out | apply below_alloc | apply pw_below_drewN | apply below_drew1 | refine below_set ?_ GE415.out) | exact HB.out)) hb); clear HO419; clear HO422; clear BK415; clear HB; have HO419 := n0_; have HO422 := n1_; have HO426 := n2_; have HO428 := n3_; have BK415 := n4_; have HB := n5_; clear n0_ n1_ n2_ n3_ n4_ n5_; (try clear hb); (try clear hb2); (try clear hk); (try clear hi); (try clear ho0); (try clear ho1)))
 (try simp only [Act.put, List.setIfInBounds_toArray, List.set_cons_zero, List.set_cons_succ])
 go_cut [23] (fun v23 wc => ∃ (kq : Nat) (x23_3 : Bool), v23 = .bool x23_3 ∧ Aside0 (geyserlaw05_ElimRanks.j0 kq t423 x23_3 t416 t417 t420 = some r) ∧ Aside0 (kq ≤ k) ∧ Aside0 (Kd.R k74 74 wc w.heap.size (fun k_ => some k_ ≠ ((.slice Ao10 t420.length co10) : Value).ownBlock) v425 t423) ∧ Aside0 (Kd.S (Kd.slice 5 (Kd.int .u8)) 36 wc w.heap.size (fun _ => True) (.slice Ao9 t417.length co9) t417) ∧ Aside0 (Kd.R (Kd.int .u64) 35 wc w.heap.size (fun _ => True) (.slice Ao10 t420.length co10) t420) ∧ Aside0 (wc.heap[gb415]? = some (.cells #[.int .i64 t416, (.slice Ao9 t417.length co9), (.slice Ao10 t420.length co10)] 25 (0, 0))) ∧ Aside0 (Below w.heap.size w wc))
 case first =>
  have H := HC4.out
  clear HC4
  by_cases c12 : (t424.length : Int) = 0
  ·rw [if_pos c12] at H
   have c12b0 : ((t424.length : Int) == 0) = true := beq_iff_eq.mpr c12
   have c12b1 : ((t424.length : Int) != 0) = false := bne_eq_false_iff_eq.mpr c12
   clear c12
   (first | rw [c12b0] | rw [c12b1] | (simp only [i64_w, i32_w]; rw [c12b0]) | skip)
   have H' := AQ H
   clear H
   obtain ⟨Ao13, co13, eo13⟩ := Kd.R_slice HO428.out
   subst eo13
   obtain ⟨Ao14, co14, eo14⟩ := Kd.R_slice HO426.out
   subst eo14
   go_wp2
   go_meet
   case rel => exact ⟨_, (((t423.length : Int) == 0)), (by first | rfl | (simp; done) | (simp [*]; done)), H', ⟨by first | omega | exact Nat.le_refl _⟩, ⟨by (with_reducible repeat (first | apply Kd.R_alloc | apply Kd.R_drewN | apply Kd.R_drew)); exact Kd.R_mono HO426.out (fun _ hk => hk.2)⟩, ⟨PS HO419⟩, ⟨PR HO422⟩, ⟨PK BK415⟩, ⟨by repeat (first | (with_reducible first | exact HB.out | apply below_alloc | apply pw_below_drewN | apply below_drew1 | refine below_set ?_ GE415.out) | exact HB.out)⟩⟩
  ·rw [if_neg c12] at H
   have c12b0 : ((t424.length : Int) == 0) = false := beq_eq_false_iff_ne.mpr c12
   have c12b1 : ((t424.length : Int) != 0) = true := bne_iff_ne.mpr c12
   have c12b2 : ¬ (t424 = []) := fun h_ => c12 (by rw [h_]; rfl)
   (first | rw [c12b0] | rw [c12b1] | (simp only [i64_w, i32_w]; rw [c12b0]) | skip)
   have H' := AQ H
   clear H
   obtain ⟨Ao15, co15, eo15⟩ := Kd.R_slice HO428.out
   subst eo15
   go_wp2
   go_meet
   case rel => exact ⟨_, (true), (by first | rfl | (simp; done) | (simp [*]; done)), H', ⟨by first | omega | exact Nat.le_refl _⟩, ⟨by (with_reducible repeat (first | apply Kd.R_alloc | apply Kd.R_drewN | apply Kd.R_drew)); exact Kd.R_mono HO426.out (fun _ hk => hk.2)⟩, ⟨PS HO419⟩, ⟨PR HO422⟩, ⟨PK BK415⟩, ⟨by repeat (first | (with_reducible first | exact HB.out | apply below_alloc | apply pw_below_drewN | apply below_drew1 | refine below_set ?_ GE415.out) | exact HB.out)⟩⟩
 case rest =>
  clear HC4
  try clear c1
  try clear p2
  try clear c4
  try clear c9
  try clear c10
  try clear c12
  try clear c12b0
  try clear c12b1
  try clear c12b2
  try clear hcz6_0
  try clear hcz6_1
  try clear hcz6_2
  try clear hcz8_0
  try clear hcz8_1
  try clear hcz8_2
  try clear hfz6_0
  try clear hfz6_1
  try clear hfz6_2
  try clear hfz8_0
  try clear hfz8_1
  try clear hfz8_2
  obtain ⟨kq, x23_3, rfl, HA, HJ3, HO_3, HO_416001, HO_416002, BK415, HB⟩ := hcut
  cases kq with
  | zero => exact absurd HA.out (by simp [geyserlaw05_ElimRanks.j0])
  | succ kj3 =>
   have H := HA.out
   clear HA
   simp only [geyserlaw05_ElimRanks.j0] at H
   by_cases c16 : x23_3 = true
   ·subst c16
    have H1 : (some false) = some r := by rw [if_pos rfl] at H; exact H
    clear H
    have H := H1
    clear H1
    obtain rfl := Option.some.inj H
    go_wp2
    go_ret
    exact ⟨by first | rfl | (simp [errW_none, errW_some] <;> rfl) | (simp [*, errW_none, errW_some] <;> rfl), by repeat (first | (with_reducible first | exact HB.out | apply below_alloc | apply pw_below_drewN | apply below_drew1 | refine below_set ?_ GE415.out) | exact HB.out)⟩
   ·replace c16 := Bool.eq_false_iff.mpr c16
    subst c16
    have H1 : (geyserlaw05_ElimRanks.l0 kj3 t423 (([] : List (List Int))) 0 t416 t417 t420) = some r := by rw [if_neg (show ¬ (false = true) by decide)] at H; exact H
    clear H
    have H := H1
    clear H1
    obtain ⟨y429, hy429⟩ : ∃ y_ : List (List Int), y_ = (([] : List (List Int))) := ⟨_, rfl⟩
    replace H : (geyserlaw05_ElimRanks.l0 kj3 t423 y429 0 t416 t417 t420) = some r := by first | (rw [hy429]; with_reducible exact H) | (have H2_ := (Option.bind_some _ _).symm.trans H; rw [hy429]; with_reducible exact H2_) | (have H2_ := (Option.bind_some _ _).symm.trans H; with_reducible exact H2_) | with_reducible exact H | (rw [hy429]; exact H) | exact H
    have Ny429 := AQ hy429
    clear hy429
    have H' := AQ H
    clear H
    go_wp2_with (first | ((with_reducible refine gate_dst (N := 24) rfl ?_); refine Kd.S_lit (Kd.slice 35 (Kd.int .u64)) _ 23 ?hg (N := 24) ?hd (xs := ([] : List (List Int))) (inner := []) (ok := fun _ => True) (okp := fun _ => True) ?hr ?hp (fun _ hk => hk) trivial (Below.refl _ _) (Nat.le_refl _) (by simp) ?_; (case hd => rfl); (case hg => rfl); (case hr => first | (go_simp; done) | (go_simp; rfl)); (case hp => exact (Reps.none _ _)); intro v430 w17 ho18 hb hg_ hnew_; clear hg_ hnew_; (first | rw [← Ny429.out] at ho18 | (simp only [Int.reduceToNat] at ho18; rw [← Ny429.out] at ho18)); have n0_ := AQ (Kd.R_below (PR HO_3) hb); have n1_ := AQ (Kd.S_below (PS HO_416001) hb); have n2_ := AQ (Kd.R_below (PR HO_416002) hb); have n3_ := AQ (Kd.S_lower (Kd.S_new' ho18 (Kd.R_lt (PR HO_416002))) (below_size (by repeat (first | (with_reducible first | exact HB.out | apply below_alloc | apply pw_below_drewN | apply below_drew1 | refine below_set ?_ GE415.out) | exact HB.out)))); have n4_ := AQ (blk_below (g := gb415) (o := .cells #[.int .i64 t416, .slice Ao9 t417.length co9, .slice Ao10 t420.length co10] 25 (0, 0)) (PK BK415) hb); have n5_ := AQ (below_step (by repeat (first | (with_reducible first | exact HB.out | apply below_alloc | apply pw_below_drewN | apply below_drew1 | refine below_set ?_ GE415.out) | exact HB.out)) hb); clear HO_3; clear HO_416001; clear HO_416002; clear BK415; clear HB; have HO_3 := n0_; have HO_416001 := n1_; have HO_416002 := n2_; have HO431 := n3_; have BK415 := n4_; have HB := n5_; clear n0_ n1_ n2_ n3_ n4_ n5_; clear hb ho18))
    go_loopg [5, 6] kj3 (fun kq v5 v6 w' => ∃ (x3_2 : List (S74)) (x5_2 : List (List Int)) (x6_2 : Int), v6 = .int .i64 x6_2 ∧ Aside0 (geyserlaw05_ElimRanks.l0 kq x3_2 x5_2 x6_2 t416 t417 t420 = some r) ∧ Aside0 (kq ≤ kj3) ∧ Aside0 (Kd.R k74 74 w' w.heap.size (fun k_ => some k_ ≠ ((.slice Ao10 t420.length co10) : Value).ownBlock) v425 x3_2) ∧ Aside0 (Kd.S (Kd.slice 35 (Kd.int .u64)) 23 w' w.heap.size (fun k_ => some k_ ≠ ((.slice Ao10 t420.length co10) : Value).ownBlock) v5 x5_2) ∧ Aside0 (Kd.S (Kd.slice 5 (Kd.int .u8)) 36 w' w.heap.size (fun _ => True) (.slice Ao9 t417.length co9) t417) ∧ Aside0 (Kd.R (Kd.int .u64) 35 w' w.heap.size (fun _ => True) (.slice Ao10 t420.length co10) t420) ∧ Aside0 (w'.heap[gb415]? = some (.cells #[.int .i64 t416, (.slice Ao9 t417.length co9), (.slice Ao10 t420.length co10)] 25 (0, 0))) ∧ Aside0 (Below w.heap.size w w'))
    case atStart => exact ⟨(t423), (y429), (0), (by first | rfl | (simp; done) | (simp [*]; done)), H', ⟨Nat.le_refl _⟩, ⟨PR HO_3⟩, ⟨by (with_reducible repeat (first | apply Kd.S_alloc | apply Kd.S_drewN | apply Kd.S_drew)); exact Kd.S_mono HO431.out (fun _ hk => hk.2)⟩, ⟨PS HO_416001⟩, ⟨PR HO_416002⟩, ⟨PK BK415⟩, ⟨by repeat (first | (with_reducible first | exact HB.out | apply below_alloc | apply pw_below_drewN | apply below_drew1 | refine below_set ?_ GE415.out) | exact HB.out)⟩⟩
    case round =>
     clear H'
     try clear c1
     try clear p2
     try clear c4
     try clear c9
     try clear c10
     try clear c12
     try clear c12b0
     try clear c12b1
     try clear c12b2
     try clear c16
     try clear hcz6_0
     try clear hcz6_1
     try clear hcz6_2
     try clear hcz8_0
     try clear hcz8_1
     try clear hcz8_2
     try clear hfz6_0
     try clear hfz6_1
     try clear hfz6_2
     try clear hfz8_0
     try clear hfz8_1
     try clear hfz8_2
     try clear p2
     obtain ⟨x3_2, x5_2, x6_2, rfl, HA, HK2, HO_3, HO_5, HO_416001, HO_416002, BK415, HB⟩ := hrel
     cases gk with
     | zero => exact absurd HA.out (by simp [geyserlaw05_ElimRanks.l0])
     | succ k2 =>
      have H := HA.out
      clear HA
      simp only [geyserlaw05_ElimRanks.l0] at H
      by_cases c19 : x6_2 < (t420.length : Int)
      ·rw [if_pos c19] at H
       have c19b0 : decide (x6_2 < (t420.length : Int)) = true := decide_eq_true c19
       clear c19
       by_cases c20 : 0 ≤ x6_2
       ·rw [if_pos c20] at H
        have c20b0 : decide (0 ≤ x6_2) = true := decide_eq_true c20
        clear c20
        obtain ⟨y434, hy434⟩ : ∃ y_ : List Int, y_ = (([rd t420 x6_2] : List Int)) := ⟨_, rfl⟩
        replace H : (if x5_2.length < 5864062014805 then ((some (x5_2 ++ [y434] : List (List Int))).bind fun y437 => ((geyserlaw05_True_sym.f k2 t416 t417 t420 (rd t420 x6_2)).bind fun t445 => ((elim_System_Add.f k2 x3_2 (([rd t420 x6_2] : List Int)) t445).bind fun bt448 => ((elim_System_Rank.f bt448.2.2).bind fun t453 => ((geyserref03_Rank.f k2 y437 (t417.length : Int)).bind fun t454 => (if t453 = t454 then (geyserlaw05_ElimRanks.l0 k2 bt448.2.2 y437 (wrap64 (x6_2 + 1)) t416 t417 t420) else (some false))))))) else (none)) = some r := by first | (rw [hy434]; with_reducible exact H) | (have H2_ := (Option.bind_some _ _).symm.trans H; rw [hy434]; with_reducible exact H2_) | (have H2_ := (Option.bind_some _ _).symm.trans H; with_reducible exact H2_) | with_reducible exact H | (rw [hy434]; exact H) | exact H
        have Ny434 := AQ hy434
        clear hy434
        by_cases c21 : x5_2.length < 5864062014805
        ·rw [if_pos c21] at H
         have LMc21 := AQ c21
         clear c21
         obtain ⟨y437, hy437⟩ : ∃ y_ : List (List Int), y_ = (x5_2 ++ [y434]) := ⟨_, rfl⟩
         replace H : ((geyserlaw05_True_sym.f k2 t416 t417 t420 (rd t420 x6_2)).bind fun t445 => ((elim_System_Add.f k2 x3_2 (([rd t420 x6_2] : List Int)) t445).bind fun bt448 => ((elim_System_Rank.f bt448.2.2).bind fun t453 => ((geyserref03_Rank.f k2 y437 (t417.length : Int)).bind fun t454 => (if t453 = t454 then (geyserlaw05_ElimRanks.l0 k2 bt448.2.2 y437 (wrap64 (x6_2 + 1)) t416 t417 t420) else (some false)))))) = some r := by first | (rw [hy437]; with_reducible exact H) | (have H2_ := (Option.bind_some _ _).symm.trans H; rw [hy437]; with_reducible exact H2_) | (have H2_ := (Option.bind_some _ _).symm.trans H; with_reducible exact H2_) | with_reducible exact H | (rw [hy437]; exact H) | exact H
         have Ny437 := AQ hy437
         clear hy437
         obtain ⟨y441, hy441⟩ : ∃ y_ : List Int, y_ = (([rd t420 x6_2] : List Int)) := ⟨_, rfl⟩
         replace H : ((geyserlaw05_True_sym.f k2 t416 t417 t420 (rd t420 x6_2)).bind fun t445 => ((elim_System_Add.f k2 x3_2 y441 t445).bind fun bt448 => ((elim_System_Rank.f bt448.2.2).bind fun t453 => ((geyserref03_Rank.f k2 y437 (t417.length : Int)).bind fun t454 => (if t453 = t454 then (geyserlaw05_ElimRanks.l0 k2 bt448.2.2 y437 (wrap64 (x6_2 + 1)) t416 t417 t420) else (some false)))))) = some r := by first | (rw [hy441]; with_reducible exact H) | (have H2_ := (Option.bind_some _ _).symm.trans H; rw [hy441]; with_reducible exact H2_) | (have H2_ := (Option.bind_some _ _).symm.trans H; with_reducible exact H2_) | with_reducible exact H | (rw [hy441]; exact H) | exact H
         have Ny441 := AQ hy441
         clear hy441
         replace H := Option.bind_eq_some_iff.mp H
         obtain ⟨t445, A220, H⟩ := H
         replace H : ((elim_System_Add.f k2 x3_2 y441 t445).bind fun bt448 => ((elim_System_Rank.f bt448.2.2).bind fun t453 => ((geyserref03_Rank.f k2 y437 (t417.length : Int)).bind fun t454 => (if t453 = t454 then (geyserlaw05_ElimRanks.l0 k2 bt448.2.2 y437 (wrap64 (x6_2 + 1)) t416 t417 t420) else (some false))))) = some r := H
         have A22 := AQ A220
         clear A220
         replace H := Option.bind_eq_some_iff.mp H
         obtain ⟨⟨t448, t449, t452⟩, A230, H⟩ := H
         replace H : ((elim_System_Rank.f t452).bind fun t453 => ((geyserref03_Rank.f k2 y437 (t417.length : Int)).bind fun t454 => (if t453 = t454 then (geyserlaw05_ElimRanks.l0 k2 t452 y437 (wrap64 (x6_2 + 1)) t416 t417 t420) else (some false)))) = some r := H
         have A23 := AQ A230
         clear A230
         replace H := Option.bind_eq_some_iff.mp H
         obtain ⟨t453, A240, H⟩ := H
         replace H : ((geyserref03_Rank.f k2 y437 (t417.length : Int)).bind fun t454 => (if t453 = t454 then (geyserlaw05_ElimRanks.l0 k2 t452 y437 (wrap64 (x6_2 + 1)) t416 t417 t420) else (some false))) = some r := H
         have A24 := AQ A240
         clear A240
         replace H := Option.bind_eq_some_iff.mp H
         obtain ⟨t454, A250, H⟩ := H
         replace H : (if t453 = t454 then (geyserlaw05_ElimRanks.l0 k2 t452 y437 (wrap64 (x6_2 + 1)) t416 t417 t420) else (some false)) = some r := H
         have A25 := AQ A250
         clear A250
         by_cases c26 : t453 = t454
         ·rw [if_pos c26] at H
          have c26b0 : (t453 == t454) = true := beq_iff_eq.mpr c26
          have c26b1 : (t453 != t454) = false := bne_eq_false_iff_eq.mpr c26
          clear c26
          have H' := AQ H
          clear H
          have hcz27_0 : wr.cell? ⟨gb415, 0, none⟩ = some (.int .i64 t416) := (blk_cell BK415.out 0).trans rfl
          have hcz27_1 : wr.cell? ⟨gb415, 1, none⟩ = some (.slice Ao9 t417.length co9) := (blk_cell BK415.out 1).trans rfl
          have hcz27_2 : wr.cell? ⟨gb415, 2, none⟩ = some (.slice Ao10 t420.length co10) := (blk_cell BK415.out 2).trans rfl
          have hfz27_0 := blk_frozen BK415.out 0
          have hfz27_1 := blk_frozen BK415.out 1
          have hfz27_2 := blk_frozen BK415.out 2
          have p433 : 0 ≤ (x6_2 : Int) := of_decide_eq_true (by first | (with_reducible assumption) | assumption)
          have q433 : x6_2 < (t420.length : Int) := of_decide_eq_true (by first | (with_reducible assumption) | assumption)
          obtain ⟨ad433, e433, hx433_0⟩ := Kd.at_int (Kd.R_reads' HO_416002.out).2.2 x6_2 p433 q433
          cases e433
          replace p433 := eq_true p433
          replace q433 := eq_true q433
          try go_wp2_with (first | ((with_reducible refine gate_dst (N := 38) rfl ?_); refine Kd.R_lit (Kd.int .u64) _ 35 ?hg (N := 38) ?hd (xs := ([rd t420 x6_2] : List Int)) (inner := [.int .u64 (rd t420 x6_2)]) (ok := fun _ => True) (okp := fun _ => True) ?hr ?hp (fun _ hk => hk) trivial (Below.refl _ _) (Nat.le_refl _) (by simp) ?_; (case hd => rfl); (case hg => rfl); (case hr => first | (go_simp; done) | (go_simp; rfl)); (case hp => exact (Reps.one (show Kd.M (Kd.int .u64) _ _ _ (rd t420 x6_2) [.int .u64 (rd t420 x6_2)] from rfl) (Reps.none _ _))); intro v435 w28 ho29 hb hg_ hnew_; clear hg_ hnew_; (first | rw [← Ny434.out] at ho29 | (simp only [Int.reduceToNat] at ho29; rw [← Ny434.out] at ho29)); have n0_ := AQ (Kd.R_elder' (PR HO_3) (Kd.R_base ho29) hb); have n1_ := AQ (Kd.S_elder' (PS HO_5) (Kd.R_base ho29) hb); have n2_ := AQ (Kd.S_below (PS HO_416001) hb); have n3_ := AQ (Kd.R_elder' (PR HO_416002) (Kd.R_base ho29) hb); have n4_ := AQ (Kd.R_lower (Kd.R_new' ho29 (Kd.R_lt (PR HO_416002))) (below_size (by repeat (first | (with_reducible first | exact HB.out | apply below_alloc | apply pw_below_drewN | apply below_drew1 | refine below_set ?_ GE415.out) | exact HB.out)))); have n5_ := AQ (blk_below (g := gb415) (o := .cells #[.int .i64 t416, .slice Ao9 t417.length co9, .slice (some ad433) t420.length co10] 25 (0, 0)) (PK BK415) hb); have n6_ := AQ (below_step (by repeat (first | (with_reducible first | exact HB.out | apply below_alloc | apply pw_below_drewN | apply below_drew1 | refine below_set ?_ GE415.out) | exact HB.out)) hb); clear HO_3; clear HO_5; clear HO_416001; clear HO_416002; clear BK415; clear HB; have HO_3 := n0_; have HO_5 := n1_; have HO_416001 := n2_; have HO_416002 := n3_; have HO436 := n4_; have BK415 := n5_; have HB := n6_; clear n0_ n1_ n2_ n3_ n4_ n5_ n6_; clear hb ho29; obtain ⟨Ao31, co31, eo31⟩ := Kd.R_slice HO436.out; subst eo31) | ((with_reducible refine gate_builtin (b := .append) (xs := #[.tmp 32, .tmp 39]) rfl ?_); at_builtin; refine Kd.S_append (Kd.slice 35 (Kd.int .u64)) (w0 := w) w.heap.size rfl (.tmp 32) (.tmp 39) 43 23 (.slice none 0 0) 24 rfl Tryd.underlying43 info23 rfl (by decide) (by omega) u5 x5_2 y434 [.slice Ao31 y434.length co31] (fun k_ => some k_ ≠ (.slice (some ad433) t420.length co10 : Value).ownBlock) (fun k_ => some k_ = (.slice Ao31 y434.length co31 : Value).ownBlock) rfl rfl ?aP (fun k_ hk_ => ((Kd.R_mono (ok' := fun k_ => ((fun k_ => some k_ ≠ (.slice (some ad433) t420.length co10 : Value).ownBlock)) k_ ∧ some k_ ≠ (u5 : Value).ownBlock) (Kd.R_apart' (HO436.out) (Kd.S_typed HO_5.out) (by decide)) (fun k_ hk => ⟨hk.1.2, hk.2⟩))).1 k_ hk_.symm) ?aF ?aO ?aB ?aS ?aL ?_; (case aP => exact Kd.M_row (Kd.R_mono (Kd.R_tight rfl (Kd.R_mono (ok' := fun k_ => ((fun k_ => some k_ ≠ (.slice (some ad433) t420.length co10 : Value).ownBlock)) k_ ∧ some k_ ≠ (u5 : Value).ownBlock) (Kd.R_apart' (HO436.out) (Kd.S_typed HO_5.out) (by decide)) (fun k_ hk => ⟨hk.1.2, hk.2⟩))) (fun _ h_ => h_))); (case aB => exact (by repeat (first | (with_reducible first | exact HB.out | apply below_alloc | apply pw_below_drewN | apply below_drew1 | refine below_set ?_ GE415.out) | exact HB.out))); (case aF => exact (fun k_ hk => Kd.fresh' (Kd.R_lt (PR HO_416002)) k_ hk)); (case aO => exact (by (with_reducible repeat (first | apply Kd.S_alloc | apply Kd.S_drewN | apply Kd.S_drew)); exact Kd.S_mono HO_5.out (fun k_ hk => ⟨hk.1, fun e_ => hk.2 e_⟩))); (case aS => exact (below_size (by repeat (first | (with_reducible first | exact HB.out | apply below_alloc | apply pw_below_drewN | apply below_drew1 | refine below_set ?_ GE415.out) | exact HB.out)))); (case aL => have := LMc21.out; omega); intro v438 w30 ho hb hg hat; rw [← Ny437.out] at ho; have n0_ := AQ (Kd.R_over' (PR HO_3) (Kd.S_typed (PS HO_5)) (by decide) hg); have n1_ := AQ (Kd.S_over' (PS HO_416001) (Kd.S_typed (PS HO_5)) (by decide) hg); have n2_ := AQ (Kd.R_over' (PR HO_416002) (Kd.S_typed (PS HO_5)) (by decide) hg); have n3_ := AQ (blk_grown (g := gb415) (o := .cells #[.int .i64 t416, .slice Ao9 t417.length co9, .slice (some ad433) t420.length co10] 25 (0, 0)) (PK BK415) hg (Kd.S_ne HO_5.out BK415.out (by decide))); have n4_ := AQ (hb); have n5_ := AQ (ho); clear HO_3; clear HO_416001; clear HO_416002; clear BK415; clear HB; clear HO_5; clear HO436; have HO_3 := n0_; have HO_416001 := n1_; have HO_416002 := n2_; have BK415 := n3_; have HB := n4_; have HO439 := n5_; clear n0_ n1_ n2_ n3_ n4_ n5_; clear ho hb hg hat; obtain ⟨Ao32, co32, eo32⟩ := Kd.R_slice HO_3.out; subst eo32))
          have n0_ := AQ (Kd.R_drew HO_3.out)
          have n1_ := AQ (Kd.S_drew HO_416001.out)
          have n2_ := AQ (Kd.R_drew HO_416002.out)
          have n3_ := AQ (Kd.S_drew HO439.out)
          have n4_ := AQ (blk_drew BK415.out)
          have n5_ := AQ (below_drew1 HB.out)
          clear HO_3
          clear HO_416001
          clear HO_416002
          clear HO439
          clear BK415
          clear HB
          have HO_3 := n0_
          have HO_416001 := n1_
          have HO_416002 := n2_
          have HO439 := n3_
          have BK415 := n4_
          have HB := n5_
          clear n0_ n1_ n2_ n3_ n4_ n5_
          have p440 : 0 ≤ (x6_2 : Int) := of_decide_eq_true (by first | (with_reducible assumption) | assumption)
          have q440 : x6_2 < (t420.length : Int) := of_decide_eq_true (by first | (with_reducible assumption) | assumption)
          obtain ⟨ad440, e440, hx440_0⟩ := Kd.at_int (Kd.R_reads' HO_416002.out).2.2 x6_2 p440 q440
          obtain rfl : ad433 = ad440 := (by injection e440)
          replace p440 := eq_true p440
          replace q440 := eq_true q440
          have p444 : 0 ≤ (x6_2 : Int) := of_decide_eq_true (by first | (with_reducible assumption) | assumption)
          have q444 : x6_2 < (t420.length : Int) := of_decide_eq_true (by first | (with_reducible assumption) | assumption)
          obtain ⟨ad444, e444, hx444_0⟩ := Kd.at_int (Kd.R_reads' HO_416002.out).2.2 x6_2 p444 q444
          obtain rfl : ad433 = ad444 := (by injection e444)
          replace p444 := eq_true p444
          replace q444 := eq_true q444
          refine start_ (n := 15) (S := fun w' => w'.cell? ⟨gb415, 0, none⟩ = some (.int .i64 t416) ∧ w'.cell? ⟨gb415, 1, none⟩ = some (.slice Ao9 t417.length co9) ∧ w'.cell? ⟨gb415, 2, none⟩ = some (.slice (some ad433) t420.length co10) ∧ w'.cell? (ad433.add (x6_2).toNat) = some (.int .u64 (rd t420 x6_2)) ∧ w'.cell? (ad433.add (x6_2).toNat) = some (.int .u64 (rd t420 x6_2))) (ds := [14]) #[false, false, false, false, false, false, false, false, false, false, false, false, false, false, false] (by kernel_rfl) rfl rfl ⟨(blk_cell BK415.out 0).trans rfl, (blk_cell BK415.out 1).trans rfl, (blk_cell BK415.out 2).trans rfl, hx440_0, hx444_0⟩ (fun hHeld => ?_); refine with_tabW geyserlaw05_ElimRanks.tab10 geyserlaw05_ElimRanks.bits10 (fun HT_ HW_ => ?_)
          generalize w30.drew = w33 at HO_3 HO_416001 HO_416002 HO439 BK415 HB hx440_0 hx444_0 hHeld ⊢
          refine pure_ (i := 0) (N := some 41) (v := ?_) (a' := ?_) #[true, false, false, false, false, false, false, false, false, false, false, false, false, false, false] rfl rfl (any_of HT_.out (by kernel_rfl)) (fun _ _ _ h => h) (Or.inl ⟨by rfl, ?_⟩) ?_ ?_
          rotate_left
          ·intro w'
           go_simp
           with_reducible rfl
          rotate_left
          ·simp only [Act.put, qT, qZ, qS, i64_w, i32_w]
           rfl
          refine pure_ (i := 1) (N := some 42) (v := ?_) (a' := ?_) #[true, true, false, false, false, false, false, false, false, false, false, false, false, false, false] rfl rfl (any_of HT_.out (by kernel_rfl)) (fun _ _ _ h => h) (Or.inl ⟨by rfl, ?_⟩) ?_ ?_
          rotate_left
          ·intro w'
           go_simp
           with_reducible rfl
          rotate_left
          ·simp only [Act.put, qT, qZ, qS, i64_w, i32_w]
           rfl
          refine pure_ (i := 3) (N := some 44) (v := ?_) (a' := ?_) #[true, true, false, true, false, false, false, false, false, false, false, false, false, false, false] rfl rfl (any_of HT_.out (by kernel_rfl)) (fun _ _ _ h => h) (Or.inl ⟨by rfl, ?_⟩) ?_ ?_
          rotate_left
          ·intro w'
           go_simp
           with_reducible rfl
          rotate_left
          ·simp only [Act.put, qT, qZ, qS, i64_w, i32_w]
           rfl
          refine pure_ (i := 8) (N := some 49) (v := ?_) (a' := ?_) #[true, true, false, true, false, false, false, false, true, false, false, false, false, false, false] rfl rfl (any_of HT_.out (by kernel_rfl)) (fun _ _ _ h => h) (Or.inl ⟨by rfl, ?_⟩) ?_ ?_
          rotate_left
          ·intro w'
           go_simp
           with_reducible rfl
          rotate_left
          ·simp only [Act.put, qT, qZ, qS, i64_w, i32_w]
           rfl
          refine pure_ (i := 10) (N := some 51) (v := ?_) (a' := ?_) #[true, true, false, true, false, false, false, false, true, false, true, false, false, false, false] rfl rfl (any_of HT_.out (by kernel_rfl)) (fun _ _ _ h => h) (Or.inl ⟨by rfl, ?_⟩) ?_ ?_
          rotate_left
          ·intro w'
           go_simp
           with_reducible rfl
          rotate_left
          ·simp only [Act.put, qT, qZ, qS, i64_w, i32_w]
           rfl
          refine take_ (i := 2) (N := some 43) (v := ?_) (a' := ?_) #[true, true, true, true, false, false, false, false, true, false, true, false, false, false, false] rfl rfl (take_ofW HT_.out HW_.out (by kernel_rfl)) (fun _ _ _ h => h) (Or.inl ⟨by rfl, ?_⟩) hHeld ?_ ?_
          rotate_left
          ·rintro w' ⟨s0, s1, s2, s3, s4⟩
           go_simp
           with_reducible rfl
          rotate_left
          ·simp only [Act.put, qT, qZ, qS, i64_w, i32_w]
           rfl
          refine pure_ (i := 4) (N := some 45) (v := ?_) (a' := ?_) #[true, true, true, true, true, false, false, false, true, false, true, false, false, false, false] rfl rfl (any_of HT_.out (by kernel_rfl)) (fun _ _ _ h => h) (Or.inl ⟨by rfl, ?_⟩) ?_ ?_
          rotate_left
          ·intro w'
           go_simp
           with_reducible rfl
          rotate_left
          ·simp only [Act.put, qT, qZ, qS, i64_w, i32_w]
           rfl
          refine take_ (i := 5) (N := some 46) (v := ?_) (a' := ?_) #[true, true, true, true, true, true, false, false, true, false, true, false, false, false, false] rfl rfl (take_ofW HT_.out HW_.out (by kernel_rfl)) (fun _ _ _ h => h) (Or.inl ⟨by rfl, ?_⟩) hHeld ?_ ?_
          rotate_left
          ·rintro w' ⟨s0, s1, s2, s3, s4⟩
           go_simp
           with_reducible rfl
          rotate_left
          ·simp only [Act.put, qT, qZ, qS, i64_w, i32_w]
           rfl
          refine take_ (i := 7) (N := some 48) (v := ?_) (a' := ?_) #[true, true, true, true, true, true, false, true, true, false, true, false, false, false, false] rfl rfl (take_ofW HT_.out HW_.out (by kernel_rfl)) (fun _ _ _ h => h) (Or.inl ⟨by rfl, ?_⟩) hHeld ?_ ?_
          rotate_left
          ·rintro w' ⟨s0, s1, s2, s3, s4⟩
           go_simp
           with_reducible rfl
          rotate_left
          ·simp only [Act.put, qT, qZ, qS, i64_w, i32_w]
           rfl
          refine take_ (i := 9) (N := some 50) (v := ?_) (a' := ?_) #[true, true, true, true, true, true, false, true, true, true, true, false, false, false, false] rfl rfl (take_ofW HT_.out HW_.out (by kernel_rfl)) (fun _ _ _ h => h) (Or.inl ⟨by rfl, ?_⟩) hHeld ?_ ?_
          rotate_left
          ·rintro w' ⟨s0, s1, s2, s3, s4⟩
           go_simp
           with_reducible rfl
          rotate_left
          ·simp only [Act.put, qT, qZ, qS, i64_w, i32_w]
           rfl
          refine pure_ (i := 11) (N := some 52) (v := ?_) (a' := ?_) #[true, true, true, true, true, true, false, true, true, true, true, true, false, false, false] rfl rfl (any_of HT_.out (by kernel_rfl)) (fun _ _ _ h => h) (Or.inl ⟨by rfl, ?_⟩) ?_ ?_
          rotate_left
          ·intro w'
           go_simp
           with_reducible rfl
          rotate_left
          ·simp only [Act.put, qT, qZ, qS, i64_w, i32_w]
           rfl
          refine take_ (i := 12) (N := some 53) (v := ?_) (a' := ?_) #[true, true, true, true, true, true, false, true, true, true, true, true, true, false, false] rfl rfl (take_ofW HT_.out HW_.out (by kernel_rfl)) (fun _ _ _ h => h) (Or.inl ⟨by rfl, ?_⟩) hHeld ?_ ?_
          rotate_left
          ·rintro w' ⟨s0, s1, s2, s3, s4⟩
           go_simp
           with_reducible rfl
          rotate_left
          ·simp only [Act.put, qT, qZ, qS, i64_w, i32_w]
           rfl
          refine join_ (σ := Value × Value) 1 #[true, true, true, true, true, true, true, true, true, true, true, true, true, true, false] (fun s_ => [(47, s_.1), (54, s_.2)]) (fun s_ w' => (w'.cell? ⟨gb415, 0, none⟩ = some (.int .i64 t416) ∧ w'.cell? ⟨gb415, 1, none⟩ = some (.slice Ao9 t417.length co9) ∧ w'.cell? ⟨gb415, 2, none⟩ = some (.slice (some ad433) t420.length co10) ∧ w'.cell? (ad433.add (x6_2).toNat) = some (.int .u64 (rd t420 x6_2)) ∧ w'.cell? (ad433.add (x6_2).toNat) = some (.int .u64 (rd t420 x6_2))) ∧ (Kd.S (Kd.slice 35 (Kd.int .u64)) 23 w' w.heap.size (fun k_ => some k_ ≠ (s_.1 : Value).ownBlock ∧ some k_ ≠ (.slice (some ad433) t420.length co10 : Value).ownBlock) v438 y437) ∧ (Kd.R (Kd.int .u64) 35 w' w.heap.size (fun k_ => some k_ ≠ (.slice (some ad433) t420.length co10 : Value).ownBlock) s_.1 y441) ∧ (Kd.R (Kd.int .u8) 5 w' w.heap.size (fun _ => True) s_.2 t445) ∧ (Kd.R k74 74 w' w.heap.size (fun k_ => some k_ ≠ (s_.1 : Value).ownBlock ∧ some k_ ≠ (s_.2 : Value).ownBlock ∧ some k_ ≠ (.slice (some ad433) t420.length co10 : Value).ownBlock) (.slice Ao32 x3_2.length co32) x3_2) ∧ (Kd.S (Kd.slice 5 (Kd.int .u8)) 36 w' w.heap.size (fun k_ => some k_ ≠ (s_.2 : Value).ownBlock) (.slice Ao9 t417.length co9) t417) ∧ (Kd.R (Kd.int .u64) 35 w' w.heap.size (fun k_ => some k_ ≠ (s_.1 : Value).ownBlock) (.slice (some ad433) t420.length co10) t420) ∧ (w'.heap[gb415]? = some (.cells #[.int .i64 t416, .slice Ao9 t417.length co9, .slice (some ad433) t420.length co10] 25 (0, 0))) ∧ (Below w.heap.size w w')) ?_ ?_
          rotate_left
          ·intro hCont
           refine two_ (i := 6) (j := 13) (Ni := some 47) (Nj := some 54) #[true, true, true, true, true, true, true, true, true, true, true, true, true, false, false] #[true, true, true, true, true, true, false, true, true, true, true, true, true, true, false] rfl rfl rfl rfl (two_of HT_.out (by kernel_rfl)) (by decide) (by decide) (fun K hK => ?_) (fun K hK => ?_)
           ·skip
            refine Kd.R_lit_step (Kd.int .u64) _ 35 ?hg (N := 47) ?hd (xs := ([rd t420 x6_2] : List Int)) (inner := [.int .u64 (rd t420 x6_2)]) (ok := fun _ => True) (okp := fun _ => True) ?hr ?hp (fun _ hk => hk) trivial (Below.refl _ _) (Nat.le_refl _) (by simp) ?_; (case hd => rfl); (case hg => rfl); (case hr => first | (go_simp; done) | (go_simp; rfl)); (case hp => exact (Reps.one (show Kd.M (Kd.int .u64) _ _ _ (rd t420 x6_2) [.int .u64 (rd t420 x6_2)] from rfl) (Reps.none _ _)))
            intro v442 w34 ho35 hb hg_ hnew_
            have HS3_ := (hb.cell (World.block_lt_of_cell? _ _ (hHeld.2.2.2.1))).trans (hHeld.2.2.2.1)
            have HS4_ := (hb.cell (World.block_lt_of_cell? _ _ (hHeld.2.2.2.2))).trans (hHeld.2.2.2.2)
            clear hg_ hnew_
            (first | rw [← Ny441.out] at ho35 | (simp only [Int.reduceToNat] at ho35; rw [← Ny441.out] at ho35))
            have n0_ := AQ (Kd.R_elder' (PR HO_3) (Kd.R_base ho35) hb)
            have n1_ := AQ (Kd.S_below (PS HO_416001) hb)
            have n2_ := AQ (Kd.R_elder' (PR HO_416002) (Kd.R_base ho35) hb)
            have n3_ := AQ (Kd.S_elder' (PS HO439) (Kd.R_base ho35) hb)
            have n4_ := AQ (Kd.R_lower (Kd.R_new' ho35 (Kd.R_lt (PR HO_416002))) (below_size (by repeat (first | (with_reducible first | exact HB.out | apply below_alloc | apply pw_below_drewN | apply below_drew1 | refine below_set ?_ GE415.out) | exact HB.out))))
            have n5_ := AQ (blk_below (g := gb415) (o := .cells #[.int .i64 t416, .slice Ao9 t417.length co9, .slice (some ad433) t420.length co10] 25 (0, 0)) (PK BK415) hb)
            have n6_ := AQ (below_step (by repeat (first | (with_reducible first | exact HB.out | apply below_alloc | apply pw_below_drewN | apply below_drew1 | refine below_set ?_ GE415.out) | exact HB.out)) hb)
            clear HO_3
            clear HO_416001
            clear HO_416002
            clear HO439
            clear BK415
            clear HB
            have HO_3 := n0_
            have HO_416001 := n1_
            have HO_416002 := n2_
            have HO439 := n3_
            have HO443 := n4_
            have BK415 := n5_
            have HB := n6_
            clear n0_ n1_ n2_ n3_ n4_ n5_ n6_
            clear hb ho35
            refine hK.out _ _ ⟨(blk_cell BK415.out 0).trans rfl, (blk_cell BK415.out 1).trans rfl, (blk_cell BK415.out 2).trans rfl, HS3_, HS4_⟩ (fun hHeld => ?_)
            clear hK K
            refine norm_ (a' := ?_) ?_ ?_
            rotate_left
            ·show Act.put _ (some 47) _ = _
             simp only [Act.put, qT, qZ, qS, i64_w, i32_w]
             rfl
            refine one_ (i := 13) (N := some 54) #[true, true, true, true, true, true, true, true, true, true, true, true, true, true, false] rfl rfl (one_of HT_.out (by kernel_rfl)) (by decide) (fun K hK => ?_)
            refine goes_ Tryd.func12 (by kernel_rfl) rfl #[.agg #[.int .i64 t416, .slice Ao9 t417.length co9, .slice (some ad433) t420.length co10], .int .u64 (rd t420 x6_2)] (by rfl) rfl rfl (by (try simp only [List.map_toArray, List.map_cons, List.map_nil]); first | done | rfl | (simp only [List.length_drop, List.length_take]; rfl)) ?_
            with_reducible refine (geyserlaw05_True_sym.calls k2 t416 _ _ t417 _ _ t420 (rd t420 x6_2) t445 _ ?side1 ?side2 ?side3 ?side4 A22.out).mono ?_
            (case side1 => repeat (first | exact (Kd.S_reads' HO_416001.out).2.2 | (with_reducible refine Kd.C_alloc ?_ _) | (with_reducible refine Kd.C_drewN ?_ _) | (with_reducible refine Kd.C_drew ?_)))
            (case side2 => exact (Kd.S_reads' HO_416001.out).2.1)
            (case side3 => exact QC HO_416002)
            (case side4 => exact (Kd.R_reads' HO_416002.out).2.1)
            rintro e w36 ⟨v446, rfl, ho0, hb⟩
            have HS3_ := (hb.cell (World.block_lt_of_cell? _ _ (hHeld.2.2.2.1))).trans (hHeld.2.2.2.1)
            have HS4_ := (hb.cell (World.block_lt_of_cell? _ _ (hHeld.2.2.2.2))).trans (hHeld.2.2.2.2)
            refine ⟨_, rfl, ?_⟩
            have n0_ := AQ (Kd.R_elder' (PR HO_3) (Kd.R_base ho0) hb)
            have n1_ := AQ (Kd.S_elder' (PS HO_416001) (Kd.R_base ho0) hb)
            have n2_ := AQ (Kd.R_below (PR HO_416002) hb)
            have n3_ := AQ (Kd.S_below (PS HO439) hb)
            have n4_ := AQ (Kd.R_below (PR HO443) hb)
            have n5_ := AQ (Kd.R_lower ho0 (below_size (by repeat (first | (with_reducible first | exact HB.out | apply below_alloc | apply pw_below_drewN | apply below_drew1 | refine below_set ?_ GE415.out) | exact HB.out))))
            have n6_ := AQ (blk_below (g := gb415) (o := .cells #[.int .i64 t416, .slice Ao9 t417.length co9, .slice (some ad433) t420.length co10] 25 (0, 0)) (PK BK415) hb)
            have n7_ := AQ (below_step (by repeat (first | (with_reducible first | exact HB.out | apply below_alloc | apply pw_below_drewN | apply below_drew1 | refine below_set ?_ GE415.out) | exact HB.out)) hb)
            clear HO_3
            clear HO_416001
            clear HO_416002
            clear HO439
            clear HO443
            clear BK415
            clear HB
            have HO_3 := n0_
            have HO_416001 := n1_
            have HO_416002 := n2_
            have HO439 := n3_
            have HO443 := n4_
            have HO447 := n5_
            have BK415 := n6_
            have HB := n7_
            clear n0_ n1_ n2_ n3_ n4_ n5_ n6_ n7_
            (try clear hb)
            (try clear hb2)
            (try clear hk)
            (try clear hi)
            (try clear ho0)
            refine hK.out _ _ ⟨(blk_cell BK415.out 0).trans rfl, (blk_cell BK415.out 1).trans rfl, (blk_cell BK415.out 2).trans rfl, HS3_, HS4_⟩ (fun hHeld => ?_)
            clear hK K
            refine norm_ (a' := ?_) ?_ ?_
            rotate_left
            ·show Act.put _ (some 54) _ = _
             simp only [Act.put, qT, qZ, qS, i64_w, i32_w]
             rfl
            exact norm_ (by simp only [putAll, Act.put, List.setIfInBounds_toArray, List.set_cons_zero, List.set_cons_succ]) (hCont (v442, v446) _ ⟨hHeld, (by (with_reducible repeat (first | apply Kd.S_alloc | apply Kd.S_drewN | apply Kd.S_drew)); exact Kd.S_mono HO439.out (fun _ hk => ⟨hk.2, hk.1⟩)), (by (with_reducible repeat (first | apply Kd.R_alloc | apply Kd.R_drewN | apply Kd.R_drew)); exact Kd.R_mono HO443.out (fun _ hk => hk.2)), (PR HO447), (by (with_reducible repeat (first | apply Kd.R_alloc | apply Kd.R_drewN | apply Kd.R_drew)); exact Kd.R_mono HO_3.out (fun _ hk => ⟨hk.1.2, ⟨hk.2, hk.1.1.1⟩⟩)), (by (with_reducible repeat (first | apply Kd.S_alloc | apply Kd.S_drewN | apply Kd.S_drew)); exact Kd.S_mono HO_416001.out (fun _ hk => hk.2)), (by (with_reducible repeat (first | apply Kd.R_alloc | apply Kd.R_drewN | apply Kd.R_drew)); exact Kd.R_mono HO_416002.out (fun _ hk => hk.2)), (PK BK415), (by repeat (first | (with_reducible first | exact HB.out | apply below_alloc | apply pw_below_drewN | apply below_drew1 | refine below_set ?_ GE415.out) | exact HB.out))⟩)
           ·skip
            refine goes_ Tryd.func12 (by kernel_rfl) rfl #[.agg #[.int .i64 t416, .slice Ao9 t417.length co9, .slice (some ad433) t420.length co10], .int .u64 (rd t420 x6_2)] (by rfl) rfl rfl (by (try simp only [List.map_toArray, List.map_cons, List.map_nil]); first | done | rfl | (simp only [List.length_drop, List.length_take]; rfl)) ?_
            with_reducible refine (geyserlaw05_True_sym.calls k2 t416 _ _ t417 _ _ t420 (rd t420 x6_2) t445 _ ?side1 ?side2 ?side3 ?side4 A22.out).mono ?_
            (case side1 => repeat (first | exact (Kd.S_reads' HO_416001.out).2.2 | (with_reducible refine Kd.C_alloc ?_ _) | (with_reducible refine Kd.C_drewN ?_ _) | (with_reducible refine Kd.C_drew ?_)))
            (case side2 => exact (Kd.S_reads' HO_416001.out).2.1)
            (case side3 => exact QC HO_416002)
            (case side4 => exact (Kd.R_reads' HO_416002.out).2.1)
            rintro e w34 ⟨v446, rfl, ho0, hb⟩
            have HS3_ := (hb.cell (World.block_lt_of_cell? _ _ (hHeld.2.2.2.1))).trans (hHeld.2.2.2.1)
            have HS4_ := (hb.cell (World.block_lt_of_cell? _ _ (hHeld.2.2.2.2))).trans (hHeld.2.2.2.2)
            refine ⟨_, rfl, ?_⟩
            have n0_ := AQ (Kd.R_elder' (PR HO_3) (Kd.R_base ho0) hb)
            have n1_ := AQ (Kd.S_elder' (PS HO_416001) (Kd.R_base ho0) hb)
            have n2_ := AQ (Kd.R_below (PR HO_416002) hb)
            have n3_ := AQ (Kd.S_below (PS HO439) hb)
            have n4_ := AQ (Kd.R_lower ho0 (below_size (by repeat (first | (with_reducible first | exact HB.out | apply below_alloc | apply pw_below_drewN | apply below_drew1 | refine below_set ?_ GE415.out) | exact HB.out))))
            have n5_ := AQ (blk_below (g := gb415) (o := .cells #[.int .i64 t416, .slice Ao9 t417.length co9, .slice (some ad433) t420.length co10] 25 (0, 0)) (PK BK415) hb)
            have n6_ := AQ (below_step (by repeat (first | (with_reducible first | exact HB.out | apply below_alloc | apply pw_below_drewN | apply below_drew1 | refine below_set ?_ GE415.out) | exact HB.out)) hb)
            clear HO_3
            clear HO_416001
            clear HO_416002
            clear HO439
            clear BK415
            clear HB
            have HO_3 := n0_
            have HO_416001 := n1_
            have HO_416002 := n2_
            have HO439 := n3_
            have HO447 := n4_
            have BK415 := n5_
            have HB := n6_
            clear n0_ n1_ n2_ n3_ n4_ n5_ n6_
            (try clear hb)
            (try clear hb2)
            (try clear hk)
            (try clear hi)
            (try clear ho0)
            refine hK.out _ _ ⟨(blk_cell BK415.out 0).trans rfl, (blk_cell BK415.out 1).trans rfl, (blk_cell BK415.out 2).trans rfl, HS3_, HS4_⟩ (fun hHeld => ?_)
            clear hK K
            refine norm_ (a' := ?_) ?_ ?_
            rotate_left
            ·show Act.put _ (some 54) _ = _
             simp only [Act.put, qT, qZ, qS, i64_w, i32_w]
             rfl
            refine one_ (i := 6) (N := some 47) #[true, true, true, true, true, true, true, true, true, true, true, true, true, true, false] rfl rfl (one_of HT_.out (by kernel_rfl)) (by decide) (fun K hK => ?_)
            refine Kd.R_lit_step (Kd.int .u64) _ 35 ?hg (N := 47) ?hd (xs := ([rd t420 x6_2] : List Int)) (inner := [.int .u64 (rd t420 x6_2)]) (ok := fun _ => True) (okp := fun _ => True) ?hr ?hp (fun _ hk => hk) trivial (Below.refl _ _) (Nat.le_refl _) (by simp) ?_; (case hd => rfl); (case hg => rfl); (case hr => first | (go_simp; done) | (go_simp; rfl)); (case hp => exact (Reps.one (show Kd.M (Kd.int .u64) _ _ _ (rd t420 x6_2) [.int .u64 (rd t420 x6_2)] from rfl) (Reps.none _ _)))
            intro v442 w35 ho36 hb hg_ hnew_
            have HS3_ := (hb.cell (World.block_lt_of_cell? _ _ (hHeld.2.2.2.1))).trans (hHeld.2.2.2.1)
            have HS4_ := (hb.cell (World.block_lt_of_cell? _ _ (hHeld.2.2.2.2))).trans (hHeld.2.2.2.2)
            clear hg_ hnew_
            (first | rw [← Ny441.out] at ho36 | (simp only [Int.reduceToNat] at ho36; rw [← Ny441.out] at ho36))
            have n0_ := AQ (Kd.R_elder' (PR HO_3) (Kd.R_base ho36) hb)
            have n1_ := AQ (Kd.S_below (PS HO_416001) hb)
            have n2_ := AQ (Kd.R_elder' (PR HO_416002) (Kd.R_base ho36) hb)
            have n3_ := AQ (Kd.S_elder' (PS HO439) (Kd.R_base ho36) hb)
            have n4_ := AQ (Kd.R_below (PR HO447) hb)
            have n5_ := AQ (Kd.R_lower (Kd.R_new' ho36 (Kd.R_lt (PR HO_416002))) (below_size (by repeat (first | (with_reducible first | exact HB.out | apply below_alloc | apply pw_below_drewN | apply below_drew1 | refine below_set ?_ GE415.out) | exact HB.out))))
            have n6_ := AQ (blk_below (g := gb415) (o := .cells #[.int .i64 t416, .slice Ao9 t417.length co9, .slice (some ad433) t420.length co10] 25 (0, 0)) (PK BK415) hb)
            have n7_ := AQ (below_step (by repeat (first | (with_reducible first | exact HB.out | apply below_alloc | apply pw_below_drewN | apply below_drew1 | refine below_set ?_ GE415.out) | exact HB.out)) hb)
            clear HO_3
            clear HO_416001
            clear HO_416002
            clear HO439
            clear HO447
            clear BK415
            clear HB
            have HO_3 := n0_
            have HO_416001 := n1_
            have HO_416002 := n2_
            have HO439 := n3_
            have HO447 := n4_
            have HO443 := n5_
            have BK415 := n6_
            have HB := n7_
            clear n0_ n1_ n2_ n3_ n4_ n5_ n6_ n7_
            clear hb ho36
            refine hK.out _ _ ⟨(blk_cell BK415.out 0).trans rfl, (blk_cell BK415.out 1).trans rfl, (blk_cell BK415.out 2).trans rfl, HS3_, HS4_⟩ (fun hHeld => ?_)
            clear hK K
            refine norm_ (a' := ?_) ?_ ?_
            rotate_left
            ·show Act.put _ (some 47) _ = _
             simp only [Act.put, qT, qZ, qS, i64_w, i32_w]
             rfl
            exact norm_ (by simp only [putAll, Act.put, List.setIfInBounds_toArray, List.set_cons_zero, List.set_cons_succ]) (hCont (v442, v446) _ ⟨hHeld, (by (with_reducible repeat (first | apply Kd.S_alloc | apply Kd.S_drewN | apply Kd.S_drew)); exact Kd.S_mono HO439.out (fun _ hk => ⟨hk.2, hk.1⟩)), (by (with_reducible repeat (first | apply Kd.R_alloc | apply Kd.R_drewN | apply Kd.R_drew)); exact Kd.R_mono HO443.out (fun _ hk => hk.2)), (PR HO447), (by (with_reducible repeat (first | apply Kd.R_alloc | apply Kd.R_drewN | apply Kd.R_drew)); exact Kd.R_mono HO_3.out (fun _ hk => ⟨hk.2, ⟨hk.1.2, hk.1.1.1⟩⟩)), (by (with_reducible repeat (first | apply Kd.S_alloc | apply Kd.S_drewN | apply Kd.S_drew)); exact Kd.S_mono HO_416001.out (fun _ hk => hk.2)), (by (with_reducible repeat (first | apply Kd.R_alloc | apply Kd.R_drewN | apply Kd.R_drew)); exact Kd.R_mono HO_416002.out (fun _ hk => hk.2)), (PK BK415), (by repeat (first | (with_reducible first | exact HB.out | apply below_alloc | apply pw_below_drewN | apply below_drew1 | refine below_set ?_ GE415.out) | exact HB.out))⟩)
          rintro ⟨v442, v446⟩ w37 ⟨hS_, h0_, h1_, h2_, h3_, h4_, h5_, h6_, h7_⟩
          have n0_ : Aside0 (Kd.S (Kd.slice 35 (Kd.int .u64)) 23 w37 w.heap.size (fun k_ => some k_ ≠ (v442 : Value).ownBlock ∧ some k_ ≠ (.slice (some ad433) t420.length co10 : Value).ownBlock) v438 y437) := ⟨h0_⟩
          have n1_ : Aside0 (Kd.R (Kd.int .u64) 35 w37 w.heap.size (fun k_ => some k_ ≠ (.slice (some ad433) t420.length co10 : Value).ownBlock) v442 y441) := ⟨h1_⟩
          have n2_ : Aside0 (Kd.R (Kd.int .u8) 5 w37 w.heap.size (fun _ => True) v446 t445) := ⟨h2_⟩
          have n3_ : Aside0 (Kd.R k74 74 w37 w.heap.size (fun k_ => some k_ ≠ (v442 : Value).ownBlock ∧ some k_ ≠ (v446 : Value).ownBlock ∧ some k_ ≠ (.slice (some ad433) t420.length co10 : Value).ownBlock) (.slice Ao32 x3_2.length co32) x3_2) := ⟨h3_⟩
          have n4_ : Aside0 (Kd.S (Kd.slice 5 (Kd.int .u8)) 36 w37 w.heap.size (fun k_ => some k_ ≠ (v446 : Value).ownBlock) (.slice Ao9 t417.length co9) t417) := ⟨h4_⟩
          have n5_ : Aside0 (Kd.R (Kd.int .u64) 35 w37 w.heap.size (fun k_ => some k_ ≠ (v442 : Value).ownBlock) (.slice (some ad433) t420.length co10) t420) := ⟨h5_⟩
          have n6_ : Aside0 (w37.heap[gb415]? = some (.cells #[.int .i64 t416, .slice Ao9 t417.length co9, .slice (some ad433) t420.length co10] 25 (0, 0))) := ⟨h6_⟩
          have n7_ : Aside0 (Below w.heap.size w w37) := ⟨h7_⟩
          clear HO_3
          clear HO_416001
          clear HO_416002
          clear HO439
          clear BK415
          clear HB
          clear h0_ h1_ h2_ h3_ h4_ h5_ h6_ h7_
          have HO439 := n0_
          have HO443 := n1_
          have HO447 := n2_
          have HO_3 := n3_
          have HO_416001 := n4_
          have HO_416002 := n5_
          have BK415 := n6_
          have HB := n7_
          clear n0_ n1_ n2_ n3_ n4_ n5_ n6_ n7_
          have hHeld : w37.cell? ⟨gb415, 0, none⟩ = some (.int .i64 t416) ∧ w37.cell? ⟨gb415, 1, none⟩ = some (.slice Ao9 t417.length co9) ∧ w37.cell? ⟨gb415, 2, none⟩ = some (.slice (some ad433) t420.length co10) ∧ w37.cell? (ad433.add (x6_2).toNat) = some (.int .u64 (rd t420 x6_2)) ∧ w37.cell? (ad433.add (x6_2).toNat) = some (.int .u64 (rd t420 x6_2)) := hS_
          obtain ⟨Ao38, co38, eo38⟩ := Kd.R_slice HO443.out
          (first | subst eo38 | (injection eo38 with f1_ f2_ f3_; have f4_ := f1_.symm; have f5_ := f3_.symm; clear f1_ f2_ f3_; subst f4_; subst f5_))
          obtain ⟨Ao39, co39, eo39⟩ := Kd.R_slice HO447.out
          (first | subst eo39 | (injection eo39 with f1_ f2_ f3_; have f4_ := f1_.symm; have f5_ := f3_.symm; clear f1_ f2_ f3_; subst f4_; subst f5_))
          refine norm_ (a' := ?_) ?_ ?_
          rotate_left
          ·simp only [putAll, Act.put, List.setIfInBounds_toArray, List.set_cons_zero, List.set_cons_succ]
           rfl
          refine last_ (i := 14) (N := some 55) #[true, true, true, true, true, true, true, true, true, true, true, true, true, true, true] rfl rfl (one_of HT_.out (by kernel_rfl)) (by decide) (fun K hK => ?_)
          refine goes_ Tryd.func11 (by kernel_rfl) rfl #[ptrOf (.slice Ao32 x3_2.length co32), .slice Ao38 y441.length co38, .slice Ao39 t445.length co39] (by rfl) rfl rfl (by (try simp only [List.map_toArray, List.map_cons, List.map_nil]); first | done | rfl | (simp only [List.length_drop, List.length_take]; rfl)) ?_
          with_reducible refine (elim_System_Add.calls k2 (fun k_ => (some k_ ≠ (.slice Ao38 y441.length co38 : Value).ownBlock ∧ (some k_ ≠ (.slice Ao39 t445.length co39 : Value).ownBlock ∧ some k_ ≠ (.slice (some ad433) t420.length co10 : Value).ownBlock))) (.slice Ao32 x3_2.length co32) x3_2 _ _ y441 _ _ t445 t448 t449 t452 w _ ?side1 ?side2 ?side3 ?side4 ?side5 ?side6 ?side7 A23.out).mono ?_
          (case side1 => first | exact HT.out | exact TabIn.below HT.out (by repeat (first | (with_reducible first | exact HB.out | apply below_alloc | apply pw_below_drewN | apply below_drew1 | refine below_set ?_ GE415.out) | exact HB.out)) | (repeat (first | apply TabIn.drewN | apply TabIn.drew | exact HT.out)))
          (case side2 => repeat (first | (with_reducible first | exact HB.out | apply below_alloc | apply pw_below_drewN | apply below_drew1 | refine below_set ?_ GE415.out) | exact HB.out))
          (case side3 => exact PR HO_3)
          (case side4 => exact QC HO443)
          (case side5 => exact (Kd.R_reads' HO443.out).2.1)
          (case side6 => exact QC HO447)
          (case side7 => exact (Kd.R_reads' HO447.out).2.1)
          rintro e w40 ⟨v450, rfl, ho0, hy0, hb, hkp⟩
          refine ⟨_, rfl, ?_⟩
          have n0_ := AQ (Kd.R_mono (ok' := fun k_ => (some k_ ≠ (.slice Ao38 y441.length co38 : Value).ownBlock ∧ (some k_ ≠ (.slice Ao39 t445.length co39 : Value).ownBlock ∧ some k_ ≠ (.slice (some ad433) t420.length co10 : Value).ownBlock))) hy0 (fun k_ hk_ => Or.elim hk_ (fun hs_ => hs_) (fun hn_ => ⟨(Kd.fresh' (Kd.R_lt (PR HO443)) k_ hn_), ⟨(Kd.fresh' (Kd.R_lt (PR HO447)) k_ hn_), (Kd.fresh' (Kd.R_lt (PR HO_416002)) k_ hn_)⟩⟩)))
          have n1_ := AQ (Kd.S_skept (PS HO_416001) hkp (by decide))
          have n2_ := AQ (Kd.R_skept (PR HO_416002) hkp (by decide))
          have n3_ := AQ (blk_skept (PK BK415) hkp (by decide))
          have n4_ := AQ (Kd.S_skept (PS HO439) hkp (by decide))
          have n5_ := AQ (Kd.R_skept (PR HO443) hkp (by decide))
          have n6_ := AQ (Kd.R_skept (PR HO447) hkp (by decide))
          have n7_ := AQ (Kd.R_lower ho0 (below_size (by repeat (first | (with_reducible first | exact HB.out | apply below_alloc | apply pw_below_drewN | apply below_drew1 | refine below_set ?_ GE415.out) | exact HB.out))))
          have n8_ := AQ (hb)
          clear HO_3
          clear HO_416001
          clear HO_416002
          clear BK415
          clear HO439
          clear HO443
          clear HO447
          clear HB
          have HO_3 := n0_
          have HO_416001 := n1_
          have HO_416002 := n2_
          have BK415 := n3_
          have HO439 := n4_
          have HO443 := n5_
          have HO447 := n6_
          have HO451 := n7_
          have HB := n8_
          clear n0_ n1_ n2_ n3_ n4_ n5_ n6_ n7_ n8_
          (try clear hb)
          (try clear hkp)
          (try clear hy0)
          (try clear ho0)
          refine hK.out _ _ ?_
          clear hK K
          refine norm_ (a' := ?_) ?_ ?_
          rotate_left
          ·show Act.put _ (some 55) _ = _
           simp only [Act.put, qT, qZ, qS, i64_w, i32_w]
           rfl
          refine done_ (done_of HT_.out (by kernel_rfl)) ?_
          try go_wp2
          have n0_ := AQ (Kd.R_drew HO_3.out)
          have n1_ := AQ (Kd.S_drew HO_416001.out)
          have n2_ := AQ (Kd.R_drew HO_416002.out)
          have n3_ := AQ (Kd.S_drew HO439.out)
          have n4_ := AQ (Kd.R_drew HO443.out)
          have n5_ := AQ (Kd.R_drew HO447.out)
          have n6_ := AQ (Kd.R_drew HO451.out)
          have n7_ := AQ (blk_drew BK415.out)
          have n8_ := AQ (below_drew1 HB.out)
          clear HO_3
          clear HO_416001
          clear HO_416002
          clear HO439
          clear HO443
          clear HO447
          clear HO451
          clear BK415
          clear HB
          have HO_3 := n0_
          have HO_416001 := n1_
          have HO_416002 := n2_
          have HO439 := n3_
          have HO443 := n4_
          have HO447 := n5_
          have HO451 := n6_
          have BK415 := n7_
          have HB := n8_
          clear n0_ n1_ n2_ n3_ n4_ n5_ n6_ n7_ n8_
          refine start_ (n := 8) (S := fun w' => w'.cell? ⟨gb415, 0, none⟩ = some (.int .i64 t416) ∧ w'.cell? ⟨gb415, 1, none⟩ = some (.slice Ao9 t417.length co9) ∧ w'.cell? ⟨gb415, 2, none⟩ = some (.slice (some ad433) t420.length co10)) (ds := []) #[false, false, false, false, false, false, false, false] (by kernel_rfl) rfl rfl ⟨(blk_cell BK415.out 0).trans rfl, (blk_cell BK415.out 1).trans rfl, (blk_cell BK415.out 2).trans rfl⟩ (fun hHeld => ?_); refine with_tabW geyserlaw05_ElimRanks.tab11 geyserlaw05_ElimRanks.bits11 (fun HT_ HW_ => ?_)
          generalize w40.drew = w41 at HO_3 HO_416001 HO_416002 HO439 HO443 HO447 HO451 BK415 HB hHeld ⊢
          refine pure_ (i := 0) (N := some 56) (v := ?_) (a' := ?_) #[true, false, false, false, false, false, false, false] rfl rfl (any_of HT_.out (by kernel_rfl)) (fun _ _ _ h => h) (Or.inl ⟨by rfl, ?_⟩) ?_ ?_
          rotate_left
          ·intro w'
           go_simp
           with_reducible rfl
          rotate_left
          ·simp only [Act.put, qT, qZ, qS, i64_w, i32_w]
           rfl
          refine pure_ (i := 2) (N := some 58) (v := ?_) (a' := ?_) #[true, false, true, false, false, false, false, false] rfl rfl (any_of HT_.out (by kernel_rfl)) (fun _ _ _ h => h) (Or.inl ⟨by rfl, ?_⟩) ?_ ?_
          rotate_left
          ·intro w'
           go_simp
           with_reducible rfl
          rotate_left
          ·simp only [Act.put, qT, qZ, qS, i64_w, i32_w]
           rfl
          refine pure_ (i := 3) (N := some 59) (v := ?_) (a' := ?_) #[true, false, true, true, false, false, false, false] rfl rfl (any_of HT_.out (by kernel_rfl)) (fun _ _ _ h => h) (Or.inl ⟨by rfl, ?_⟩) ?_ ?_
          rotate_left
          ·intro w'
           go_simp
           with_reducible rfl
          rotate_left
          ·simp only [Act.put, qT, qZ, qS, i64_w, i32_w]
           rfl
          refine take_ (i := 4) (N := some 60) (v := ?_) (a' := ?_) #[true, false, true, true, true, false, false, false] rfl rfl (take_ofW HT_.out HW_.out (by kernel_rfl)) (fun _ _ _ h => h) (Or.inl ⟨by rfl, ?_⟩) hHeld ?_ ?_
          rotate_left
          ·rintro w' ⟨s0, s1, s2⟩
           go_simp
           with_reducible rfl
          rotate_left
          ·simp only [Act.put, qT, qZ, qS, i64_w, i32_w]
           rfl
          refine pure_ (i := 5) (N := some 61) (v := ?_) (a' := ?_) #[true, false, true, true, true, true, false, false] rfl rfl (any_of HT_.out (by kernel_rfl)) (fun _ _ _ h => h) (Or.inl ⟨by rfl, ?_⟩) ?_ ?_
          rotate_left
          ·intro w'
           go_simp
           with_reducible rfl
          rotate_left
          ·simp only [Act.put, qT, qZ, qS, i64_w, i32_w]
           rfl
          refine one_ (i := 1) (N := some 57) #[true, true, true, true, true, true, false, false] rfl rfl (one_of HT_.out (by kernel_rfl)) (by decide) (fun K hK => ?_)
          refine goes_ Tryd.func14 (by kernel_rfl) rfl #[ptrOf (.slice Ao32 t452.length co32)] (by rfl) rfl rfl (by (try simp only [List.map_toArray, List.map_cons, List.map_nil]); first | done | (rw [show t452.length = x3_2.length from (Kd.R_reads' HO_3.out).1.symm] <;> rfl) | rfl | (simp only [List.length_drop, List.length_take]; rfl)) ?_
          with_reducible refine (elim_System_Rank.calls _ _ t452 t453 _ ?side1 ?side2 A24.out).mono ?_
          (case side1 => exact QC HO_3)
          (case side2 => rw [show t452.length = x3_2.length from (Kd.R_reads' HO_3.out).1.symm]; exact (Kd.R_reads' HO_3.out).2.1)
          rintro e w42 ⟨rfl, hb⟩
          refine ⟨_, rfl, ?_⟩
          have n0_ := AQ (Kd.R_below (PR HO_3) hb)
          have n1_ := AQ (Kd.S_below (PS HO_416001) hb)
          have n2_ := AQ (Kd.R_below (PR HO_416002) hb)
          have n3_ := AQ (Kd.S_below (PS HO439) hb)
          have n4_ := AQ (Kd.R_below (PR HO443) hb)
          have n5_ := AQ (Kd.R_below (PR HO447) hb)
          have n6_ := AQ (Kd.R_below (PR HO451) hb)
          have n7_ := AQ (blk_below (g := gb415) (o := .cells #[.int .i64 t416, .slice Ao9 t417.length co9, .slice (some ad433) t420.length co10] 25 (0, 0)) (PK BK415) hb)
          have n8_ := AQ (below_step (by repeat (first | (with_reducible first | exact HB.out | apply below_alloc | apply pw_below_drewN | apply below_drew1 | refine below_set ?_ GE415.out) | exact HB.out)) hb)
          clear HO_3
          clear HO_416001
          clear HO_416002
          clear HO439
          clear HO443
          clear HO447
          clear HO451
          clear BK415
          clear HB
          have HO_3 := n0_
          have HO_416001 := n1_
          have HO_416002 := n2_
          have HO439 := n3_
          have HO443 := n4_
          have HO447 := n5_
          have HO451 := n6_
          have BK415 := n7_
          have HB := n8_
          clear n0_ n1_ n2_ n3_ n4_ n5_ n6_ n7_ n8_
          (try clear hb)
          (try clear hb2)
          (try clear hk)
          (try clear hi)
          obtain ⟨Ao43, co43, eo43⟩ := Kd.S_slice HO439.out
          (first | subst eo43 | (injection eo43 with f1_ f2_ f3_; have f4_ := f1_.symm; have f5_ := f3_.symm; clear f1_ f2_ f3_; subst f4_; subst f5_))
          refine hK.out _ _ ⟨(blk_cell BK415.out 0).trans rfl, (blk_cell BK415.out 1).trans rfl, (blk_cell BK415.out 2).trans rfl⟩ (fun hHeld => ?_)
          clear hK K
          refine norm_ (a' := ?_) ?_ ?_
          rotate_left
          ·show Act.put _ (some 57) _ = _
           simp only [Act.put, qT, qZ, qS, i64_w, i32_w]
           rfl
          refine one_ (i := 6) (N := some 62) #[true, true, true, true, true, true, true, false] rfl rfl (one_of HT_.out (by kernel_rfl)) (by decide) (fun K hK => ?_)
          refine goes_ Tryd.func16 (by kernel_rfl) rfl #[.slice Ao43 y437.length co43, .int .i64 (t417.length : Int)] (by rfl) rfl rfl (by (try simp only [List.map_toArray, List.map_cons, List.map_nil]); first | done | rfl | (simp only [List.length_drop, List.length_take]; rfl)) ?_
          with_reducible refine (geyserref03_Rank.calls k2 _ _ y437 (t417.length : Int) t454 _ ?side1 ?side2 A25.out).mono ?_
          (case side1 => repeat (first | exact (Kd.S_reads' HO439.out).2.2 | (with_reducible refine Kd.C_alloc ?_ _) | (with_reducible refine Kd.C_drewN ?_ _) | (with_reducible refine Kd.C_drew ?_)))
          (case side2 => exact (Kd.S_reads' HO439.out).2.1)
          rintro e w44 ⟨rfl, hb⟩
          refine ⟨_, rfl, ?_⟩
          have n0_ := AQ (Kd.R_below (PR HO_3) hb)
          have n1_ := AQ (Kd.S_below (PS HO_416001) hb)
          have n2_ := AQ (Kd.R_below (PR HO_416002) hb)
          have n3_ := AQ (Kd.S_below (PS HO439) hb)
          have n4_ := AQ (Kd.R_below (PR HO443) hb)
          have n5_ := AQ (Kd.R_below (PR HO447) hb)
          have n6_ := AQ (Kd.R_below (PR HO451) hb)
          have n7_ := AQ (blk_below (g := gb415) (o := .cells #[.int .i64 t416, .slice Ao9 t417.length co9, .slice (some ad433) t420.length co10] 25 (0, 0)) (PK BK415) hb)
          have n8_ := AQ (below_step (by repeat (first | (with_reducible first | exact HB.out | apply below_alloc | apply pw_below_drewN | apply below_drew1 | refine below_set ?_ GE415.out) | exact HB.out)) hb)
          clear HO_3
          clear HO_416001
          clear HO_416002
          clear HO439
          clear HO443
          clear HO447
          clear HO451
          clear BK415
          clear HB
          have HO_3 := n0_
          have HO_416001 := n1_
          have HO_416002 := n2_
          have HO439 := n3_
          have HO443 := n4_
          have HO447 := n5_
          have HO451 := n6_
          have BK415 := n7_
          have HB := n8_
          clear n0_ n1_ n2_ n3_ n4_ n5_ n6_ n7_ n8_
          (try clear hb)
          (try clear hb2)
          (try clear hk)
          (try clear hi)
          refine hK.out _ _ ⟨(blk_cell BK415.out 0).trans rfl, (blk_cell BK415.out 1).trans rfl, (blk_cell BK415.out 2).trans rfl⟩ (fun hHeld => ?_)
          clear hK K
          refine norm_ (a' := ?_) ?_ ?_
          rotate_left
          ·show Act.put _ (some 62) _ = _
           simp only [Act.put, qT, qZ, qS, i64_w, i32_w]
           rfl
          refine pure_ (i := 7) (N := some 63) (v := ?_) (a' := ?_) #[true, true, true, true, true, true, true, true] rfl rfl (any_of HT_.out (by kernel_rfl)) (fun _ _ _ h => h) (Or.inl ⟨by rfl, ?_⟩) ?_ ?_
          rotate_left
          ·intro w'
           go_simp
           with_reducible rfl
          rotate_left
          ·simp only [Act.put, qT, qZ, qS, i64_w, i32_w]
           rfl
          refine done_ (done_of HT_.out (by kernel_rfl)) ?_
          try go_wp2
          go_roundg k2
          case measure => have := HJ3.out; have := HK2.out; omega
          case rel => exact ⟨(t452), (y437), (wrap64 (x6_2 + 1)), (by first | rfl | (simp; done) | (simp [*]; done)), H', ⟨by have := HJ3.out; have := HK2.out; omega⟩, ⟨by (with_reducible repeat (first | apply Kd.R_alloc | apply Kd.R_drewN | apply Kd.R_drew)); exact Kd.R_mono HO_3.out (fun _ hk => hk.2.2)⟩, ⟨by (with_reducible repeat (first | apply Kd.S_alloc | apply Kd.S_drewN | apply Kd.S_drew)); exact Kd.S_mono HO439.out (fun _ hk => hk.2)⟩, ⟨by (with_reducible repeat (first | apply Kd.S_alloc | apply Kd.S_drewN | apply Kd.S_drew)); exact Kd.S_mono HO_416001.out (fun _ hk => trivial)⟩, ⟨by (with_reducible repeat (first | apply Kd.R_alloc | apply Kd.R_drewN | apply Kd.R_drew)); exact Kd.R_mono HO_416002.out (fun _ hk => trivial)⟩, ⟨PK BK415⟩, ⟨by repeat (first | (with_reducible first | exact HB.out | apply below_alloc | apply pw_below_drewN | apply below_drew1 | refine below_set ?_ GE415.out) | exact HB.out)⟩⟩
         ·rw [if_neg c26] at H
          have c26b0 : (t453 == t454) = false := beq_eq_false_iff_ne.mpr c26
          have c26b1 : (t453 != t454) = true := bne_iff_ne.mpr c26
          obtain rfl := Option.some.inj H
          have hcz45_0 : wr.cell? ⟨gb415, 0, none⟩ = some (.int .i64 t416) := (blk_cell BK415.out 0).trans rfl
          have hcz45_1 : wr.cell? ⟨gb415, 1, none⟩ = some (.slice Ao9 t417.length co9) := (blk_cell BK415.out 1).trans rfl
          have hcz45_2 : wr.cell? ⟨gb415, 2, none⟩ = some (.slice Ao10 t420.length co10) := (blk_cell BK415.out 2).trans rfl
          have hfz45_0 := blk_frozen BK415.out 0
          have hfz45_1 := blk_frozen BK415.out 1
          have hfz45_2 := blk_frozen BK415.out 2
          have p433 : 0 ≤ (x6_2 : Int) := of_decide_eq_true (by first | (with_reducible assumption) | assumption)
          have q433 : x6_2 < (t420.length : Int) := of_decide_eq_true (by first | (with_reducible assumption) | assumption)
          obtain ⟨ad433, e433, hx433_0⟩ := Kd.at_int (Kd.R_reads' HO_416002.out).2.2 x6_2 p433 q433
          cases e433
          replace p433 := eq_true p433
          replace q433 := eq_true q433
          try go_wp2_with (first | ((with_reducible refine gate_dst (N := 38) rfl ?_); refine Kd.R_lit (Kd.int .u64) _ 35 ?hg (N := 38) ?hd (xs := ([rd t420 x6_2] : List Int)) (inner := [.int .u64 (rd t420 x6_2)]) (ok := fun _ => True) (okp := fun _ => True) ?hr ?hp (fun _ hk => hk) trivial (Below.refl _ _) (Nat.le_refl _) (by simp) ?_; (case hd => rfl); (case hg => rfl); (case hr => first | (go_simp; done) | (go_simp; rfl)); (case hp => exact (Reps.one (show Kd.M (Kd.int .u64) _ _ _ (rd t420 x6_2) [.int .u64 (rd t420 x6_2)] from rfl) (Reps.none _ _))); intro v435 w46 ho47 hb hg_ hnew_; clear hg_ hnew_; (first | rw [← Ny434.out] at ho47 | (simp only [Int.reduceToNat] at ho47; rw [← Ny434.out] at ho47)); have n0_ := AQ (Kd.R_elder' (PR HO_3) (Kd.R_base ho47) hb); have n1_ := AQ (Kd.S_elder' (PS HO_5) (Kd.R_base ho47) hb); have n2_ := AQ (Kd.S_below (PS HO_416001) hb); have n3_ := AQ (Kd.R_elder' (PR HO_416002) (Kd.R_base ho47) hb); have n4_ := AQ (Kd.R_lower (Kd.R_new' ho47 (Kd.R_lt (PR HO_416002))) (below_size (by repeat (first | (with_reducible first | exact HB.out | apply below_alloc | apply pw_below_drewN | apply below_drew1 | refine below_set ?_ GE415.out) | exact HB.out)))); have n5_ := AQ (blk_below (g := gb415) (o := .cells #[.int .i64 t416, .slice Ao9 t417.length co9, .slice (some ad433) t420.length co10] 25 (0, 0)) (PK BK415) hb); have n6_ := AQ (below_step (by repeat (first | (with_reducible first | exact HB.out | apply below_alloc | apply pw_below_drewN | apply below_drew1 | refine below_set ?_ GE415.out) | exact HB.out)) hb); clear HO_3; clear HO_5; clear HO_416001; clear HO_416002; clear BK415; clear HB; have HO_3 := n0_; have HO_5 := n1_; have HO_416001 := n2_; have HO_416002 := n3_; have HO436 := n4_; have BK415 := n5_; have HB := n6_; clear n0_ n1_ n2_ n3_ n4_ n5_ n6_; clear hb ho47; obtain ⟨Ao49, co49, eo49⟩ := Kd.R_slice HO436.out; subst eo49) | ((with_reducible refine gate_builtin (b := .append) (xs := #[.tmp 32, .tmp 39]) rfl ?_); at_builtin; refine Kd.S_append (Kd.slice 35 (Kd.int .u64)) (w0 := w) w.heap.size rfl (.tmp 32) (.tmp 39) 43 23 (.slice none 0 0) 24 rfl Tryd.underlying43 info23 rfl (by decide) (by omega) u5 x5_2 y434 [.slice Ao49 y434.length co49] (fun k_ => some k_ ≠ (.slice (some ad433) t420.length co10 : Value).ownBlock) (fun k_ => some k_ = (.slice Ao49 y434.length co49 : Value).ownBlock) rfl rfl ?aP (fun k_ hk_ => ((Kd.R_mono (ok' := fun k_ => ((fun k_ => some k_ ≠ (.slice (some ad433) t420.length co10 : Value).ownBlock)) k_ ∧ some k_ ≠ (u5 : Value).ownBlock) (Kd.R_apart' (HO436.out) (Kd.S_typed HO_5.out) (by decide)) (fun k_ hk => ⟨hk.1.2, hk.2⟩))).1 k_ hk_.symm) ?aF ?aO ?aB ?aS ?aL ?_; (case aP => exact Kd.M_row (Kd.R_mono (Kd.R_tight rfl (Kd.R_mono (ok' := fun k_ => ((fun k_ => some k_ ≠ (.slice (some ad433) t420.length co10 : Value).ownBlock)) k_ ∧ some k_ ≠ (u5 : Value).ownBlock) (Kd.R_apart' (HO436.out) (Kd.S_typed HO_5.out) (by decide)) (fun k_ hk => ⟨hk.1.2, hk.2⟩))) (fun _ h_ => h_))); (case aB => exact (by repeat (first | (with_reducible first | exact HB.out | apply below_alloc | apply pw_below_drewN | apply below_drew1 | refine below_set ?_ GE415.out) | exact HB.out))); (case aF => exact (fun k_ hk => Kd.fresh' (Kd.R_lt (PR HO_416002)) k_ hk)); (case aO => exact (by (with_reducible repeat (first | apply Kd.S_alloc | apply Kd.S_drewN | apply Kd.S_drew)); exact Kd.S_mono HO_5.out (fun k_ hk => ⟨hk.1, fun e_ => hk.2 e_⟩))); (case aS => exact (below_size (by repeat (first | (with_reducible first | exact HB.out | apply below_alloc | apply pw_below_drewN | apply below_drew1 | refine below_set ?_ GE415.out) | exact HB.out)))); (case aL => have := LMc21.out; omega); intro v438 w48 ho hb hg hat; rw [← Ny437.out] at ho; have n0_ := AQ (Kd.R_over' (PR HO_3) (Kd.S_typed (PS HO_5)) (by decide) hg); have n1_ := AQ (Kd.S_over' (PS HO_416001) (Kd.S_typed (PS HO_5)) (by decide) hg); have n2_ := AQ (Kd.R_over' (PR HO_416002) (Kd.S_typed (PS HO_5)) (by decide) hg); have n3_ := AQ (blk_grown (g := gb415) (o := .cells #[.int .i64 t416, .slice Ao9 t417.length co9, .slice (some ad433) t420.length co10] 25 (0, 0)) (PK BK415) hg (Kd.S_ne HO_5.out BK415.out (by decide))); have n4_ := AQ (hb); have n5_ := AQ (ho); clear HO_3; clear HO_416001; clear HO_416002; clear BK415; clear HB; clear HO_5; clear HO436; have HO_3 := n0_; have HO_416001 := n1_; have HO_416002 := n2_; have BK415 := n3_; have HB := n4_; have HO439 := n5_; clear n0_ n1_ n2_ n3_ n4_ n5_; clear ho hb hg hat; obtain ⟨Ao50, co50, eo50⟩ := Kd.R_slice HO_3.out; subst eo50))
          have n0_ := AQ (Kd.R_drew HO_3.out)
          have n1_ := AQ (Kd.S_drew HO_416001.out)
          have n2_ := AQ (Kd.R_drew HO_416002.out)
          have n3_ := AQ (Kd.S_drew HO439.out)
          have n4_ := AQ (blk_drew BK415.out)
          have n5_ := AQ (below_drew1 HB.out)
          clear HO_3
          clear HO_416001
          clear HO_416002
          clear HO439
          clear BK415
          clear HB
          have HO_3 := n0_
          have HO_416001 := n1_
          have HO_416002 := n2_
          have HO439 := n3_
          have BK415 := n4_
          have HB := n5_
          clear n0_ n1_ n2_ n3_ n4_ n5_
          have p440 : 0 ≤ (x6_2 : Int) := of_decide_eq_true (by first | (with_reducible assumption) | assumption)
          have q440 : x6_2 < (t420.length : Int) := of_decide_eq_true (by first | (with_reducible assumption) | assumption)
          obtain ⟨ad440, e440, hx440_0⟩ := Kd.at_int (Kd.R_reads' HO_416002.out).2.2 x6_2 p440 q440
          obtain rfl : ad433 = ad440 := (by injection e440)
          replace p440 := eq_true p440
          replace q440 := eq_true q440
          have p444 : 0 ≤ (x6_2 : Int) := of_decide_eq_true (by first | (with_reducible assumption) | assumption)
          have q444 : x6_2 < (t420.length : Int) := of_decide_eq_true (by first | (with_reducible assumption) | assumption)
          obtain ⟨ad444, e444, hx444_0⟩ := Kd.at_int (Kd.R_reads' HO_416002.out).2.2 x6_2 p444 q444
          obtain rfl : ad433 = ad444 := (by injection e444)
          replace p444 := eq_true p444
          replace q444 := eq_true q444
          refine start_ (n := 15) (S := fun w' => w'.cell? ⟨gb415, 0, none⟩ = some (.int .i64 t416) ∧ w'.cell? ⟨gb415, 1, none⟩ = some (.slice Ao9 t417.length co9) ∧ w'.cell? ⟨gb415, 2, none⟩ = some (.slice (some ad433) t420.length co10) ∧ w'.cell? (ad433.add (x6_2).toNat) = some (.int .u64 (rd t420 x6_2)) ∧ w'.cell? (ad433.add (x6_2).toNat) = some (.int .u64 (rd t420 x6_2))) (ds := [14]) #[false, false, false, false, false, false, false, false, false, false, false, false, false, false, false] (by kernel_rfl) rfl rfl ⟨(blk_cell BK415.out 0).trans rfl, (blk_cell BK415.out 1).trans rfl, (blk_cell BK415.out 2).trans rfl, hx440_0, hx444_0⟩ (fun hHeld => ?_); refine with_tabW geyserlaw05_ElimRanks.tab10 geyserlaw05_ElimRanks.bits10 (fun HT_ HW_ => ?_)
          generalize w48.drew = w51 at HO_3 HO_416001 HO_416002 HO439 BK415 HB hx440_0 hx444_0 hHeld ⊢
          refine pure_ (i := 0) (N := some 41) (v := ?_) (a' := ?_) #[true, false, false, false, false, false, false, false, false, false, false, false, false, false, false] rfl rfl (any_of HT_.out (by kernel_rfl)) (fun _ _ _ h => h) (Or.inl ⟨by rfl, ?_⟩) ?_ ?_
          rotate_left
          ·intro w'
           go_simp
           with_reducible rfl
          rotate_left
          ·simp only [Act.put, qT, qZ, qS, i64_w, i32_w]
           rfl
          refine pure_ (i := 1) (N := some 42) (v := ?_) (a' := ?_) #[true, true, false, false, false, false, false, false, false, false, false, false, false, false, false] rfl rfl (any_of HT_.out (by kernel_rfl)) (fun _ _ _ h => h) (Or.inl ⟨by rfl, ?_⟩) ?_ ?_
          rotate_left
          ·intro w'
           go_simp
           with_reducible rfl
          rotate_left
          ·simp only [Act.put, qT, qZ, qS, i64_w, i32_w]
           rfl
          refine pure_ (i := 3) (N := some 44) (v := ?_) (a' := ?_) #[true, true, false, true, false, false, false, false, false, false, false, false, false, false, false] rfl rfl (any_of HT_.out (by kernel_rfl)) (fun _ _ _ h => h) (Or.inl ⟨by rfl, ?_⟩) ?_ ?_
          rotate_left
          ·intro w'
           go_simp
           with_reducible rfl
          rotate_left
          ·simp only [Act.put, qT, qZ, qS, i64_w, i32_w]
           rfl
          refine pure_ (i := 8) (N := some 49) (v := ?_) (a' := ?_) #[true, true, false, true, false, false, false, false, true, false, false, false, false, false, false] rfl rfl (any_of HT_.out (by kernel_rfl)) (fun _ _ _ h => h) (Or.inl ⟨by rfl, ?_⟩) ?_ ?_
          rotate_left
          ·intro w'
           go_simp
           with_reducible rfl
          rotate_left
          ·simp only [Act.put, qT, qZ, qS, i64_w, i32_w]
           rfl
          refine pure_ (i := 10) (N := some 51) (v := ?_) (a' := ?_) #[true, true, false, true, false, false, false, false, true, false, true, false, false, false, false] rfl rfl (any_of HT_.out (by kernel_rfl)) (fun _ _ _ h => h) (Or.inl ⟨by rfl, ?_⟩) ?_ ?_
          rotate_left
          ·intro w'
           go_simp
           with_reducible rfl
          rotate_left
          ·simp only [Act.put, qT, qZ, qS, i64_w, i32_w]
           rfl
          refine take_ (i := 2) (N := some 43) (v := ?_) (a' := ?_) #[true, true, true, true, false, false, false, false, true, false, true, false, false, false, false] rfl rfl (take_ofW HT_.out HW_.out (by kernel_rfl)) (fun _ _ _ h => h) (Or.inl ⟨by rfl, ?_⟩) hHeld ?_ ?_
          rotate_left
          ·rintro w' ⟨s0, s1, s2, s3, s4⟩
           go_simp
           with_reducible rfl
          rotate_left
          ·simp only [Act.put, qT, qZ, qS, i64_w, i32_w]
           rfl
          refine pure_ (i := 4) (N := some 45) (v := ?_) (a' := ?_) #[true, true, true, true, true, false, false, false, true, false, true, false, false, false, false] rfl rfl (any_of HT_.out (by kernel_rfl)) (fun _ _ _ h => h) (Or.inl ⟨by rfl, ?_⟩) ?_ ?_
          rotate_left
          ·intro w'
           go_simp
           with_reducible rfl
          rotate_left
          ·simp only [Act.put, qT, qZ, qS, i64_w, i32_w]
           rfl
          refine take_ (i := 5) (N := some 46) (v := ?_) (a' := ?_) #[true, true, true, true, true, true, false, false, true, false, true, false, false, false, false] rfl rfl (take_ofW HT_.out HW_.out (by kernel_rfl)) (fun _ _ _ h => h) (Or.inl ⟨by rfl, ?_⟩) hHeld ?_ ?_
          rotate_left
          ·rintro w' ⟨s0, s1, s2, s3, s4⟩
           go_simp
           with_reducible rfl
          rotate_left
          ·simp only [Act.put, qT, qZ, qS, i64_w, i32_w]
           rfl
          refine take_ (i := 7) (N := some 48) (v := ?_) (a' := ?_) #[true, true, true, true, true, true, false, true, true, false, true, false, false, false, false] rfl rfl (take_ofW HT_.out HW_.out (by kernel_rfl)) (fun _ _ _ h => h) (Or.inl ⟨by rfl, ?_⟩) hHeld ?_ ?_
          rotate_left
          ·rintro w' ⟨s0, s1, s2, s3, s4⟩
           go_simp
           with_reducible rfl
          rotate_left
          ·simp only [Act.put, qT, qZ, qS, i64_w, i32_w]
           rfl
          refine take_ (i := 9) (N := some 50) (v := ?_) (a' := ?_) #[true, true, true, true, true, true, false, true, true, true, true, false, false, false, false] rfl rfl (take_ofW HT_.out HW_.out (by kernel_rfl)) (fun _ _ _ h => h) (Or.inl ⟨by rfl, ?_⟩) hHeld ?_ ?_
          rotate_left
          ·rintro w' ⟨s0, s1, s2, s3, s4⟩
           go_simp
           with_reducible rfl
          rotate_left
          ·simp only [Act.put, qT, qZ, qS, i64_w, i32_w]
           rfl
          refine pure_ (i := 11) (N := some 52) (v := ?_) (a' := ?_) #[true, true, true, true, true, true, false, true, true, true, true, true, false, false, false] rfl rfl (any_of HT_.out (by kernel_rfl)) (fun _ _ _ h => h) (Or.inl ⟨by rfl, ?_⟩) ?_ ?_
          rotate_left
          ·intro w'
           go_simp
           with_reducible rfl
          rotate_left
          ·simp only [Act.put, qT, qZ, qS, i64_w, i32_w]
           rfl
          refine take_ (i := 12) (N := some 53) (v := ?_) (a' := ?_) #[true, true, true, true, true, true, false, true, true, true, true, true, true, false, false] rfl rfl (take_ofW HT_.out HW_.out (by kernel_rfl)) (fun _ _ _ h => h) (Or.inl ⟨by rfl, ?_⟩) hHeld ?_ ?_
          rotate_left
          ·rintro w' ⟨s0, s1, s2, s3, s4⟩
           go_simp
           with_reducible rfl
          rotate_left
          ·simp only [Act.put, qT, qZ, qS, i64_w, i32_w]
           rfl
          refine join_ (σ := Value × Value) 1 #[true, true, true, true, true, true, true, true, true, true, true, true, true, true, false] (fun s_ => [(47, s_.1), (54, s_.2)]) (fun s_ w' => (w'.cell? ⟨gb415, 0, none⟩ = some (.int .i64 t416) ∧ w'.cell? ⟨gb415, 1, none⟩ = some (.slice Ao9 t417.length co9) ∧ w'.cell? ⟨gb415, 2, none⟩ = some (.slice (some ad433) t420.length co10) ∧ w'.cell? (ad433.add (x6_2).toNat) = some (.int .u64 (rd t420 x6_2)) ∧ w'.cell? (ad433.add (x6_2).toNat) = some (.int .u64 (rd t420 x6_2))) ∧ (Kd.S (Kd.slice 35 (Kd.int .u64)) 23 w' w.heap.size (fun k_ => some k_ ≠ (s_.1 : Value).ownBlock ∧ some k_ ≠ (.slice (some ad433) t420.length co10 : Value).ownBlock) v438 y437) ∧ (Kd.R (Kd.int .u64) 35 w' w.heap.size (fun k_ => some k_ ≠ (.slice (some ad433) t420.length co10 : Value).ownBlock) s_.1 y441) ∧ (Kd.R (Kd.int .u8) 5 w' w.heap.size (fun _ => True) s_.2 t445) ∧ (Kd.R k74 74 w' w.heap.size (fun k_ => some k_ ≠ (s_.1 : Value).ownBlock ∧ some k_ ≠ (s_.2 : Value).ownBlock ∧ some k_ ≠ (.slice (some ad433) t420.length co10 : Value).ownBlock) (.slice Ao50 x3_2.length co50) x3_2) ∧ (Kd.S (Kd.slice 5 (Kd.int .u8)) 36 w' w.heap.size (fun k_ => some k_ ≠ (s_.2 : Value).ownBlock) (.slice Ao9 t417.length co9) t417) ∧ (Kd.R (Kd.int .u64) 35 w' w.heap.size (fun k_ => some k_ ≠ (s_.1 : Value).ownBlock) (.slice (some ad433) t420.length co10) t420) ∧ (w'.heap[gb415]? = some (.cells #[.int .i64 t416, .slice Ao9 t417.length co9, .slice (some ad433) t420.length co10] 25 (0, 0))) ∧ (Below w.heap.size w w')) ?_ ?_
          rotate_left
          ·intro hCont
           refine two_ (i := 6) (j := 13) (Ni := some 47) (Nj := some 54) #[true, true, true, true, true, true, true, true, true, true, true, true, true, false, false] #[true, true, true, true, true, true, false, true, true, true, true, true, true, true, false] rfl rfl rfl rfl (two_of HT_.out (by kernel_rfl)) (by decide) (by decide) (fun K hK => ?_) (fun K hK => ?_)
           ·skip
            refine Kd.R_lit_step (Kd.int .u64) _ 35 ?hg (N := 47) ?hd (xs := ([rd t420 x6_2] : List Int)) (inner := [.int .u64 (rd t420 x6_2)]) (ok := fun _ => True) (okp := fun _ => True) ?hr ?hp (fun _ hk => hk) trivial (Below.refl _ _) (Nat.le_refl _) (by simp) ?_; (case hd => rfl); (case hg => rfl); (case hr => first | (go_simp; done) | (go_simp; rfl)); (case hp => exact (Reps.one (show Kd.M (Kd.int .u64) _ _ _ (rd t420 x6_2) [.int .u64 (rd t420 x6_2)] from rfl) (Reps.none _ _)))
            intro v442 w52 ho53 hb hg_ hnew_
            have HS3_ := (hb.cell (World.block_lt_of_cell? _ _ (hHeld.2.2.2.1))).trans (hHeld.2.2.2.1)
            have HS4_ := (hb.cell (World.block_lt_of_cell? _ _ (hHeld.2.2.2.2))).trans (hHeld.2.2.2.2)
            clear hg_ hnew_
            (first | rw [← Ny441.out] at ho53 | (simp only [Int.reduceToNat] at ho53; rw [← Ny441.out] at ho53))
            have n0_ := AQ (Kd.R_elder' (PR HO_3) (Kd.R_base ho53) hb)
            have n1_ := AQ (Kd.S_below (PS HO_416001) hb)
            have n2_ := AQ (Kd.R_elder' (PR HO_416002) (Kd.R_base ho53) hb)
            have n3_ := AQ (Kd.S_elder' (PS HO439) (Kd.R_base ho53) hb)
            have n4_ := AQ (Kd.R_lower (Kd.R_new' ho53 (Kd.R_lt (PR HO_416002))) (below_size (by repeat (first | (with_reducible first | exact HB.out | apply below_alloc | apply pw_below_drewN | apply below_drew1 | refine below_set ?_ GE415.out) | exact HB.out))))
            have n5_ := AQ (blk_below (g := gb415) (o := .cells #[.int .i64 t416, .slice Ao9 t417.length co9, .slice (some ad433) t420.length co10] 25 (0, 0)) (PK BK415) hb)
            have n6_ := AQ (below_step (by repeat (first | (with_reducible first | exact HB.out | apply below_alloc | apply pw_below_drewN | apply below_drew1 | refine below_set ?_ GE415.out) | exact HB.out)) hb)
            clear HO_3
            clear HO_416001
            clear HO_416002
            clear HO439
            clear BK415
            clear HB
            have HO_3 := n0_
            have HO_416001 := n1_
            have HO_416002 := n2_
            have HO439 := n3_
            have HO443 := n4_
            have BK415 := n5_
            have HB := n6_
            clear n0_ n1_ n2_ n3_ n4_ n5_ n6_
            clear hb ho53
            refine hK.out _ _ ⟨(blk_cell BK415.out 0).trans rfl, (blk_cell BK415.out 1).trans rfl, (blk_cell BK415.out 2).trans rfl, HS3_, HS4_⟩ (fun hHeld => ?_)
            clear hK K
            refine norm_ (a' := ?_) ?_ ?_
            rotate_left
            ·show Act.put _ (some 47) _ = _
             simp only [Act.put, qT, qZ, qS, i64_w, i32_w]
             rfl
            refine one_ (i := 13) (N := some 54) #[true, true, true, true, true, true, true, true, true, true, true, true, true, true, false] rfl rfl (one_of HT_.out (by kernel_rfl)) (by decide) (fun K hK => ?_)
            refine goes_ Tryd.func12 (by kernel_rfl) rfl #[.agg #[.int .i64 t416, .slice Ao9 t417.length co9, .slice (some ad433) t420.length co10], .int .u64 (rd t420 x6_2)] (by rfl) rfl rfl (by (try simp only [List.map_toArray, List.map_cons, List.map_nil]); first | done | rfl | (simp only [List.length_drop, List.length_take]; rfl)) ?_
            with_reducible refine (geyserlaw05_True_sym.calls k2 t416 _ _ t417 _ _ t420 (rd t420 x6_2) t445 _ ?side1 ?side2 ?side3 ?side4 A22.out).mono ?_
            (case side1 => repeat (first | exact (Kd.S_reads' HO_416001.out).2.2 | (with_reducible refine Kd.C_alloc ?_ _) | (with_reducible refine Kd.C_drewN ?_ _) | (with_reducible refine Kd.C_drew ?_)))
            (case side2 => exact (Kd.S_reads' HO_416001.out).2.1)
            (case side3 => exact QC HO_416002)
            (case side4 => exact (Kd.R_reads' HO_416002.out).2.1)
            rintro e w54 ⟨v446, rfl, ho0, hb⟩
            have HS3_ := (hb.cell (World.block_lt_of_cell? _ _ (hHeld.2.2.2.1))).trans (hHeld.2.2.2.1)
            have HS4_ := (hb.cell (World.block_lt_of_cell? _ _ (hHeld.2.2.2.2))).trans (hHeld.2.2.2.2)
            refine ⟨_, rfl, ?_⟩
            have n0_ := AQ (Kd.R_elder' (PR HO_3) (Kd.R_base ho0) hb)
            have n1_ := AQ (Kd.S_elder' (PS HO_416001) (Kd.R_base ho0) hb)
            have n2_ := AQ (Kd.R_below (PR HO_416002) hb)
            have n3_ := AQ (Kd.S_below (PS HO439) hb)
            have n4_ := AQ (Kd.R_below (PR HO443) hb)
            have n5_ := AQ (Kd.R_lower ho0 (below_size (by repeat (first | (with_reducible first | exact HB.out | apply below_alloc | apply pw_below_drewN | apply below_drew1 | refine below_set ?_ GE415.out) | exact HB.out))))
            have n6_ := AQ (blk_below (g := gb415) (o := .cells #[.int .i64 t416, .slice Ao9 t417.length co9, .slice (some ad433) t420.length co10] 25 (0, 0)) (PK BK415) hb)
            have n7_ := AQ (below_step (by repeat (first | (with_reducible first | exact HB.out | apply below_alloc | apply pw_below_drewN | apply below_drew1 | refine below_set ?_ GE415.out) | exact HB.out)) hb)
            clear HO_3
            clear HO_416001
            clear HO_416002
            clear HO439
            clear HO443
            clear BK415
            clear HB
            have HO_3 := n0_
            have HO_416001 := n1_
            have HO_416002 := n2_
            have HO439 := n3_
            have HO443 := n4_
            have HO447 := n5_
            have BK415 := n6_
            have HB := n7_
            clear n0_ n1_ n2_ n3_ n4_ n5_ n6_ n7_
            (try clear hb)
            (try clear hb2)
            (try clear hk)
            (try clear hi)
            (try clear ho0)
            refine hK.out _ _ ⟨(blk_cell BK415.out 0).trans rfl, (blk_cell BK415.out 1).trans rfl, (blk_cell BK415.out 2).trans rfl, HS3_, HS4_⟩ (fun hHeld => ?_)
            clear hK K
            refine norm_ (a' := ?_) ?_ ?_
            rotate_left
            ·show Act.put _ (some 54) _ = _
             simp only [Act.put, qT, qZ, qS, i64_w, i32_w]
             rfl
            exact norm_ (by simp only [putAll, Act.put, List.setIfInBounds_toArray, List.set_cons_zero, List.set_cons_succ]) (hCont (v442, v446) _ ⟨hHeld, (by (with_reducible repeat (first | apply Kd.S_alloc | apply Kd.S_drewN | apply Kd.S_drew)); exact Kd.S_mono HO439.out (fun _ hk => ⟨hk.2, hk.1⟩)), (by (with_reducible repeat (first | apply Kd.R_alloc | apply Kd.R_drewN | apply Kd.R_drew)); exact Kd.R_mono HO443.out (fun _ hk => hk.2)), (PR HO447), (by (with_reducible repeat (first | apply Kd.R_alloc | apply Kd.R_drewN | apply Kd.R_drew)); exact Kd.R_mono HO_3.out (fun _ hk => ⟨hk.1.2, ⟨hk.2, hk.1.1.1⟩⟩)), (by (with_reducible repeat (first | apply Kd.S_alloc | apply Kd.S_drewN | apply Kd.S_drew)); exact Kd.S_mono HO_416001.out (fun _ hk => hk.2)), (by (with_reducible repeat (first | apply Kd.R_alloc | apply Kd.R_drewN | apply Kd.R_drew)); exact Kd.R_mono HO_416002.out (fun _ hk => hk.2)), (PK BK415), (by repeat (first | (with_reducible first | exact HB.out | apply below_alloc | apply pw_below_drewN | apply below_drew1 | refine below_set ?_ GE415.out) | exact HB.out))⟩)
           ·skip
            refine goes_ Tryd.func12 (by kernel_rfl) rfl #[.agg #[.int .i64 t416, .slice Ao9 t417.length co9, .slice (some ad433) t420.length co10], .int .u64 (rd t420 x6_2)] (by rfl) rfl rfl (by (try simp only [List.map_toArray, List.map_cons, List.map_nil]); first | done | rfl | (simp only [List.length_drop, List.length_take]; rfl)) ?_
            with_reducible refine (geyserlaw05_True_sym.calls k2 t416 _ _ t417 _ _ t420 (rd t420 x6_2) t445 _ ?side1 ?side2 ?side3 ?side4 A22.out).mono ?_
            (case side1 => repeat (first | exact (Kd.S_reads' HO_416001.out).2.2 | (with_reducible refine Kd.C_alloc ?_ _) | (with_reducible refine Kd.C_drewN ?_ _) | (with_reducible refine Kd.C_drew ?_)))
            (case side2 => exact (Kd.S_reads' HO_416001.out).2.1)
            (case side3 => exact QC HO_416002)
            (case side4 => exact (Kd.R_reads' HO_416002.out).2.1)
            rintro e w52 ⟨v446, rfl, ho0, hb⟩
            have HS3_ := (hb.cell (World.block_lt_of_cell? _ _ (hHeld.2.2.2.1))).trans (hHeld.2.2.2.1)
            have HS4_ := (hb.cell (World.block_lt_of_cell? _ _ (hHeld.2.2.2.2))).trans (hHeld.2.2.2.2)
            refine ⟨_, rfl, ?_⟩
            have n0_ := AQ (Kd.R_elder' (PR HO_3) (Kd.R_base ho0) hb)
            have n1_ := AQ (Kd.S_elder' (PS HO_416001) (Kd.R_base ho0) hb)
            have n2_ := AQ (Kd.R_below (PR HO_416002) hb)
            have n3_ := AQ (Kd.S_below (PS HO439) hb)
            have n4_ := AQ (Kd.R_lower ho0 (below_size (by repeat (first | (with_reducible first | exact HB.out | apply below_alloc | apply pw_below_drewN | apply below_drew1 | refine below_set ?_ GE415.out) | exact HB.out))))
            have n5_ := AQ (blk_below (g := gb415) (o := .cells #[.int .i64 t416, .slice Ao9 t417.length co9, .slice (some ad433) t420.length co10] 25 (0, 0)) (PK BK415) hb)
            have n6_ := AQ (below_step (by repeat (first | (with_reducible first | exact HB.out | apply below_alloc | apply pw_below_drewN | apply below_drew1 | refine below_set ?_ GE415.out) | exact HB.out)) hb)
            clear HO_3
            clear HO_416001
            clear HO_416002
            clear HO439
            clear BK415
            clear HB
            have HO_3 := n0_
            have HO_416001 := n1_
            have HO_416002 := n2_
            have HO439 := n3_
            have HO447 := n4_
            have BK415 := n5_
            have HB := n6_
            clear n0_ n1_ n2_ n3_ n4_ n5_ n6_
            (try clear hb)
            (try clear hb2)
            (try clear hk)
            (try clear hi)
            (try clear ho0)
            refine hK.out _ _ ⟨(blk_cell BK415.out 0).trans rfl, (blk_cell BK415.out 1).trans rfl, (blk_cell BK415.out 2).trans rfl, HS3_, HS4_⟩ (fun hHeld => ?_)
            clear hK K
            refine norm_ (a' := ?_) ?_ ?_
            rotate_left
            ·show Act.put _ (some 54) _ = _
             simp only [Act.put, qT, qZ, qS, i64_w, i32_w]
             rfl
            refine one_ (i := 6) (N := some 47) #[true, true, true, true, true, true, true, true, true, true, true, true, true, true, false] rfl rfl (one_of HT_.out (by kernel_rfl)) (by decide) (fun K hK => ?_)
            refine Kd.R_lit_step (Kd.int .u64) _ 35 ?hg (N := 47) ?hd (xs := ([rd t420 x6_2] : List Int)) (inner := [.int .u64 (rd t420 x6_2)]) (ok := fun _ => True) (okp := fun _ => True) ?hr ?hp (fun _ hk => hk) trivial (Below.refl _ _) (Nat.le_refl _) (by simp) ?_; (case hd => rfl); (case hg => rfl); (case hr => first | (go_simp; done) | (go_simp; rfl)); (case hp => exact (Reps.one (show Kd.M (Kd.int .u64) _ _ _ (rd t420 x6_2) [.int .u64 (rd t420 x6_2)] from rfl) (Reps.none _ _)))
            intro v442 w53 ho54 hb hg_ hnew_
            have HS3_ := (hb.cell (World.block_lt_of_cell? _ _ (hHeld.2.2.2.1))).trans (hHeld.2.2.2.1)
            have HS4_ := (hb.cell (World.block_lt_of_cell? _ _ (hHeld.2.2.2.2))).trans (hHeld.2.2.2.2)
            clear hg_ hnew_
            (first | rw [← Ny441.out] at ho54 | (simp only [Int.reduceToNat] at ho54; rw [← Ny441.out] at ho54))
            have n0_ := AQ (Kd.R_elder' (PR HO_3) (Kd.R_base ho54) hb)
            have n1_ := AQ (Kd.S_below (PS HO_416001) hb)
            have n2_ := AQ (Kd.R_elder' (PR HO_416002) (Kd.R_base ho54) hb)
            have n3_ := AQ (Kd.S_elder' (PS HO439) (Kd.R_base ho54) hb)
            have n4_ := AQ (Kd.R_below (PR HO447) hb)
            have n5_ := AQ (Kd.R_lower (Kd.R_new' ho54 (Kd.R_lt (PR HO_416002))) (below_size (by repeat (first | (with_reducible first | exact HB.out | apply below_alloc | apply pw_below_drewN | apply below_drew1 | refine below_set ?_ GE415.out) | exact HB.out))))
            have n6_ := AQ (blk_below (g := gb415) (o := .cells #[.int .i64 t416, .slice Ao9 t417.length co9, .slice (some ad433) t420.length co10] 25 (0, 0)) (PK BK415) hb)
            have n7_ := AQ (below_step (by repeat (first | (with_reducible first | exact HB.out | apply below_alloc | apply pw_below_drewN | apply below_drew1 | refine below_set ?_ GE415.out) | exact HB.out)) hb)
            clear HO_3
            clear HO_416001
            clear HO_416002
            clear HO439
            clear HO447
            clear BK415
            clear HB
            have HO_3 := n0_
            have HO_416001 := n1_
            have HO_416002 := n2_
            have HO439 := n3_
            have HO447 := n4_
            have HO443 := n5_
            have BK415 := n6_
            have HB := n7_
            clear n0_ n1_ n2_ n3_ n4_ n5_ n6_ n7_
            clear hb ho54
            refine hK.out _ _ ⟨(blk_cell BK415.out 0).trans rfl, (blk_cell BK415.out 1).trans rfl, (blk_cell BK415.out 2).trans rfl, HS3_, HS4_⟩ (fun hHeld => ?_)
            clear hK K
            refine norm_ (a' := ?_) ?_ ?_
            rotate_left
            ·show Act.put _ (some 47) _ = _
             simp only [Act.put, qT, qZ, qS, i64_w, i32_w]
             rfl
            exact norm_ (by simp only [putAll, Act.put, List.setIfInBounds_toArray, List.set_cons_zero, List.set_cons_succ]) (hCont (v442, v446) _ ⟨hHeld, (by (with_reducible repeat (first | apply Kd.S_alloc | apply Kd.S_drewN | apply Kd.S_drew)); exact Kd.S_mono HO439.out (fun _ hk => ⟨hk.2, hk.1⟩)), (by (with_reducible repeat (first | apply Kd.R_alloc | apply Kd.R_drewN | apply Kd.R_drew)); exact Kd.R_mono HO443.out (fun _ hk => hk.2)), (PR HO447), (by (with_reducible repeat (first | apply Kd.R_alloc | apply Kd.R_drewN | apply Kd.R_drew)); exact Kd.R_mono HO_3.out (fun _ hk => ⟨hk.2, ⟨hk.1.2, hk.1.1.1⟩⟩)), (by (with_reducible repeat (first | apply Kd.S_alloc | apply Kd.S_drewN | apply Kd.S_drew)); exact Kd.S_mono HO_416001.out (fun _ hk => hk.2)), (by (with_reducible repeat (first | apply Kd.R_alloc | apply Kd.R_drewN | apply Kd.R_drew)); exact Kd.R_mono HO_416002.out (fun _ hk => hk.2)), (PK BK415), (by repeat (first | (with_reducible first | exact HB.out | apply below_alloc | apply pw_below_drewN | apply below_drew1 | refine below_set ?_ GE415.out) | exact HB.out))⟩)
          rintro ⟨v442, v446⟩ w55 ⟨hS_, h0_, h1_, h2_, h3_, h4_, h5_, h6_, h7_⟩
          have n0_ : Aside0 (Kd.S (Kd.slice 35 (Kd.int .u64)) 23 w55 w.heap.size (fun k_ => some k_ ≠ (v442 : Value).ownBlock ∧ some k_ ≠ (.slice (some ad433) t420.length co10 : Value).ownBlock) v438 y437) := ⟨h0_⟩
          have n1_ : Aside0 (Kd.R (Kd.int .u64) 35 w55 w.heap.size (fun k_ => some k_ ≠ (.slice (some ad433) t420.length co10 : Value).ownBlock) v442 y441) := ⟨h1_⟩
          have n2_ : Aside0 (Kd.R (Kd.int .u8) 5 w55 w.heap.size (fun _ => True) v446 t445) := ⟨h2_⟩
          have n3_ : Aside0 (Kd.R k74 74 w55 w.heap.size (fun k_ => some k_ ≠ (v442 : Value).ownBlock ∧ some k_ ≠ (v446 : Value).ownBlock ∧ some k_ ≠ (.slice (some ad433) t420.length co10 : Value).ownBlock) (.slice Ao50 x3_2.length co50) x3_2) := ⟨h3_⟩
          have n4_ : Aside0 (Kd.S (Kd.slice 5 (Kd.int .u8)) 36 w55 w.heap.size (fun k_ => some k_ ≠ (v446 : Value).ownBlock) (.slice Ao9 t417.length co9) t417) := ⟨h4_⟩
          have n5_ : Aside0 (Kd.R (Kd.int .u64) 35 w55 w.heap.size (fun k_ => some k_ ≠ (v442 : Value).ownBlock) (.slice (some ad433) t420.length co10) t420) := ⟨h5_⟩
          have n6_ : Aside0 (w55.heap[gb415]? = some (.cells #[.int .i64 t416, .slice Ao9 t417.length co9, .slice (some ad433) t420.length co10] 25 (0, 0))) := ⟨h6_⟩
          have n7_ : Aside0 (Below w.heap.size w w55) := ⟨h7_⟩
          clear HO_3
          clear HO_416001
          clear HO_416002
          clear HO439
          clear BK415
          clear HB
          clear h0_ h1_ h2_ h3_ h4_ h5_ h6_ h7_
          have HO439 := n0_
          have HO443 := n1_
          have HO447 := n2_
          have HO_3 := n3_
          have HO_416001 := n4_
          have HO_416002 := n5_
          have BK415 := n6_
          have HB := n7_
          clear n0_ n1_ n2_ n3_ n4_ n5_ n6_ n7_
          have hHeld : w55.cell? ⟨gb415, 0, none⟩ = some (.int .i64 t416) ∧ w55.cell? ⟨gb415, 1, none⟩ = some (.slice Ao9 t417.length co9) ∧ w55.cell? ⟨gb415, 2, none⟩ = some (.slice (some ad433) t420.length co10) ∧ w55.cell? (ad433.add (x6_2).toNat) = some (.int .u64 (rd t420 x6_2)) ∧ w55.cell? (ad433.add (x6_2).toNat) = some (.int .u64 (rd t420 x6_2)) := hS_
          obtain ⟨Ao56, co56, eo56⟩ := Kd.R_slice HO443.out
          (first | subst eo56 | (injection eo56 with f1_ f2_ f3_; have f4_ := f1_.symm; have f5_ := f3_.symm; clear f1_ f2_ f3_; subst f4_; subst f5_))
          obtain ⟨Ao57, co57, eo57⟩ := Kd.R_slice HO447.out
          (first | subst eo57 | (injection eo57 with f1_ f2_ f3_; have f4_ := f1_.symm; have f5_ := f3_.symm; clear f1_ f2_ f3_; subst f4_; subst f5_))
          refine norm_ (a' := ?_) ?_ ?_
          rotate_left
          ·simp only [putAll, Act.put, List.setIfInBounds_toArray, List.set_cons_zero, List.set_cons_succ]
           rfl
          refine last_ (i := 14) (N := some 55) #[true, true, true, true, true, true, true, true, true, true, true, true, true, true, true] rfl rfl (one_of HT_.out (by kernel_rfl)) (by decide) (fun K hK => ?_)
          refine goes_ Tryd.func11 (by kernel_rfl) rfl #[ptrOf (.slice Ao50 x3_2.length co50), .slice Ao56 y441.length co56, .slice Ao57 t445.length co57] (by rfl) rfl rfl (by (try simp only [List.map_toArray, List.map_cons, List.map_nil]); first | done | rfl | (simp only [List.length_drop, List.length_take]; rfl)) ?_
          with_reducible refine (elim_System_Add.calls k2 (fun k_ => (some k_ ≠ (.slice Ao56 y441.length co56 : Value).ownBlock ∧ (some k_ ≠ (.slice Ao57 t445.length co57 : Value).ownBlock ∧ some k_ ≠ (.slice (some ad433) t420.length co10 : Value).ownBlock))) (.slice Ao50 x3_2.length co50) x3_2 _ _ y441 _ _ t445 t448 t449 t452 w _ ?side1 ?side2 ?side3 ?side4 ?side5 ?side6 ?side7 A23.out).mono ?_
          (case side1 => first | exact HT.out | exact TabIn.below HT.out (by repeat (first | (with_reducible first | exact HB.out | apply below_alloc | apply pw_below_drewN | apply below_drew1 | refine below_set ?_ GE415.out) | exact HB.out)) | (repeat (first | apply TabIn.drewN | apply TabIn.drew | exact HT.out)))
          (case side2 => repeat (first | (with_reducible first | exact HB.out | apply below_alloc | apply pw_below_drewN | apply below_drew1 | refine below_set ?_ GE415.out) | exact HB.out))
          (case side3 => exact PR HO_3)
          (case side4 => exact QC HO443)
          (case side5 => exact (Kd.R_reads' HO443.out).2.1)
          (case side6 => exact QC HO447)
          (case side7 => exact (Kd.R_reads' HO447.out).2.1)
          rintro e w58 ⟨v450, rfl, ho0, hy0, hb, hkp⟩
          refine ⟨_, rfl, ?_⟩
          have n0_ := AQ (Kd.R_mono (ok' := fun k_ => (some k_ ≠ (.slice Ao56 y441.length co56 : Value).ownBlock ∧ (some k_ ≠ (.slice Ao57 t445.length co57 : Value).ownBlock ∧ some k_ ≠ (.slice (some ad433) t420.length co10 : Value).ownBlock))) hy0 (fun k_ hk_ => Or.elim hk_ (fun hs_ => hs_) (fun hn_ => ⟨(Kd.fresh' (Kd.R_lt (PR HO443)) k_ hn_), ⟨(Kd.fresh' (Kd.R_lt (PR HO447)) k_ hn_), (Kd.fresh' (Kd.R_lt (PR HO_416002)) k_ hn_)⟩⟩)))
          have n1_ := AQ (Kd.S_skept (PS HO_416001) hkp (by decide))
          have n2_ := AQ (Kd.R_skept (PR HO_416002) hkp (by decide))
          have n3_ := AQ (blk_skept (PK BK415) hkp (by decide))
          have n4_ := AQ (Kd.S_skept (PS HO439) hkp (by decide))
          have n5_ := AQ (Kd.R_skept (PR HO443) hkp (by decide))
          have n6_ := AQ (Kd.R_skept (PR HO447) hkp (by decide))
          have n7_ := AQ (Kd.R_lower ho0 (below_size (by repeat (first | (with_reducible first | exact HB.out | apply below_alloc | apply pw_below_drewN | apply below_drew1 | refine below_set ?_ GE415.out) | exact HB.out))))
          have n8_ := AQ (hb)
          clear HO_3
          clear HO_416001
          clear HO_416002
          clear BK415
          clear HO439
          clear HO443
          clear HO447
          clear HB
          have HO_3 := n0_
          have HO_416001 := n1_
          have HO_416002 := n2_
          have BK415 := n3_
          have HO439 := n4_
          have HO443 := n5_
          have HO447 := n6_
          have HO451 := n7_
          have HB := n8_
          clear n0_ n1_ n2_ n3_ n4_ n5_ n6_ n7_ n8_
          (try clear hb)
          (try clear hkp)
          (try clear hy0)
          (try clear ho0)
          refine hK.out _ _ ?_
          clear hK K
          refine norm_ (a' := ?_) ?_ ?_
          rotate_left
          ·show Act.put _ (some 55) _ = _
           simp only [Act.put, qT, qZ, qS, i64_w, i32_w]
           rfl
          refine done_ (done_of HT_.out (by kernel_rfl)) ?_
          try go_wp2
          have n0_ := AQ (Kd.R_drew HO_3.out)
          have n1_ := AQ (Kd.S_drew HO_416001.out)
          have n2_ := AQ (Kd.R_drew HO_416002.out)
          have n3_ := AQ (Kd.S_drew HO439.out)
          have n4_ := AQ (Kd.R_drew HO443.out)
          have n5_ := AQ (Kd.R_drew HO447.out)
          have n6_ := AQ (Kd.R_drew HO451.out)
          have n7_ := AQ (blk_drew BK415.out)
          have n8_ := AQ (below_drew1 HB.out)
          clear HO_3
          clear HO_416001
          clear HO_416002
          clear HO439
          clear HO443
          clear HO447
          clear HO451
          clear BK415
          clear HB
          have HO_3 := n0_
          have HO_416001 := n1_
          have HO_416002 := n2_
          have HO439 := n3_
          have HO443 := n4_
          have HO447 := n5_
          have HO451 := n6_
          have BK415 := n7_
          have HB := n8_
          clear n0_ n1_ n2_ n3_ n4_ n5_ n6_ n7_ n8_
          refine start_ (n := 8) (S := fun w' => w'.cell? ⟨gb415, 0, none⟩ = some (.int .i64 t416) ∧ w'.cell? ⟨gb415, 1, none⟩ = some (.slice Ao9 t417.length co9) ∧ w'.cell? ⟨gb415, 2, none⟩ = some (.slice (some ad433) t420.length co10)) (ds := []) #[false, false, false, false, false, false, false, false] (by kernel_rfl) rfl rfl ⟨(blk_cell BK415.out 0).trans rfl, (blk_cell BK415.out 1).trans rfl, (blk_cell BK415.out 2).trans rfl⟩ (fun hHeld => ?_); refine with_tabW geyserlaw05_ElimRanks.tab11 geyserlaw05_ElimRanks.bits11 (fun HT_ HW_ => ?_)
          generalize w58.drew = w59 at HO_3 HO_416001 HO_416002 HO439 HO443 HO447 HO451 BK415 HB hHeld ⊢
          refine pure_ (i := 0) (N := some 56) (v := ?_) (a' := ?_) #[true, false, false, false, false, false, false, false] rfl rfl (any_of HT_.out (by kernel_rfl)) (fun _ _ _ h => h) (Or.inl ⟨by rfl, ?_⟩) ?_ ?_
          rotate_left
          ·intro w'
           go_simp
           with_reducible rfl
          rotate_left
          ·simp only [Act.put, qT, qZ, qS, i64_w, i32_w]
           rfl
          refine pure_ (i := 2) (N := some 58) (v := ?_) (a' := ?_) #[true, false, true, false, false, false, false, false] rfl rfl (any_of HT_.out (by kernel_rfl)) (fun _ _ _ h => h) (Or.inl ⟨by rfl, ?_⟩) ?_ ?_
          rotate_left
          ·intro w'
           go_simp
           with_reducible rfl
          rotate_left
          ·simp only [Act.put, qT, qZ, qS, i64_w, i32_w]
           rfl
          refine pure_ (i := 3) (N := some 59) (v := ?_) (a' := ?_) #[true, false, true, true, false, false, false, false] rfl rfl (any_of HT_.out (by kernel_rfl)) (fun _ _ _ h => h) (Or.inl ⟨by rfl, ?_⟩) ?_ ?_
          rotate_left
          ·intro w'
           go_simp
           with_reducible rfl
          rotate_left
          ·simp only [Act.put, qT, qZ, qS, i64_w, i32_w]
           rfl
          refine take_ (i := 4) (N := some 60) (v := ?_) (a' := ?_) #[true, false, true, true, true, false, false, false] rfl rfl (take_ofW HT_.out HW_.out (by kernel_rfl)) (fun _ _ _ h => h) (Or.inl ⟨by rfl, ?_⟩) hHeld ?_ ?_
          rotate_left
          ·rintro w' ⟨s0, s1, s2⟩
           go_simp
           with_reducible rfl
          rotate_left
          ·simp only [Act.put, qT, qZ, qS, i64_w, i32_w]
           rfl
          refine pure_ (i := 5) (N := some 61) (v := ?_) (a' := ?_) #[true, false, true, true, true, true, false, false] rfl rfl (any_of HT_.out (by kernel_rfl)) (fun _ _ _ h => h) (Or.inl ⟨by rfl, ?_⟩) ?_ ?_
          rotate_left
          ·intro w'
           go_simp
           with_reducible rfl
          rotate_left
          ·simp only [Act.put, qT, qZ, qS, i64_w, i32_w]
           rfl
          refine one_ (i := 1) (N := some 57) #[true, true, true, true, true, true, false, false] rfl rfl (one_of HT_.out (by kernel_rfl)) (by decide) (fun K hK => ?_)
          refine goes_ Tryd.func14 (by kernel_rfl) rfl #[ptrOf (.slice Ao50 t452.length co50)] (by rfl) rfl rfl (by (try simp only [List.map_toArray, List.map_cons, List.map_nil]); first | done | (rw [show t452.length = x3_2.length from (Kd.R_reads' HO_3.out).1.symm] <;> rfl) | rfl | (simp only [List.length_drop, List.length_take]; rfl)) ?_
          with_reducible refine (elim_System_Rank.calls _ _ t452 t453 _ ?side1 ?side2 A24.out).mono ?_
          (case side1 => exact QC HO_3)
          (case side2 => rw [show t452.length = x3_2.length from (Kd.R_reads' HO_3.out).1.symm]; exact (Kd.R_reads' HO_3.out).2.1)
          rintro e w60 ⟨rfl, hb⟩
          refine ⟨_, rfl, ?_⟩
          have n0_ := AQ (Kd.R_below (PR HO_3) hb)
          have n1_ := AQ (Kd.S_below (PS HO_416001) hb)
          have n2_ := AQ (Kd.R_below (PR HO_416002) hb)
          have n3_ := AQ (Kd.S_below (PS HO439) hb)
          have n4_ := AQ (Kd.R_below (PR HO443) hb)
          have n5_ := AQ (Kd.R_below (PR HO447) hb)
          have n6_ := AQ (Kd.R_below (PR HO451) hb)
          have n7_ := AQ (blk_below (g := gb415) (o := .cells #[.int .i64 t416, .slice Ao9 t417.length co9, .slice (some ad433) t420.length co10] 25 (0, 0)) (PK BK415) hb)
          have n8_ := AQ (below_step (by repeat (first | (with_reducible first | exact HB.out | apply below_alloc | apply pw_below_drewN | apply below_drew1 | refine below_set ?_ GE415.out) | exact HB.out)) hb)
          clear HO_3
          clear HO_416001
          clear HO_416002
          clear HO439
          clear HO443
          clear HO447
          clear HO451
          clear BK415
          clear HB
          have HO_3 := n0_
          have HO_416001 := n1_
          have HO_416002 := n2_
          have HO439 := n3_
          have HO443 := n4_
          have HO447 := n5_
          have HO451 := n6_
          have BK415 := n7_
          have HB := n8_
          clear n0_ n1_ n2_ n3_ n4_ n5_ n6_ n7_ n8_
          (try clear hb)
          (try clear hb2)
          (try clear hk)
          (try clear hi)
          obtain ⟨Ao61, co61, eo61⟩ := Kd.S_slice HO439.out
          (first | subst eo61 | (injection eo61 with f1_ f2_ f3_; have f4_ := f1_.symm; have f5_ := f3_.symm; clear f1_ f2_ f3_; subst f4_; subst f5_))
          refine hK.out _ _ ⟨(blk_cell BK415.out 0).trans rfl, (blk_cell BK415.out 1).trans rfl, (blk_cell BK415.out 2).trans rfl⟩ (fun hHeld => ?_)
          clear hK K
          refine norm_ (a' := ?_) ?_ ?_
          rotate_left
          ·show Act.put _ (some 57) _ = _
           simp only [Act.put, qT, qZ, qS, i64_w, i32_w]
           rfl
          refine one_ (i := 6) (N := some 62) #[true, true, true, true, true, true, true, false] rfl rfl (one_of HT_.out (by kernel_rfl)) (by decide) (fun K hK => ?_)
          refine goes_ Tryd.func16 (by kernel_rfl) rfl #[.slice Ao61 y437.length co61, .int .i64 (t417.length : Int)] (by rfl) rfl rfl (by (try simp only [List.map_toArray, List.map_cons, List.map_nil]); first | done | rfl | (simp only [List.length_drop, List.length_take]; rfl)) ?_
          with_reducible refine (geyserref03_Rank.calls k2 _ _ y437 (t417.length : Int) t454 _ ?side1 ?side2 A25.out).mono ?_
          (case side1 => repeat (first | exact (Kd.S_reads' HO439.out).2.2 | (with_reducible refine Kd.C_alloc ?_ _) | (with_reducible refine Kd.C_drewN ?_ _) | (with_reducible refine Kd.C_drew ?_)))
          (case side2 => exact (Kd.S_reads' HO439.out).2.1)
          rintro e w62 ⟨rfl, hb⟩
          refine ⟨_, rfl, ?_⟩
          have n0_ := AQ (Kd.R_below (PR HO_3) hb)
          have n1_ := AQ (Kd.S_below (PS HO_416001) hb)
          have n2_ := AQ (Kd.R_below (PR HO_416002) hb)
          have n3_ := AQ (Kd.S_below (PS HO439) hb)
          have n4_ := AQ (Kd.R_below (PR HO443) hb)
          have n5_ := AQ (Kd.R_below (PR HO447) hb)
          have n6_ := AQ (Kd.R_below (PR HO451) hb)
          have n7_ := AQ (blk_below (g := gb415) (o := .cells #[.int .i64 t416, .slice Ao9 t417.length co9, .slice (some ad433) t420.length co10] 25 (0, 0)) (PK BK415) hb)
          have n8_ := AQ (below_step (by repeat (first | (with_reducible first | exact HB.out | apply below_alloc | apply pw_below_drewN | apply below_drew1 | refine below_set ?_ GE415.out) | exact HB.out)) hb)
          clear HO_3
          clear HO_416001
          clear HO_416002
          clear HO439
          clear HO443
          clear HO447
          clear HO451
          clear BK415
          clear HB
          have HO_3 := n0_
          have HO_416001 := n1_
          have HO_416002 := n2_
          have HO439 := n3_
          have HO443 := n4_
          have HO447 := n5_
          have HO451 := n6_
          have BK415 := n7_
          have HB := n8_
          clear n0_ n1_ n2_ n3_ n4_ n5_ n6_ n7_ n8_
          (try clear hb)
          (try clear hb2)
          (try clear hk)
          (try clear hi)
          refine hK.out _ _ ⟨(blk_cell BK415.out 0).trans rfl, (blk_cell BK415.out 1).trans rfl, (blk_cell BK415.out 2).trans rfl⟩ (fun hHeld => ?_)
          clear hK K
          refine norm_ (a' := ?_) ?_ ?_
          rotate_left
          ·show Act.put _ (some 62) _ = _
           simp only [Act.put, qT, qZ, qS, i64_w, i32_w]
           rfl
          refine pure_ (i := 7) (N := some 63) (v := ?_) (a' := ?_) #[true, true, true, true, true, true, true, true] rfl rfl (any_of HT_.out (by kernel_rfl)) (fun _ _ _ h => h) (Or.inl ⟨by rfl, ?_⟩) ?_ ?_
          rotate_left
          ·intro w'
           go_simp
           with_reducible rfl
          rotate_left
          ·simp only [Act.put, qT, qZ, qS, i64_w, i32_w]
           rfl
          refine done_ (done_of HT_.out (by kernel_rfl)) ?_
          try go_wp2
          go_ret
          exact ⟨by first | rfl | (simp [errW_none, errW_some] <;> rfl) | (simp [*, errW_none, errW_some] <;> rfl), by repeat (first | (with_reducible first | exact HB.out | apply below_alloc | apply pw_below_drewN | apply below_drew1 | refine below_set ?_ GE415.out) | exact HB.out)⟩
        ·rw [if_neg c21] at H
         exact absurd H (by simp)
       ·rw [if_neg c20] at H
        exact absurd H (by simp)
      ·rw [if_neg c19] at H
       have c19b0 : decide (x6_2 < (t420.length : Int)) = false := decide_eq_false c19
       clear c19
       replace H := Option.bind_eq_some_iff.mp H
       obtain ⟨t432, A630, H⟩ := H
       replace H : (some t432) = some r := H
       have A63 := AQ A630
       clear A630
       obtain rfl := Option.some.inj H
       have hcz64_0 : wr.cell? ⟨gb415, 0, none⟩ = some (.int .i64 t416) := (blk_cell BK415.out 0).trans rfl
       have hcz64_1 : wr.cell? ⟨gb415, 1, none⟩ = some (.slice Ao9 t417.length co9) := (blk_cell BK415.out 1).trans rfl
       have hcz64_2 : wr.cell? ⟨gb415, 2, none⟩ = some (.slice Ao10 t420.length co10) := (blk_cell BK415.out 2).trans rfl
       have hfz64_0 := blk_frozen BK415.out 0
       have hfz64_1 := blk_frozen BK415.out 1
       have hfz64_2 := blk_frozen BK415.out 2
       go_wp2_with (first | ((with_reducible refine gate_callee (f := 15) rfl ?_); refine goesL_ (some 64) rfl rfl Tryd.func15 (by kernel_rfl) rfl #[] rfl (by (try simp only [List.map_toArray, List.map_cons, List.map_nil]); first | done | rfl | (simp only [List.length_drop, List.length_take]; rfl)) ?_; (with_reducible refine (geyserlaw05_awake.calls k2  t432 _ ?side1 A63.out).mono ?_); (case side1 => first | exact HT.out | exact TabIn.below HT.out (by repeat (first | (with_reducible first | exact HB.out | apply below_alloc | apply pw_below_drewN | apply below_drew1 | refine below_set ?_ GE415.out) | exact HB.out)) | (repeat (first | apply TabIn.drewN | apply TabIn.drew | exact HT.out))); rintro e w65 ⟨rfl, hb⟩; refine ⟨_, rfl, ?_⟩; have n0_ := AQ (Kd.R_below (PR HO_3) hb); have n1_ := AQ (Kd.S_below (PS HO_5) hb); have n2_ := AQ (Kd.S_below (PS HO_416001) hb); have n3_ := AQ (Kd.R_below (PR HO_416002) hb); have n4_ := AQ (blk_below (g := gb415) (o := .cells #[.int .i64 t416, .slice Ao9 t417.length co9, .slice Ao10 t420.length co10] 25 (0, 0)) (PK BK415) hb); have n5_ := AQ (below_step (by repeat (first | (with_reducible first | exact HB.out | apply below_alloc | apply pw_below_drewN | apply below_drew1 | refine below_set ?_ GE415.out) | exact HB.out)) hb); clear HO_3; clear HO_5; clear HO_416001; clear HO_416002; clear BK415; clear HB; have HO_3 := n0_; have HO_5 := n1_; have HO_416001 := n2_; have HO_416002 := n3_; have BK415 := n4_; have HB := n5_; clear n0_ n1_ n2_ n3_ n4_ n5_; (try clear hb); (try clear hb2); (try clear hk); (try clear hi)))
       go_ret
       exact ⟨by first | rfl | (simp [errW_none, errW_some] <;> rfl) | (simp [*, errW_none, errW_some] <;> rfl), by repeat (first | (with_reducible first | exact HB.out | apply below_alloc | apply pw_below_drewN | apply below_drew1 | refine below_set ?_ GE415.out) | exact HB.out)⟩
end Go.Proofs.YtjmgkknbgffbjaaDoor.P
namespace Go.Proofs.YtjmgkknbgffbjaaDoor.Pure
open Go.RowKit Go.Proofs.YtjmgkknbgffbjaaDoor.P Go.Proofs.YtjmgkknbgffbjaaDoorW.PrintWords Go.Proofs.YtjmgkknbgffbjaaDoorW.PrintLast Go.Proofs.YtjmgkknbgffbjaaDoorW.PrintErr Go.Proofs.YtjmgkknbgffbjaaDoorW.PrintMore Go.Proofs.YtjmgkknbgffbjaaDoor.Lin
set_option linter.unusedVariables false
set_option linter.unusedSimpArgs false
theorem take_next (R : List Int) (i : Nat) (h : i < R.length) : R.take (i + 1) = R.take i ++ [rd R (i : Int)] := by
  rw [List.take_add_one, List.getElem?_eq_getElem h]
  unfold rd
  rw [Int.toNat_natCast, List.getD_eq_getElem?_getD, List.getElem?_eq_getElem h]
  rfl
theorem rd_in {R : List Int} {i : Nat} (h : i < R.length) : rd R (i : Int) ∈ R := by unfold rd; rw [Int.toNat_natCast]; exact getD_mem h
theorem ranks_l0 {m : Nat} (hm1 : 1 ≤ m) (hm2 : m ≤ 4) {S : List (List Int)} (h1 : 1 ≤ S.length) (h2 : S.length ≤ 12) (hS : ∀ s ∈ S, SymOK m s) {R : List Int} (hl : R.length ≤ 24) (hR : ∀ a ∈ R, RowOK S.length [a]) :
    ∀ (d i : Nat) (x : S74) (L : List V), i + d = R.length → TI x S.length m (DS S) L → L.map (pr S.length) = (R.take i).map (fun a => hasB [a]) → L.length = i →
    Ev (fun k => geyserlaw05_ElimRanks.l0 k [x] ((R.take i).map fun a => [a]) (i : Int) (m : Int) S R) true := by
  intro d
  induction d with
  | zero =>
    intro i x L hi hT hL hn
    refine Ev.step (f := fun k => (geyserlaw05_awake.f k).bind fun t432 => some t432) (fun k => ?_) (Ev.bind awake05_ev (Ev.now _))
    rw [geyserlaw05_ElimRanks.l0, if_neg (by omega)]
  | succ d ih =>
    intro i x L hi hT hL hn
    have hlt : i < R.length := by omega
    have hmem := rd_in hlt
    have hr := hR _ hmem
    have hw : wrap64 ((i : Int) + 1) = ((i + 1 : Nat) : Int) := by rw [w64s (by omega) (by omega)]; rfl
    obtain ⟨so, st⟩ := tsym_ok hS hr
    have es := sym_ev hm1 (by omega) hS hr R
    have ey : (R.take i).map (fun a => [a]) ++ [[rd R (i : Int)]] = (R.take (i + 1)).map fun a => [a] := by rw [take_next R i hlt, List.map_append]; rfl
    have hlen : ((R.take i).map fun a => [a]).length < 5864062014805 := by rw [List.length_map, List.length_take]; omega
    have hmat : Mat ((R.take (i + 1)).map fun a => [a]) S.length := ⟨by rw [List.length_map, List.length_take]; omega, by omega, fun r h => by
      obtain ⟨a, ha, rfl⟩ := List.mem_map.1 h
      have g := hR a (List.mem_of_mem_take ha)
      exact ⟨(wokB_iff [a] S.length (by omega)).2 ⟨g.len, fun c hc => g.hi c (by omega)⟩, g.u⟩⟩
    obtain ⟨r, er, rk⟩ := rrank_ev _ S.length hmat
    have L' : (L ++ [J S.length [rd R (i : Int)] (tsym m S [rd R (i : Int)])]).map (pr S.length) = (R.take (i + 1)).map fun a => hasB [a] := by
      rw [List.map_append, List.map_singleton, pr_J hr, hL, take_next R i hlt, List.map_append]; rfl
    have eM : ((R.take (i + 1)).map fun a => [a]).map hasB = (R.take (i + 1)).map fun a => hasB [a] := by rw [List.map_map]; rfl
    have hadd : ∃ kind x', Ev (fun k => elim_System_Add.f k [x] [rd R (i : Int)] (tsym m S [rd R (i : Int)])) (kind, [], [x']) ∧ TI x' S.length m (DS S) (L ++ [J S.length [rd R (i : Int)] (tsym m S [rd R (i : Int)])]) := by
      rcases hT.add (by omega) hr so st with ⟨x', he, ht, _⟩ | ⟨he, ht, _⟩
      · exact ⟨_, x', he, ht⟩
      · exact ⟨_, x, he, ht⟩
    obtain ⟨kind, x', he, ht⟩ := hadd
    have hrk := ht.rk
    rw [L', ← eM] at hrk
    have hn' : x'.f2.length = r := hrk.uniq rk
    refine Ev.step (f := fun k => (geyserlaw05_True_sym.f k (m : Int) S R (rd R (i : Int))).bind fun t445 => ((elim_System_Add.f k [x] [rd R (i : Int)] t445).bind fun bt448 => ((elim_System_Rank.f bt448.2.2).bind fun t453 => ((geyserref03_Rank.f k ((R.take (i + 1)).map fun a => [a]) (S.length : Int)).bind fun t454 => (if t453 = t454 then (geyserlaw05_ElimRanks.l0 k bt448.2.2 ((R.take (i + 1)).map fun a => [a]) ((i + 1 : Nat) : Int) (m : Int) S R) else some false))))) (fun k => ?_) (Ev.bind es (Ev.bind he ?_))
    · rw [geyserlaw05_ElimRanks.l0, if_pos (by omega), if_pos (by omega), if_pos hlen, ey, Option.bind_some, hw]
    · refine Ev.congr (f := fun k => (geyserref03_Rank.f k ((R.take (i + 1)).map fun a => [a]) (S.length : Int)).bind fun t454 => (if ((x'.f2.length : Nat) : Int) = t454 then (geyserlaw05_ElimRanks.l0 k [x'] ((R.take (i + 1)).map fun a => [a]) ((i + 1 : Nat) : Int) (m : Int) S R) else some false)) (fun k => by rw [rank_eq, Option.bind_some]) (Ev.bind er ?_)
      refine Ev.congr (fun k => if_pos (by rw [hn'])) (ih (i + 1) x' _ (by omega) ht L' (by rw [List.length_append, hn]; rfl))
theorem ElimRanks (a0 : Int) (L : List (List Int)) (R : List Int) (hL : ∀ s ∈ L, ∀ x ∈ s, 0 ≤ x ∧ x ≤ 255) (hR : ∀ x ∈ R, U64 x) : ∃ k, geyserlaw05_ElimRanks.f k a0 L R = some true := by
  refine Ev.rounds (g := fun k => geyserlaw05_ElimRanks.f k a0 L R) ?_
  obtain ⟨m, S, rows, he, ⟨m1, m2⟩, ⟨s1, s2⟩, hS, hr, hrow⟩ := fit_ev a0 L hL R hR
  have hT := TI.new (n := S.length) (m := m) s1 (by omega) m1 (by omega) (DS S)
  have hl := ranks_l0 m1 m2 s1 s2 hS hr hrow rows.length 0 (newS S.length m) [] (by omega) hT (by simp) rfl
  unfold geyserlaw05_ElimRanks.f
  refine Ev.bind he ?_
  refine Ev.congr (f := fun k => geyserlaw05_ElimRanks.j0 k [newS S.length m] false (m : Int) S rows) (fun k => ?_) (Ev.step (fun k => ?_) hl)
  · show (elim_New.f (S.length : Int) (m : Int)).bind _ = _
    rw [new_eq s1 (by omega) m1 (by omega), Option.bind_some]
    rfl
  · rw [geyserlaw05_ElimRanks.j0, if_neg Bool.false_ne_true]
    rfl
end Go.Proofs.YtjmgkknbgffbjaaDoor.Pure
