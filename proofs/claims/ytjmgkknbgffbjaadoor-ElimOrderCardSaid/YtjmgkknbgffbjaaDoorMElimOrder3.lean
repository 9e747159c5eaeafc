-- joined by join.py: Px32 Px33 Px34 Px35 Px36 Px57 PureEG ElimA ElimS ElimMNew Px3 ElimMFits ElimMAdd Px14 ElimMRank Px25 PureE2 Px1 Px21
import Derived.RegionTactic
import Derived.BigRegion
import Derived.Deep.RegionLaw
import Derived.Test.YtjmgkknbgffbjaaDoorMElimOrder2
namespace Go.Proofs.YtjmgkknbgffbjaaDoor.P
open Go.RowKit Go.Proofs.YtjmgkknbgffbjaaDoorW.PrintWords Go.Proofs.YtjmgkknbgffbjaaDoorW.PrintLast Go.Proofs.YtjmgkknbgffbjaaDoorW.PrintErr Go.Proofs.YtjmgkknbgffbjaaDoorW.PrintMore
attribute [local go_sem] max2_int min2_int max_two min_two max_three min_three max_four min_four run_eql_errOf run_neq_errOf eqGuard_errOf run_eql_ptrOf run_neq_ptrOf eqGuard_ptrOf   -- for this text's walks alone
set_option linter.unusedVariables false
set_option linter.unusedSimpArgs false
def geyserref03_swap.f (l0 : List (List Bool)) (a1 : Int) (a2 : Int) : Option ((List (List Bool))) := (some (([] : List (List Bool)) : List (List Bool))).bind fun y372 => (if y372.length + l0.length < 5864062014805 then ((some (y372 ++ l0 : List (List Bool))).bind fun y375 => (if 0 ≤ a2 then (if a2 < (l0.length : Int) then (if 0 ≤ a1 then (if a1 < (y375.length : Int) then (if a1 < (l0.length : Int) then (if a2 < (y375.length : Int) then (some ((y375.set (a1 : Int).toNat (rd_Lsbool l0 a2)).set (a2 : Int).toNat (rd_Lsbool l0 a1))) else (none)) else (none)) else (none)) else (none)) else (none)) else (none))) else (none))
set_option maxHeartbeats 8000000 in
set_option maxRecDepth 100000 in
theorem geyserref03_swap.calls (P0_ : Nat → Prop) (A0 : Option Addr) (c0 : Nat) (l0 : List (List Bool)) (a1 : Int) (a2 : Int) (r : List (List Bool)) (w : World) (hs0 : Kd.V (Kd.slice 4 Kd.bool) 49 w w.heap.size (fun k_ => P0_ k_) (.slice A0 l0.length c0) l0) (h : geyserref03_swap.f l0 a1 a2 = some r) :
  Calls Tryd.prog 56 #[.slice A0 l0.length c0, .int .i64 a1, .int .i64 a2] w fun e w' => ∃ v0_ : Value, e = .returned (v0_) ∧ Kd.N (Kd.slice 4 Kd.bool) 49 w' w.heap.size (fun k_ => (P0_ k_ ∨ w.heap.size ≤ k_)) v0_ r ∧ Below w.heap.size w w' := by
 have HO0 := AQ (show Kd.V (Kd.slice 4 Kd.bool) 49 w w.heap.size (fun k_ => (P0_ k_ ∨ w.heap.size ≤ k_)) (.slice A0 l0.length c0) l0 from Kd.V_mono hs0 (fun k_ hk => .inl hk)); have HB := AQ (Below.refl w.heap.size w); have H : ((some (([] : List (List Bool)) : List (List Bool))).bind fun y372 => (if y372.length + l0.length < 5864062014805 then ((some (y372 ++ l0 : List (List Bool))).bind fun y375 => (if 0 ≤ a2 then (if a2 < (l0.length : Int) then (if 0 ≤ a1 then (if a1 < (y375.length : Int) then (if a1 < (l0.length : Int) then (if a2 < (y375.length : Int) then (some ((y375.set (a1 : Int).toNat (rd_Lsbool l0 a2)).set (a2 : Int).toNat (rd_Lsbool l0 a1))) else (none)) else (none)) else (none)) else (none)) else (none)) else (none))) else (none))) = some r := h; clear h; obtain ⟨y372, hy372⟩ : ∃ y_ : List (List Bool), y_ = (([] : List (List Bool))) := ⟨_, rfl⟩; replace H : (if y372.length + l0.length < 5864062014805 then ((some (y372 ++ l0 : List (List Bool))).bind fun y375 => (if 0 ≤ a2 then (if a2 < (l0.length : Int) then (if 0 ≤ a1 then (if a1 < (y375.length : Int) then (if a1 < (l0.length : Int) then (if a2 < (y375.length : Int) then (some ((y375.set (a1 : Int).toNat (rd_Lsbool l0 a2)).set (a2 : Int).toNat (rd_Lsbool l0 a1))) else (none)) else (none)) else (none)) else (none)) else (none)) else (none))) else (none)) = some r := (by first | (rw [hy372]; with_reducible exact H) | (have H2_ := (Option.bind_some _ _).symm.trans H; rw [hy372]; with_reducible exact H2_) | (have H2_ := (Option.bind_some _ _).symm.trans H; with_reducible exact H2_) | with_reducible exact H | (rw [hy372]; exact H) | exact H); have Ny372 := AQ hy372; clear hy372
 by_cases c4 : y372.length + l0.length < 5864062014805
 ·rw [if_pos c4] at H; have LMc4 := AQ c4; clear c4; obtain ⟨y375, hy375⟩ : ∃ y_ : List (List Bool), y_ = (y372 ++ l0) := ⟨_, rfl⟩; replace H : (if 0 ≤ a2 then (if a2 < (l0.length : Int) then (if 0 ≤ a1 then (if a1 < (y375.length : Int) then (if a1 < (l0.length : Int) then (if a2 < (y375.length : Int) then (some ((y375.set (a1 : Int).toNat (rd_Lsbool l0 a2)).set (a2 : Int).toNat (rd_Lsbool l0 a1))) else (none)) else (none)) else (none)) else (none)) else (none)) else (none)) = some r := (by first | (rw [hy375]; with_reducible exact H) | (have H2_ := (Option.bind_some _ _).symm.trans H; rw [hy375]; with_reducible exact H2_) | (have H2_ := (Option.bind_some _ _).symm.trans H; with_reducible exact H2_) | with_reducible exact H | (rw [hy375]; exact H) | exact H); have Ny375 := AQ hy375; clear hy375
  by_cases c5 : 0 ≤ a2
  ·rw [if_pos c5] at H; have c5b0 : decide (0 ≤ a2) = true := decide_eq_true c5; clear c5
   by_cases c6 : a2 < (l0.length : Int)
   ·rw [if_pos c6] at H; have c6b0 : decide (a2 < (l0.length : Int)) = true := decide_eq_true c6; clear c6
    by_cases c7 : 0 ≤ a1
    ·rw [if_pos c7] at H; have c7b0 : decide (0 ≤ a1) = true := decide_eq_true c7; clear c7
     by_cases c8 : a1 < (y375.length : Int)
     ·rw [if_pos c8] at H; have c8b0 : decide (a1 < (y375.length : Int)) = true := decide_eq_true c8; clear c8; obtain ⟨y379, hy379⟩ : ∃ y_ : List (List Bool), y_ = (y375.set (a1 : Int).toNat (rd_Lsbool l0 a2)) := ⟨_, rfl⟩; replace H : (if a1 < (l0.length : Int) then (if a2 < (y375.length : Int) then (some (y379.set (a2 : Int).toNat (rd_Lsbool l0 a1))) else (none)) else (none)) = some r := (by first | (rw [hy379]; with_reducible exact H) | (have H2_ := (Option.bind_some _ _).symm.trans H; rw [hy379]; with_reducible exact H2_) | (have H2_ := (Option.bind_some _ _).symm.trans H; with_reducible exact H2_) | with_reducible exact H | (rw [hy379]; exact H) | exact H); have Ny379 := AQ hy379; clear hy379
      by_cases c10 : a1 < (l0.length : Int)
      ·rw [if_pos c10] at H; have c10b0 : decide (a1 < (l0.length : Int)) = true := decide_eq_true c10; clear c10
       by_cases c11 : a2 < (y375.length : Int)
       ·rw [if_pos c11] at H; have c11b0 : decide (a2 < (y375.length : Int)) = true := decide_eq_true c11; clear c11; obtain ⟨y381, hy381⟩ : ∃ y_ : List (List Bool), y_ = (y379.set (a2 : Int).toNat (rd_Lsbool l0 a1)) := ⟨_, rfl⟩; replace H : (some y381) = some r := (by first | (rw [hy381]; with_reducible exact H) | (have H2_ := (Option.bind_some _ _).symm.trans H; rw [hy381]; with_reducible exact H2_) | (have H2_ := (Option.bind_some _ _).symm.trans H; with_reducible exact H2_) | with_reducible exact H | (rw [hy381]; exact H) | exact H); have Ny381 := AQ hy381; clear hy381; obtain rfl := Option.some.inj H; go_enter Tryd.func56, Tryd.ntmps56; go_wp2_with (first | ((with_reducible refine gate_dst (N := 8) rfl ?_); refine Kd.N_lit (Kd.slice 4 Kd.bool) _ 49 ?hg (N' := 8) ?hd (xs := ([] : List (List Bool))) (inner := []) (ok := (fun k_ => (P0_ k_ ∨ w.heap.size ≤ k_))) (okp := (fun k_ => (P0_ k_ ∨ w.heap.size ≤ k_))) ?hr ?hp (fun _ hk => hk) ((show ∀ k_, w.heap.size ≤ k_ → (fun k_ => (P0_ k_ ∨ w.heap.size ≤ k_)) k_ from fun k_ hk => (.inr (Nat.le_trans (below_size (PB HB)) hk))) _ (Nat.le_refl _)) (Below.refl _ _) (Nat.le_refl _) (by simp) ?_; (case hd => rfl); (case hg => rfl); (case hr => first | (go_simp; done) | (go_simp; rfl)); (case hp => exact (Reps.none _ _)); intro v373 w13 ho14 hb hg_ hnew_; clear hg_ hnew_; (first | rw [← Ny372.out] at ho14 | (simp only [Int.reduceToNat] at ho14; rw [← Ny372.out] at ho14)); have n0_ := AQ (Kd.V_elder' (PV HO0) (Kd.N_base ho14) hb); have n1_ := AQ (Kd.N_lower ho14 (below_size (PB HB))); have n2_ := AQ (below_step (PB HB) hb); clear HO0; clear HB; have HO0 := n0_; have HO374 := n1_; have HB := n2_; clear n0_ n1_ n2_; clear hb ho14) | ((with_reducible refine gate_builtin (b := .append) (xs := #[.tmp 8, .tmp 9]) rfl ?_); at_builtin; refine Kd.N_append_rows (Kd.slice 4 Kd.bool) (w0 := w) w.heap.size rfl (.tmp 8) (.tmp 9) 86 49 (.slice none 0 0) 24 rfl Tryd.underlying86 info49 rfl (by decide) (by omega) v373 y372 l0 _ _ _ (fun k_ => (P0_ k_ ∨ w.heap.size ≤ k_)) (fun k_ => ((fun k_ => (P0_ k_ ∨ w.heap.size ≤ k_))) k_ ∧ some k_ ≠ (v373 : Value).ownBlock) rfl rfl ?aO ?aR (fun _ hk => hk) ?aF ?aB ?aS ?aL ?_; (case aR => exact (by skip; exact Kd.V_F (Kd.V_mono (ok' := (fun k_ => ((fun k_ => (P0_ k_ ∨ w.heap.size ≤ k_))) k_ ∧ some k_ ≠ (v373 : Value).ownBlock)) (HO0.out) (fun k_ hk => ⟨hk.1, hk.2⟩)))); (case aB => exact (PB HB)); (case aF => exact (fun k_ hk => (.inr (Nat.le_trans (below_size (PB HB)) hk)))); (case aO => exact (PN HO374)); (case aS => exact (below_size (PB HB))); (case aL => have := LMc4.out; omega); intro v376 w15 ho hb hg hat; rw [← Ny375.out] at ho; have n0_ := AQ (Kd.V_afterv (ok := (fun k_ => (P0_ k_ ∨ w.heap.size ≤ k_))) (PV HO0) hg hat); have n1_ := AQ (hb); have n2_ := AQ (ho); clear HO0; clear HB; clear HO374; have HO0 := n0_; have HB := n1_; have HO377 := n2_; clear n0_ n1_ n2_; clear ho hb hg hat; have p378 : 0 ≤ (a2 : Int) := PD; have q378 : a2 < (l0.length : Int) := PD; obtain ⟨ad378, A378_0, c378_0, e378, hx378_0, hl378_0, hi378_0⟩ := at_Lsbool (Kd.V_reads' HO0.out).2.2 a2 p378 q378; cases e378; obtain ⟨ce378, hce378, hMe378, hcc378⟩ := Kd.V_get HO0.out [] a2 p378 (by first | exact q378 | exact PD | (have e_ := (Kd.V_reads' HO0.out).1; omega)); obtain ⟨ua378_0, uc378_0, rfl, ul378_0, ge378_0⟩ := Kd.FK_slice_open hMe378; have hv378_0 := hcc378 0 _ rfl; rw [Nat.add_zero, show ((Kd.slice 4 Kd.bool)).sz = 1 from rfl, Nat.mul_one] at hv378_0; replace hv378_0 := Option.some.inj (hv378_0.symm.trans hx378_0); injection hv378_0 with hva_ hvn_ hvc_; rw [hva_] at ge378_0; rw [hvc_] at ul378_0; have HL378_0 := AQ (show Kd.V Kd.bool 4 _ w.heap.size _ _ (rd_Lsbool l0 a2) from Kd.V_mk ul378_0 ge378_0); clear hva_ hvn_ hvc_ ge378_0 ul378_0; clear hcc378 hce378; have HR378_0 := AQ hi378_0; have HC378_0 := AQ hl378_0; clear hi378_0 hl378_0; replace p378 := eq_true p378; replace q378 := eq_true q378; have p9 : 0 ≤ (a1 : Int) := PD; have q9 : (a1 : Int) < ((y375.length : Int) : Int) := PD; obtain ⟨go9, co9, eo9, gb9, gl9, cl9, HG9⟩ := Kd.N_form HO377.out (by omega); (first | cases eo9 | (injection eo9 with ea_ en_ ec_; (first | subst ea_ | (injection ea_ with ea_; subst ea_)); subst ec_; clear en_)); have GB9 := AQ gb9; have GG9 := AQ HG9; clear gb9 gl9 HG9; obtain ⟨ce9, hcl9, hM9, hcc9, hfr9⟩ := Kd.N_elem HO377.out [] (a1 : Int) p9 q9; obtain ⟨ua9_0, uc9_0, rfl, ul9_0, ge9_0⟩ := Kd.FK_slice_open hM9; have hx9_0 := hcc9 0 _ rfl; have hf9_0 := hfr9 0; (try simp only [show ((Kd.slice 4 Kd.bool)).sz = 1 from rfl, Nat.mul_one, Nat.add_zero] at hx9_0); (try simp only [show ((Kd.slice 4 Kd.bool)).sz = 1 from rfl, Nat.mul_one, Nat.add_zero] at hf9_0); clear hcl9 hcc9 hfr9 hM9; replace p9 := eq_true p9; replace q9 := eq_true q9; have HX16 := AQ (show Kd.N (Kd.slice 4 Kd.bool) 49 w15 w.heap.size (fun k_ => (P0_ k_ ∨ w.heap.size ≤ k_)) (.slice (some ⟨go9, 0, none⟩) y375.length co9) y375 from (PN HO377)); obtain ⟨ce16, hcl16, hM16, hcc16, hfr16⟩ := Kd.N_elem HX16.out [] (a1 : Int) (PD) (by have h_ : (a1 : Int) < ((y375.length : Int) : Int) := PD; first | exact h_ | (have e_ := (Kd.N_reads' HO377.out).1; omega) | simpa using h_); obtain ⟨ua16_0, uc16_0, rfl, ul16_0, ge16_0⟩ := Kd.FK_slice_open hM16; have HP16 := Kd.N_seg HX16.out (a1 : Int) (PD) (by have h_ : (a1 : Int) < ((y375.length : Int) : Int) := PD; first | exact h_ | (have e_ := (Kd.N_reads' HO377.out).1; omega) | simpa using h_) (seg := [.slice A378_0 (rd_Lsbool l0 a2).length c378_0]) (j := 0) hcl16 hcc16 (show 1 ≤ 1 from by decide) (x' := rd_Lsbool l0 a2) (Kd.FK_slice_mk (Kd.V_reads' (Kd.V_mono (ok' := (fun k_ => ((fun k_ => (P0_ k_ ∨ w.heap.size ≤ k_))) k_ ∧ k_ ≠ go9)) (HL378_0.out) (fun k_ hk => ⟨hk.1, fun e_ => (hk.2) (by rw [e_]; rfl)⟩))).2.1 (Kd.V_F (Kd.V_mono (ok' := (fun k_ => ((fun k_ => (P0_ k_ ∨ w.heap.size ≤ k_))) k_ ∧ k_ ≠ go9)) (HL378_0.out) (fun k_ hk => ⟨hk.1, fun e_ => (hk.2) (by rw [e_]; rfl)⟩)))) (fun _ hk => hk); have hx16_0 := hcc16 0 _ rfl; (try simp only [show ((Kd.slice 4 Kd.bool)).sz = 1 from rfl, Nat.mul_one, Nat.add_zero] at hx16_0); have hf16_0 := hfr16 0; (try simp only [show ((Kd.slice 4 Kd.bool)).sz = 1 from rfl, Nat.mul_one, Nat.add_zero] at hf16_0); clear hcl16 hcc16 hfr16 hM16; (try simp only [show ((Kd.slice 4 Kd.bool)).sz = 1 from rfl, Nat.mul_one, Nat.add_zero] at HP16); (try simp only [show ((Kd.slice 4 Kd.bool)).sz = 1 from rfl, Nat.mul_one, Nat.add_zero] at HP16)) | ((with_reducible refine gate_store (t := 49) (p := 17) rfl ?_); refine store_event (t := 49) (p := 17) (v := ?vo_w17) (w1 := (w15.setCell ⟨go9, (a1 : Int).toNat, none⟩ (.slice A378_0 (rd_Lsbool l0 a2).length c378_0))) ?hg ?ho ?hn ?hr ?_; (case ho => rfl); (case hg => rfl); (case hn => rfl); (case hr => first | (go_simp; done) | (go_simp; rfl)); intro w17 hw; have hg : w15.grownBy w17 (some go9) := (by rw [hw]; exact HP16.2); have hp_ : Kd.N (Kd.slice 4 Kd.bool) 49 w17 w.heap.size (fun k_ => (P0_ k_ ∨ w.heap.size ≤ k_)) (.slice (some ⟨go9, 0, none⟩) y375.length co9) y379 := (by rw [hw, Ny379.out]; exact HP16.1); clear HP16; have n0_ := AQ (Kd.V_afterv (v := (.slice (some ⟨go9, 0, none⟩) y375.length co9)) (v1 := (.slice (some ⟨go9, 0, none⟩) y375.length co9)) (ok := (fun k_ => (P0_ k_ ∨ w.heap.size ≤ k_))) (PV HO0) hg (.inl rfl)); have n1_ := AQ (hp_); have n2_ := AQ (Kd.V_afterv (v := (.slice (some ⟨go9, 0, none⟩) y375.length co9)) (v1 := (.slice (some ⟨go9, 0, none⟩) y375.length co9)) (ok := (fun k_ => (P0_ k_ ∨ w.heap.size ≤ k_))) (PV HL378_0) hg (.inl rfl)); have n3_ := AQ ((by rw [hw]; exact below_set (HB.out) GB9.out : Below w.heap.size w w17)); clear HO0; clear HO377; clear HL378_0; clear HB; have HO0 := n0_; have HO377 := n1_; have HL378_0 := n2_; have HB := n3_; clear n0_ n1_ n2_ n3_; clear hg hw hp_; have p380 : 0 ≤ (a1 : Int) := PD; have q380 : a1 < (l0.length : Int) := PD; obtain ⟨ad380, A380_0, c380_0, e380, hx380_0, hl380_0, hi380_0⟩ := at_Lsbool (Kd.V_reads' HO0.out).2.2 a1 p380 q380; obtain rfl : ad378 = ad380 := (by injection e380); obtain ⟨ce380, hce380, hMe380, hcc380⟩ := Kd.V_get HO0.out [] a1 p380 (by first | exact q380 | exact PD | (have e_ := (Kd.V_reads' HO0.out).1; omega)); obtain ⟨ua380_0, uc380_0, rfl, ul380_0, ge380_0⟩ := Kd.FK_slice_open hMe380; have hv380_0 := hcc380 0 _ rfl; rw [Nat.add_zero, show ((Kd.slice 4 Kd.bool)).sz = 1 from rfl, Nat.mul_one] at hv380_0; replace hv380_0 := Option.some.inj (hv380_0.symm.trans hx380_0); injection hv380_0 with hva_ hvn_ hvc_; rw [hva_] at ge380_0; rw [hvc_] at ul380_0; have HL380_0 := AQ (show Kd.V Kd.bool 4 _ w.heap.size _ _ (rd_Lsbool l0 a1) from Kd.V_mk ul380_0 ge380_0); clear hva_ hvn_ hvc_ ge380_0 ul380_0; clear hcc380 hce380; have HR380_0 := AQ hi380_0; have HC380_0 := AQ hl380_0; clear hi380_0 hl380_0; replace p380 := eq_true p380; replace q380 := eq_true q380; have p12 : 0 ≤ (a2 : Int) := PD; have q12 : (a2 : Int) < ((y375.length : Int) : Int) := PD; obtain ⟨ce12, hcl12, hM12, hcc12, hfr12⟩ := Kd.N_elem HO377.out [] (a2 : Int) p12 q12; obtain ⟨ua12_0, uc12_0, rfl, ul12_0, ge12_0⟩ := Kd.FK_slice_open hM12; have hx12_0 := hcc12 0 _ rfl; have hf12_0 := hfr12 0; (try simp only [show ((Kd.slice 4 Kd.bool)).sz = 1 from rfl, Nat.mul_one, Nat.add_zero] at hx12_0); (try simp only [show ((Kd.slice 4 Kd.bool)).sz = 1 from rfl, Nat.mul_one, Nat.add_zero] at hf12_0); clear hcl12 hcc12 hfr12 hM12; replace p12 := eq_true p12; replace q12 := eq_true q12; have HX18 := AQ (show Kd.N (Kd.slice 4 Kd.bool) 49 w17 w.heap.size (fun k_ => (P0_ k_ ∨ w.heap.size ≤ k_)) (.slice (some ⟨go9, 0, none⟩) y375.length co9) y379 from (PN HO377)); obtain ⟨ce18, hcl18, hM18, hcc18, hfr18⟩ := Kd.N_elem HX18.out [] (a2 : Int) (PD) (by have h_ : (a2 : Int) < ((y375.length : Int) : Int) := PD; first | exact h_ | (have e_ := (Kd.N_reads' HO377.out).1; omega) | simpa using h_); obtain ⟨ua18_0, uc18_0, rfl, ul18_0, ge18_0⟩ := Kd.FK_slice_open hM18; have HP18 := Kd.N_seg HX18.out (a2 : Int) (PD) (by have h_ : (a2 : Int) < ((y375.length : Int) : Int) := PD; first | exact h_ | (have e_ := (Kd.N_reads' HO377.out).1; omega) | simpa using h_) (seg := [.slice A380_0 (rd_Lsbool l0 a1).length c380_0]) (j := 0) hcl18 hcc18 (show 1 ≤ 1 from by decide) (x' := rd_Lsbool l0 a1) (Kd.FK_slice_mk (Kd.V_reads' (Kd.V_mono (ok' := (fun k_ => ((fun k_ => (P0_ k_ ∨ w.heap.size ≤ k_))) k_ ∧ k_ ≠ go9)) (HL380_0.out) (fun k_ hk => ⟨hk.1, fun e_ => (hk.2) (by rw [e_]; rfl)⟩))).2.1 (Kd.V_F (Kd.V_mono (ok' := (fun k_ => ((fun k_ => (P0_ k_ ∨ w.heap.size ≤ k_))) k_ ∧ k_ ≠ go9)) (HL380_0.out) (fun k_ hk => ⟨hk.1, fun e_ => (hk.2) (by rw [e_]; rfl)⟩)))) (fun _ hk => hk); have hx18_0 := hcc18 0 _ rfl; (try simp only [show ((Kd.slice 4 Kd.bool)).sz = 1 from rfl, Nat.mul_one, Nat.add_zero] at hx18_0); have hf18_0 := hfr18 0; (try simp only [show ((Kd.slice 4 Kd.bool)).sz = 1 from rfl, Nat.mul_one, Nat.add_zero] at hf18_0); clear hcl18 hcc18 hfr18 hM18; (try simp only [show ((Kd.slice 4 Kd.bool)).sz = 1 from rfl, Nat.mul_one, Nat.add_zero] at HP18); (try simp only [show ((Kd.slice 4 Kd.bool)).sz = 1 from rfl, Nat.mul_one, Nat.add_zero] at HP18)) | ((with_reducible refine gate_store (t := 49) (p := 24) rfl ?_); refine store_event (t := 49) (p := 24) (v := ?vo_w19) (w1 := (w17.setCell ⟨go9, (a2 : Int).toNat, none⟩ (.slice A380_0 (rd_Lsbool l0 a1).length c380_0))) ?hg ?ho ?hn ?hr ?_; (case ho => rfl); (case hg => rfl); (case hn => rfl); (case hr => first | (go_simp; done) | (go_simp; rfl)); intro w19 hw; have hg : w17.grownBy w19 (some go9) := (by rw [hw]; exact HP18.2); have hp_ : Kd.N (Kd.slice 4 Kd.bool) 49 w19 w.heap.size (fun k_ => (P0_ k_ ∨ w.heap.size ≤ k_)) (.slice (some ⟨go9, 0, none⟩) y375.length co9) y381 := (by rw [hw, Ny381.out]; exact HP18.1); clear HP18; have n0_ := AQ (Kd.V_afterv (v := (.slice (some ⟨go9, 0, none⟩) y375.length co9)) (v1 := (.slice (some ⟨go9, 0, none⟩) y375.length co9)) (ok := (fun k_ => (P0_ k_ ∨ w.heap.size ≤ k_))) (PV HO0) hg (.inl rfl)); have n1_ := AQ (hp_); have n2_ := AQ (Kd.V_afterv (v := (.slice (some ⟨go9, 0, none⟩) y375.length co9)) (v1 := (.slice (some ⟨go9, 0, none⟩) y375.length co9)) (ok := (fun k_ => (P0_ k_ ∨ w.heap.size ≤ k_))) (PV HL378_0) hg (.inl rfl)); have n3_ := AQ (Kd.V_afterv (v := (.slice (some ⟨go9, 0, none⟩) y375.length co9)) (v1 := (.slice (some ⟨go9, 0, none⟩) y375.length co9)) (ok := (fun k_ => (P0_ k_ ∨ w.heap.size ≤ k_))) (PV HL380_0) hg (.inl rfl)); have n4_ := AQ ((by rw [hw]; exact below_set (HB.out) GB9.out : Below w.heap.size w w19)); clear HO0; clear HO377; clear HL378_0; clear HL380_0; clear HB; have HO0 := n0_; have HO377 := n1_; have HL378_0 := n2_; have HL380_0 := n3_; have HB := n4_; clear n0_ n1_ n2_ n3_ n4_; clear hg hw hp_)); go_ret; exact ⟨_, by first | rfl | (simp [errW_none, errW_some] <;> rfl) | (simp [*, errW_none, errW_some] <;> rfl), PN HO377, PB HB⟩
       ·rw [if_neg c11] at H; exact absurd H (by simp)
      ·rw [if_neg c10] at H; exact absurd H (by simp)
     ·rw [if_neg c8] at H; exact absurd H (by simp)
    ·rw [if_neg c7] at H; exact absurd H (by simp)
   ·rw [if_neg c6] at H; exact absurd H (by simp)
  ·rw [if_neg c5] at H; exact absurd H (by simp)
 ·rw [if_neg c4] at H; exact absurd H (by simp)
def geyserref03_Gauss.l0 : Nat → List (List Bool) → Int → Int → Int → Option ((List (List Bool)))
 | 0, _, _, _, _ => none
 | k + 1, x0, x1, x5, x6 => if x6 < x1 then ((geyserref03_pivot.f k x0 x5 x6).bind fun t387 => (if t387 < 0 then (geyserref03_Gauss.l0 k x0 x1 x5 (wrap64 (x6 + 1))) else ((geyserref03_swap.f x0 x5 t387).bind fun t388 => ((geyserref03_clear.f k t388 x5 x6).bind fun t391 => (geyserref03_Gauss.l0 k t391 x1 (wrap64 (x5 + 1)) (wrap64 (x6 + 1))))))) else (if 0 ≤ x5 then (if x5 ≤ (x0.length : Int) then (some (x0.take (x5 : Int).toNat)) else (none)) else (none))
def geyserref03_Gauss.f (k : Nat) (l0 : List (List Bool)) (a1 : Int) : Option ((List (List Bool))) := geyserref03_Gauss.l0 k l0 a1 0 0
theorem geyserref03_Gauss.mono_l : ∀ k, (∀ y0 y1 y2 y3, LeO (geyserref03_Gauss.l0 k y0 y1 y2 y3) (geyserref03_Gauss.l0 (k + 1) y0 y1 y2 y3))
 | 0 => fun _ _ _ _ r h => by simp [geyserref03_Gauss.l0] at h
 | k + 1 => by
  have ih0 := geyserref03_Gauss.mono_l k
  ·intro y0 y1 y2 y3; unfold geyserref03_Gauss.l0
   repeat' first
   | (with_reducible exact ih0 _ _ _ _)
   | (with_reducible exact geyserref03_clear.mono _ _ _ _)
   | (with_reducible exact geyserref03_pivot.mono _ _ _ _)
   | (with_reducible exact LeO.refl _)
   | (with_reducible exact LeO.none _)
   | (with_reducible refine LeO.ite ?_ ?_)
   | (with_reducible refine LeO.bind ?_ (fun _ => ?_))
   | exact ih0 _ _ _ _
   | exact geyserref03_clear.mono _ _ _ _
   | exact geyserref03_pivot.mono _ _ _ _
   | exact LeO.none _
   | refine LeO.ite ?_ ?_
   | refine LeO.bind ?_ (fun _ => ?_)
theorem geyserref03_Gauss.mono : ∀ a0 a1 k, LeO (geyserref03_Gauss.f k a0 a1) (geyserref03_Gauss.f (k + 1) a0 a1) := by
 intro a0 a1 k; have ih0 := geyserref03_Gauss.mono_l k; unfold geyserref03_Gauss.f
 repeat' first
   | (with_reducible exact ih0 _ _ _ _)
   | (with_reducible exact geyserref03_clear.mono _ _ _ _)
   | (with_reducible exact geyserref03_pivot.mono _ _ _ _)
   | (with_reducible exact LeO.refl _)
   | (with_reducible exact LeO.none _)
   | (with_reducible refine LeO.ite ?_ ?_)
   | (with_reducible refine LeO.bind ?_ (fun _ => ?_))
   | exact ih0 _ _ _ _
   | exact geyserref03_clear.mono _ _ _ _
   | exact geyserref03_pivot.mono _ _ _ _
   | exact LeO.none _
   | refine LeO.ite ?_ ?_
   | refine LeO.bind ?_ (fun _ => ?_)
set_option maxHeartbeats 8000000 in
set_option maxRecDepth 100000 in
theorem geyserref03_Gauss.calls (k : Nat) (P0_ : Nat → Prop) (A0 : Option Addr) (c0 : Nat) (l0 : List (List Bool)) (a1 : Int) (r : List (List Bool)) (w : World) (hs0 : Kd.V (Kd.slice 4 Kd.bool) 49 w w.heap.size (fun k_ => P0_ k_) (.slice A0 l0.length c0) l0) (h : geyserref03_Gauss.f k l0 a1 = some r) :
  Calls Tryd.prog 36 #[.slice A0 l0.length c0, .int .i64 a1] w fun e w' => ∃ v0_ : Value, e = .returned (v0_) ∧ Kd.V (Kd.slice 4 Kd.bool) 49 w' w.heap.size (fun k_ => (P0_ k_ ∨ w.heap.size ≤ k_)) v0_ r ∧ Below w.heap.size w w' := by
 have HO0 := AQ (show Kd.V (Kd.slice 4 Kd.bool) 49 w w.heap.size (fun k_ => (P0_ k_ ∨ w.heap.size ≤ k_)) (.slice A0 l0.length c0) l0 from Kd.V_mono hs0 (fun k_ hk => .inl hk)); have HB := AQ (Below.refl w.heap.size w); have H : (geyserref03_Gauss.l0 k l0 a1 0 0) = some r := h; clear h; have H' := AQ H; clear H; go_enter Tryd.func36, Tryd.ntmps36; go_wp2; go_loopg [0, 5, 6] k (fun kq v0 v5 v6 w' => ∃ (x0_1 : List (List Bool)) (x5_1 : Int) (x6_1 : Int), v5 = .int .i64 x5_1 ∧ v6 = .int .i64 x6_1 ∧ Aside0 (geyserref03_Gauss.l0 kq x0_1 a1 x5_1 x6_1 = some r) ∧ Aside0 (kq ≤ k) ∧ Aside0 (Kd.V (Kd.slice 4 Kd.bool) 49 w' w.heap.size (fun k_ => (P0_ k_ ∨ w.heap.size ≤ k_)) v0 x0_1) ∧ Aside0 (Below w.heap.size w w'))
 case atStart => exact ⟨(l0), (0), (0), (by first | rfl | (simp; done) | (simp [*]; done)), (by first | rfl | (simp; done) | (simp [*]; done)), H', ⟨Nat.le_refl _⟩, ⟨PV HO0⟩, ⟨PB HB⟩⟩
 case round =>
  clear H'; (try clear p2); obtain ⟨x0_1, x5_1, x6_1, rfl, rfl, HA, HK1, HO_0, HB⟩ := hrel; cases gk with
  | zero => exact absurd HA.out (by simp [geyserref03_Gauss.l0])
  | succ k1 =>
   have H := HA.out; clear HA; simp only [geyserref03_Gauss.l0] at H
   by_cases c3 : x6_1 < a1
   ·rw [if_pos c3] at H; have c3b0 : decide (x6_1 < a1) = true := decide_eq_true c3; clear c3; replace H := Option.bind_eq_some_iff.mp H; obtain ⟨t387, A40, H⟩ := H; replace H : (if t387 < 0 then (geyserref03_Gauss.l0 k1 x0_1 a1 x5_1 (wrap64 (x6_1 + 1))) else ((geyserref03_swap.f x0_1 x5_1 t387).bind fun t388 => ((geyserref03_clear.f k1 t388 x5_1 x6_1).bind fun t391 => (geyserref03_Gauss.l0 k1 t391 a1 (wrap64 (x5_1 + 1)) (wrap64 (x6_1 + 1)))))) = some r := H; have A4 := AQ A40; clear A40
    by_cases c5 : t387 < 0
    ·rw [if_pos c5] at H; have c5b0 : decide (t387 < 0) = true := decide_eq_true c5; clear c5; have H' := AQ H; clear H; obtain ⟨Ao6, co6, eo6⟩ := Kd.V_slice HO_0.out; subst eo6; go_wp2_with (first | ((with_reducible refine gate_callee (f := 54) rfl ?_); refine gL (some 16) rfl rfl Tryd.func54 #[.slice Ao6 x0_1.length co6, .int .i64 x5_1, .int .i64 x6_1] rfl ?_; (with_reducible refine (geyserref03_pivot.calls k1 _ _ x0_1 x5_1 x6_1 t387 _ ?side1 ?side2 A4.out).mono ?_); (case side1 => repeat (first | exact (Kd.V_reads' HO_0.out).2.2 | (with_reducible refine Kd.C_alloc ?_ _) | (with_reducible refine Kd.C_drewN ?_ _) | (with_reducible refine Kd.C_drew ?_))); (case side2 => exact (Kd.V_reads' HO_0.out).2.1); rintro e w' ⟨rfl, ⟨nd, rfl⟩⟩; refine ⟨_, rfl, ?_⟩)); go_roundg k1
     case measure => have := HK1.out; omega
     case rel => exact ⟨(x0_1), (x5_1), (wrap64 (x6_1 + 1)), (by first | rfl | (simp; done) | (simp [*]; done)), (by first | rfl | (simp; done) | (simp [*]; done)), H', ⟨by have := HK1.out; omega⟩, ⟨PV HO_0⟩, ⟨PB HB⟩⟩
    ·rw [if_neg c5] at H; have c5b0 : decide (t387 < 0) = false := decide_eq_false c5; clear c5; replace H := Option.bind_eq_some_iff.mp H; obtain ⟨t388, A70, H⟩ := H; replace H : ((geyserref03_clear.f k1 t388 x5_1 x6_1).bind fun t391 => (geyserref03_Gauss.l0 k1 t391 a1 (wrap64 (x5_1 + 1)) (wrap64 (x6_1 + 1)))) = some r := H; have A7 := AQ A70; clear A70; replace H := Option.bind_eq_some_iff.mp H; obtain ⟨t391, A80, H⟩ := H; replace H : (geyserref03_Gauss.l0 k1 t391 a1 (wrap64 (x5_1 + 1)) (wrap64 (x6_1 + 1))) = some r := H; have A8 := AQ A80; clear A80; have H' := AQ H; clear H; obtain ⟨Ao9, co9, eo9⟩ := Kd.V_slice HO_0.out; subst eo9; go_wp2_with (first | ((with_reducible refine gate_callee (f := 54) rfl ?_); refine gL (some 16) rfl rfl Tryd.func54 #[.slice Ao9 x0_1.length co9, .int .i64 x5_1, .int .i64 x6_1] rfl ?_; (with_reducible refine (geyserref03_pivot.calls k1 _ _ x0_1 x5_1 x6_1 t387 _ ?side1 ?side2 A4.out).mono ?_); (case side1 => repeat (first | exact (Kd.V_reads' HO_0.out).2.2 | (with_reducible refine Kd.C_alloc ?_ _) | (with_reducible refine Kd.C_drewN ?_ _) | (with_reducible refine Kd.C_drew ?_))); (case side2 => exact (Kd.V_reads' HO_0.out).2.1); rintro e w' ⟨rfl, ⟨nd, rfl⟩⟩; refine ⟨_, rfl, ?_⟩) | ((with_reducible refine gate_callee (f := 56) rfl ?_); refine gL (some 22) rfl rfl Tryd.func56 #[.slice Ao9 x0_1.length co9, .int .i64 x5_1, .int .i64 t387] rfl ?_; (with_reducible refine (geyserref03_swap.calls (fun k_ => (P0_ k_ ∨ w.heap.size ≤ k_)) _ _ x0_1 x5_1 t387 t388 _ ?side1 A7.out).mono ?_); (case side1 => exact HO_0.out); rintro e w10 ⟨v389, rfl, ho0, hb⟩; refine ⟨_, rfl, ?_⟩; have n0_ := AQ (Kd.V_elder' (PV HO_0) (Kd.N_base ho0) hb); have n1_ := AQ (Kd.N_lower (Kd.N_mono (ok' := fun k_ => (P0_ k_ ∨ w.heap.size ≤ k_)) ho0 (fun k_ hk_ => Or.elim hk_ (fun hs_ => hs_) (fun hn_ => (.inr (Nat.le_trans (below_size (PB HB)) hn_))))) (below_size (PB HB))); have n2_ := AQ (below_step (PB HB) hb); clear HO_0; clear HB; have HO_0 := n0_; have HO390 := n1_; have HB := n2_; clear n0_ n1_ n2_; (try clear hb); (try clear hb2); (try clear hk); (try clear hi); (try clear ho0); obtain ⟨Ao11, co11, eo11⟩ := Kd.N_slice HO390.out; subst eo11) | ((with_reducible refine gate_callee (f := 55) rfl ?_); refine gL (some 25) rfl rfl Tryd.func55 #[.slice Ao11 t388.length co11, .int .i64 x5_1, .int .i64 x6_1] rfl ?_; (with_reducible refine (geyserref03_clear.calls k1 (fun k_ => (P0_ k_ ∨ w.heap.size ≤ k_)) _ _ t388 x5_1 x6_1 t391 _ ?side1 A8.out).mono ?_); (case side1 => exact Kd.N_V (HO390.out)); rintro e w12 ⟨v392, rfl, ho0, hb⟩; refine ⟨_, rfl, ?_⟩; have n0_ := AQ (Kd.V_elder' (PV HO_0) (Kd.N_base ho0) hb); have n1_ := AQ (Kd.N_elder' (PN HO390) (Kd.N_base ho0) hb); have n2_ := AQ (Kd.N_lower (Kd.N_mono (ok' := fun k_ => (P0_ k_ ∨ w.heap.size ≤ k_)) ho0 (fun k_ hk_ => Or.elim hk_ (fun hs_ => hs_) (fun hn_ => (.inr (Nat.le_trans (below_size (PB HB)) hn_))))) (below_size (PB HB))); have n3_ := AQ (below_step (PB HB) hb); clear HO_0; clear HO390; clear HB; have HO_0 := n0_; have HO390 := n1_; have HO393 := n2_; have HB := n3_; clear n0_ n1_ n2_ n3_; (try clear hb); (try clear hb2); (try clear hk); (try clear hi); (try clear ho0))); go_roundg k1
     case measure => have := HK1.out; omega
     case rel => exact ⟨(t391), (wrap64 (x5_1 + 1)), (wrap64 (x6_1 + 1)), (by first | rfl | (simp; done) | (simp [*]; done)), (by first | rfl | (simp; done) | (simp [*]; done)), H', ⟨by have := HK1.out; omega⟩, ⟨Kd.N_V (PN HO393)⟩, ⟨PB HB⟩⟩
   ·rw [if_neg c3] at H; have c3b0 : decide (x6_1 < a1) = false := decide_eq_false c3; clear c3
    by_cases c13 : 0 ≤ x5_1
    ·rw [if_pos c13] at H; have c13b0 := eq_true c13; have c13b1 : decide (0 ≤ x5_1) = true := decide_eq_true c13; clear c13
     by_cases c14 : x5_1 ≤ (x0_1.length : Int)
     ·rw [if_pos c14] at H; have c14b0 := eq_true c14; have c14b1 : decide (x5_1 ≤ (x0_1.length : Int)) = true := decide_eq_true c14; clear c14; obtain ⟨y382, hy382⟩ : ∃ y_ : List (List Bool), y_ = (x0_1.take (x5_1 : Int).toNat) := ⟨_, rfl⟩; replace H : (some y382) = some r := (by first | (rw [hy382]; with_reducible exact H) | (have H2_ := (Option.bind_some _ _).symm.trans H; rw [hy382]; with_reducible exact H2_) | (have H2_ := (Option.bind_some _ _).symm.trans H; with_reducible exact H2_) | with_reducible exact H | (rw [hy382]; exact H) | exact H); have Ny382 := AQ hy382; clear hy382; obtain rfl := Option.some.inj H; obtain ⟨Ao16, co16, eo16⟩ := Kd.V_slice HO_0.out; subst eo16; have q15 : (x5_1 : Int) ≤ ((x0_1.length : Int) : Int) := PD; obtain ⟨i015, hi015, _, hsz15, _⟩ := info_parts info49; have hroom15 : x0_1.length ≤ co16 := (Kd.V_reads' HO_0.out).2.1; have hC15 : Kd.F (Kd.slice 4 Kd.bool) _ _ Ao16 x0_1.length x0_1 := (Kd.V_at (base := w.heap.size) HO_0.out).2.2; have hcut15 := cut_to (P := Tryd.prog) 86 49 .i64 Tryd.underlying86 hi015 Ao16 x0_1.length co16 x5_1 (PD) q15 hroom15; have hr15 := Kd.F_take (m := (x5_1 : Int).toNat) hC15 (by omega); have hy15 : y382.length = (x5_1 : Int).toNat := (by rw [Ny382.out, List.length_take]; omega); rw [← Ny382.out] at hr15; rw [← hy15] at hcut15; have HO386 := AQ (show Kd.V (Kd.slice 4 Kd.bool) 49 _ w.heap.size _ (.slice Ao16 y382.length co16) y382 from Kd.V_mk (by omega) hr15); have HC386 := AQ (show y382.length ≤ co16 from by omega); clear hr15 hC15 hroom15 hi015 hsz15; have KY15 := AQ hy15; clear hy15; replace q15 := eq_true q15; go_wp2; go_ret; exact ⟨_, by first | rfl | (simp [errW_none, errW_some] <;> rfl) | (simp [*, errW_none, errW_some] <;> rfl), PV HO386, PB HB⟩
     ·rw [if_neg c14] at H; exact absurd H (by simp)
    ·rw [if_neg c13] at H; exact absurd H (by simp)
def geyserref03_Truths.l0 : Nat → List Int → Int → List Bool → Int → Option (List Bool)
 | 0, _, _, _, _ => none
 | k + 1, x0, x1, x5, x6 => if x6 < x1 then ((geyserref02_Has.f x0 x6).bind fun t397 => (if 0 ≤ x6 then (if x6 < (x5.length : Int) then (geyserref03_Truths.l0 k x0 x1 (x5.set (x6 : Int).toNat t397) (wrap64 (x6 + 1))) else (none)) else (none))) else (some x5)
def geyserref03_Truths.f (k : Nat) (l0 : List Int) (a1 : Int) : Option (List Bool) := if 0 ≤ a1 then (if (a1 : Int).toNat ≤ 281474976710656 then (geyserref03_Truths.l0 k l0 a1 (List.replicate (a1 : Int).toNat false) 0) else (none)) else (none)
theorem geyserref03_Truths.mono_l : ∀ k, (∀ y0 y1 y2 y3, LeO (geyserref03_Truths.l0 k y0 y1 y2 y3) (geyserref03_Truths.l0 (k + 1) y0 y1 y2 y3))
 | 0 => fun _ _ _ _ r h => by simp [geyserref03_Truths.l0] at h
 | k + 1 => by
  have ih0 := geyserref03_Truths.mono_l k
  ·intro y0 y1 y2 y3; unfold geyserref03_Truths.l0
   repeat' first
   | (with_reducible exact ih0 _ _ _ _)
   | (with_reducible exact LeO.refl _)
   | (with_reducible exact LeO.none _)
   | (with_reducible refine LeO.ite ?_ ?_)
   | (with_reducible refine LeO.bind ?_ (fun _ => ?_))
   | exact ih0 _ _ _ _
   | exact LeO.none _
   | refine LeO.ite ?_ ?_
   | refine LeO.bind ?_ (fun _ => ?_)
theorem geyserref03_Truths.mono : ∀ a0 a1 k, LeO (geyserref03_Truths.f k a0 a1) (geyserref03_Truths.f (k + 1) a0 a1) := by
 intro a0 a1 k; have ih0 := geyserref03_Truths.mono_l k; unfold geyserref03_Truths.f
 repeat' first
   | (with_reducible exact ih0 _ _ _ _)
   | (with_reducible exact LeO.refl _)
   | (with_reducible exact LeO.none _)
   | (with_reducible refine LeO.ite ?_ ?_)
   | (with_reducible refine LeO.bind ?_ (fun _ => ?_))
   | exact ih0 _ _ _ _
   | exact LeO.none _
   | refine LeO.ite ?_ ?_
   | refine LeO.bind ?_ (fun _ => ?_)
set_option maxHeartbeats 8000000 in
set_option maxRecDepth 100000 in
theorem geyserref03_Truths.calls (k : Nat) (A0 : Option Addr) (c0 : Nat) (l0 : List Int) (a1 : Int) (r : List Bool) (w : World) (hr0 : Kd.C (Kd.int .u64) w A0 l0.length l0) (hc0 : l0.length ≤ c0) (h : geyserref03_Truths.f k l0 a1 = some r) :
  Calls Tryd.prog 57 #[.slice A0 l0.length c0, .int .i64 a1] w fun e w' => ∃ v0_ : Value, e = .returned (v0_) ∧ Kd.R Kd.bool 4 w' w.heap.size (fun _ => True) v0_ r ∧ Below w.heap.size w w' := by
 have HR0 := AQ hr0; have HC0 := AQ hc0; clear hr0 hc0; have HB := AQ (Below.refl w.heap.size w); have H : (if 0 ≤ a1 then (if (a1 : Int).toNat ≤ 281474976710656 then (geyserref03_Truths.l0 k l0 a1 (List.replicate (a1 : Int).toNat false) 0) else (none)) else (none)) = some r := h; clear h
 by_cases c3 : 0 ≤ a1
 ·rw [if_pos c3] at H; have c3b0 := eq_true c3; have c3b1 : decide (0 ≤ a1) = true := decide_eq_true c3; clear c3
  by_cases c4 : (a1 : Int).toNat ≤ 281474976710656
  ·rw [if_pos c4] at H; have c4b0 := eq_true c4; have c4b1 : decide ((a1 : Int).toNat ≤ 281474976710656) = true := decide_eq_true c4; clear c4; obtain ⟨y394, hy394⟩ : ∃ y_ : List Bool, y_ = (List.replicate (a1 : Int).toNat false) := ⟨_, rfl⟩; replace H : (geyserref03_Truths.l0 k l0 a1 y394 0) = some r := (by first | (rw [hy394]; with_reducible exact H) | (have H2_ := (Option.bind_some _ _).symm.trans H; rw [hy394]; with_reducible exact H2_) | (have H2_ := (Option.bind_some _ _).symm.trans H; with_reducible exact H2_) | with_reducible exact H | (rw [hy394]; exact H) | exact H); have Ny394 := AQ hy394; clear hy394; have H' := AQ H; clear H; go_enter Tryd.func57, Tryd.ntmps57; go_wp2_with (first | ((with_reducible refine gate_dst (N := 8) rfl ?_); refine Kd.R_make Kd.bool _ 4 rfl (N := 8) rfl 49 _ _ rfl a1 rfl rfl Tryd.underlying49 (.bool false) 1 info4 rfl (by decide) (by omega) false (ok := fun _ => True) (okp := fun _ => True) rfl (fun _ hk => hk) trivial (PD) (Nat.le_trans (Nat.mul_le_mul_right _ (PD : a1.toNat ≤ 281474976710656)) (by omega)) (Below.refl _ _) (Nat.le_refl _) ?_; intro v395 w5 ho6 hb hg_ hnew_; clear hg_ hnew_; (first | rw [← Ny394.out] at ho6 | (simp only [Int.reduceToNat] at ho6; rw [← Ny394.out] at ho6)); have n0_ := AQ (Kd.R_lower ho6 (below_size (PB HB))); have n1_ := AQ (below_step (PB HB) hb); clear HB; have HO396 := n0_; have HB := n1_; clear n0_ n1_; clear hb ho6)); go_loopg [6] k (fun kq v6 w' => ∃ (x5_1 : List Bool) (x6_1 : Int), v6 = .int .i64 x6_1 ∧ Aside0 (geyserref03_Truths.l0 kq l0 a1 x5_1 x6_1 = some r) ∧ Aside0 (kq ≤ k) ∧ Aside0 (Kd.R Kd.bool 4 w' w.heap.size (fun _ => True) v395 x5_1) ∧ Aside0 (Below w.heap.size w w'))
   case atStart => exact ⟨(y394), (0), (by first | rfl | (simp; done) | (simp [*]; done)), H', ⟨Nat.le_refl _⟩, ⟨PR HO396⟩, ⟨PB HB⟩⟩
   case round =>
    clear H'; (try clear p2); (try clear c3); (try clear c3b0); (try clear c3b1); (try clear c4); (try clear c4b0); (try clear c4b1); (try clear c5); obtain ⟨x5_1, x6_1, rfl, HA, HK1, HO_5, HB⟩ := hrel; cases gk with
    | zero => exact absurd HA.out (by simp [geyserref03_Truths.l0])
    | succ k1 =>
     have H := HA.out; clear HA; simp only [geyserref03_Truths.l0] at H
     by_cases c7 : x6_1 < a1
     ·rw [if_pos c7] at H; have c7b0 : decide (x6_1 < a1) = true := decide_eq_true c7; clear c7; replace H := Option.bind_eq_some_iff.mp H; obtain ⟨t397, A80, H⟩ := H; replace H : (if 0 ≤ x6_1 then (if x6_1 < (x5_1.length : Int) then (geyserref03_Truths.l0 k1 l0 a1 (x5_1.set (x6_1 : Int).toNat t397) (wrap64 (x6_1 + 1))) else (none)) else (none)) = some r := H; have A8 := AQ A80; clear A80
      by_cases c9 : 0 ≤ x6_1
      ·rw [if_pos c9] at H; have c9b0 : decide (0 ≤ x6_1) = true := decide_eq_true c9; clear c9
       by_cases c10 : x6_1 < (x5_1.length : Int)
       ·rw [if_pos c10] at H; have c10b0 : decide (x6_1 < (x5_1.length : Int)) = true := decide_eq_true c10; clear c10; obtain ⟨y398, hy398⟩ : ∃ y_ : List Bool, y_ = (x5_1.set (x6_1 : Int).toNat t397) := ⟨_, rfl⟩; replace H : (geyserref03_Truths.l0 k1 l0 a1 y398 (wrap64 (x6_1 + 1))) = some r := (by first | (rw [hy398]; with_reducible exact H) | (have H2_ := (Option.bind_some _ _).symm.trans H; rw [hy398]; with_reducible exact H2_) | (have H2_ := (Option.bind_some _ _).symm.trans H; with_reducible exact H2_) | with_reducible exact H | (rw [hy398]; exact H) | exact H); have Ny398 := AQ hy398; clear hy398; have H' := AQ H; clear H; go_wp2_with (first | ((with_reducible refine gate_callee (f := 52) rfl ?_); refine gL (some 18) rfl rfl Tryd.func52 #[.slice A0 l0.length c0, .int .i64 x6_1] rfl ?_; (with_reducible refine (geyserref02_Has.calls _ _ l0 x6_1 t397 _ ?side1 ?side2 A8.out).mono ?_); (case side1 => repeat (first | exact (Kd.C_below HR0.out HB.out) | (with_reducible refine Kd.C_alloc ?_ _) | (with_reducible refine Kd.C_drewN ?_ _) | (with_reducible refine Kd.C_drew ?_))); (case side2 => exact HC0.out); rintro e w' ⟨rfl, ⟨nd, rfl⟩⟩; refine ⟨_, rfl, ?_⟩; (try (rw [drewN_self wr]; generalize hq_ : World.drewN wr _ = wr; have n0_ : Aside0 (Kd.R Kd.bool 4 wr w.heap.size (fun _ => True) v395 x5_1) := ⟨by rw [← hq_]; exact (PR HO_5)⟩; have n1_ : Aside0 (Below w.heap.size w wr) := ⟨by rw [← hq_]; exact (PB HB)⟩; clear HO_5 HB hq_; have HO_5 := n0_; have HB := n1_; clear n0_ n1_)); have p11 : 0 ≤ (x6_1 : Int) := PD; have q11 : (x6_1 : Int) < ((x5_1.length : Int) : Int) := PD; obtain ⟨go11, co11, eo11, gb11, gl11, cl11, HG11⟩ := Kd.R_form HO_5.out (by omega); (first | cases eo11 | (injection eo11 with ea_ en_ ec_; (first | subst ea_ | (injection ea_ with ea_; subst ea_)); subst ec_; clear en_)); have GB11 := AQ gb11; have GG11 := AQ HG11; clear gb11 gl11 HG11; obtain ⟨hx11_0, hf11_0⟩ := Kd.R_celln false HO_5.out (x6_1 : Int) p11 q11; replace p11 := eq_true p11; replace q11 := eq_true q11; obtain ⟨hy12_, hz12_⟩ := Kd.R_celln false HO_5.out (x6_1 : Int) (PD) (PD); have HP12 := Kd.R_putg HO_5.out (x6_1 : Int) t397) | ((with_reducible refine gate_store (t := 4) (p := 19) rfl ?_); refine store_event (t := 4) (p := 19) (v := ?vo_w13) (w1 := (wr.setCell ⟨go11, (x6_1 : Int).toNat, none⟩ (.bool t397))) ?hg ?ho ?hn ?hr ?_; (case ho => rfl); (case hg => rfl); (case hn => rfl); (case hr => first | (go_simp; done) | (go_simp; rfl)); intro w13 hw; have hg : wr.grownBy w13 (some go11) := (by rw [hw]; exact HP12.2); have hp_ : Kd.R Kd.bool 4 w13 w.heap.size (fun _ => True) (.slice (some ⟨go11, 0, none⟩) x5_1.length co11) y398 := (by rw [hw, Ny398.out]; exact HP12.1); clear HP12; have n0_ := AQ (hp_); have n1_ := AQ ((by rw [hw]; exact below_set (HB.out) GB11.out : Below w.heap.size w w13)); clear HO_5; clear HB; have HO_5 := n0_; have HB := n1_; clear n0_ n1_; clear hg hw hp_)); go_roundg k1
        case measure => have := HK1.out; omega
        case rel => exact ⟨(y398), (wrap64 (x6_1 + 1)), (by first | rfl | (simp; done) | (simp [*]; done)), H', ⟨by have := HK1.out; omega⟩, ⟨PR HO_5⟩, ⟨PB HB⟩⟩
       ·rw [if_neg c10] at H; exact absurd H (by simp)
      ·rw [if_neg c9] at H; exact absurd H (by simp)
     ·rw [if_neg c7] at H; have c7b0 : decide (x6_1 < a1) = false := decide_eq_false c7; clear c7; obtain rfl := Option.some.inj H; go_wp2; go_ret; exact ⟨_, by first | rfl | (simp [errW_none, errW_some] <;> rfl) | (simp [*, errW_none, errW_some] <;> rfl), PR HO_5, PB HB⟩
  ·rw [if_neg c4] at H; exact absurd H (by simp)
 ·rw [if_neg c3] at H; exact absurd H (by simp)
def geyserref03_All.l0 : Nat → List (List Int) → Int → List (List Bool) → Int → Option ((List (List Bool)))
 | 0, _, _, _, _ => none
 | k + 1, x0, x1, x5, x6 => if x6 < (x0.length : Int) then (if 0 ≤ x6 then ((geyserref03_Truths.f k (rd_Lsu64 x0 x6) x1).bind fun t403 => (if x5.length < 5864062014805 then (geyserref03_All.l0 k x0 x1 (x5 ++ [t403]) (wrap64 (x6 + 1))) else (none))) else (none)) else (some x5)
def geyserref03_All.f (k : Nat) (l0 : List (List Int)) (a1 : Int) : Option ((List (List Bool))) := geyserref03_All.l0 k l0 a1 (([] : List (List Bool))) 0
theorem geyserref03_All.mono_l : ∀ k, (∀ y0 y1 y2 y3, LeO (geyserref03_All.l0 k y0 y1 y2 y3) (geyserref03_All.l0 (k + 1) y0 y1 y2 y3))
 | 0 => fun _ _ _ _ r h => by simp [geyserref03_All.l0] at h
 | k + 1 => by
  have ih0 := geyserref03_All.mono_l k
  ·intro y0 y1 y2 y3; unfold geyserref03_All.l0
   repeat' first
   | (with_reducible exact ih0 _ _ _ _)
   | (with_reducible exact geyserref03_Truths.mono _ _ _)
   | (with_reducible exact LeO.refl _)
   | (with_reducible exact LeO.none _)
   | (with_reducible refine LeO.ite ?_ ?_)
   | (with_reducible refine LeO.bind ?_ (fun _ => ?_))
   | exact ih0 _ _ _ _
   | exact geyserref03_Truths.mono _ _ _
   | exact LeO.none _
   | refine LeO.ite ?_ ?_
   | refine LeO.bind ?_ (fun _ => ?_)
theorem geyserref03_All.mono : ∀ a0 a1 k, LeO (geyserref03_All.f k a0 a1) (geyserref03_All.f (k + 1) a0 a1) := by
 intro a0 a1 k; have ih0 := geyserref03_All.mono_l k; unfold geyserref03_All.f
 repeat' first
   | (with_reducible exact ih0 _ _ _ _)
   | (with_reducible exact geyserref03_Truths.mono _ _ _)
   | (with_reducible exact LeO.refl _)
   | (with_reducible exact LeO.none _)
   | (with_reducible refine LeO.ite ?_ ?_)
   | (with_reducible refine LeO.bind ?_ (fun _ => ?_))
   | exact ih0 _ _ _ _
   | exact geyserref03_Truths.mono _ _ _
   | exact LeO.none _
   | refine LeO.ite ?_ ?_
   | refine LeO.bind ?_ (fun _ => ?_)
set_option maxHeartbeats 8000000 in
set_option maxRecDepth 100000 in
theorem geyserref03_All.calls (k : Nat) (A0 : Option Addr) (c0 : Nat) (l0 : List (List Int)) (a1 : Int) (r : List (List Bool)) (w : World) (hr0 : Kd.C (Kd.slice 35 (Kd.int .u64)) w A0 l0.length l0) (hc0 : l0.length ≤ c0) (h : geyserref03_All.f k l0 a1 = some r) :
  Calls Tryd.prog 37 #[.slice A0 l0.length c0, .int .i64 a1] w fun e w' => ∃ v0_ : Value, e = .returned (v0_) ∧ Kd.S (Kd.slice 4 Kd.bool) 49 w' w.heap.size (fun _ => True) v0_ r ∧ Below w.heap.size w w' := by
 have HR0 := AQ hr0; have HC0 := AQ hc0; clear hr0 hc0; have HB := AQ (Below.refl w.heap.size w); have H : (geyserref03_All.l0 k l0 a1 (([] : List (List Bool))) 0) = some r := h; clear h; obtain ⟨y399, hy399⟩ : ∃ y_ : List (List Bool), y_ = (([] : List (List Bool))) := ⟨_, rfl⟩; replace H : (geyserref03_All.l0 k l0 a1 y399 0) = some r := (by first | (rw [hy399]; with_reducible exact H) | (have H2_ := (Option.bind_some _ _).symm.trans H; rw [hy399]; with_reducible exact H2_) | (have H2_ := (Option.bind_some _ _).symm.trans H; with_reducible exact H2_) | with_reducible exact H | (rw [hy399]; exact H) | exact H); have Ny399 := AQ hy399; clear hy399; have H' := AQ H; clear H; go_enter Tryd.func37, Tryd.ntmps37; go_wp2_with (first | ((with_reducible refine gate_dst (N := 7) rfl ?_); refine Kd.S_lit (Kd.slice 4 Kd.bool) _ 49 ?hg (N := 7) ?hd (xs := ([] : List (List Bool))) (inner := []) (ok := fun _ => True) (okp := fun _ => True) ?hr ?hp (fun _ hk => hk) trivial (Below.refl _ _) (Nat.le_refl _) (by simp) ?_; (case hd => rfl); (case hg => rfl); (case hr => first | (go_simp; done) | (go_simp; rfl)); (case hp => exact (Reps.none _ _)); intro v400 w3 ho4 hb hg_ hnew_; clear hg_ hnew_; (first | rw [← Ny399.out] at ho4 | (simp only [Int.reduceToNat] at ho4; rw [← Ny399.out] at ho4)); have n0_ := AQ (Kd.S_lower ho4 (below_size (PB HB))); have n1_ := AQ (below_step (PB HB) hb); clear HB; have HO401 := n0_; have HB := n1_; clear n0_ n1_; clear hb ho4)); go_loopg [5, 6] k (fun kq v5 v6 w' => ∃ (x5_1 : List (List Bool)) (x6_1 : Int), v6 = .int .i64 x6_1 ∧ Aside0 (geyserref03_All.l0 kq l0 a1 x5_1 x6_1 = some r) ∧ Aside0 (kq ≤ k) ∧ Aside0 (Kd.S (Kd.slice 4 Kd.bool) 49 w' w.heap.size (fun _ => True) v5 x5_1) ∧ Aside0 (Below w.heap.size w w'))
 case atStart => exact ⟨(y399), (0), (by first | rfl | (simp; done) | (simp [*]; done)), H', ⟨Nat.le_refl _⟩, ⟨PS HO401⟩, ⟨PB HB⟩⟩
 case round =>
  clear H'; (try clear p2); (try clear c3); obtain ⟨x5_1, x6_1, rfl, HA, HK1, HO_5, HB⟩ := hrel; cases gk with
  | zero => exact absurd HA.out (by simp [geyserref03_All.l0])
  | succ k1 =>
   have H := HA.out; clear HA; simp only [geyserref03_All.l0] at H
   by_cases c5 : x6_1 < (l0.length : Int)
   ·rw [if_pos c5] at H; have c5b0 : decide (x6_1 < (l0.length : Int)) = true := decide_eq_true c5; clear c5
    by_cases c6 : 0 ≤ x6_1
    ·rw [if_pos c6] at H; have c6b0 : decide (0 ≤ x6_1) = true := decide_eq_true c6; clear c6; replace H := Option.bind_eq_some_iff.mp H; obtain ⟨t403, A70, H⟩ := H; replace H : (if x5_1.length < 5864062014805 then (geyserref03_All.l0 k1 l0 a1 (x5_1 ++ [t403]) (wrap64 (x6_1 + 1))) else (none)) = some r := H; have A7 := AQ A70; clear A70
     by_cases c8 : x5_1.length < 5864062014805
     ·rw [if_pos c8] at H; have LMc8 := AQ c8; clear c8; obtain ⟨y406, hy406⟩ : ∃ y_ : List (List Bool), y_ = (x5_1 ++ [t403]) := ⟨_, rfl⟩; replace H : (geyserref03_All.l0 k1 l0 a1 y406 (wrap64 (x6_1 + 1))) = some r := (by first | (rw [hy406]; with_reducible exact H) | (have H2_ := (Option.bind_some _ _).symm.trans H; rw [hy406]; with_reducible exact H2_) | (have H2_ := (Option.bind_some _ _).symm.trans H; with_reducible exact H2_) | with_reducible exact H | (rw [hy406]; exact H) | exact H); have Ny406 := AQ hy406; clear hy406; have H' := AQ H; clear H; have p402 : 0 ≤ (x6_1 : Int) := PD; have q402 : x6_1 < (l0.length : Int) := PD; obtain ⟨ad402, A402_0, c402_0, e402, hx402_0, hl402_0, hi402_0⟩ := at_Lsu64 HR0.out x6_1 p402 q402; cases e402; (first | replace hx402_0 := PH HB hx402_0 | skip); have HR402_0 := AQ hi402_0; have HC402_0 := AQ hl402_0; clear hi402_0 hl402_0; replace p402 := eq_true p402; replace q402 := eq_true q402; go_wp2_with (first | ((with_reducible refine gate_callee (f := 57) rfl ?_); refine gL (some 20) rfl rfl Tryd.func57 #[.slice A402_0 (rd_Lsu64 l0 x6_1).length c402_0, .int .i64 a1] rfl ?_; (with_reducible refine (geyserref03_Truths.calls k1 _ _ (rd_Lsu64 l0 x6_1) a1 t403 _ ?side1 ?side2 A7.out).mono ?_); (case side1 => repeat (first | exact (Kd.C_below HR402_0.out HB.out) | (with_reducible refine Kd.C_alloc ?_ _) | (with_reducible refine Kd.C_drewN ?_ _) | (with_reducible refine Kd.C_drew ?_))); (case side2 => exact HC402_0.out); rintro e w9 ⟨v404, rfl, ho0, hb⟩; refine ⟨_, rfl, ?_⟩; have n0_ := AQ (Kd.S_elder' (PS HO_5) (Kd.R_base ho0) hb); have n1_ := AQ (Kd.R_lower ho0 (below_size (PB HB))); have n2_ := AQ (below_step (PB HB) hb); clear HO_5; clear HB; have HO_5 := n0_; have HO405 := n1_; have HB := n2_; clear n0_ n1_ n2_; (try clear hb); (try clear hb2); (try clear hk); (try clear hi); (try clear ho0); obtain ⟨Ao11, co11, eo11⟩ := Kd.R_slice HO405.out; subst eo11) | ((with_reducible refine gate_builtin (b := .append) (xs := #[.tmp 14, .tmp 21]) rfl ?_); at_builtin; refine Kd.S_append (Kd.slice 4 Kd.bool) (w0 := w) w.heap.size rfl (.tmp 14) (.tmp 21) 86 49 (.slice none 0 0) 24 rfl Tryd.underlying86 info49 rfl (by decide) (by omega) u5 x5_1 t403 [.slice Ao11 t403.length co11] (fun _ => True) (fun k_ => some k_ = (.slice Ao11 t403.length co11 : Value).ownBlock) rfl rfl ?aP (fun k_ hk_ => ((Kd.R_mono (ok' := fun k_ => ((fun _ => True)) k_ ∧ some k_ ≠ (u5 : Value).ownBlock) (Kd.R_apart' (HO405.out) (Kd.S_typed HO_5.out) (by decide)) (fun k_ hk => ⟨trivial, hk.2⟩))).1 k_ hk_.symm) ?aF ?aO ?aB ?aS ?aL ?_; (case aP => exact Kd.M_row (Kd.R_mono (Kd.R_tight rfl (Kd.R_mono (ok' := fun k_ => ((fun _ => True)) k_ ∧ some k_ ≠ (u5 : Value).ownBlock) (Kd.R_apart' (HO405.out) (Kd.S_typed HO_5.out) (by decide)) (fun k_ hk => ⟨trivial, hk.2⟩))) (fun _ h_ => h_))); (case aB => exact (PB HB)); (case aF => exact (fun _ _ => trivial)); (case aO => exact (by (with_reducible repeat (first | apply Kd.S_alloc | apply Kd.S_drewN | apply Kd.S_drew)); exact Kd.S_mono HO_5.out (fun k_ hk => ⟨trivial, fun e_ => hk.2 e_⟩))); (case aS => exact (below_size (PB HB))); (case aL => have := LMc8.out; omega); intro v407 w10 ho hb hg hat; rw [← Ny406.out] at ho; have n0_ := AQ (hb); have n1_ := AQ (ho); clear HB; clear HO_5; clear HO405; have HB := n0_; have HO408 := n1_; clear n0_ n1_; clear ho hb hg hat)); go_roundg k1
      case measure => have := HK1.out; omega
      case rel => exact ⟨(y406), (wrap64 (x6_1 + 1)), (by first | rfl | (simp; done) | (simp [*]; done)), H', ⟨by have := HK1.out; omega⟩, ⟨PS HO408⟩, ⟨PB HB⟩⟩
     ·rw [if_neg c8] at H; exact absurd H (by simp)
    ·rw [if_neg c6] at H; exact absurd H (by simp)
   ·rw [if_neg c5] at H; have c5b0 : decide (x6_1 < (l0.length : Int)) = false := decide_eq_false c5; clear c5; obtain rfl := Option.some.inj H; go_wp2; go_ret; exact ⟨_, by first | rfl | (simp [errW_none, errW_some] <;> rfl) | (simp [*, errW_none, errW_some] <;> rfl), PS HO_5, PB HB⟩
def geyserref03_Rank.f (k : Nat) (l0 : List (List Int)) (a1 : Int) : Option (Int) := (geyserref03_All.f k l0 a1).bind fun t409 => ((geyserref03_Gauss.f k t409 a1).bind fun t412 => (some (t412.length : Int)))
theorem geyserref03_Rank.mono : ∀ a0 a1 k, LeO (geyserref03_Rank.f k a0 a1) (geyserref03_Rank.f (k + 1) a0 a1) := by
 intro a0 a1 k; unfold geyserref03_Rank.f
 repeat' first
   | (with_reducible exact geyserref03_All.mono _ _ _)
   | (with_reducible exact geyserref03_Gauss.mono _ _ _)
   | (with_reducible exact LeO.refl _)
   | (with_reducible exact LeO.none _)
   | (with_reducible refine LeO.ite ?_ ?_)
   | (with_reducible refine LeO.bind ?_ (fun _ => ?_))
   | exact geyserref03_All.mono _ _ _
   | exact geyserref03_Gauss.mono _ _ _
   | exact LeO.none _
   | refine LeO.ite ?_ ?_
   | refine LeO.bind ?_ (fun _ => ?_)
set_option maxHeartbeats 8000000 in
set_option maxRecDepth 100000 in
theorem geyserref03_Rank.calls (k : Nat) (A0 : Option Addr) (c0 : Nat) (l0 : List (List Int)) (a1 : Int) (r : Int) (w : World) (hr0 : Kd.C (Kd.slice 35 (Kd.int .u64)) w A0 l0.length l0) (hc0 : l0.length ≤ c0) (h : geyserref03_Rank.f k l0 a1 = some r) :
  Calls Tryd.prog 16 #[.slice A0 l0.length c0, .int .i64 a1] w fun e w' => e = .returned (.int .i64 r) ∧ Below w.heap.size w w' := by
 have HR0 := AQ hr0; have HC0 := AQ hc0; clear hr0 hc0; have HB := AQ (Below.refl w.heap.size w); have H : ((geyserref03_All.f k l0 a1).bind fun t409 => ((geyserref03_Gauss.f k t409 a1).bind fun t412 => (some (t412.length : Int)))) = some r := h; clear h; replace H := Option.bind_eq_some_iff.mp H; obtain ⟨t409, A30, H⟩ := H; replace H : ((geyserref03_Gauss.f k t409 a1).bind fun t412 => (some (t412.length : Int))) = some r := H; have A3 := AQ A30; clear A30; replace H := Option.bind_eq_some_iff.mp H; obtain ⟨t412, A40, H⟩ := H; replace H : (some (t412.length : Int)) = some r := H; have A4 := AQ A40; clear A40; obtain rfl := Option.some.inj H; go_enter Tryd.func16, Tryd.ntmps16; go_wp2_with (first | ((with_reducible refine gate_callee (f := 37) rfl ?_); refine gL (some 7) rfl rfl Tryd.func37 #[.slice A0 l0.length c0, .int .i64 a1] rfl ?_; (with_reducible refine (geyserref03_All.calls k _ _ l0 a1 t409 _ ?side1 ?side2 A3.out).mono ?_); (case side1 => repeat (first | exact HR0.out | (with_reducible refine Kd.C_alloc ?_ _) | (with_reducible refine Kd.C_drewN ?_ _) | (with_reducible refine Kd.C_drew ?_))); (case side2 => exact HC0.out); rintro e w5 ⟨v410, rfl, ho0, hb⟩; refine ⟨_, rfl, ?_⟩; have n0_ := AQ (Kd.S_lower ho0 (below_size (PB HB))); have n1_ := AQ (below_step (PB HB) hb); clear HB; have HO411 := n0_; have HB := n1_; clear n0_ n1_; (try clear hb); (try clear hb2); (try clear hk); (try clear hi); (try clear ho0); obtain ⟨Ao6, co6, eo6⟩ := Kd.S_slice HO411.out; subst eo6) | ((with_reducible refine gate_callee (f := 36) rfl ?_); refine gL (some 9) rfl rfl Tryd.func36 #[.slice Ao6 t409.length co6, .int .i64 a1] rfl ?_; (with_reducible refine (geyserref03_Gauss.calls k (fun k_ => True) _ _ t409 a1 t412 _ ?side1 A4.out).mono ?_); (case side1 => exact Kd.S_V (HO411.out)); rintro e w7 ⟨v413, rfl, ho0, hb⟩; refine ⟨_, rfl, ?_⟩; have n0_ := AQ (Kd.S_below (PS HO411) hb); have n1_ := AQ (Kd.V_lower (Kd.V_mono (ok' := fun k_ => True) ho0 (fun k_ hk_ => trivial)) (below_size (PB HB))); have n2_ := AQ (below_step (PB HB) hb); clear HO411; clear HB; have HO411 := n0_; have HO414 := n1_; have HB := n2_; clear n0_ n1_ n2_; (try clear hb); (try clear hb2); (try clear hk); (try clear hi); (try clear ho0); obtain ⟨Ao8, co8, eo8⟩ := Kd.V_slice HO414.out; subst eo8)); go_ret; exact ⟨by first | rfl | (simp [errW_none, errW_some] <;> rfl) | (simp [*, errW_none, errW_some] <;> rfl), PB HB⟩
def geyserref03_Whole.l0 : Nat → List Int → Int → Option (Bool)
 | 0, _, _ => none
 | k + 1, x0, x5 => if x5 < (wrap64 (64 * (x0.length : Int))) then ((geyserref02_Has.f x0 x5).bind fun t593 => (if t593 = true then (some false) else (geyserref03_Whole.l0 k x0 (wrap64 (x5 + 1))))) else (some true)
def geyserref03_Whole.f (k : Nat) (l0 : List Int) (a1 : Int) : Option (Bool) := (geyserref02_Size.f k a1).bind fun t592 => (if (l0.length : Int) = t592 then (geyserref03_Whole.l0 k l0 a1) else (some false))
theorem geyserref03_Whole.mono_l : ∀ k, (∀ y0 y1, LeO (geyserref03_Whole.l0 k y0 y1) (geyserref03_Whole.l0 (k + 1) y0 y1))
 | 0 => fun _ _ r h => by simp [geyserref03_Whole.l0] at h
 | k + 1 => by
  have ih0 := geyserref03_Whole.mono_l k
  ·intro y0 y1; unfold geyserref03_Whole.l0
   repeat' first
   | (with_reducible exact ih0 _ _)
   | (with_reducible exact geyserref02_Size.mono _ _)
   | (with_reducible exact LeO.refl _)
   | (with_reducible exact LeO.none _)
   | (with_reducible refine LeO.ite ?_ ?_)
   | (with_reducible refine LeO.bind ?_ (fun _ => ?_))
   | exact ih0 _ _
   | exact geyserref02_Size.mono _ _
   | exact LeO.none _
   | refine LeO.ite ?_ ?_
   | refine LeO.bind ?_ (fun _ => ?_)
theorem geyserref03_Whole.mono : ∀ a0 a1 k, LeO (geyserref03_Whole.f k a0 a1) (geyserref03_Whole.f (k + 1) a0 a1) := by
 intro a0 a1 k; have ih0 := geyserref03_Whole.mono_l k; unfold geyserref03_Whole.f
 repeat' first
   | (with_reducible exact ih0 _ _)
   | (with_reducible exact geyserref02_Size.mono _ _)
   | (with_reducible exact LeO.refl _)
   | (with_reducible exact LeO.none _)
   | (with_reducible refine LeO.ite ?_ ?_)
   | (with_reducible refine LeO.bind ?_ (fun _ => ?_))
   | exact ih0 _ _
   | exact geyserref02_Size.mono _ _
   | exact LeO.none _
   | refine LeO.ite ?_ ?_
   | refine LeO.bind ?_ (fun _ => ?_)
set_option maxHeartbeats 8000000 in
set_option maxRecDepth 100000 in
theorem geyserref03_Whole.calls (k : Nat) (A0 : Option Addr) (c0 : Nat) (l0 : List Int) (a1 : Int) (r : Bool) (w : World) (hr0 : Kd.C (Kd.int .u64) w A0 l0.length l0) (hc0 : l0.length ≤ c0) (h : geyserref03_Whole.f k l0 a1 = some r) :
  Calls Tryd.prog 40 #[.slice A0 l0.length c0, .int .i64 a1] w fun e w' => e = .returned (.bool r) ∧ Drawn0 w w' := by
 have HR0 := AQ hr0; have HC0 := AQ hc0; clear hr0 hc0; have H : ((geyserref02_Size.f k a1).bind fun t592 => (if (l0.length : Int) = t592 then (geyserref03_Whole.l0 k l0 a1) else (some false))) = some r := h; clear h; replace H := Option.bind_eq_some_iff.mp H; obtain ⟨t592, A30, H⟩ := H; replace H : (if (l0.length : Int) = t592 then (geyserref03_Whole.l0 k l0 a1) else (some false)) = some r := H; have A3 := AQ A30; clear A30
 by_cases c4 : (l0.length : Int) = t592
 ·rw [if_pos c4] at H; have c4b0 : ((l0.length : Int) == t592) = true := beq_iff_eq.mpr c4; have c4b1 : ((l0.length : Int) != t592) = false := bne_eq_false_iff_eq.mpr c4; clear c4; have H' := AQ H; clear H; go_enter Tryd.func40, Tryd.ntmps40; go_wp2_with (first | ((with_reducible refine gate_callee (f := 42) rfl ?_); refine gL (some 9) rfl rfl Tryd.func42 #[.int .i64 a1] rfl ?_; (with_reducible refine (geyserref02_Size.calls k a1 t592 _ A3.out).mono ?_); rintro e w' ⟨rfl, ⟨nd, rfl⟩⟩; refine ⟨_, rfl, ?_⟩)); go_loopg [5] k (fun kq v5 w' => ∃ (x5_1 : Int), v5 = .int .i64 x5_1 ∧ Aside0 (geyserref03_Whole.l0 kq l0 x5_1 = some r) ∧ Aside0 (kq ≤ k) ∧ Drawn0 w w')
  case atStart => exact ⟨(a1), (by first | rfl | (simp; done) | (simp [*]; done)), H', ⟨Nat.le_refl _⟩, by repeat (first | exact Drawn0.refl _ | apply Drawn0.step)⟩
  case round =>
   clear H'; (try clear p2); (try clear c4); (try clear c4b0); (try clear c4b1); obtain ⟨x5_1, rfl, HA, HK1, ⟨m1, rfl⟩⟩ := hrel; cases gk with
   | zero => exact absurd HA.out (by simp [geyserref03_Whole.l0])
   | succ k1 =>
    have H := HA.out; clear HA; simp only [geyserref03_Whole.l0] at H
    by_cases c5 : x5_1 < (wrap64 (64 * (l0.length : Int)))
    ·rw [if_pos c5] at H; have c5b0 : decide (x5_1 < (wrap64 (64 * (l0.length : Int)))) = true := decide_eq_true c5; clear c5; replace H := Option.bind_eq_some_iff.mp H; obtain ⟨t593, A60, H⟩ := H; replace H : (if t593 = true then (some false) else (geyserref03_Whole.l0 k1 l0 (wrap64 (x5_1 + 1)))) = some r := H; have A6 := AQ A60; clear A60
     by_cases c7 : t593 = true
     ·subst c7; have H1 : (some false) = some r := (by rw [if_pos rfl] at H; exact H); clear H; have H := H1; clear H1; obtain rfl := Option.some.inj H; go_wp2_with (first | ((with_reducible refine gate_callee (f := 52) rfl ?_); refine gL (some 21) rfl rfl Tryd.func52 #[.slice A0 l0.length c0, .int .i64 x5_1] rfl ?_; (with_reducible refine (geyserref02_Has.calls _ _ l0 x5_1 true _ ?side1 ?side2 A6.out).mono ?_); (case side1 => repeat (first | exact HR0.out | (with_reducible refine Kd.C_alloc ?_ _) | (with_reducible refine Kd.C_drewN ?_ _) | (with_reducible refine Kd.C_drew ?_))); (case side2 => exact HC0.out); rintro e w' ⟨rfl, ⟨nd, rfl⟩⟩; refine ⟨_, rfl, ?_⟩)); go_ret; exact ⟨by first | rfl | (simp; done) | (simp [*]; done), by repeat (first | exact Drawn0.refl _ | apply Drawn0.step)⟩
     ·replace c7 := Bool.eq_false_iff.mpr c7; subst c7; have H1 : (geyserref03_Whole.l0 k1 l0 (wrap64 (x5_1 + 1))) = some r := (by rw [if_neg (show ¬ (false = true) by decide)] at H; exact H); clear H; have H := H1; clear H1; have H' := AQ H; clear H; go_wp2_with (first | ((with_reducible refine gate_callee (f := 52) rfl ?_); refine gL (some 21) rfl rfl Tryd.func52 #[.slice A0 l0.length c0, .int .i64 x5_1] rfl ?_; (with_reducible refine (geyserref02_Has.calls _ _ l0 x5_1 false _ ?side1 ?side2 A6.out).mono ?_); (case side1 => repeat (first | exact HR0.out | (with_reducible refine Kd.C_alloc ?_ _) | (with_reducible refine Kd.C_drewN ?_ _) | (with_reducible refine Kd.C_drew ?_))); (case side2 => exact HC0.out); rintro e w' ⟨rfl, ⟨nd, rfl⟩⟩; refine ⟨_, rfl, ?_⟩)); go_roundg k1
      case measure => have := HK1.out; omega
      case rel => exact ⟨(wrap64 (x5_1 + 1)), (by first | rfl | (simp; done) | (simp [*]; done)), H', ⟨by have := HK1.out; omega⟩, by repeat (first | exact Drawn0.refl _ | apply Drawn0.step)⟩
    ·rw [if_neg c5] at H; have c5b0 : decide (x5_1 < (wrap64 (64 * (l0.length : Int)))) = false := decide_eq_false c5; clear c5; obtain rfl := Option.some.inj H; go_wp2; go_ret; exact ⟨by first | rfl | (simp; done) | (simp [*]; done), by repeat (first | exact Drawn0.refl _ | apply Drawn0.step)⟩
 ·rw [if_neg c4] at H; have c4b0 : ((l0.length : Int) == t592) = false := beq_eq_false_iff_ne.mpr c4; have c4b1 : ((l0.length : Int) != t592) = true := bne_iff_ne.mpr c4; obtain rfl := Option.some.inj H; go_enter Tryd.func40, Tryd.ntmps40; go_wp2_with (first | ((with_reducible refine gate_callee (f := 42) rfl ?_); refine gL (some 9) rfl rfl Tryd.func42 #[.int .i64 a1] rfl ?_; (with_reducible refine (geyserref02_Size.calls k a1 t592 _ A3.out).mono ?_); rintro e w' ⟨rfl, ⟨nd, rfl⟩⟩; refine ⟨_, rfl, ?_⟩)); go_ret; exact ⟨by first | rfl | (simp; done) | (simp [*]; done), by repeat (first | exact Drawn0.refl _ | apply Drawn0.step)⟩
end Go.Proofs.YtjmgkknbgffbjaaDoor.P
namespace Go.Proofs.YtjmgkknbgffbjaaDoor.Pure
open Go.RowKit Go.Proofs.YtjmgkknbgffbjaaDoor.P Go.Proofs.YtjmgkknbgffbjaaDoorW.PrintWords Go.Proofs.YtjmgkknbgffbjaaDoorW.PrintLast Go.Proofs.YtjmgkknbgffbjaaDoorW.PrintErr Go.Proofs.YtjmgkknbgffbjaaDoorW.PrintMore Go.Proofs.YtjmgkknbgffbjaaDoor.Lin
set_option linter.unusedVariables false
set_option linter.unusedSimpArgs false
def noneFrom (row : List Int) (c d : Nat) : Bool := (List.range' c d).all fun c => !hasB row c
def wokB (row : List Int) (n : Int) : Bool := decide (row.length = nW n) && noneFrom row n.toNat (64 * row.length - n.toNat)
theorem noneFrom_iff (row : List Int) (c d : Nat) : noneFrom row c d = true ↔ ∀ e, c ≤ e → e < c + d → hasB row e = false := by
  unfold noneFrom
  rw [List.all_eq_true]
  constructor
  · intro h e h1 h2
    have := h e (List.mem_range'_1.2 ⟨h1, h2⟩)
    simpa using this
  · intro h e he
    obtain ⟨h1, h2⟩ := List.mem_range'_1.1 he
    simp [h e h1 h2]
theorem wokB_iff (row : List Int) (n : Int) (h0 : 0 ≤ n) : wokB row n = true ↔ row.length = nW n ∧ ∀ c : Nat, n ≤ c → hasB row c = false := by
  unfold wokB
  rw [Bool.and_eq_true, decide_eq_true_iff, noneFrom_iff]
  constructor
  · rintro ⟨h1, h2⟩
    refine ⟨h1, fun c hc => ?_⟩
    by_cases hl : c < 64 * row.length
    · exact h2 c (by omega) (by omega)
    · exact hasB_big (by omega)
  · rintro ⟨h1, h2⟩
    exact ⟨h1, fun e h3 h4 => h2 e (by omega)⟩
theorem shr_zero (x : Int) (hx : U64 x) (r : Nat) (hr : r < 64) : (shr .u64 x (r : Int) == 0) = true ↔ ∀ j, r ≤ j → x.toNat.testBit j = false := by
  obtain ⟨n, rfl⟩ := Int.eq_ofNat_of_zero_le hx.1
  have e1 : shr .u64 (n : Int) (r : Int) = ((n / 2 ^ r : Nat) : Int) := by
    unfold shr
    rw [Int.toNat_natCast, show IntKind.u64.bits = 64 from rfl, Nat.min_eq_left (by omega)]
    push_cast
    rfl
  rw [e1, Int.toNat_natCast]
  have hp : 0 < 2 ^ r := Nat.two_pow_pos r
  constructor
  · intro h j hj
    have h2 : n / 2 ^ r = 0 := by
      have := beq_iff_eq.1 h
      omega
    have h3 : n < 2 ^ r := (Nat.div_eq_zero_iff.1 h2).resolve_left (by omega)
    exact Nat.testBit_lt_two_pow (Nat.lt_of_lt_of_le h3 (Nat.pow_le_pow_right (by decide) hj))
  · intro h
    have h3 : n < 2 ^ r := Nat.lt_pow_two_of_testBit n h
    rw [beq_iff_eq, Nat.div_eq_of_lt h3]
    rfl
def bv (t : List Bool) : V := fun c => t.getD c false
def tr (row : List Int) (n : Nat) : List Bool := (List.range' 0 n).map (hasB row)
def sumT (a b : List Bool) : List Bool := List.zipWith (· != ·) a b
theorem sumT_len {a b : List Bool} {n : Nat} (ha : a.length = n) (hb : b.length = n) : (sumT a b).length = n := by unfold sumT; rw [List.length_zipWith, ha, hb, Nat.min_self]
theorem bv_sum {a b : List Bool} (h : a.length = b.length) : bv (sumT a b) = vx (bv a) (bv b) := by
  funext c
  unfold bv sumT Lin.vx
  by_cases hc : c < a.length
  · simp only [List.getD_eq_getElem?_getD, List.getElem?_zipWith]
    rw [List.getElem?_eq_getElem hc, List.getElem?_eq_getElem (by omega)]
    rfl
  · simp only [List.getD_eq_getElem?_getD, List.getElem?_zipWith]
    rw [List.getElem?_eq_none (by omega), List.getElem?_eq_none (by omega)]
    rfl
def gr (R : List (List Bool)) (i : Nat) : List Bool := R.getD i []
theorem gr_mem {R : List (List Bool)} {i : Nat} (h : i < R.length) : gr R i ∈ R := by
  unfold gr
  rw [List.getD_eq_getElem?_getD, List.getElem?_eq_getElem h]
  exact List.getElem_mem h
theorem mem_gr {R : List (List Bool)} {x : List Bool} (h : x ∈ R) : ∃ i, i < R.length ∧ gr R i = x := by
  obtain ⟨i, hi, rfl⟩ := List.mem_iff_getElem.1 h
  refine ⟨i, hi, ?_⟩
  unfold gr
  rw [List.getD_eq_getElem?_getD, List.getElem?_eq_getElem hi]
  rfl
def swapL (R : List (List Bool)) (a b : Nat) : List (List Bool) := (R.set a (gr R b)).set b (gr R a)
theorem swapL_len (R : List (List Bool)) (a b : Nat) : (swapL R a b).length = R.length := by simp [swapL]
def sg (a b k : Nat) : Nat := if k = b then a else if k = a then b else k
theorem swapL_gr (R : List (List Bool)) (a b : Nat) (ha : a < R.length) (hb : b < R.length) (k : Nat) (hk : k < R.length) : gr (swapL R a b) k = gr R (sg a b k) := by
  unfold swapL sg
  show ((R.set a (gr R b)).set b (gr R a)).getD k [] = _
  rw [List.getD_eq_getElem?_getD, List.getElem?_set]
  by_cases h1 : b = k
  · subst h1
    rw [if_pos rfl, if_pos (by simpa using hb), if_pos rfl]
    rfl
  · rw [if_neg h1, if_neg (fun h => h1 h.symm), List.getElem?_set]
    by_cases h2 : a = k
    · subst h2
      rw [if_pos rfl, if_pos ha, if_pos rfl]
      rfl
    · rw [if_neg h2, if_neg (fun h => h2 h.symm)]
      unfold gr
      rw [List.getD_eq_getElem?_getD]
def clr (R : List (List Bool)) (a c k : Nat) : List Bool := if k = a then gr R k else if bv (gr R k) c = true then sumT (gr R k) (gr R a) else gr R k
def clearL (R : List (List Bool)) (a c : Nat) : List (List Bool) := (List.range' 0 R.length).map (clr R a c)
theorem clearL_len (R : List (List Bool)) (a c : Nat) : (clearL R a c).length = R.length := by simp [clearL]
theorem clearL_gr (R : List (List Bool)) (a c k : Nat) (hk : k < R.length) : gr (clearL R a c) k = clr R a c k := by
  show (clearL R a c).getD k [] = _
  rw [List.getD_eq_getElem?_getD, List.getElem?_eq_getElem (by rw [clearL_len]; exact hk), Option.getD_some]
  unfold clearL
  rw [List.getElem_map, List.getElem_range']
  simp
structure GInv (n m : Nat) (R0 R : List (List Bool)) (done c : Nat) (p : Nat → Nat) : Prop where
  len : R.length = m
  le : done ≤ m
  rows : ∀ x ∈ R, x.length = n
  piv : ∀ j, j < done → bv (gr R j) (p j) = true ∧ ∀ i, i < m → i ≠ j → bv (gr R i) (p j) = false
  low : ∀ i, done ≤ i → i < m → ∀ e, e < c → bv (gr R i) e = false
  tos : ∀ x ∈ R, Sp (R0.map bv) (bv x)
  ofs : ∀ x ∈ R0, Sp (R.map bv) (bv x)
theorem GInv.skip {n m : Nat} {R0 R : List (List Bool)} {done c : Nat} {p : Nat → Nat} (h : GInv n m R0 R done c p) (hz : ∀ j, done ≤ j → j < m → bv (gr R j) c = false) : GInv n m R0 R done (c + 1) p :=
  ⟨h.len, h.le, h.rows, h.piv, fun i h1 h2 e he => by
    by_cases c1 : e = c
    · subst c1; exact hz i h1 h2
    · exact h.low i h1 h2 e (by omega), h.tos, h.ofs⟩
theorem bv_vx {a b : List Bool} {n : Nat} (ha : a.length = n) (hb : b.length = n) (e : Nat) : bv (sumT a b) e = (bv a e != bv b e) := by
  rw [bv_sum (by omega)]; rfl
theorem GInv.take {n m : Nat} {R0 R : List (List Bool)} {done c : Nat} {p : Nat → Nat} (h : GInv n m R0 R done c p) (i : Nat) (hi1 : done ≤ i) (hi2 : i < m) (hb : bv (gr R i) c = true) :
    GInv n m R0 (clearL (swapL R done i) done c) (done + 1) (c + 1) (fun j => if j = done then c else p j) := by
  have hlenR := h.len
  have l1 : (swapL R done i).length = m := by rw [swapL_len]; exact h.len
  have hd : done < m := by omega
  have g1 : ∀ k, k < m → gr (swapL R done i) k = gr R (sg done i k) := fun k hk => swapL_gr R done i (by omega) (by omega) k (by omega)
  have sg_lt : ∀ k, k < m → sg done i k < m := by intro k hk; unfold sg; split; omega; split <;> omega
  have sg_hi : ∀ k, done ≤ k → done ≤ sg done i k := by intro k hk; unfold sg; split; omega; split <;> omega
  have sg_lo : ∀ k, k < done → sg done i k = k := by intro k hk; unfold sg; rw [if_neg (by omega), if_neg (by omega)]
  have sg_done : sg done i done = i := by unfold sg; split; omega; rw [if_pos rfl]
  have sg_ne : ∀ j k, j < done → k ≠ j → sg done i k ≠ j := by
    intro j k hj hk
    by_cases hk2 : k < done
    · rw [sg_lo k hk2]; exact hk
    · have := sg_hi k (by omega); omega
  have r1len : ∀ k, k < m → (gr (swapL R done i) k).length = n := fun k hk => by rw [g1 k hk]; exact h.rows _ (gr_mem (by rw [h.len]; exact sg_lt k hk))
  have gd : gr (swapL R done i) done = gr R i := by rw [g1 done hd, sg_done]
  have g2 : ∀ k, k < m → gr (clearL (swapL R done i) done c) k = clr (swapL R done i) done c k := fun k hk => clearL_gr _ _ _ _ (by omega)
  -- columns of what comes out
  have hcol : ∀ k, k < m → k ≠ done → ∀ e, bv (gr (clearL (swapL R done i) done c) k) e = if bv (gr (swapL R done i) k) c = true then (bv (gr (swapL R done i) k) e != bv (gr R i) e) else bv (gr (swapL R done i) k) e := by
    intro k hk hne e
    rw [g2 k hk]
    unfold clr
    rw [if_neg hne]
    split
    · rw [bv_vx (r1len k hk) (r1len done hd), gd]
    · rfl
  have hdone : gr (clearL (swapL R done i) done c) done = gr R i := by rw [g2 done hd]; unfold clr; rw [if_pos rfl, gd]
  have spk : ∀ k, k < m → Sp ((clearL (swapL R done i) done c).map bv) (bv (gr (swapL R done i) k)) := by
    have sd : Sp ((clearL (swapL R done i) done c).map bv) (bv (gr R i)) := by
      rw [← hdone]
      exact Sp.mem (List.mem_map.2 ⟨_, gr_mem (by rw [clearL_len]; omega), rfl⟩)
    intro k hk
    have sk : Sp ((clearL (swapL R done i) done c).map bv) (bv (gr (clearL (swapL R done i) done c) k)) := Sp.mem (List.mem_map.2 ⟨_, gr_mem (by rw [clearL_len]; omega), rfl⟩)
    by_cases hkd : k = done
    · subst hkd; rw [gd]; exact sd
    · rw [g2 k hk] at sk
      unfold clr at sk
      rw [if_neg hkd] at sk
      split at sk
      · rw [bv_sum (by rw [r1len k hk, r1len done hd]), gd] at sk
        have := sk.vx sd
        rwa [vx_cancel] at this
      · exact sk
  refine ⟨by rw [clearL_len, l1], by omega, ?_, ?_, ?_, ?_, ?_⟩
  · intro x hx
    obtain ⟨k, hk, rfl⟩ := mem_gr hx
    rw [clearL_len, l1] at hk
    rw [g2 k hk]
    unfold clr
    split
    · exact r1len k hk
    · split
      · exact sumT_len (r1len k hk) (r1len done hd)
      · exact r1len k hk
  · intro j hj
    by_cases hjd : j = done
    · subst hjd
      rw [if_pos rfl, hdone]
      refine ⟨hb, fun k hk hne => ?_⟩
      rw [hcol k hk hne c]
      by_cases hbit : bv (gr (swapL R j i) k) c = true
      · rw [if_pos hbit, hbit, hb]; rfl
      · rw [if_neg hbit]; simpa using hbit
    · rw [if_neg hjd]
      obtain ⟨p1, p2⟩ := h.piv j (by omega)
      have hz : bv (gr R i) (p j) = false := p2 i hi2 (by omega)
      refine ⟨?_, fun k hk hne => ?_⟩
      · rw [hcol j (by omega) hjd, g1 j (by omega), sg_lo j (by omega), p1, hz]
        split <;> rfl
      · by_cases hkd : k = done
        · subst hkd; rw [hdone]; exact hz
        · have hzk : bv (gr (swapL R done i) k) (p j) = false := by rw [g1 k hk]; exact p2 _ (sg_lt k hk) (sg_ne j k (by omega) hne)
          rw [hcol k hk hkd, hzk, hz]
          split <;> rfl
  · intro k hk1 hk2 e he
    by_cases hec : e = c
    · subst hec
      rw [hcol k hk2 (by omega) e]
      by_cases hbit : bv (gr (swapL R done i) k) e = true
      · rw [if_pos hbit, hbit, hb]; rfl
      · rw [if_neg hbit]; simpa using hbit
    · have z1 : bv (gr (swapL R done i) k) e = false := by rw [g1 k hk2]; exact h.low _ (sg_hi k (by omega)) (sg_lt k hk2) e (by omega)
      have z2 : bv (gr R i) e = false := h.low i hi1 hi2 e (by omega)
      rw [hcol k hk2 (by omega) e, z1, z2]
      split <;> rfl
  · intro x hx
    obtain ⟨k, hk, rfl⟩ := mem_gr hx
    rw [clearL_len, l1] at hk
    have s1 : ∀ k, k < m → Sp (R0.map bv) (bv (gr (swapL R done i) k)) := fun k hk => by rw [g1 k hk]; exact h.tos _ (gr_mem (by rw [h.len]; exact sg_lt k hk))
    rw [g2 k hk]
    unfold clr
    split
    · exact s1 k hk
    · split
      · rw [bv_sum (by rw [r1len k hk, r1len done hd])]; exact (s1 k hk).vx (s1 done hd)
      · exact s1 k hk
  · intro x hx
    refine (h.ofs x hx).trans fun u hu => ?_
    obtain ⟨y, hy, rfl⟩ := List.mem_map.1 hu
    obtain ⟨k, hk, rfl⟩ := mem_gr hy
    rw [h.len] at hk
    have hs := spk (sg done i k) (sg_lt k hk)
    rw [g1 _ (sg_lt k hk)] at hs
    have inv : sg done i (sg done i k) = k := by
      unfold sg
      by_cases a1 : k = i
      · rw [if_pos a1]
        by_cases a2 : done = i
        · rw [if_pos a2]; omega
        · rw [if_neg a2, if_pos rfl]; omega
      · rw [if_neg a1]
        by_cases a2 : k = done
        · rw [if_pos a2, if_pos rfl]; omega
        · rw [if_neg a2, if_neg a1, if_neg a2]
    rwa [inv] at hs
theorem ind_cols : ∀ L : List V, (∀ j, ∀ h : j < L.length, ∃ c, L[j] c = true ∧ ∀ i, ∀ hi : i < L.length, i ≠ j → L[i] c = false) → Ind L
  | [], _ => trivial
  | v :: L, h => by
    refine ⟨fun hs => ?_, ind_cols L fun j hj => ?_⟩
    · obtain ⟨c, h1, h2⟩ := h 0 (by simp)
      have h3 : v c = true := h1
      have h4 := Sp.col (c := c) (fun u hu => by
        obtain ⟨i, hi, rfl⟩ := List.mem_iff_getElem.1 hu
        exact h2 (i + 1) (by simp; omega) (by omega)) hs
      rw [h3] at h4
      cases h4
    · obtain ⟨c, h1, h2⟩ := h (j + 1) (by simp; omega)
      exact ⟨c, h1, fun i hi hne => h2 (i + 1) (by simp; omega) (by omega)⟩
theorem GInv.rk {n m : Nat} {R0 R : List (List Bool)} {done : Nat} {p : Nat → Nat} (h : GInv n m R0 R done n p) : Rk (R0.map bv) done := by
  have hlenR := h.len
  have hle := h.le
  have hlen : ((R.take done).map bv).length = done := by rw [List.length_map, List.length_take]; omega
  have hget : ∀ j, ∀ hj : j < ((R.take done).map bv).length, ((R.take done).map bv)[j] = bv (gr R j) := by
    intro j hj
    rw [List.getElem_map, List.getElem_take]
    unfold gr
    rw [List.getD_eq_getElem?_getD, List.getElem?_eq_getElem (by omega)]
    rfl
  refine ⟨(R.take done).map bv, ind_cols _ fun j hj => ⟨p j, ?_, fun i hi hne => ?_⟩, hlen, fun b hb => ?_, fun x hx => ?_⟩
  · rw [hget j hj]; exact (h.piv j (by omega)).1
  · rw [hget i hi]; exact (h.piv j (by omega)).2 i (by omega) hne
  · obtain ⟨y, hy, rfl⟩ := List.mem_map.1 hb
    exact h.tos y (List.mem_of_mem_take hy)
  · obtain ⟨y, hy, rfl⟩ := List.mem_map.1 hx
    refine (h.ofs y hy).trans fun u hu => ?_
    obtain ⟨z, hz, rfl⟩ := List.mem_map.1 hu
    obtain ⟨k, hk, rfl⟩ := mem_gr hz
    by_cases hkd : k < done
    · have := List.getElem_mem (l := (R.take done).map bv) (n := k) (by omega)
      rw [hget k (by omega)] at this
      exact Sp.mem this
    · have hz0 : bv (gr R k) = v0 := by
        funext e
        by_cases he : e < n
        · exact h.low k (by omega) (by omega) e he
        · have hl := h.rows _ (gr_mem hk)
          unfold bv
          rw [List.getD_eq_getElem?_getD, List.getElem?_eq_none (by omega)]
          rfl
      rw [hz0]; exact Sp.zero
def Mat (rows : List (List Int)) (n : Nat) : Prop := rows.length ≤ 1000000 ∧ n ≤ 4096 ∧ ∀ r ∈ rows, wokB r n = true ∧ ∀ x ∈ r, U64 x
theorem Mat.row {rows : List (List Int)} {n : Nat} (h : Mat rows n) : ∀ r ∈ rows, r.length = nW n ∧ (∀ a ∈ r, U64 a) ∧ ∀ c : Nat, n ≤ c → hasB r c = false := by
  intro r hr
  obtain ⟨h1, h2⟩ := h.2.2 r hr
  obtain ⟨h3, h4⟩ := (wokB_iff r n (by omega)).1 h1
  exact ⟨h3, h2, fun c hc => h4 c (by omega)⟩
end Go.Proofs.YtjmgkknbgffbjaaDoor.Pure
namespace Go.Proofs.YtjmgkknbgffbjaaDoor.P
open Go.RowKit Go.Proofs.YtjmgkknbgffbjaaDoorW.PrintWords Go.Proofs.YtjmgkknbgffbjaaDoorW.PrintLast Go.Proofs.YtjmgkknbgffbjaaDoorW.PrintErr Go.Proofs.YtjmgkknbgffbjaaDoorW.PrintMore
attribute [local go_sem] max2_int min2_int max_two min_two max_three min_three max_four min_four run_eql_errOf run_neq_errOf eqGuard_errOf   -- for this text's walks alone
set_option linter.unusedVariables false
set_option linter.unusedSimpArgs false
theorem elim_Rank.nil (w : World) : Calls Tryd.prog 14 #[.pointer none] w fun e w' => e = .returned (.int .i64 0) ∧ Below w.heap.size w w' := by
  have HB := AQ (Below.refl w.heap.size w); go_enter Tryd.func14, Tryd.ntmps14; go_wp2; go_ret; exact ⟨rfl, PB HB⟩
theorem elim_Clashed.nil (w : World) : Calls Tryd.prog 20 #[.pointer none] w fun e w' => e = .returned (.bool false) ∧ Below w.heap.size w w' := by
  have HB := AQ (Below.refl w.heap.size w); go_enter Tryd.func20, Tryd.ntmps20; go_wp2; go_ret; exact ⟨rfl, PB HB⟩
theorem elim_Whole.nil (w : World) : Calls Tryd.prog 18 #[.pointer none] w fun e w' => e = .returned (.bool false) ∧ Below w.heap.size w w' := by
  have HB := AQ (Below.refl w.heap.size w); go_enter Tryd.func18, Tryd.ntmps18; go_wp2; go_region; go_wp2; go_ret; exact ⟨rfl, by repeat (first | (with_reducible first | exact HB.out | apply below_alloc | apply pw_below_drewN | apply below_drew1 | apply below_drew) | exact HB.out)⟩
theorem elim_Clone.nil (w : World) : Calls Tryd.prog 24 #[.pointer none] w fun e w' => e = .returned (.pointer none) ∧ Below w.heap.size w w' := by
  have HB := AQ (Below.refl w.heap.size w); go_enter Tryd.func24, Tryd.ntmps24; go_wp2; go_ret; exact ⟨rfl, PB HB⟩
set_option maxHeartbeats 4000000
set_option maxRecDepth 100000
theorem elim_Add.nil (w : World) (v1 v2 : Value) : Calls Tryd.prog 11 #[.pointer none, v1, v2] w fun e w' => ∃ v1_ : Value, e = .returned (.tuple #[.int .i64 0, errOf v1_]) ∧ Kd.R kF 95 w' w.heap.size (fun _ => True) v1_ [⟨(⟨#[101, 108, 105, 109, 46, 65, 100, 100]⟩ : ByteArray), true, 7⟩] ∧ Below w.heap.size w w' := by
  have HB := AQ (Below.refl w.heap.size w); go_enter Tryd.func11, Tryd.ntmps11; go_wp2_with ((with_reducible refine gate_callee (f := 28) rfl ?_); refine gL _ rfl rfl Tryd.func28 #[.string (⟨#[101, 108, 105, 109, 46, 65, 100, 100]⟩ : ByteArray), .int .i64 7] rfl ?_; (with_reducible refine (fault_New.calls (⟨#[101, 108, 105, 109, 46, 65, 100, 100]⟩ : ByteArray) 7 [⟨(⟨#[101, 108, 105, 109, 46, 65, 100, 100]⟩ : ByteArray), true, 7⟩] _ rfl).mono ?_); rintro e w17 ⟨v236, rfl, ho0, hb⟩; refine ⟨_, rfl, ?_⟩; have n1_ := AQ (Kd.R_lower ho0 (below_size (PB HB))); have n2_ := AQ (below_step (PB HB) hb); clear HB; have HO1 := n1_; have HB := n2_; clear n1_ n2_; (try clear hb); (try clear ho0)); go_ret2; exact ⟨_, by first | rfl | (simp [errW_none, errW_some] <;> rfl) | (simp [*, errW_none, errW_some] <;> rfl), PR HO1, PB HB⟩
theorem elim_Value.nil (w : World) (v1 : Value) : Calls Tryd.prog 13 #[.pointer none, v1] w fun e w' => ∃ v1_ : Value, e = .returned (.tuple #[.slice none 0 0, errOf v1_]) ∧ Kd.R kF 95 w' w.heap.size (fun _ => True) v1_ [⟨(⟨#[101, 108, 105, 109, 46, 86, 97, 108, 117, 101]⟩ : ByteArray), true, 7⟩] ∧ Below w.heap.size w w' := by
  have HB := AQ (Below.refl w.heap.size w); go_enter Tryd.func13, Tryd.ntmps13; go_wp2_with ((with_reducible refine gate_callee (f := 28) rfl ?_); refine gL _ rfl rfl Tryd.func28 #[.string (⟨#[101, 108, 105, 109, 46, 86, 97, 108, 117, 101]⟩ : ByteArray), .int .i64 7] rfl ?_; (with_reducible refine (fault_New.calls (⟨#[101, 108, 105, 109, 46, 86, 97, 108, 117, 101]⟩ : ByteArray) 7 [⟨(⟨#[101, 108, 105, 109, 46, 86, 97, 108, 117, 101]⟩ : ByteArray), true, 7⟩] _ rfl).mono ?_); rintro e w17 ⟨v236, rfl, ho0, hb⟩; refine ⟨_, rfl, ?_⟩; have n1_ := AQ (Kd.R_lower ho0 (below_size (PB HB))); have n2_ := AQ (below_step (PB HB) hb); clear HB; have HO1 := n1_; have HB := n2_; clear n1_ n2_; (try clear hb); (try clear ho0)); go_ret2; exact ⟨_, by first | rfl | (simp [errW_none, errW_some] <;> rfl) | (simp [*, errW_none, errW_some] <;> rfl), PR HO1, PB HB⟩
theorem elim_All.nil (w : World)  : Calls Tryd.prog 17 #[.pointer none] w fun e w' => ∃ v1_ : Value, e = .returned (.tuple #[.slice none 0 0, errOf v1_]) ∧ Kd.R kF 95 w' w.heap.size (fun _ => True) v1_ [⟨(⟨#[101, 108, 105, 109, 46, 65, 108, 108]⟩ : ByteArray), true, 7⟩] ∧ Below w.heap.size w w' := by
  have HB := AQ (Below.refl w.heap.size w); go_enter Tryd.func17, Tryd.ntmps17; go_wp2_with ((with_reducible refine gate_callee (f := 28) rfl ?_); refine gL _ rfl rfl Tryd.func28 #[.string (⟨#[101, 108, 105, 109, 46, 65, 108, 108]⟩ : ByteArray), .int .i64 7] rfl ?_; (with_reducible refine (fault_New.calls (⟨#[101, 108, 105, 109, 46, 65, 108, 108]⟩ : ByteArray) 7 [⟨(⟨#[101, 108, 105, 109, 46, 65, 108, 108]⟩ : ByteArray), true, 7⟩] _ rfl).mono ?_); rintro e w17 ⟨v236, rfl, ho0, hb⟩; refine ⟨_, rfl, ?_⟩; have n1_ := AQ (Kd.R_lower ho0 (below_size (PB HB))); have n2_ := AQ (below_step (PB HB) hb); clear HB; have HO1 := n1_; have HB := n2_; clear n1_ n2_; (try clear hb); (try clear ho0)); go_ret2; exact ⟨_, by first | rfl | (simp [errW_none, errW_some] <;> rfl) | (simp [*, errW_none, errW_some] <;> rfl), PR HO1, PB HB⟩
end Go.Proofs.YtjmgkknbgffbjaaDoor.P
namespace Go.Proofs.YtjmgkknbgffbjaaDoor.P
open Go.RowKit Go.Proofs.YtjmgkknbgffbjaaDoorW.PrintWords Go.Proofs.YtjmgkknbgffbjaaDoorW.PrintLast Go.Proofs.YtjmgkknbgffbjaaDoorW.PrintErr Go.Proofs.YtjmgkknbgffbjaaDoorW.PrintMore
set_option linter.unusedVariables false
def SysB (w : World) (g : Nat) (n size : Int) (vk va : Value) (cl : Bool) : Prop := w.heap[g]? = some (.cells #[.int .i64 n, .int .i64 size, vk, va, .bool cl] 74 (0, 0))
structure SysO (w : World) (base : Nat) (ok : Nat → Prop) (g cap : Nat) (cs : Array Value) (x : S74) (vk va : Value) : Prop where
  blk : w.heap[g]? = some (.cells cs 74 (0, 0))
  five : cs.toList.take 5 = [.int .i64 x.f0, .int .i64 x.f1, vk, va, .bool x.f4]
  ge : base ≤ g
  okg : ok g
  c1 : 1 ≤ cap
  cm : cap ≤ maxLen
  cs5 : cs.size = cap * 5
  kept : Kd.R k77 77 w base (fun k => ok k ∧ k ≠ g) vk x.f2
  at_ : Kd.R (Kd.int .i64) 3 w base (fun k => ok k ∧ k ≠ g) va x.f3
theorem SysO.row {w : World} {base : Nat} {ok : Nat → Prop} {g cap : Nat} {cs : Array Value} {x : S74} {vk va : Value} (h : SysO w base ok g cap cs x vk va) : Kd.R k74 74 w base ok (.slice (some ⟨g, 0, none⟩) 1 cap) [x] := by
  refine ⟨fun k hk => ?_, [.int .i64 x.f0, .int .i64 x.f1, vk, va, .bool x.f4], ?_, ?_⟩
  · have : g = k := by simpa [Value.ownBlock] using hk
    subst this; exact h.okg
  · exact ⟨rfl, .inr ⟨g, cap, cs, rfl, h.ge, h.blk, h.c1, h.cm, h.cs5, h.five⟩⟩
  · refine ⟨rfl, fun j p hp => ?_⟩
    match j, hp with
    | 0, hp =>
      obtain rfl : x = p := (by simpa using hp); refine k74_mkM w base _ x (Kd.R_mono h.kept (fun k hk => ⟨hk.1, fun e => hk.2 ?_⟩)) (Kd.R_mono h.at_ (fun k hk => ⟨hk.1, fun e => hk.2 ?_⟩))
      · simpa [Value.ownBlock] using e
      · simpa [Value.ownBlock] using e
    | j + 1, hp => simp at hp
theorem sys_open {w : World} {base : Nat} {ok : Nat → Prop} {v : Value} {x : S74} (h : Kd.R k74 74 w base ok v [x]) : ∃ g cap cs vk va, v = .slice (some ⟨g, 0, none⟩) 1 cap ∧ SysO w base ok g cap cs x vk va := by
  obtain ⟨h0, inner, ⟨hlen, ho⟩, hr⟩ := h; rcases ho with ⟨_, e0⟩ | ⟨g, cap, cur, hv, hg, hh, h1, h2, h3, h4⟩
  · simp at e0
  · subst hv
    have hx := hr.2 0 x rfl; have hi : inner.length = 5 := (by rw [hlen]; rfl); rw [Nat.zero_mul, List.drop_zero, List.take_of_length_le (by rw [hi]; exact Nat.le_refl _)] at hx; obtain ⟨vk, va, he, hk, ha⟩ := k74_openM hx; refine ⟨g, cap, cur, vk, va, rfl, hh, ?_, hg, h0 g (by simp [Value.ownBlock]), h1, h2, h3, Kd.R_mono hk (fun k hk => ⟨hk.1, fun e => hk.2 (by simp [Value.ownBlock, e])⟩), Kd.R_mono ha (fun k hk => ⟨hk.1, fun e => hk.2 (by simp [Value.ownBlock, e])⟩)⟩; exact h4.trans he
theorem SysO.cell {w : World} {base : Nat} {ok : Nat → Prop} {g cap : Nat} {cs : Array Value} {x : S74} {vk va : Value} (h : SysO w base ok g cap cs x vk va) (j : Nat) (u : Value) (hj : j < 5) (hu : [.int .i64 x.f0, .int .i64 x.f1, vk, va, .bool x.f4][j]? = some u) : w.cell? ⟨g, j, none⟩ = some u := by
  refine (blk_cell h.blk j).trans ?_; rw [← h.five, List.getElem?_take_of_lt hj, Array.getElem?_toList] at hu; exact hu
theorem SysO.below {w w1 : World} {base : Nat} {ok : Nat → Prop} {g cap : Nat} {cs : Array Value} {x : S74} {vk va : Value} (h : SysO w base ok g cap cs x vk va) (hb : Below w.heap.size w w1) : SysO w1 base ok g cap cs x vk va :=
  ⟨blk_below h.blk hb, h.five, h.ge, h.okg, h.c1, h.cm, h.cs5, Kd.R_below h.kept hb, Kd.R_below h.at_ hb⟩
theorem SysO.reads {w : World} {base : Nat} {ok : Nat → Prop} {g cap : Nat} {cs : Array Value} {x : S74} {vk va : Value} (h : SysO w base ok g cap cs x vk va) : Kd.C k74 w (some ⟨g, 0, none⟩) [x].length [x] := (Kd.R_reads' h.row).2.2
theorem five_set {cs : Array Value} {a b c d e : Value} (h : cs.toList.take 5 = [a, b, c, d, e]) (j : Nat) (u : Value) : (cs.setIfInBounds j u).toList.take 5 = ([a, b, c, d, e] : List Value).set j u := by
  rw [Array.toList_setIfInBounds, ← h, List.take_set]
theorem SysO.clash {w : World} {base : Nat} {ok : Nat → Prop} {g cap : Nat} {cs : Array Value} {x : S74} {vk va : Value} (h : SysO w base ok g cap cs x vk va) :
    SysO (w.setCell ⟨g, 4, none⟩ (.bool true)) base ok g cap (cs.setIfInBounds 4 (.bool true)) ⟨x.f0, x.f1, x.f2, x.f3, true⟩ vk va :=
  ⟨blk_put h.blk 4 _ rfl, five_set h.five 4 _, h.ge, h.okg, h.c1, h.cm, by rw [Array.size_setIfInBounds]; exact h.cs5, Kd.R_far (p := ⟨g, 4, none⟩) h.kept (fun _ hk => hk.2) _, Kd.R_far (p := ⟨g, 4, none⟩) h.at_ (fun _ hk => hk.2) _⟩
theorem SysO.mono {w : World} {base : Nat} {ok ok' : Nat → Prop} {g cap : Nat} {cs : Array Value} {x : S74} {vk va : Value} (h : SysO w base ok g cap cs x vk va) (hok : ∀ k, ok k → ok' k) : SysO w base ok' g cap cs x vk va :=
  ⟨h.blk, h.five, h.ge, hok _ h.okg, h.c1, h.cm, h.cs5, Kd.R_mono h.kept (fun k hk => ⟨hok k hk.1, hk.2⟩), Kd.R_mono h.at_ (fun k hk => ⟨hok k hk.1, hk.2⟩)⟩
theorem SysB.row {w : World} {base : Nat} {ok : Nat → Prop} {g : Nat} {n size : Int} {vk va : Value} {cl : Bool} {L : List S77} {T : List Int} (h : SysB w g n size vk va cl) (hg : base ≤ g) (hok : ok g) (hk : Kd.R k77 77 w base ok vk L) (ha : Kd.R (Kd.int .i64) 3 w base ok va T) :
    Kd.R k74 74 w base ok (.slice (some ⟨g, 0, none⟩) 1 1) [⟨n, size, L, T, cl⟩] :=
  SysO.row (vk := vk) (va := va) (cs := #[.int .i64 n, .int .i64 size, vk, va, .bool cl]) ⟨h, rfl, hg, hok, Nat.le_refl _, by unfold maxLen; omega, rfl, Kd.R_types hk h (by decide), Kd.R_types ha h (by decide)⟩
end Go.Proofs.YtjmgkknbgffbjaaDoor.P
namespace Go.Proofs.YtjmgkknbgffbjaaDoor.P
open Go.RowKit Go.Proofs.YtjmgkknbgffbjaaDoorW.PrintWords Go.Proofs.YtjmgkknbgffbjaaDoorW.PrintLast Go.Proofs.YtjmgkknbgffbjaaDoorW.PrintErr Go.Proofs.YtjmgkknbgffbjaaDoorW.PrintMore
attribute [local go_sem] max2_int min2_int max_two min_two max_three min_three max_four min_four run_eql_errOf run_neq_errOf eqGuard_errOf   -- for this text's walks alone
set_option linter.unusedVariables false
set_option linter.unusedSimpArgs false
theorem elimM_set_rep (i d : Nat) : ((List.replicate i (-1 : Int)) ++ List.replicate (d + 1) 0).set i (-1) = List.replicate (i + 1) (-1) ++ List.replicate d 0 := by
  rw [List.set_append_right _ _ (by simp), List.length_replicate, Nat.sub_self, List.replicate_succ (n := d), List.set_cons_zero, List.replicate_succ' (n := i), List.append_assoc]; rfl
set_option maxRecDepth 100000 in
set_option maxHeartbeats 4000000 in
theorem elimM_New.calls (w : World) (n size : Int) (h0 : 1 ≤ n) (h1 : n ≤ 4096) (h2 : 1 ≤ size) (h3 : size ≤ 64) : Calls Tryd.prog 10 #[.int .i64 n, .int .i64 size] w fun e w' => ∃ (g : Nat) (va : Value), e = .returned (.tuple #[.pointer (some ⟨g, 0, none⟩), .nilIface]) ∧ w.heap.size ≤ g ∧ SysB w' g n size (.slice none 0 0) va false ∧ Kd.R (Kd.int .i64) 3 w' w.heap.size (fun _ => True) va (List.replicate n.toNat (-1)) ∧ Below w.heap.size w w' := by
  have HB := AQ (Below.refl w.heap.size w); have b0 : decide (n < 1) = false := decide_eq_false (by omega); have b1 : decide (4096 < n) = false := decide_eq_false (by omega); have b2 : decide (size < 1) = false := decide_eq_false (by omega); have b3 : decide (64 < size) = false := decide_eq_false (by omega); obtain ⟨N, rfl⟩ := Int.eq_ofNat_of_zero_le (show 0 ≤ n by omega); go_enter Tryd.func10, Tryd.ntmps10; go_wp2_with (first | ((with_reducible refine gate_dst (N := 26) rfl ?_); refine Kd.R_make (Kd.int .i64) w.heap.size 3 rfl rfl 66 _ _ rfl (N : Int) rfl rfl Tryd.underlying66 (.int .i64 0) 8 info3 rfl (by decide) (by omega) 0 (ok := fun _ => True) (okp := fun _ => True) rfl (fun _ hk => hk) trivial (by omega) (by omega) HB.out (below_size HB.out) ?_; intro v1 w1 ho hb hg_ hnew_; rw [Int.toNat_natCast] at ho; have HO1 := AQ ho; clear HB hg_ hnew_ ho; have HB := AQ hb; clear hb; obtain ⟨Ao, co, eo⟩ := Kd.R_slice HO1.out; rw [List.length_replicate] at eo; subst eo) | ((with_reducible refine gate_dst (N := 28) rfl ?_); refine box_event ?hg (N := 28) ?hd (cs := #[.int .i64 (N : Int), .int .i64 size, .slice none 0 0, .slice Ao N co, .bool false]) (t := 74) ?hr ?_; (case hd => rfl); (case hg => rfl); (case hr => first | (go_simp; done) | (go_simp; rfl)); intro g hg w3 hbox hb; have n0_ := AQ (Kd.R_below HO1.out hb); have n1_ := AQ hbox; have n2_ := AQ (show w.heap.size ≤ g by rw [hg]; exact below_size HB.out); have n3_ := AQ (below_step HB.out hb); clear HO1 HB; have HO1 := n0_; have BK := n1_; have GE := n2_; have HB := n3_; clear n0_ n1_ n2_ n3_ hb hbox hg; have hcz0 := (blk_cell BK.out 3).trans rfl)); go_loopg [34] (N + 1) (fun kq v34 w' => ∃ i : Nat, v34 = .int .i64 (i : Int) ∧ Aside0 (kq + i = N + 1 ∧ i ≤ N) ∧ Aside0 (w'.heap[g]? = some (.cells #[.int .i64 (N : Int), .int .i64 size, .slice none 0 0, .slice Ao N co, .bool false] 74 (0, 0))) ∧ Aside0 (Kd.R (Kd.int .i64) 3 w' w.heap.size (fun _ => True) (.slice Ao N co) (List.replicate i (-1) ++ List.replicate (N - i) 0)) ∧ Aside0 (Below w.heap.size w w'))
  case atStart => exact ⟨0, rfl, ⟨by omega, by omega⟩, ⟨PK BK⟩, ⟨PR HO1⟩, ⟨PB HB⟩⟩
  case round =>
    clear HB HO1 BK hcz0; obtain ⟨i, rfl, HKi, BK, HO1, HB⟩ := hrel; cases gk with
    | zero => exact absurd HKi.out.1 (by have := HKi.out.2; omega)
    | succ g1 =>
      have hcz0 := (blk_cell BK.out 3).trans rfl
      by_cases hlt : i < N
      · have hci : decide ((i : Int) < (N : Int)) = true := decide_eq_true (by omega)
        have hpi : (0 : Int) ≤ (i : Int) := (by omega); have hlen : (List.replicate i (-1 : Int) ++ List.replicate (N - i) 0).length = N := (by simp; omega); obtain ⟨g5, cap, he, hbase, hlt5, cells, hcells⟩ := Kd.R_form HO1.out (by omega); injection he with ha hb hc; subst ha; obtain ⟨c', hcl, hM, hcc, hfr⟩ := Kd.R_elem HO1.out 0 (i : Int) (by omega) (by omega); rw [Int.toNat_natCast] at hcc hM hfr; have e2 : i * Kd.sz (Kd.int .i64) + 0 = i := (by show i * 1 + 0 = i; omega); have hc9 := hcc 0 _ (by rw [show c' = [.int .i64 _] from hM]; rfl); have hf9 := hfr 0; rw [e2] at hc9 hf9; have hput := Kd.R_putn HO1.out (i : Int) (-1); rw [Int.toNat_natCast, show N - i = (N - (i + 1)) + 1 by omega, elimM_set_rep] at hput
        have hne : g ≠ g5 := fun e => by
          have h1 := BK.out; rw [e, hcells] at h1; injection h1 with h1; injection h1 with _ h1 _; exact absurd h1 (by decide)
        have hbk := blk_far (p := ⟨g5, i, none⟩) BK.out hne (.int .i64 (-1)); have hbl := HB.out.setCell (p := ⟨g5, i, none⟩) hbase (.int .i64 (-1)); have HP1 := AQ hput; have HP2 := AQ hbk; have HP3 := AQ hbl; clear hput hbk hbl hcells hM hcc hfr hb hc hlen hcl; go_wp2; go_roundg g1
        case measure => have := HKi.out.1; omega
        case rel => exact ⟨i + 1, by go_num, ⟨by have := HKi.out; omega, by omega⟩, ⟨by (with_reducible repeat (first | refine blk_drewN ?_ _ | refine blk_drew ?_)); exact HP2.out⟩, ⟨by (with_reducible repeat (first | apply Kd.R_drewN | apply Kd.R_drew)); exact HP1.out⟩, ⟨by repeat (first | (with_reducible first | exact HP3.out | apply below_alloc | apply pw_below_drewN | apply below_drew1) | exact HP3.out)⟩⟩
      · have hci : decide ((i : Int) < (N : Int)) = false := decide_eq_false (by omega)
        have ei : i = N := (by have := HKi.out.2; omega); subst ei; have HO2 := HO1.out; rw [Nat.sub_self, List.replicate_zero, List.append_nil] at HO2; have HO3 := AQ HO2; clear HO2; go_wp2; go_ret2; exact ⟨g, _, rfl, GE.out, by (with_reducible repeat (first | refine blk_drewN ?_ _ | refine blk_drew ?_)); exact BK.out, by rw [Int.toNat_natCast]; (with_reducible repeat (first | apply Kd.R_drewN | apply Kd.R_drew)); exact HO3.out, PB HB⟩
set_option maxRecDepth 100000 in
set_option maxHeartbeats 4000000 in
theorem elimM_New.no (w : World) (n size : Int) (h : ¬ (1 ≤ n ∧ n ≤ 4096 ∧ 1 ≤ size ∧ size ≤ 64)) : Calls Tryd.prog 10 #[.int .i64 n, .int .i64 size] w fun e w' => ∃ v1_ : Value, e = .returned (.tuple #[.pointer none, errOf v1_]) ∧ Kd.R kF 95 w' w.heap.size (fun _ => True) v1_ [⟨(⟨#[101, 108, 105, 109, 46, 78, 101, 119]⟩ : ByteArray), true, 1⟩] ∧ Below w.heap.size w w' := by
  have HB := AQ (Below.refl w.heap.size w)
  by_cases h0 : n < 1
  · have b0 : decide (n < 1) = true := decide_eq_true h0
    clear h h0; go_enter Tryd.func10, Tryd.ntmps10; go_wp2_with ((with_reducible refine gate_callee (f := 28) rfl ?_); refine gL _ rfl rfl Tryd.func28 #[.string (⟨#[101, 108, 105, 109, 46, 78, 101, 119]⟩ : ByteArray), .int .i64 1] rfl ?_; (with_reducible refine (fault_New.calls (⟨#[101, 108, 105, 109, 46, 78, 101, 119]⟩ : ByteArray) 1 [⟨(⟨#[101, 108, 105, 109, 46, 78, 101, 119]⟩ : ByteArray), true, 1⟩] _ rfl).mono ?_); rintro e w17 ⟨v236, rfl, ho0, hb⟩; refine ⟨_, rfl, ?_⟩; have n1_ := AQ (Kd.R_lower ho0 (below_size (PB HB))); have n2_ := AQ (below_step (PB HB) hb); clear HB; have HO1 := n1_; have HB := n2_; clear n1_ n2_; (try clear hb); (try clear ho0)); go_ret2; exact ⟨_, by first | rfl | (simp [errW_none, errW_some] <;> rfl) | (simp [*, errW_none, errW_some] <;> rfl), PR HO1, PB HB⟩
  by_cases h1 : 4096 < n
  · have b0 : decide (n < 1) = false := decide_eq_false h0
    have b1 : decide (4096 < n) = true := decide_eq_true h1; clear h h0 h1; go_enter Tryd.func10, Tryd.ntmps10; go_wp2_with ((with_reducible refine gate_callee (f := 28) rfl ?_); refine gL _ rfl rfl Tryd.func28 #[.string (⟨#[101, 108, 105, 109, 46, 78, 101, 119]⟩ : ByteArray), .int .i64 1] rfl ?_; (with_reducible refine (fault_New.calls (⟨#[101, 108, 105, 109, 46, 78, 101, 119]⟩ : ByteArray) 1 [⟨(⟨#[101, 108, 105, 109, 46, 78, 101, 119]⟩ : ByteArray), true, 1⟩] _ rfl).mono ?_); rintro e w17 ⟨v236, rfl, ho0, hb⟩; refine ⟨_, rfl, ?_⟩; have n1_ := AQ (Kd.R_lower ho0 (below_size (PB HB))); have n2_ := AQ (below_step (PB HB) hb); clear HB; have HO1 := n1_; have HB := n2_; clear n1_ n2_; (try clear hb); (try clear ho0)); go_ret2; exact ⟨_, by first | rfl | (simp [errW_none, errW_some] <;> rfl) | (simp [*, errW_none, errW_some] <;> rfl), PR HO1, PB HB⟩
  by_cases h2 : size < 1
  · have b0 : decide (n < 1) = false := decide_eq_false h0
    have b1 : decide (4096 < n) = false := decide_eq_false h1; have b2 : decide (size < 1) = true := decide_eq_true h2; clear h h0 h1 h2; go_enter Tryd.func10, Tryd.ntmps10; go_wp2_with ((with_reducible refine gate_callee (f := 28) rfl ?_); refine gL _ rfl rfl Tryd.func28 #[.string (⟨#[101, 108, 105, 109, 46, 78, 101, 119]⟩ : ByteArray), .int .i64 1] rfl ?_; (with_reducible refine (fault_New.calls (⟨#[101, 108, 105, 109, 46, 78, 101, 119]⟩ : ByteArray) 1 [⟨(⟨#[101, 108, 105, 109, 46, 78, 101, 119]⟩ : ByteArray), true, 1⟩] _ rfl).mono ?_); rintro e w17 ⟨v236, rfl, ho0, hb⟩; refine ⟨_, rfl, ?_⟩; have n1_ := AQ (Kd.R_lower ho0 (below_size (PB HB))); have n2_ := AQ (below_step (PB HB) hb); clear HB; have HO1 := n1_; have HB := n2_; clear n1_ n2_; (try clear hb); (try clear ho0)); go_ret2; exact ⟨_, by first | rfl | (simp [errW_none, errW_some] <;> rfl) | (simp [*, errW_none, errW_some] <;> rfl), PR HO1, PB HB⟩
  · have b0 : decide (n < 1) = false := decide_eq_false h0
    have b1 : decide (4096 < n) = false := decide_eq_false h1; have b2 : decide (size < 1) = false := decide_eq_false h2; have b3 : decide (64 < size) = true := decide_eq_true (by omega); clear h h0 h1 h2; go_enter Tryd.func10, Tryd.ntmps10; go_wp2_with ((with_reducible refine gate_callee (f := 28) rfl ?_); refine gL _ rfl rfl Tryd.func28 #[.string (⟨#[101, 108, 105, 109, 46, 78, 101, 119]⟩ : ByteArray), .int .i64 1] rfl ?_; (with_reducible refine (fault_New.calls (⟨#[101, 108, 105, 109, 46, 78, 101, 119]⟩ : ByteArray) 1 [⟨(⟨#[101, 108, 105, 109, 46, 78, 101, 119]⟩ : ByteArray), true, 1⟩] _ rfl).mono ?_); rintro e w17 ⟨v236, rfl, ho0, hb⟩; refine ⟨_, rfl, ?_⟩; have n1_ := AQ (Kd.R_lower ho0 (below_size (PB HB))); have n2_ := AQ (below_step (PB HB) hb); clear HB; have HO1 := n1_; have HB := n2_; clear n1_ n2_; (try clear hb); (try clear ho0)); go_ret2; exact ⟨_, by first | rfl | (simp [errW_none, errW_some] <;> rfl) | (simp [*, errW_none, errW_some] <;> rfl), PR HO1, PB HB⟩
end Go.Proofs.YtjmgkknbgffbjaaDoor.P
namespace Go.Proofs.YtjmgkknbgffbjaaDoor.P
open Go.RowKit Go.Proofs.YtjmgkknbgffbjaaDoorW.PrintWords Go.Proofs.YtjmgkknbgffbjaaDoorW.PrintLast Go.Proofs.YtjmgkknbgffbjaaDoorW.PrintErr Go.Proofs.YtjmgkknbgffbjaaDoorW.PrintMore
attribute [local go_sem] max2_int min2_int max_two min_two max_three min_three max_four min_four run_eql_errOf run_neq_errOf eqGuard_errOf run_eql_ptrOf run_neq_ptrOf eqGuard_ptrOf   -- for this text's walks alone
set_option linter.unusedVariables false
set_option linter.unusedSimpArgs false
def elim_New.f (a0 : Int) (a1 : Int) : Option (List S74 × List FE) := some (if 1 ≤ a0 ∧ a0 ≤ 4096 ∧ 1 ≤ a1 ∧ a1 ≤ 64 then ([⟨a0, a1, [], List.replicate a0.toNat (-1), false⟩], []) else ([], [⟨(⟨#[101, 108, 105, 109, 46, 78, 101, 119]⟩ : ByteArray), true, 1⟩]))
theorem elim_New.calls (a0 : Int) (a1 : Int) (r1 : List S74) (r2 : List FE) (w : World) (h : elim_New.f a0 a1 = some (r1, r2)) :
  Calls Tryd.prog 10 #[.int .i64 a0, .int .i64 a1] w fun e w' => ∃ v0_ v1_ : Value, e = .returned (.tuple #[(ptrOf v0_), (errOf v1_)]) ∧ Kd.R k74 74 w' w.heap.size (fun _ => True) v0_ r1 ∧ Kd.R kF 95 w' w.heap.size (fun _ => True) v1_ r2 ∧ Below w.heap.size w w' := by
 unfold elim_New.f at h
 by_cases hz : 1 ≤ a0 ∧ a0 ≤ 4096 ∧ 1 ≤ a1 ∧ a1 ≤ 64
 ·rw [if_pos hz] at h; obtain ⟨rfl, rfl⟩ := Prod.mk.inj (Option.some.inj h); refine (elimM_New.calls w a0 a1 hz.1 hz.2.1 hz.2.2.1 hz.2.2.2).mono fun e w' hx => ?_
  obtain ⟨g, va, rfl, hg, hs, ha, hb⟩ := hx; exact ⟨_, .slice none 0 0, by rw [ptrOf_pos _ _ _ (by decide)]; rfl, SysB.row hs hg trivial (Kd.R_nil _ _ _ _ _) ha, fault_none _ _ _, hb⟩
 ·rw [if_neg hz] at h; obtain ⟨rfl, rfl⟩ := Prod.mk.inj (Option.some.inj h); refine (elimM_New.no w a0 a1 hz).mono fun e w' hx => ?_
  obtain ⟨v1_, he, h1, hb⟩ := hx; exact ⟨.slice none 0 0, v1_, he, Kd.R_nil _ _ _ _ _, h1, hb⟩
end Go.Proofs.YtjmgkknbgffbjaaDoor.P
namespace Go.Proofs.YtjmgkknbgffbjaaDoor.P
open Go.RowKit Go.Proofs.YtjmgkknbgffbjaaDoorW.PrintWords Go.Proofs.YtjmgkknbgffbjaaDoorW.PrintLast Go.Proofs.YtjmgkknbgffbjaaDoorW.PrintErr Go.Proofs.YtjmgkknbgffbjaaDoorW.PrintMore
attribute [local go_sem] max2_int min2_int max_two min_two max_three min_three max_four min_four run_eql_errOf run_neq_errOf eqGuard_errOf   -- for this text's walks alone
set_option linter.unusedVariables false
set_option linter.unusedSimpArgs false
def elimM_fits.f (l0 : List (S74)) (l1 : List Int) : Option (Bool) := if 0 < (l0.length : Int) then ((packed_Size.f ((rd_T74 l0 0).f0)).bind fun t131 => (if (l1.length : Int) = t131 then (if (Int.tmod ((rd_T74 l0 0).f0) 64) = 0 then (some true) else (if 0 ≤ (wrap64 ((l1.length : Int) - 1)) then (if (wrap64 ((l1.length : Int) - 1)) < (l1.length : Int) then (if 0 ≤ (Int.tmod ((rd_T74 l0 0).f0) 64) then (some ((shr .u64 (rd l1 (wrap64 ((l1.length : Int) - 1))) (Int.tmod ((rd_T74 l0 0).f0) 64)) == 0)) else (none)) else (none)) else (none))) else (some false))) else (none)
set_option maxRecDepth 100000 in
set_option maxHeartbeats 4000000 in
theorem elimM_fits.calls (ad900 : Addr) (l0 : List (S74)) (A1 : Option Addr) (c1 : Nat) (l1 : List Int) (r : Bool) (w : World) (hr0 : Kd.C k74 w (some ad900) l0.length l0) (hr1 : Kd.C (Kd.int .u64) w A1 l1.length l1) (hc1 : l1.length ≤ c1) (h : elimM_fits.f l0 l1 = some r) :
  Calls Tryd.prog 29 #[.pointer (some ad900), .slice A1 l1.length c1] w fun e w' => e = .returned (.bool r) ∧ Below w.heap.size w w' := by
 unfold elimM_fits.f at h
 by_cases c3 : 0 < (l0.length : Int)
 ·rw [if_pos c3] at h; obtain ⟨S, hS, h⟩ := Option.bind_eq_some_iff.mp h; obtain ⟨ad, A2, c2, A3, c3', e, hc0, _⟩ := at_T74 hr0 0 (by omega) c3; obtain rfl : ad900 = ad := by injection e
  have hc0 : w.cell? ad900 = some (.int .i64 (rd_T74 l0 0).f0) := by
   rw [show ((0 : Int)).toNat = 0 from rfl, show 0 * 5 = 0 from rfl, Addr.add_zero'] at hc0; exact hc0
  obtain ⟨n, hn⟩ : ∃ n, n = (rd_T74 l0 0).f0 := ⟨_, rfl⟩; rw [← hn] at hS h hc0; have HR := AQ hr1; have HS := AQ hS; clear hr0 hr1 hc1 hS hn e c3
  by_cases e1 : (l1.length : Int) = S
  ·have b1 : ((l1.length : Int) == S) = true := beq_iff_eq.mpr e1; rw [if_pos e1] at h
   by_cases e2 : Int.tmod n 64 = 0
   ·have b2 : (Int.tmod n 64 == 0) = true := beq_iff_eq.mpr e2; rw [if_pos e2] at h; obtain rfl := Option.some.inj h; go_enter Tryd.func29, Tryd.ntmps29; (try go_wp2); go_quiet ((go_at_call 46; exact Calls.quiet_of ((packed_Size.calls n S _ HS.out).mono (fun _ _ h => ⟨h.1, h.2.out⟩)))); go_wp2; go_ret; exact ⟨rfl, Drawn0.below ⟨⟨_, rfl⟩⟩⟩
   ·have b2 : (Int.tmod n 64 == 0) = false := beq_eq_false_iff_ne.mpr e2; rw [if_neg e2] at h; obtain ⟨ix, hix⟩ : ∃ ix : Int, wrap64 ((l1.length : Int) - 1) = ix := ⟨_, rfl⟩; rw [hix] at h; have w1 : IntKind.i64.wrap ((l1.length : Int) - 1) = ix := by rw [i64_w]; exact hix
    by_cases p1 : 0 ≤ ix
    ·rw [if_pos p1] at h
     by_cases q1 : ix < (l1.length : Int)
     ·rw [if_pos q1] at h
      by_cases t0 : 0 ≤ Int.tmod n 64
      ·rw [if_pos t0] at h; obtain ⟨ad, ead, hx⟩ := Kd.at_int HR.out ix p1 q1; cases ead; have t1 : Int.tmod n 64 ≤ 64 := (by have := Int.tmod_lt_of_pos n (show (0 : Int) < 64 by omega); omega); obtain ⟨z, hz⟩ : ∃ z, z = shr .u64 (rd l1 ix) (Int.tmod n 64) := ⟨_, rfl⟩; have hz1 : (rd l1 ix) / 2 ^ (Int.tmod n 64).toNat = z := (by rw [hz]; exact shr_small rfl t1); have hz2 : (rd l1 ix) / 2 ^ min (Int.tmod n 64).toNat 64 = z := hz.symm; rw [← hz] at h; clear e1; have b3 : decide (0 ≤ Int.tmod n 64) = true := decide_eq_true t0; have p2 := eq_true p1; have q2 := eq_true q1; clear hz; obtain rfl := Option.some.inj h; go_enter Tryd.func29, Tryd.ntmps29; (try go_wp2); go_quiet ((go_at_call 46; exact Calls.quiet_of ((packed_Size.calls n S _ HS.out).mono (fun _ _ h => ⟨h.1, h.2.out⟩)))); go_wp2; go_ret; exact ⟨rfl, Drawn0.below ⟨⟨_, rfl⟩⟩⟩
      ·rw [if_neg t0] at h; exact absurd h (by simp)
     ·rw [if_neg q1] at h; exact absurd h (by simp)
    ·rw [if_neg p1] at h; exact absurd h (by simp)
  ·have b1 : ((l1.length : Int) == S) = false := beq_eq_false_iff_ne.mpr e1; rw [if_neg e1] at h; obtain rfl := Option.some.inj h; go_enter Tryd.func29, Tryd.ntmps29; (try go_wp2); go_quiet ((go_at_call 46; exact Calls.quiet_of ((packed_Size.calls n S _ HS.out).mono (fun _ _ h => ⟨h.1, h.2.out⟩)))); go_wp2; go_ret; exact ⟨rfl, Drawn0.below ⟨⟨_, rfl⟩⟩⟩
 ·rw [if_neg c3] at h; exact absurd h (by simp)
end Go.Proofs.YtjmgkknbgffbjaaDoor.P
namespace Go.Proofs.YtjmgkknbgffbjaaDoor.P
open Go.RowKit Go.Proofs.YtjmgkknbgffbjaaDoorW.PrintWords Go.Proofs.YtjmgkknbgffbjaaDoorW.PrintLast Go.Proofs.YtjmgkknbgffbjaaDoorW.PrintErr Go.Proofs.YtjmgkknbgffbjaaDoorW.PrintMore
attribute [local go_sem] max2_int min2_int max_two min_two max_three min_three max_four min_four run_eql_errOf run_neq_errOf eqGuard_errOf run_eql_ptrOf run_neq_ptrOf eqGuard_ptrOf   -- for this text's walks alone
set_option linter.unusedVariables false
set_option linter.unusedSimpArgs false
theorem infoEq : (Tryd.prog.info? 77).map (fun i => (i.zero, i.size, i.bytes)) = some (some (.agg #[(.slice none 0 0), (.slice none 0 0)]), 2, 48) := by kernel_rfl
def elimM_Add.g (k : Nat) (x : S74) (l1 l2 : List Int) : Option (Int × List FE × List S74) :=
  if x.f4 = true then some (0, [⟨(⟨#[101, 108, 105, 109, 46, 65, 100, 100]⟩ : ByteArray), true, 7⟩], [x])
  else (elimM_fits.f [x] l1).bind fun t => if t = true ∧ (l2.length : Int) = x.f1 then
      ((elimM_down.f k [x] l1 l2).bind fun z => if 0 ≤ z.2.2 then
          (if z.2.2 < (x.f3.length : Int) ∧ x.f2.length < 2932031007402 then some (1, [], [⟨x.f0, x.f1, x.f2 ++ [⟨z.1, z.2.1⟩], x.f3.set z.2.2.toNat (x.f2.length : Int), false⟩]) else none)
        else (symbol_Zero.f k z.2.1).bind fun b => if b = true then some (2, [], [x]) else some (3, [], [⟨x.f0, x.f1, x.f2, x.f3, true⟩]))
    else some (0, [⟨(⟨#[101, 108, 105, 109, 46, 65, 100, 100]⟩ : ByteArray), true, 2⟩], [x])
def elimM_Add.f (k : Nat) (l0 : List S74) (l1 l2 : List Int) : Option (Int × List FE × List S74) :=
  match l0 with
  | [] => some (0, [⟨(⟨#[101, 108, 105, 109, 46, 65, 100, 100]⟩ : ByteArray), true, 7⟩], [])
  | [x] => elimM_Add.g k x l1 l2
  | _ :: _ :: _ => none
theorem elimM_Add.mono : ∀ a0 a1 a2 k, LeO (elimM_Add.f k a0 a1 a2) (elimM_Add.f (k + 1) a0 a1 a2) := by
  intro a0 a1 a2 k; unfold elimM_Add.f
  match a0 with
  | [] => exact LeO.refl _
  | [x] =>
    show LeO (elimM_Add.g k x a1 a2) (elimM_Add.g (k + 1) x a1 a2)
    unfold elimM_Add.g; refine LeO.ite (LeO.refl _) (LeO.bind (LeO.refl _) fun t => LeO.ite (LeO.bind (elimM_down.mono _ _ _ _) fun z => LeO.ite (LeO.refl _) (LeO.bind (symbol_Zero.mono _ _) fun b => LeO.refl _)) (LeO.refl _))
  | _ :: _ :: _ => exact LeO.refl _
structure AddIn (w0 w : World) (ok_ : Nat → Prop) (g cap : Nat) (cs : Array Value) (x : S74) (vk va : Value) (A1 : Option Addr) (c1 : Nat) (l1 : List Int) (A2 : Option Addr) (c2 : Nat) (l2 : List Int) : Prop where
  tab : TabIn w
  below : Below w0.heap.size w0 w
  sys : SysO w w0.heap.size ok_ g cap cs x vk va
  r1 : Kd.C (Kd.int .u64) w A1 l1.length l1
  k1 : l1.length ≤ c1
  r2 : Kd.C (Kd.int .u8) w A2 l2.length l2
  k2 : l2.length ≤ c2
def AddOut (w0 w : World) (ok_ : Nat → Prop) (g cap : Nat) (r1 : Int) (r2 : List FE) (r3 : List S74) (e : Ending) (w' : World) : Prop :=
  ∃ v1_ : Value, e = .returned (.tuple #[.int .i64 r1, (errOf v1_)]) ∧ Kd.R kF 95 w' w.heap.size (fun _ => True) v1_ r2 ∧ Kd.R k74 74 w' w0.heap.size (fun k_ => (ok_ k_ ∨ w.heap.size ≤ k_)) (.slice (some ⟨g, 0, none⟩) 1 cap) r3 ∧ Below w0.heap.size w0 w' ∧ SKept w w' ok_
theorem AddIn.same {w0 w w' : World} {ok_ : Nat → Prop} {g cap : Nat} {cs : Array Value} {x : S74} {vk va : Value} {A1 : Option Addr} {c1 : Nat} {l1 : List Int} {A2 : Option Addr} {c2 : Nat} {l2 : List Int} {v1_ : Value} {r1 : Int} {r2 : List FE}
    (h : AddIn w0 w ok_ g cap cs x vk va A1 c1 l1 A2 c2 l2) (hb : Below w.heap.size w w') (hf : Kd.R kF 95 w' w.heap.size (fun _ => True) v1_ r2) : AddOut w0 w ok_ g cap r1 r2 [x] (.returned (.tuple #[.int .i64 r1, (errOf v1_)])) w' :=
  ⟨v1_, rfl, hf, Kd.R_mono (h.sys.below hb).row (fun _ hk => .inl hk), below_step h.below hb, hb.size, fun k hk _ => hb.block k hk⟩
set_option maxRecDepth 100000
set_option maxHeartbeats 4000000
section
variable {w0 w : World} {ok_ : Nat → Prop} {g cap : Nat} {cs : Array Value} {x : S74} {vk va : Value} {A1 : Option Addr} {c1 : Nat} {l1 : List Int} {A2 : Option Addr} {c2 : Nat} {l2 : List Int}
theorem elimM_Add.clashed (hi : AddIn w0 w ok_ g cap cs x vk va A1 c1 l1 A2 c2 l2) (h4 : x.f4 = true) : Calls Tryd.prog 11 #[.pointer (some ⟨g, 0, none⟩), .slice A1 l1.length c1, .slice A2 l2.length c2] w (AddOut w0 w ok_ g cap 0 [⟨(⟨#[101, 108, 105, 109, 46, 65, 100, 100]⟩ : ByteArray), true, 7⟩] [x]) := by
  have HI := AQ hi; have HB := AQ (Below.refl w.heap.size w); have hc4 := hi.sys.cell 4 _ (by decide) rfl; rw [h4] at hc4; clear hi h4; go_enter Tryd.func11, Tryd.ntmps11; go_wp2_with ((with_reducible refine gate_callee (f := 28) rfl ?_); refine goesL_ _ rfl rfl Tryd.func28 (by kernel_rfl) rfl #[.string (⟨#[101, 108, 105, 109, 46, 65, 100, 100]⟩ : ByteArray), .int .i64 7] rfl (by (try simp only [List.map_toArray, List.map_cons, List.map_nil]); first | done | rfl) ?_; (with_reducible refine (fault_New.calls (⟨#[101, 108, 105, 109, 46, 65, 100, 100]⟩ : ByteArray) 7 [⟨(⟨#[101, 108, 105, 109, 46, 65, 100, 100]⟩ : ByteArray), true, 7⟩] _ rfl).mono ?_); rintro e w17 ⟨v236, rfl, ho0, hb⟩; refine ⟨_, rfl, ?_⟩; have n0_ := AQ (below_size (PB HB)); have n1_ := AQ (below_step (PB HB) hb); clear HB; have HO1 := AQ ho0; have HSZ := n0_; have HB := n1_; clear n0_ n1_ ho0 hb); go_ret2; exact HI.out.same HB.out (Kd.R_lower HO1.out HSZ.out)
theorem elimM_Add.form0 (hi : AddIn w0 w ok_ g cap cs x vk va A1 c1 l1 A2 c2 l2) (h4 : x.f4 = false) (hf : elimM_fits.f [x] l1 = some false) : Calls Tryd.prog 11 #[.pointer (some ⟨g, 0, none⟩), .slice A1 l1.length c1, .slice A2 l2.length c2] w (AddOut w0 w ok_ g cap 0 [⟨(⟨#[101, 108, 105, 109, 46, 65, 100, 100]⟩ : ByteArray), true, 2⟩] [x]) := by
  have HI := AQ hi; have HS := AQ hi.sys; have HR1 := AQ hi.r1; have HC1 := AQ hi.k1; have HF := AQ hf; have HB := AQ (Below.refl w.heap.size w); have hc4 := hi.sys.cell 4 _ (by decide) rfl; rw [h4] at hc4; clear hi h4 hf; go_enter Tryd.func11, Tryd.ntmps11; go_wp2_with (first | ((with_reducible refine gate_callee (f := 29) rfl ?_); refine goesL_ _ rfl rfl Tryd.func29 (by kernel_rfl) rfl #[.pointer (some ⟨g, 0, none⟩), .slice A1 l1.length c1] rfl (by (try simp only [List.map_toArray, List.map_cons, List.map_nil]); first | done | rfl) ?_; (refine (elimM_fits.calls ⟨g, 0, none⟩ [x] A1 c1 l1 false _ (SysO.reads (SysO.below HS.out (PB HB))) (Kd.C_below HR1.out (PB HB)) HC1.out HF.out).mono ?_); rintro e w18 ⟨rfl, hb⟩; refine ⟨_, rfl, ?_⟩; have n1_ := AQ (below_step (PB HB) hb); clear HB hb; have HB := n1_; clear n1_; have hd0 := (SysO.below HS.out HB.out).cell 0 _ (by decide) rfl; have hd1 := (SysO.below HS.out HB.out).cell 1 _ (by decide) rfl; have hd4 := (SysO.below HS.out HB.out).cell 4 _ (by decide) rfl) | ((with_reducible refine gate_callee (f := 28) rfl ?_); refine goesL_ _ rfl rfl Tryd.func28 (by kernel_rfl) rfl #[.string (⟨#[101, 108, 105, 109, 46, 65, 100, 100]⟩ : ByteArray), .int .i64 2] rfl (by (try simp only [List.map_toArray, List.map_cons, List.map_nil]); first | done | rfl) ?_; (with_reducible refine (fault_New.calls (⟨#[101, 108, 105, 109, 46, 65, 100, 100]⟩ : ByteArray) 2 [⟨(⟨#[101, 108, 105, 109, 46, 65, 100, 100]⟩ : ByteArray), true, 2⟩] _ rfl).mono ?_); rintro e w17 ⟨v236, rfl, ho0, hb⟩; refine ⟨_, rfl, ?_⟩; have n0_ := AQ (below_size (PB HB)); have n1_ := AQ (below_step (PB HB) hb); clear HB; have HO1 := AQ ho0; have HSZ := n0_; have HB := n1_; clear n0_ n1_ ho0 hb)); go_ret2; exact HI.out.same HB.out (Kd.R_lower HO1.out HSZ.out)
theorem elimM_Add.form1 (hi : AddIn w0 w ok_ g cap cs x vk va A1 c1 l1 A2 c2 l2) (h4 : x.f4 = false) (hf : elimM_fits.f [x] l1 = some true) (hl : ¬ (l2.length : Int) = x.f1) : Calls Tryd.prog 11 #[.pointer (some ⟨g, 0, none⟩), .slice A1 l1.length c1, .slice A2 l2.length c2] w (AddOut w0 w ok_ g cap 0 [⟨(⟨#[101, 108, 105, 109, 46, 65, 100, 100]⟩ : ByteArray), true, 2⟩] [x]) := by
  have HI := AQ hi; have HS := AQ hi.sys; have HR1 := AQ hi.r1; have HC1 := AQ hi.k1; have HF := AQ hf; have HB := AQ (Below.refl w.heap.size w); have hc4 := hi.sys.cell 4 _ (by decide) rfl; rw [h4] at hc4; have hl0 : ((l2.length : Int) != x.f1) = true := (by simpa using hl); have hl1 : ((l2.length : Int) == x.f1) = false := (by simpa using hl); clear hi h4 hf hl; go_enter Tryd.func11, Tryd.ntmps11; go_wp2_with (first | ((with_reducible refine gate_callee (f := 29) rfl ?_); refine goesL_ _ rfl rfl Tryd.func29 (by kernel_rfl) rfl #[.pointer (some ⟨g, 0, none⟩), .slice A1 l1.length c1] rfl (by (try simp only [List.map_toArray, List.map_cons, List.map_nil]); first | done | rfl) ?_; (refine (elimM_fits.calls ⟨g, 0, none⟩ [x] A1 c1 l1 true _ (SysO.reads (SysO.below HS.out (PB HB))) (Kd.C_below HR1.out (PB HB)) HC1.out HF.out).mono ?_); rintro e w18 ⟨rfl, hb⟩; refine ⟨_, rfl, ?_⟩; have n1_ := AQ (below_step (PB HB) hb); clear HB hb; have HB := n1_; clear n1_; have hd0 := (SysO.below HS.out HB.out).cell 0 _ (by decide) rfl; have hd1 := (SysO.below HS.out HB.out).cell 1 _ (by decide) rfl; have hd4 := (SysO.below HS.out HB.out).cell 4 _ (by decide) rfl) | ((with_reducible refine gate_callee (f := 28) rfl ?_); refine goesL_ _ rfl rfl Tryd.func28 (by kernel_rfl) rfl #[.string (⟨#[101, 108, 105, 109, 46, 65, 100, 100]⟩ : ByteArray), .int .i64 2] rfl (by (try simp only [List.map_toArray, List.map_cons, List.map_nil]); first | done | rfl) ?_; (with_reducible refine (fault_New.calls (⟨#[101, 108, 105, 109, 46, 65, 100, 100]⟩ : ByteArray) 2 [⟨(⟨#[101, 108, 105, 109, 46, 65, 100, 100]⟩ : ByteArray), true, 2⟩] _ rfl).mono ?_); rintro e w17 ⟨v236, rfl, ho0, hb⟩; refine ⟨_, rfl, ?_⟩; have n0_ := AQ (below_size (PB HB)); have n1_ := AQ (below_step (PB HB) hb); clear HB; have HO1 := AQ ho0; have HSZ := n0_; have HB := n1_; clear n0_ n1_ ho0 hb)); go_ret2; exact HI.out.same HB.out (Kd.R_lower HO1.out HSZ.out)
theorem elimM_Add.known (k : Nat) (z1 z2 : List Int) (z3 : Int) (hi : AddIn w0 w ok_ g cap cs x vk va A1 c1 l1 A2 c2 l2) (h4 : x.f4 = false) (hf : elimM_fits.f [x] l1 = some true) (hl : (l2.length : Int) = x.f1) (hd : elimM_down.f k [x] l1 l2 = some (z1, z2, z3)) (h3 : ¬ 0 ≤ z3) (hz : symbol_Zero.f k z2 = some true) : Calls Tryd.prog 11 #[.pointer (some ⟨g, 0, none⟩), .slice A1 l1.length c1, .slice A2 l2.length c2] w (AddOut w0 w ok_ g cap 2 [] [x]) := by
  have HI := AQ hi; have HS := AQ hi.sys; have HR1 := AQ hi.r1; have HC1 := AQ hi.k1; have HR2 := AQ hi.r2; have HC2 := AQ hi.k2; have HF := AQ hf; have HD := AQ hd; have HZ := AQ hz; have HB := AQ (Below.refl w.heap.size w); have hc4 := hi.sys.cell 4 _ (by decide) rfl; rw [h4] at hc4; have hl0 : ((l2.length : Int) != x.f1) = false := (by simpa using hl); have hl1 : ((l2.length : Int) == x.f1) = true := (by simpa using hl); have h30 : decide (0 ≤ z3) = false := decide_eq_false h3; clear hi h4 hf hl hd hz h3; go_enter Tryd.func11, Tryd.ntmps11; go_wp2_with (first | ((with_reducible refine gate_callee (f := 29) rfl ?_); refine goesL_ _ rfl rfl Tryd.func29 (by kernel_rfl) rfl #[.pointer (some ⟨g, 0, none⟩), .slice A1 l1.length c1] rfl (by (try simp only [List.map_toArray, List.map_cons, List.map_nil]); first | done | rfl) ?_; (refine (elimM_fits.calls ⟨g, 0, none⟩ [x] A1 c1 l1 true _ (SysO.reads (SysO.below HS.out (PB HB))) (Kd.C_below HR1.out (PB HB)) HC1.out HF.out).mono ?_); rintro e w18 ⟨rfl, hb⟩; refine ⟨_, rfl, ?_⟩; have n1_ := AQ (below_step (PB HB) hb); clear HB hb; have HB := n1_; clear n1_; have hd0 := (SysO.below HS.out HB.out).cell 0 _ (by decide) rfl; have hd1 := (SysO.below HS.out HB.out).cell 1 _ (by decide) rfl; have hd4 := (SysO.below HS.out HB.out).cell 4 _ (by decide) rfl) | ((with_reducible refine gate_callee (f := 30) rfl ?_); refine goesL_ _ rfl rfl Tryd.func30 (by kernel_rfl) rfl #[.pointer (some ⟨g, 0, none⟩), .agg #[.slice A1 l1.length c1, .slice A2 l2.length c2]] rfl (by (try simp only [List.map_toArray, List.map_cons, List.map_nil]); first | done | rfl) ?_; (refine (elimM_down.calls k ⟨g, 0, none⟩ [x] A1 c1 l1 A2 c2 l2 z1 z2 z3 _ (TabIn.below HI.out.tab (PB HB)) (SysO.reads (SysO.below HS.out (PB HB))) (Kd.C_below HR1.out (PB HB)) HC1.out (Kd.C_below HR2.out (PB HB)) HC2.out HD.out).mono ?_); rintro e w19 ⟨v0, v1, rfl, ho0, ho1, hb⟩; refine ⟨_, rfl, ?_⟩; have n0_ := AQ (Kd.R_lower ho0 (below_size (PB HB))); have n1_ := AQ (Kd.R_lower ho1 (below_size (PB HB))); have n2_ := AQ (below_step (PB HB) hb); clear HB hb ho0 ho1; have HV0 := n0_; have HV1 := n1_; have HB := n2_; clear n0_ n1_ n2_) | ((with_reducible refine gate_dst (N := 8) rfl ?_); refine box_event ?hg (N := 8) ?hd (cs := #[.slice none 0 0, .slice none 0 0]) (t := 77) ?hr ?_; (case hd => rfl); (case hg => rfl); (case hr => first | (go_simp; done) | (go_simp; rfl)); intro gb hg w20 hbox hb; have n0_ := AQ (Kd.R_below (PR HV0) hb); have n1_ := AQ (Kd.R_below (PR HV1) hb); have n2_ := AQ (below_step (PB HB) hb); have n3_ := AQ hbox; have n4_ := AQ ((by rw [hg]; exact (below_size (PB HB))) : w.heap.size ≤ gb); clear HV0 HV1 HB hb hbox hg; have HV0 := n0_; have HV1 := n1_; have HB := n2_; have BK := n3_; have GE := n4_; clear n0_ n1_ n2_ n3_ n4_; obtain ⟨Ao, co, eo⟩ := Kd.R_slice HV0.out; subst eo; obtain ⟨Ap, cp, ep⟩ := Kd.R_slice HV1.out; subst ep; have hb0 : w20.cell? ⟨gb, 0, none⟩ = some (.slice none 0 0) := (blk_cell BK.out 0).trans rfl; have hb1 : w20.cell? ⟨gb, 1, none⟩ = some (.slice none 0 0) := (blk_cell BK.out 1).trans rfl; have hz0 := blk_frozen BK.out 0; have hz1 := blk_frozen BK.out 1) | ((with_reducible refine gate_callee (f := 31) rfl ?_); refine goesL_ _ rfl rfl Tryd.func31 (by kernel_rfl) rfl #[.slice Ap z2.length cp] rfl (by (try simp only [List.map_toArray, List.map_cons, List.map_nil]); first | done | rfl) ?_; have hrz := (Kd.R_mono (Kd.R_far (p := ⟨gb, 1, none⟩) (Kd.R_far (p := ⟨gb, 0, none⟩) (Kd.R_types HV1.out BK.out (by decide)) (fun _ hk => hk.2) (.slice Ao z1.length co)) (fun _ hk => hk.2) (.slice Ap z2.length cp)) (fun _ h_ => h_.1)); (refine (symbol_Zero.calls k Ap cp z2 true _ (Kd.R_reads' hrz).2.2 (Kd.R_reads' hrz).2.1 HZ.out).mono ?_); rintro e w21 ⟨rfl, hb⟩; refine ⟨_, rfl, ?_⟩; obtain ⟨nz, rfl⟩ := hb.out; have hd4 := (SysO.below HS.out (show Below w.heap.size w _ from (PX HB))).cell 4 _ (by decide) rfl; have hf4 := blk_frozen (SysO.below HS.out (show Below w.heap.size w _ from (PX HB))).blk 4; clear hrz hb)); go_ret2; exact HI.out.same (v1_ := .slice none 0 0) (PX HB) (fault_none _ _ _)
theorem elimM_Add.clash (k : Nat) (z1 z2 : List Int) (z3 : Int) (hi : AddIn w0 w ok_ g cap cs x vk va A1 c1 l1 A2 c2 l2) (h4 : x.f4 = false) (hf : elimM_fits.f [x] l1 = some true) (hl : (l2.length : Int) = x.f1) (hd : elimM_down.f k [x] l1 l2 = some (z1, z2, z3)) (h3 : ¬ 0 ≤ z3) (hz : symbol_Zero.f k z2 = some false) : Calls Tryd.prog 11 #[.pointer (some ⟨g, 0, none⟩), .slice A1 l1.length c1, .slice A2 l2.length c2] w (AddOut w0 w ok_ g cap 3 [] [⟨x.f0, x.f1, x.f2, x.f3, true⟩]) := by
  have HI := AQ hi; have HS := AQ hi.sys; have HR1 := AQ hi.r1; have HC1 := AQ hi.k1; have HR2 := AQ hi.r2; have HC2 := AQ hi.k2; have HF := AQ hf; have HD := AQ hd; have HZ := AQ hz; have HB := AQ (Below.refl w.heap.size w); have hc4 := hi.sys.cell 4 _ (by decide) rfl; rw [h4] at hc4; have hl0 : ((l2.length : Int) != x.f1) = false := (by simpa using hl); have hl1 : ((l2.length : Int) == x.f1) = true := (by simpa using hl); have h30 : decide (0 ≤ z3) = false := decide_eq_false h3; clear hi h4 hf hl hd hz h3; go_enter Tryd.func11, Tryd.ntmps11; go_wp2_with (first | ((with_reducible refine gate_callee (f := 29) rfl ?_); refine goesL_ _ rfl rfl Tryd.func29 (by kernel_rfl) rfl #[.pointer (some ⟨g, 0, none⟩), .slice A1 l1.length c1] rfl (by (try simp only [List.map_toArray, List.map_cons, List.map_nil]); first | done | rfl) ?_; (refine (elimM_fits.calls ⟨g, 0, none⟩ [x] A1 c1 l1 true _ (SysO.reads (SysO.below HS.out (PB HB))) (Kd.C_below HR1.out (PB HB)) HC1.out HF.out).mono ?_); rintro e w18 ⟨rfl, hb⟩; refine ⟨_, rfl, ?_⟩; have n1_ := AQ (below_step (PB HB) hb); clear HB hb; have HB := n1_; clear n1_; have hd0 := (SysO.below HS.out HB.out).cell 0 _ (by decide) rfl; have hd1 := (SysO.below HS.out HB.out).cell 1 _ (by decide) rfl; have hd4 := (SysO.below HS.out HB.out).cell 4 _ (by decide) rfl) | ((with_reducible refine gate_callee (f := 30) rfl ?_); refine goesL_ _ rfl rfl Tryd.func30 (by kernel_rfl) rfl #[.pointer (some ⟨g, 0, none⟩), .agg #[.slice A1 l1.length c1, .slice A2 l2.length c2]] rfl (by (try simp only [List.map_toArray, List.map_cons, List.map_nil]); first | done | rfl) ?_; (refine (elimM_down.calls k ⟨g, 0, none⟩ [x] A1 c1 l1 A2 c2 l2 z1 z2 z3 _ (TabIn.below HI.out.tab (PB HB)) (SysO.reads (SysO.below HS.out (PB HB))) (Kd.C_below HR1.out (PB HB)) HC1.out (Kd.C_below HR2.out (PB HB)) HC2.out HD.out).mono ?_); rintro e w19 ⟨v0, v1, rfl, ho0, ho1, hb⟩; refine ⟨_, rfl, ?_⟩; have n0_ := AQ (Kd.R_lower ho0 (below_size (PB HB))); have n1_ := AQ (Kd.R_lower ho1 (below_size (PB HB))); have n2_ := AQ (below_step (PB HB) hb); clear HB hb ho0 ho1; have HV0 := n0_; have HV1 := n1_; have HB := n2_; clear n0_ n1_ n2_) | ((with_reducible refine gate_dst (N := 8) rfl ?_); refine box_event ?hg (N := 8) ?hd (cs := #[.slice none 0 0, .slice none 0 0]) (t := 77) ?hr ?_; (case hd => rfl); (case hg => rfl); (case hr => first | (go_simp; done) | (go_simp; rfl)); intro gb hg w20 hbox hb; have n0_ := AQ (Kd.R_below (PR HV0) hb); have n1_ := AQ (Kd.R_below (PR HV1) hb); have n2_ := AQ (below_step (PB HB) hb); have n3_ := AQ hbox; have n4_ := AQ ((by rw [hg]; exact (below_size (PB HB))) : w.heap.size ≤ gb); clear HV0 HV1 HB hb hbox hg; have HV0 := n0_; have HV1 := n1_; have HB := n2_; have BK := n3_; have GE := n4_; clear n0_ n1_ n2_ n3_ n4_; obtain ⟨Ao, co, eo⟩ := Kd.R_slice HV0.out; subst eo; obtain ⟨Ap, cp, ep⟩ := Kd.R_slice HV1.out; subst ep; have hb0 : w20.cell? ⟨gb, 0, none⟩ = some (.slice none 0 0) := (blk_cell BK.out 0).trans rfl; have hb1 : w20.cell? ⟨gb, 1, none⟩ = some (.slice none 0 0) := (blk_cell BK.out 1).trans rfl; have hz0 := blk_frozen BK.out 0; have hz1 := blk_frozen BK.out 1) | ((with_reducible refine gate_callee (f := 31) rfl ?_); refine goesL_ _ rfl rfl Tryd.func31 (by kernel_rfl) rfl #[.slice Ap z2.length cp] rfl (by (try simp only [List.map_toArray, List.map_cons, List.map_nil]); first | done | rfl) ?_; have hrz := (Kd.R_mono (Kd.R_far (p := ⟨gb, 1, none⟩) (Kd.R_far (p := ⟨gb, 0, none⟩) (Kd.R_types HV1.out BK.out (by decide)) (fun _ hk => hk.2) (.slice Ao z1.length co)) (fun _ hk => hk.2) (.slice Ap z2.length cp)) (fun _ h_ => h_.1)); (refine (symbol_Zero.calls k Ap cp z2 false _ (Kd.R_reads' hrz).2.2 (Kd.R_reads' hrz).2.1 HZ.out).mono ?_); rintro e w21 ⟨rfl, hb⟩; refine ⟨_, rfl, ?_⟩; obtain ⟨nz, rfl⟩ := hb.out; have hd4 := (SysO.below HS.out (show Below w.heap.size w _ from (PX HB))).cell 4 _ (by decide) rfl; have hf4 := blk_frozen (SysO.below HS.out (show Below w.heap.size w _ from (PX HB))).blk 4; clear hrz hb)); go_ret2; have hW : Below w.heap.size w (((w20.setCell ⟨gb, 0, none⟩ (.slice Ao z1.length co)).setCell ⟨gb, 1, none⟩ (.slice Ap z2.length cp)).drewN nz) := (PX HB); have hO := (SysO.below HS.out hW); exact ⟨.slice none 0 0, rfl, fault_none _ _ _, Kd.R_mono (SysO.clash hO).row (fun _ hk => .inl hk), (below_step HI.out.below hW).setCell hO.ge _, SKept.set (SKept.of_below hW _) (fun _ => ⟨hO.okg, _, _, HS.out.blk, .inl rfl⟩) 4 _⟩
theorem elimM_Add.fresh (k : Nat) (z1 z2 : List Int) (z3 : Int) (hi : AddIn w0 w ok_ g cap cs x vk va A1 c1 l1 A2 c2 l2) (h4 : x.f4 = false) (hf : elimM_fits.f [x] l1 = some true) (hl : (l2.length : Int) = x.f1) (hd : elimM_down.f k [x] l1 l2 = some (z1, z2, z3)) (h3 : 0 ≤ z3) (h5 : z3 < (x.f3.length : Int)) (hL : x.f2.length < 2932031007402) : Calls Tryd.prog 11 #[.pointer (some ⟨g, 0, none⟩), .slice A1 l1.length c1, .slice A2 l2.length c2] w (AddOut w0 w ok_ g cap 1 [] [⟨x.f0, x.f1, x.f2 ++ [⟨z1, z2⟩], x.f3.set z3.toNat (x.f2.length : Int), false⟩]) := by
  have HI := AQ hi; have HS := AQ hi.sys; have HR1 := AQ hi.r1; have HC1 := AQ hi.k1; have HR2 := AQ hi.r2; have HC2 := AQ hi.k2; have HF := AQ hf; have HD := AQ hd; have HB := AQ (Below.refl w.heap.size w); have hc4 := hi.sys.cell 4 _ (by decide) rfl; rw [h4] at hc4; have hl0 : ((l2.length : Int) != x.f1) = false := (by simpa using hl); have hl1 : ((l2.length : Int) == x.f1) = true := (by simpa using hl); have h30 : decide (0 ≤ z3) = true := decide_eq_true h3; have H3 := AQ h3; have H5 := AQ h5; have HL := AQ hL; have H4 := AQ h4; clear hi h4 hf hl hd h3 h5 hL; go_enter Tryd.func11, Tryd.ntmps11; go_wp2_with (first | ((with_reducible refine gate_callee (f := 29) rfl ?_); refine goesL_ _ rfl rfl Tryd.func29 (by kernel_rfl) rfl #[.pointer (some ⟨g, 0, none⟩), .slice A1 l1.length c1] rfl (by (try simp only [List.map_toArray, List.map_cons, List.map_nil]); first | done | rfl) ?_; (refine (elimM_fits.calls ⟨g, 0, none⟩ [x] A1 c1 l1 true _ (SysO.reads (SysO.below HS.out (PB HB))) (Kd.C_below HR1.out (PB HB)) HC1.out HF.out).mono ?_); rintro e w18 ⟨rfl, hb⟩; refine ⟨_, rfl, ?_⟩; have n1_ := AQ (below_step (PB HB) hb); clear HB hb; have HB := n1_; clear n1_; have hd0 := (SysO.below HS.out HB.out).cell 0 _ (by decide) rfl; have hd1 := (SysO.below HS.out HB.out).cell 1 _ (by decide) rfl; have hd4 := (SysO.below HS.out HB.out).cell 4 _ (by decide) rfl) | ((with_reducible refine gate_callee (f := 30) rfl ?_); refine goesL_ _ rfl rfl Tryd.func30 (by kernel_rfl) rfl #[.pointer (some ⟨g, 0, none⟩), .agg #[.slice A1 l1.length c1, .slice A2 l2.length c2]] rfl (by (try simp only [List.map_toArray, List.map_cons, List.map_nil]); first | done | rfl) ?_; (refine (elimM_down.calls k ⟨g, 0, none⟩ [x] A1 c1 l1 A2 c2 l2 z1 z2 z3 _ (TabIn.below HI.out.tab (PB HB)) (SysO.reads (SysO.below HS.out (PB HB))) (Kd.C_below HR1.out (PB HB)) HC1.out (Kd.C_below HR2.out (PB HB)) HC2.out HD.out).mono ?_); rintro e w19 ⟨v0, v1, rfl, ho0, ho1, hb⟩; refine ⟨_, rfl, ?_⟩; have n0_ := AQ (Kd.R_lower ho0 (below_size (PB HB))); have n1_ := AQ (Kd.R_lower ho1 (below_size (PB HB))); have n2_ := AQ (below_step (PB HB) hb); clear HB hb ho0 ho1; have HV0 := n0_; have HV1 := n1_; have HB := n2_; clear n0_ n1_ n2_) | ((with_reducible refine gate_dst (N := 8) rfl ?_); refine box_event ?hg (N := 8) ?hd (cs := #[.slice none 0 0, .slice none 0 0]) (t := 77) ?hr ?_; (case hd => rfl); (case hg => rfl); (case hr => first | (go_simp; done) | (go_simp; rfl)); intro gb hg w20 hbox hb; have n0_ := AQ (Kd.R_below (PR HV0) hb); have n1_ := AQ (Kd.R_below (PR HV1) hb); have n2_ := AQ (below_step (PB HB) hb); have n3_ := AQ hbox; have n4_ := AQ ((by rw [hg]; exact (below_size (PB HB))) : w.heap.size ≤ gb); clear HV0 HV1 HB hb hbox hg; have HV0 := n0_; have HV1 := n1_; have HB := n2_; have BK := n3_; have GE := n4_; clear n0_ n1_ n2_ n3_ n4_; obtain ⟨Ao, co, eo⟩ := Kd.R_slice HV0.out; subst eo; obtain ⟨Ap, cp, ep⟩ := Kd.R_slice HV1.out; subst ep; have hb0 : w20.cell? ⟨gb, 0, none⟩ = some (.slice none 0 0) := (blk_cell BK.out 0).trans rfl; have hb1 : w20.cell? ⟨gb, 1, none⟩ = some (.slice none 0 0) := (blk_cell BK.out 1).trans rfl; have hz0 := blk_frozen BK.out 0; have hz1 := blk_frozen BK.out 1)); obtain ⟨w4, hw4⟩ : ∃ w4, w4 = (w20.setCell ⟨gb, 0, none⟩ (.slice Ao z1.length co)).setCell ⟨gb, 1, none⟩ (.slice Ap z2.length cp) := ⟨_, rfl⟩; rw [← hw4]; have hB4 : Below w.heap.size w w4 := (by rw [hw4]; exact (PX HB)); have hV0 : Kd.R (Kd.int .u64) 35 w4 w.heap.size (fun _ => True) (.slice Ao z1.length co) z1 := (by rw [hw4]; exact (Kd.R_mono (Kd.R_far (p := ⟨gb, 1, none⟩) (Kd.R_far (p := ⟨gb, 0, none⟩) (Kd.R_types HV0.out BK.out (by decide)) (fun _ hk => hk.2) (.slice Ao z1.length co)) (fun _ hk => hk.2) (.slice Ap z2.length cp)) (fun _ h_ => h_.1))); have hV1 : Kd.R (Kd.int .u8) 5 w4 w.heap.size (fun _ => True) (.slice Ap z2.length cp) z2 := by rw [hw4]; exact (Kd.R_mono (Kd.R_far (p := ⟨gb, 1, none⟩) (Kd.R_far (p := ⟨gb, 0, none⟩) (Kd.R_types HV1.out BK.out (by decide)) (fun _ hk => hk.2) (.slice Ao z1.length co)) (fun _ hk => hk.2) (.slice Ap z2.length cp)) (fun _ h_ => h_.1))
  have hK4 : w4.heap[gb]? = some (.cells #[.slice Ao z1.length co, .slice Ap z2.length cp] 77 (0, 0)) := by
    rw [hw4]; exact blk_put (cs := #[.slice Ao z1.length co, .slice none 0 0]) (blk_put (cs := #[.slice none 0 0, .slice none 0 0]) BK.out 0 _ rfl) 1 _ rfl
  have hgb : g ≠ gb := fun e => by have h1 := blk_lt HS.out.blk; have h2 := GE.out; omega
  clear hw4 hb0 hb1 hz0 hz1 HB HV0 HV1 BK; have HB := AQ hB4; have HV0 := AQ hV0; have HV1 := AQ hV1; have BK := AQ hK4; clear hB4 hV0 hV1 hK4 hd0 hd1 hd4; have HO := AQ (SysO.below HS.out HB.out); obtain ⟨ga, ca, ea, gea, lta, cla, HGa⟩ := Kd.R_form HO.out.at_ (by have := H3.out; have := H5.out; omega); obtain ⟨Ak, ck, ek⟩ := Kd.R_slice HO.out.kept; subst ea; subst ek; have HGA := AQ HGa; have GEA := AQ gea; clear gea lta HGa; have hd2 := HO.out.cell 2 _ (by decide) rfl; have hd3 := HO.out.cell 3 _ (by decide) rfl; obtain ⟨hx0, hf0⟩ := Kd.R_celln 0 HO.out.at_ z3 H3.out H5.out; have p3 : (0 ≤ z3) = True := eq_true H3.out; have q3 : (z3 < (x.f3.length : Int)) = True := eq_true H5.out; go_region; obtain ⟨w5, hw5⟩ : ∃ w5, w5 = (w4.setCell ⟨ga, z3.toNat, none⟩ (.int .i64 (x.f2.length : Int))).drew := ⟨_, rfl⟩; rw [← hw5]; have hga : g ≠ ga := blk_ne HO.out.blk HGA.out (by decide); have hgba : gb ≠ ga := blk_ne BK.out HGA.out (by decide)
  have hO5 : SysO w5 w0.heap.size ok_ g cap cs ⟨x.f0, x.f1, x.f2, x.f3.set z3.toNat (x.f2.length : Int), x.f4⟩ (.slice Ak x.f2.length ck) (.slice (some ⟨ga, 0, none⟩) x.f3.length ca) := by
    rw [hw5]; exact ⟨blk_drew (blk_far (p := ⟨ga, _, none⟩) HO.out.blk hga _), HO.out.five, HO.out.ge, HO.out.okg, HO.out.c1, HO.out.cm, HO.out.cs5, Kd.R_drew (Kd.R_set HO.out.kept HGA.out (by decide) _ _), Kd.R_drew (Kd.R_putg HO.out.at_ z3 (x.f2.length : Int)).1⟩
  have hV5 : Kd.R (Kd.int .u64) 35 w5 w.heap.size (fun _ => True) (.slice Ao z1.length co) z1 := (by rw [hw5]; exact Kd.R_drew (Kd.R_set HV0.out HGA.out (by decide) _ _)); have hV6 : Kd.R (Kd.int .u8) 5 w5 w.heap.size (fun _ => True) (.slice Ap z2.length cp) z2 := (by rw [hw5]; exact Kd.R_drew (Kd.R_set HV1.out HGA.out (by decide) _ _)); have hK5 : w5.heap[gb]? = some (.cells #[.slice Ao z1.length co, .slice Ap z2.length cp] 77 (0, 0)) := (by rw [hw5]; exact blk_drew (blk_far (p := ⟨ga, _, none⟩) BK.out hgba _)); have hB5 : Below w0.heap.size w0 w5 := by rw [hw5]; exact below_drew ((below_step HI.out.below HB.out).setCell GEA.out _)
  have hS5 : SKept w w5 ok_ := by
    rw [hw5]; refine SKept.drew (SKept.set (SKept.of_below HB.out _) (fun hlt => ⟨(HO.out.at_.1 ga rfl).1, _, _, (HB.out.block ga hlt).symm.trans HGA.out, .inr (.inr rfl)⟩) _ _)
  have hsz : w.heap.size ≤ w5.heap.size := hS5.1; clear hw5 hd2 hd3 hx0 hf0 HO HGA GEA HB HV0 HV1 BK p3 q3; have HO := AQ hO5; have HV0 := AQ hV5; have HV1 := AQ hV6; have BK := AQ hK5; have HB := AQ hB5; have HSK := AQ hS5; have HSZ := AQ hsz; have hd2 := HO.out.cell 2 _ (by decide) rfl; have hf2 := blk_frozen HO.out.blk 2; have hd2a : (w5.alloc (.cells #[.slice Ao z1.length co, .slice Ap z2.length cp] 77)).cell? ⟨g, 2, none⟩ = some (.slice Ak x.f2.length ck) := (World.cell?_alloc_lt _ _ _ (World.block_lt_of_cell? _ _ hd2)).trans hd2; have hb0 : w5.cell? ⟨gb, 0, none⟩ = some (.slice Ao z1.length co) := (blk_cell BK.out 0).trans rfl; have hb1 : w5.cell? ⟨gb, 1, none⟩ = some (.slice Ap z2.length cp) := (blk_cell BK.out 1).trans rfl; clear hO5 hV5 hV6 hK5 hB5 hS5 hsz hga hgba; have hk5 : Kd.R k77 77 w5.drew w0.heap.size (fun k_ => (ok_ k_ ∨ w.heap.size ≤ k_) ∧ k_ ≠ g) (.slice Ak x.f2.length ck) x.f2 := Kd.R_drew (Kd.R_mono HO.out.kept (fun _ hk => ⟨.inl hk.1, hk.2⟩))
  have hp5 : k77.M w5.drew w0.heap.size (fun k_ => w.heap.size ≤ k_) ⟨z1, z2⟩ [.slice Ao z1.length co, .slice Ap z2.length cp] :=
    k77_mkM _ _ _ _ (Kd.R_mono (Kd.R_lower (Kd.R_drew (Kd.R_bound HV0.out)) HI.out.below.size) (fun _ hk => hk.2.1)) (Kd.R_mono (Kd.R_lower (Kd.R_drew (Kd.R_bound HV1.out)) HI.out.below.size) (fun _ hk => hk.2.1))
  have hkl : ∀ k_, (Value.slice Ak x.f2.length ck).ownBlock = some k_ → k_ < w.heap.size := fun k_ e => Kd.R_lt HS.out.kept k_ e
  have hgl : g < w.heap.size := blk_lt HS.out.blk; have HK5 := AQ hk5; have HP5 := AQ hp5; have HKL := AQ hkl; have HGL := AQ hgl; obtain ⟨L2, hL2⟩ : ∃ L2 : List S77, L2 = x.f2 ++ [⟨z1, z2⟩] := ⟨_, rfl⟩; have HL2 := AQ hL2; clear hk5 hp5 hkl hgl hL2; go_wp2; go_region_law (refine Kd.R_append_step k77 (w0 := w0) (W := w5.drew) w0.heap.size (by rfl) (.tmp 59) (.tmp 61) 72 77 (.agg #[.slice none 0 0, .slice none 0 0]) 48 (by rfl) Tryd.underlying72 infoEq (by rfl) (by decide) (by omega) (.slice Ak x.f2.length ck) x.f2 ⟨z1, z2⟩ [.slice Ao z1.length co, .slice Ap z2.length cp] (fun k_ => (ok_ k_ ∨ w.heap.size ≤ k_) ∧ k_ ≠ g) (fun k_ => w.heap.size ≤ k_) (by rfl) (by rfl) HP5.out (fun k_ hk => ⟨⟨.inr hk, fun e => by have := HGL.out; omega⟩, fun e => by have := HKL.out k_ e.symm; omega⟩) (fun k_ hk => ⟨.inr (Nat.le_trans HSZ.out hk), fun e => by have := HGL.out; have := HSZ.out; have : w5.heap.size ≤ k_ := hk; omega⟩) HK5.out (below_drew HB.out) HB.out.size (by have := HL.out; omega) ?_; intro vk2 w6 hO6 hB6 hg6 hat6; rw [← HL2.out] at hO6; obtain ⟨A6, c6, e6⟩ := Kd.R_slice hO6; subst e6; have hne6 : some g ≠ (Value.slice Ak x.f2.length ck).ownBlock := (Kd.R_away HK5.out (fun _ hk => hk.2)); have hblk6 := blk_grown (blk_drew HO.out.blk) hg6 hne6; have hd6 : w6.cell? ⟨g, 2, none⟩ = some (.slice Ak x.f2.length ck) := (blk_cell hblk6 2).trans ((blk_cell HO.out.blk 2).symm.trans (HO.out.cell 2 _ (by decide) rfl)); have hf6 := blk_frozen hblk6 2; have HO6 := AQ hO6; have HB6 := AQ hB6; have HG6 := AQ hg6; have HBL6 := AQ hblk6; clear hO6 hB6 hg6 hat6 hblk6 hne6)
  all_goals
    go_wp2; go_ret2; have hE : (⟨x.f0, x.f1, x.f2 ++ [⟨z1, z2⟩], x.f3.set z3.toNat (x.f2.length : Int), false⟩ : S74) = ⟨x.f0, x.f1, L2, x.f3.set z3.toNat (x.f2.length : Int), x.f4⟩ := (by rw [HL2.out, H4.out]); rw [hE]; have hA6 := Kd.R_over (Kd.R_drew HO.out.at_) HK5.out (by decide) HG6.out
    have hS : SysO (w6.setCell ⟨g, 2, none⟩ (.slice A6 L2.length c6)) w0.heap.size (fun k_ => ok_ k_ ∨ w.heap.size ≤ k_) g cap (cs.setIfInBounds 2 (.slice A6 L2.length c6)) ⟨x.f0, x.f1, L2, x.f3.set z3.toNat (x.f2.length : Int), x.f4⟩ (.slice A6 L2.length c6) (.slice (some ⟨ga, 0, none⟩) x.f3.length ca) :=
      ⟨blk_put HBL6.out 2 _ rfl, five_set HO.out.five 2 _, HO.out.ge, .inl HO.out.okg, HO.out.c1, HO.out.cm, by rw [Array.size_setIfInBounds]; exact HO.out.cs5, Kd.R_far (p := ⟨g, 2, none⟩) HO6.out (fun _ hk => hk.2) _, Kd.R_far (p := ⟨g, 2, none⟩) (Kd.R_mono hA6 (fun _ hk => ⟨.inl hk.1, hk.2⟩)) (fun _ hk => hk.2) _⟩
    exact ⟨.slice none 0 0, rfl, fault_none _ _ _, hS.row, HB6.out.setCell HO.out.ge _, SKept.set (SKept.grown (SKept.drew HSK.out) HG6.out (fun k_ e_ _ => ⟨(HS.out.kept.1 k_ e_).1, by obtain ⟨cells, hc⟩ := Kd.R_typed HS.out.kept k_ e_; exact ⟨_, cells, hc, .inr (.inl rfl)⟩⟩)) (fun _ => ⟨HS.out.okg, _, _, HS.out.blk, .inl rfl⟩) 2 _⟩
theorem elimM_Add.all (k : Nat) (r1 : Int) (r2 : List FE) (r3 : List S74) (hi : AddIn w0 w ok_ g cap cs x vk va A1 c1 l1 A2 c2 l2) (h : elimM_Add.g k x l1 l2 = some (r1, r2, r3)) : Calls Tryd.prog 11 #[.pointer (some ⟨g, 0, none⟩), .slice A1 l1.length c1, .slice A2 l2.length c2] w (AddOut w0 w ok_ g cap r1 r2 r3) := by
  unfold elimM_Add.g at h
  by_cases h4 : x.f4 = true
  · rw [if_pos h4] at h
    simp only [Option.some.injEq, Prod.mk.injEq] at h; obtain ⟨rfl, rfl, rfl⟩ := h; exact elimM_Add.clashed hi h4
  · rw [if_neg h4] at h
    have h4' : x.f4 = false := (by simpa using h4); obtain ⟨t, ht, h⟩ := Option.bind_eq_some_iff.mp h; cases t with
    | false =>
      rw [if_neg (fun e => by cases e.1)] at h; simp only [Option.some.injEq, Prod.mk.injEq] at h; obtain ⟨rfl, rfl, rfl⟩ := h; exact elimM_Add.form0 hi h4' ht
    | true =>
      by_cases hl : (l2.length : Int) = x.f1
      · rw [if_pos ⟨rfl, hl⟩] at h
        obtain ⟨⟨z1, z2, z3⟩, hd, h⟩ := Option.bind_eq_some_iff.mp h
        by_cases h3 : 0 ≤ z3
        · rw [if_pos h3] at h
          by_cases h5 : z3 < (x.f3.length : Int) ∧ x.f2.length < 2932031007402
          · rw [if_pos h5] at h
            simp only [Option.some.injEq, Prod.mk.injEq] at h; obtain ⟨rfl, rfl, rfl⟩ := h; exact elimM_Add.fresh k z1 z2 z3 hi h4' ht hl hd h3 h5.1 h5.2
          · rw [if_neg h5] at h
            cases h
        · rw [if_neg h3] at h
          obtain ⟨b, hb, h⟩ := Option.bind_eq_some_iff.mp h; cases b with
          | true =>
            rw [if_pos rfl] at h; simp only [Option.some.injEq, Prod.mk.injEq] at h; obtain ⟨rfl, rfl, rfl⟩ := h; exact elimM_Add.known k z1 z2 z3 hi h4' ht hl hd h3 hb
          | false =>
            rw [if_neg (by decide)] at h; simp only [Option.some.injEq, Prod.mk.injEq] at h; obtain ⟨rfl, rfl, rfl⟩ := h; exact elimM_Add.clash k z1 z2 z3 hi h4' ht hl hd h3 hb
      · rw [if_neg (fun e => hl e.2)] at h
        simp only [Option.some.injEq, Prod.mk.injEq] at h; obtain ⟨rfl, rfl, rfl⟩ := h; exact elimM_Add.form1 hi h4' ht hl
end
def elim_System_Add.f (k : Nat) (l0 : List S74) (l1 : List Int) (l2 : List Int) : Option (Int × List FE × List S74) := elimM_Add.f k l0 l1 l2
theorem elim_System_Add.mono : ∀ a0 a1 a2 k, LeO (elim_System_Add.f k a0 a1 a2) (elim_System_Add.f (k + 1) a0 a1 a2) := fun a0 a1 a2 k => elimM_Add.mono a0 a1 a2 k
theorem elim_System_Add.calls (k : Nat) (ok_ : Nat → Prop) (u9000_ : Value) (l0 : List S74) (A1 : Option Addr) (c1 : Nat) (l1 : List Int) (A2 : Option Addr) (c2 : Nat) (l2 : List Int) (r1 : Int) (r2 : List FE) (r3 : List S74) (w0 w : World) (ht : TabIn w) (hB : Below w0.heap.size w0 w) (ho0 : Kd.R k74 74 w w0.heap.size ok_ u9000_ l0) (hr1 : Kd.C (Kd.int .u64) w A1 l1.length l1) (hc1 : l1.length ≤ c1) (hr2 : Kd.C (Kd.int .u8) w A2 l2.length l2) (hc2 : l2.length ≤ c2) (h : elim_System_Add.f k l0 l1 l2 = some (r1, r2, r3)) :
  Calls Tryd.prog 11 #[ptrOf u9000_, .slice A1 l1.length c1, .slice A2 l2.length c2] w fun e w' => ∃ v1_ : Value, e = .returned (.tuple #[.int .i64 r1, (errOf v1_)]) ∧ Kd.R kF 95 w' w.heap.size (fun _ => True) v1_ r2 ∧ Kd.R k74 74 w' w0.heap.size (fun k_ => (ok_ k_ ∨ w.heap.size ≤ k_)) u9000_ r3 ∧ Below w0.heap.size w0 w' ∧ SKept w w' ok_ := by
 match l0, ho0, h with
 | [], ho0, h =>
  have h1 : elimM_Add.f k [] l1 l2 = some (r1, r2, r3) := h; simp only [elimM_Add.f, Option.some.injEq, Prod.mk.injEq] at h1; obtain ⟨rfl, rfl, rfl⟩ := h1; obtain ⟨A, c, rfl⟩ := Kd.R_slice ho0; refine (elim_Add.nil w _ _).mono fun e w' hx => ?_
  obtain ⟨v1_, he, hf, hb⟩ := hx; exact ⟨v1_, he, hf, Kd.R_mono (Kd.R_below ho0 hb) (fun _ hk => .inl hk), below_step hB hb, SKept.of_below hb _⟩
 | [x], ho0, h =>
  obtain ⟨g, cap, cs, vk, va, rfl, hs⟩ := sys_open ho0; rw [ptrOf_pos _ _ _ (by decide)]; exact elimM_Add.all k r1 r2 r3 ⟨ht, hB, hs, hr1, hc1, hr2, hc2⟩ h
 | _ :: _ :: _, _, h => exact absurd (show (none : Option (Int × List FE × List S74)) = some (r1, r2, r3) from h) (by simp)
end Go.Proofs.YtjmgkknbgffbjaaDoor.P
namespace Go.Proofs.YtjmgkknbgffbjaaDoor.P
open Go.RowKit Go.Proofs.YtjmgkknbgffbjaaDoorW.PrintWords Go.Proofs.YtjmgkknbgffbjaaDoorW.PrintLast Go.Proofs.YtjmgkknbgffbjaaDoorW.PrintErr Go.Proofs.YtjmgkknbgffbjaaDoorW.PrintMore
attribute [local go_sem] max2_int min2_int max_two min_two max_three min_three max_four min_four run_eql_errOf run_neq_errOf eqGuard_errOf   -- for this text's walks alone
set_option linter.unusedVariables false
set_option linter.unusedSimpArgs false
def elimM_Rank.f (l0 : List (S74)) : Option (Int) := if 0 < (l0.length : Int) then (some (((rd_T74 l0 0).f2).length : Int)) else (none)
set_option maxHeartbeats 8000000 in
set_option maxRecDepth 100000 in
theorem elimM_Rank.calls (ad900 : Addr) (l0 : List (S74)) (r : Int) (w : World) (hr0 : Kd.C k74 w (some ad900) l0.length l0) (h : elimM_Rank.f l0 = some r) :
  Calls Tryd.prog 14 #[.pointer (some ad900)] w fun e w' => e = .returned (.int .i64 r) ∧ Drawn0 w w' := by
 have HR0 := AQ hr0; clear hr0; have H : (if 0 < (l0.length : Int) then (some (((rd_T74 l0 0).f2).length : Int)) else (none)) = some r := h; clear h
 by_cases c2 : 0 < (l0.length : Int)
 ·rw [if_pos c2] at H; have c2b0 : decide (0 < (l0.length : Int)) = true := decide_eq_true c2; have c2b1 : decide (0 < l0.length) = true := decide_eq_true (by omega); clear c2; obtain rfl := Option.some.inj H; have p312 : 0 ≤ (0 : Int) := (by omega); have q312 : 0 < (l0.length : Int) := PD; obtain ⟨ad312, A312_2, c312_2, A312_3, c312_3, e312, hx312_0, hx312_1, hx312_2, hx312_3, hx312_4, hl312_2, hi312_2, hl312_3, hi312_3⟩ := at0_T74 HR0.out q312; obtain rfl : ad900 = ad312 := (by injection e312); have qi312 : (0 < l0.length) = True := eq_true (by omega); have HR312_2 := AQ hi312_2; have HC312_2 := AQ hl312_2; clear hi312_2 hl312_2; have HR312_3 := AQ hi312_3; have HC312_3 := AQ hl312_3; clear hi312_3 hl312_3; replace p312 := eq_true p312; replace q312 := eq_true q312; go_enter Tryd.func14, Tryd.ntmps14; go_wp2; go_ret; exact ⟨by first | rfl | (simp; done) | (simp [*]; done), by repeat (first | exact Drawn0.refl _ | apply Drawn0.step)⟩
 ·rw [if_neg c2] at H; exact absurd H (by simp)
end Go.Proofs.YtjmgkknbgffbjaaDoor.P
namespace Go.Proofs.YtjmgkknbgffbjaaDoor.P
open Go.RowKit Go.Proofs.YtjmgkknbgffbjaaDoorW.PrintWords Go.Proofs.YtjmgkknbgffbjaaDoorW.PrintLast Go.Proofs.YtjmgkknbgffbjaaDoorW.PrintErr Go.Proofs.YtjmgkknbgffbjaaDoorW.PrintMore
attribute [local go_sem] max2_int min2_int max_two min_two max_three min_three max_four min_four run_eql_errOf run_neq_errOf eqGuard_errOf run_eql_ptrOf run_neq_ptrOf eqGuard_ptrOf   -- for this text's walks alone
set_option linter.unusedVariables false
set_option linter.unusedSimpArgs false
def elim_System_Rank.f (l0 : List S74) : Option Int := if l0.length = 0 then some 0 else elimM_Rank.f l0
theorem elim_System_Rank.calls (A0 : Option Addr) (c0 : Nat) (l0 : List S74) (r : Int) (w : World) (hr0 : Kd.C k74 w A0 l0.length l0) (hc0 : l0.length ≤ c0) (h : elim_System_Rank.f l0 = some r) :
  Calls Tryd.prog 14 #[ptrOf (.slice A0 l0.length c0)] w fun e w' => e = .returned (.int .i64 r) ∧ Below w.heap.size w w' := by
 unfold elim_System_Rank.f at h
 by_cases hz : l0.length = 0
 ·rw [if_pos hz] at h; obtain rfl := Option.some.inj h; rw [hz, ptrOf_zero]; exact elim_Rank.nil w
 ·rw [if_neg hz] at h; obtain ⟨_, _, hA⟩ := id hr0; obtain ⟨ad, rfl, _⟩ := hA (Nat.pos_of_ne_zero hz); rw [ptrOf_pos _ _ _ hz]; refine (elimM_Rank.calls ad l0 r w hr0 h).mono fun e w' hx => ?_
  obtain ⟨m, rfl⟩ := hx.2.out; exact ⟨hx.1, pw_below_drewN (Below.refl _ _) m⟩
end Go.Proofs.YtjmgkknbgffbjaaDoor.P
namespace Go.Proofs.YtjmgkknbgffbjaaDoor.Pure
open Go.RowKit Go.Proofs.YtjmgkknbgffbjaaDoor.P Go.Proofs.YtjmgkknbgffbjaaDoorW.PrintWords Go.Proofs.YtjmgkknbgffbjaaDoorW.PrintLast Go.Proofs.YtjmgkknbgffbjaaDoorW.PrintErr Go.Proofs.YtjmgkknbgffbjaaDoorW.PrintMore Go.Proofs.YtjmgkknbgffbjaaDoor.Lin
set_option linter.unusedVariables false
set_option linter.unusedSimpArgs false
theorem fits_yes {x : S74} {n m : Nat} (hI : SI x n m) {row : List Int} (hr : RowOK n row) : elimM_fits.f [x] row = some true := by
  have hn1 := hI.n1
  have hn2 := hI.n2
  have hnw := nW_pos hn2
  have hw : nW (n : Int) = (n + 63) / 64 := by unfold nW; rw [Int.toNat_natCast]
  unfold elimM_fits.f
  rw [if_pos (by simp), hd_sys, hI.f0, psize_eq (n : Int) (by omega) (by omega), Int.toNat_natCast]
  simp only [Option.bind_some]
  rw [if_pos (by rw [hr.len, hw])]
  by_cases h : Int.tmod (n : Int) 64 = 0
  · rw [if_pos h]
  · rw [if_neg h]
    have ht : Int.tmod (n : Int) 64 = ((n % 64 : Nat) : Int) := by rw [Int.tmod_eq_emod_of_nonneg (by omega)]; omega
    have hne : n % 64 ≠ 0 := fun e => h (by rw [ht, e]; rfl)
    have hl : row.length = n / 64 + 1 := by rw [hr.len, hw]; omega
    have e1 : wrap64 ((row.length : Int) - 1) = ((n / 64 : Nat) : Int) := by rw [hl, w64s (by omega) (by omega)]; omega
    rw [e1, if_pos (by omega), if_pos (by omega), if_pos (by rw [ht]; omega), ht]
    have hmem : rd row ((n / 64 : Nat) : Int) ∈ row := by
      unfold rd
      rw [Int.toNat_natCast]
      exact getD_mem (by omega)
    have hz := (shr_zero (rd row ((n / 64 : Nat) : Int)) (hr.u _ hmem) (n % 64) (by omega)).2 (fun j hj => by
      by_cases hj2 : j < 64
      · have h2 := hr.hi (64 * (n / 64) + j) (by omega)
        unfold hasB at h2
        rw [show (64 * (n / 64) + j) / 64 = n / 64 by omega, show (64 * (n / 64) + j) % 64 = j by omega, decide_eq_true (by omega), Bool.true_and] at h2
        unfold rd
        rw [Int.toNat_natCast]
        exact h2
      · have hu := hr.u _ hmem
        obtain ⟨q, hq⟩ := Int.eq_ofNat_of_zero_le hu.1
        rw [hq, Int.toNat_natCast]
        refine Nat.testBit_lt_two_pow (Nat.lt_of_lt_of_le (show q < 2 ^ 64 by have := hu.2; rw [hq] at this; omega) (Nat.pow_le_pow_right (by decide) (by omega))))
    rw [hz]
structure IP (x : S74) (n : Nat) (P : List Nat) : Prop where
  plen : P.length = x.f2.length
  lt : ∀ p ∈ P, p < n ∧ 0 ≤ rd x.f3 (p : Int)
  own : ∀ q ∈ (x.f2.map fun e => hasB e.f0).zip P, q.1 q.2 = true
  tri : ((x.f2.map fun e => hasB e.f0).zip P).Pairwise fun b d => d.1 b.2 = false
theorem tri_zero' : ∀ (L : List (V × Nat)), L.Pairwise (fun b d => d.1 b.2 = false) → (∀ q ∈ L, q.1 q.2 = true) → ∀ v : V, Sp (L.map (·.1)) v → (∀ q ∈ L, v q.2 = false) → v = v0
  | [], _, _, v, h, _ => Sp.nil h
  | b :: L, ht, ho, v, h, hz => by
    obtain ⟨t1, t2⟩ := List.pairwise_cons.1 ht
    have hb := hz b (by simp)
    rcases Sp.cons h with h1 | h1
    · exact tri_zero' L t2 (fun q hq => ho q (List.mem_cons_of_mem _ hq)) v h1 (fun q hq => hz q (List.mem_cons_of_mem _ hq))
    · have hc : (Lin.vx v b.1) b.2 = false := Sp.col (c := b.2) (fun u hu => by
        obtain ⟨q, hq, rfl⟩ := List.mem_map.1 hu
        exact t1 q hq) h1
      unfold Lin.vx at hc
      rw [hb, ho b (by simp)] at hc
      cases hc
theorem tri_ind (L : List (V × Nat)) (ht : L.Pairwise fun b d => d.1 b.2 = false) (ho : ∀ q ∈ L, q.1 q.2 = true) : Ind (L.map (·.1)).reverse := by
  have key : ∀ R : List (V × Nat), (R.reverse).Pairwise (fun b d => d.1 b.2 = false) → (∀ q ∈ R, q.1 q.2 = true) → Ind (R.map (·.1)) := by
    intro R
    induction R with
    | nil => exact fun _ _ => trivial
    | cons b R ih =>
      intro ht ho
      rw [List.reverse_cons] at ht
      obtain ⟨t1, _, t3⟩ := List.pairwise_append.1 ht
      refine ⟨fun h => ?_, ih t1 (fun q hq => ho q (List.mem_cons_of_mem _ hq))⟩
      have h2 : Sp (R.reverse.map (·.1)) b.1 := h.sub (fun u hu => by simpa using hu)
      have h3 := tri_zero' R.reverse t1 (fun q hq => ho q (List.mem_cons_of_mem _ (List.mem_reverse.1 hq))) b.1 h2 (fun q hq => t3 q hq b (by simp))
      have h4 := ho b (List.mem_cons_self ..)
      rw [h3] at h4
      cases h4
  have h := key L.reverse (by rw [List.reverse_reverse]; exact ht) (fun q hq => ho q (List.mem_reverse.1 hq))
  rwa [List.map_reverse] at h
def freshS (x : S74) (row sym : List Int) (c : Nat) : S74 := ⟨x.f0, x.f1, x.f2 ++ [⟨row, sym⟩], x.f3.set c (x.f2.length : Int), false⟩
def clashS (x : S74) : S74 := ⟨x.f0, x.f1, x.f2, x.f3, true⟩
theorem rd_set (l : List Int) (c d : Nat) (v : Int) (hc : c < l.length) : rd (l.set c v) (d : Int) = if d = c then v else rd l (d : Int) := by
  unfold rd
  rw [Int.toNat_natCast, List.getD_eq_getElem?_getD, List.getElem?_set, List.getD_eq_getElem?_getD]
  by_cases h : c = d
  · subst h
    rw [if_pos rfl, if_pos hc, if_pos rfl]; rfl
  · rw [if_neg h, if_neg (fun e => h e.symm)]
theorem rd77_app {l : List S77} (e : S77) {i : Nat} (h : i < l.length) : rd_T77 (l ++ [e]) (i : Int) = rd_T77 l (i : Int) := by
  unfold rd_T77
  rw [Int.toNat_natCast, List.getD_eq_getElem?_getD, List.getElem?_append_left h, List.getD_eq_getElem?_getD]
theorem rd77_last (l : List S77) (e : S77) : rd_T77 (l ++ [e]) (l.length : Int) = e := by
  unfold rd_T77
  rw [Int.toNat_natCast, List.getD_eq_getElem?_getD, List.getElem?_append_right (Nat.le_refl _), Nat.sub_self]
  rfl
theorem SI.fresh {x : S74} {n m : Nat} (hI : SI x n m) {row sym : List Int} (hr : RowOK n row) (hs : SymOK m sym) {c : Nat} (hc : c < n) (hb : hasB row c = true) (hlow : ∀ c', c' < c → hasB row c' = false) : SI (freshS x row sym c) n m :=
  ⟨hI.n1, hI.n2, hI.m1, hI.m2, hI.f0, hI.f1, by show (x.f3.set c _).length = n; rw [List.length_set]; exact hI.alen, fun e he => by
    rcases List.mem_append.1 (show e ∈ x.f2 ++ [⟨row, sym⟩] from he) with h | h
    · exact hI.kept e h
    · obtain rfl : e = ⟨row, sym⟩ := by simpa using h
      exact ⟨hr, hs⟩, fun d hd => by
    have e1 : rd (freshS x row sym c).f3 (d : Int) = if d = c then (x.f2.length : Int) else rd x.f3 (d : Int) := rd_set x.f3 c d _ (by rw [hI.alen]; exact hc)
    have e2 : (freshS x row sym c).f2.length = x.f2.length + 1 := by show (x.f2 ++ [_]).length = _; simp
    rw [e1, e2]
    by_cases h : d = c
    · subst h
      rw [if_pos rfl]
      refine .inr ⟨x.f2.length, by omega, rfl, ?_⟩
      have e3 : rd_T77 (freshS x row sym d).f2 (x.f2.length : Int) = ⟨row, sym⟩ := rd77_last x.f2 _
      rw [e3]
      exact ⟨hb, hlow⟩
    · rw [if_neg h]
      rcases hI.at_ d hd with ha | ⟨i, hi, ha, h1⟩
      · exact .inl ha
      · refine .inr ⟨i, by omega, ha, ?_⟩
        have e3 : rd_T77 (freshS x row sym c).f2 (i : Int) = rd_T77 x.f2 (i : Int) := rd77_app _ hi
        rw [e3]
        exact h1⟩
theorem SI.clash {x : S74} {n m : Nat} (hI : SI x n m) : SI (clashS x) n m := ⟨hI.n1, hI.n2, hI.m1, hI.m2, hI.f0, hI.f1, hI.alen, hI.kept, hI.at_⟩
theorem IP.fresh {x : S74} {n m : Nat} (hI : SI x n m) {P : List Nat} (hP : IP x n P) {row sym : List Int} {c : Nat} (hc : c < n) (hat : rd x.f3 (c : Int) < 0) (hb : hasB row c = true) (hz : ∀ c', c' < n → 0 ≤ rd x.f3 (c' : Int) → hasB row c' = false) : IP (freshS x row sym c) n (P ++ [c]) := by
  have ez : ((freshS x row sym c).f2.map fun e => hasB e.f0).zip (P ++ [c]) = ((x.f2.map fun e => hasB e.f0).zip P) ++ [(hasB row, c)] := by
    show ((x.f2 ++ [(⟨row, sym⟩ : S77)]).map fun e => hasB e.f0).zip (P ++ [c]) = _
    rw [List.map_append, List.zip_append (by rw [List.length_map, hP.plen])]
    rfl
  refine ⟨by show (P ++ [c]).length = (x.f2 ++ [_]).length; simp [hP.plen], fun p hp => ?_, ?_, ?_⟩
  · have e1 : rd (freshS x row sym c).f3 (p : Int) = if p = c then (x.f2.length : Int) else rd x.f3 (p : Int) := rd_set x.f3 c p _ (by rw [hI.alen]; exact hc)
    rw [e1]
    rcases List.mem_append.1 hp with h | h
    · obtain ⟨h1, h2⟩ := hP.lt p h
      rw [if_neg (fun e => by subst e; omega)]
      exact ⟨h1, h2⟩
    · obtain rfl : p = c := by simpa using h
      rw [if_pos rfl]
      exact ⟨hc, by omega⟩
  · rw [ez]
    intro q hq
    rcases List.mem_append.1 hq with h | h
    · exact hP.own q h
    · obtain rfl : q = (hasB row, c) := by simpa using h
      exact hb
  · rw [ez]
    refine List.pairwise_append.2 ⟨hP.tri, List.pairwise_singleton _ _, fun b hb' d hd => ?_⟩
    obtain rfl : d = (hasB row, c) := by simpa using hd
    have hm : b.2 ∈ P := (List.of_mem_zip hb').2
    obtain ⟨h1, h2⟩ := hP.lt _ hm
    exact hz _ h1 h2
theorem eadd_ev {x : S74} {n m : Nat} (hI : SI x n m) (h4 : x.f4 = false) (hlen : x.f2.length < 1000000) {row sym : List Int} (hr : RowOK n row) (hs : SymOK m sym) :
    ∃ row' sym', RowOK n row' ∧ SymOK m sym' ∧ Sp (KV n x) (vx (J n row sym) (J n row' sym')) ∧ (∀ c, c < n → 0 ≤ rd x.f3 (c : Int) → hasB row' c = false) ∧
      ((∃ c, c < n ∧ rd x.f3 (c : Int) < 0 ∧ hasB row' c = true ∧ SI (freshS x row' sym' c) n m ∧ Ev (fun k => elim_System_Add.f k [x] row sym) (1, [], [freshS x row' sym' c])) ∨
       ((∀ c, hasB row' c = false) ∧ ((allZero sym' = true ∧ Ev (fun k => elim_System_Add.f k [x] row sym) (2, [], [x])) ∨ (allZero sym' = false ∧ Ev (fun k => elim_System_Add.f k [x] row sym) (3, [], [clashS x]))))) := by
  have hm2 := hI.m2
  obtain ⟨row', sym', first', he, hr', hs', hsp, hD⟩ := down_ev hI hr hs
  refine ⟨row', sym', hr', hs', hsp, fun c hc h0 => hD.1 c hc h0, ?_⟩
  have key : ∀ {r}, Ev (fun k => if 0 ≤ first' then
          (if first' < (x.f3.length : Int) ∧ x.f2.length < 2932031007402 then some (1, [], [⟨x.f0, x.f1, x.f2 ++ [⟨row', sym'⟩], x.f3.set first'.toNat (x.f2.length : Int), false⟩]) else none)
        else (symbol_Zero.f k sym').bind fun b => if b = true then some (2, [], [x]) else some (3, [], [⟨x.f0, x.f1, x.f2, x.f3, true⟩])) r → Ev (fun k => elim_System_Add.f k [x] row sym) r := fun h => by
    refine Ev.congr (f := fun k => (elimM_down.f k [x] row sym).bind fun z => if 0 ≤ z.2.2 then
          (if z.2.2 < (x.f3.length : Int) ∧ x.f2.length < 2932031007402 then some (1, [], [⟨x.f0, x.f1, x.f2 ++ [⟨z.1, z.2.1⟩], x.f3.set z.2.2.toNat (x.f2.length : Int), false⟩]) else none)
        else (symbol_Zero.f k z.2.1).bind fun b => if b = true then some (2, [], [x]) else some (3, [], [⟨x.f0, x.f1, x.f2, x.f3, true⟩])) (fun k => ?_) (Ev.bind he h)
    show elimM_Add.g k x row sym = _
    unfold elimM_Add.g
    rw [if_neg (by rw [h4]; decide), fits_yes hI hr]
    simp only [Option.bind_some]
    rw [if_pos ⟨trivial, by rw [hs.len, hI.f1]⟩]
  rcases hD.2 with ⟨e, hz⟩ | ⟨c0, e, hc0, hat, hb, hlow⟩
  · refine .inr ⟨fun c => ?_, ?_⟩
    · rcases Nat.lt_or_ge c n with h | h
      · exact hz c h
      · exact hr'.hi c h
    · have hzv := zero_ev sym' (by rw [hs'.len]; omega)
      cases ha : allZero sym' with
      | true =>
        rw [ha] at hzv
        refine .inl ⟨rfl, key ?_⟩
        refine Ev.congr (f := fun k => (symbol_Zero.f k sym').bind fun b => if b = true then some (2, [], [x]) else some (3, [], [⟨x.f0, x.f1, x.f2, x.f3, true⟩])) (fun k => by rw [if_neg (by omega)]) (Ev.bind hzv ?_)
        exact Ev.congr (f := fun _ => some (2, [], [x])) (fun k => if_pos rfl) (Ev.now _)
      | false =>
        rw [ha] at hzv
        refine .inr ⟨rfl, key ?_⟩
        refine Ev.congr (f := fun k => (symbol_Zero.f k sym').bind fun b => if b = true then some (2, [], [x]) else some (3, [], [⟨x.f0, x.f1, x.f2, x.f3, true⟩])) (fun k => by rw [if_neg (by omega)]) (Ev.bind hzv ?_)
        exact Ev.congr (f := fun _ => some (3, [], [clashS x])) (fun k => if_neg Bool.false_ne_true) (Ev.now _)
  · refine .inl ⟨c0, hc0, hat, hb, hI.fresh hr' hs' hc0 hb hlow, key ?_⟩
    refine Ev.congr (f := fun _ => some (1, [], [freshS x row' sym' c0])) (fun k => ?_) (Ev.now _)
    rw [if_pos (by omega), if_pos ⟨by rw [hI.alen]; omega, by omega⟩, e, Int.toNat_natCast]
    rfl
def newS (n m : Nat) : S74 := ⟨(n : Int), (m : Int), [], List.replicate n (-1), false⟩
theorem new_eq {n m : Nat} (h1 : 1 ≤ n) (h2 : n ≤ 4096) (h3 : 1 ≤ m) (h4 : m ≤ 64) : elim_New.f (n : Int) (m : Int) = some ([newS n m], []) := by
  unfold elim_New.f
  rw [if_pos ⟨by omega, by omega, by omega, by omega⟩, Int.toNat_natCast]
  rfl
theorem newS_at (n m : Nat) (c : Nat) (hc : c < n) : rd (newS n m).f3 (c : Int) = -1 := by
  unfold rd newS
  rw [Int.toNat_natCast, List.getD_eq_getElem?_getD, List.getElem?_replicate, if_pos hc]
  rfl
theorem SI.new {n m : Nat} (h1 : 1 ≤ n) (h2 : n ≤ 4096) (h3 : 1 ≤ m) (h4 : m ≤ 64) : SI (newS n m) n m :=
  ⟨h1, h2, h3, h4, rfl, rfl, by show (List.replicate n (-1 : Int)).length = n; simp, (fun e he => by cases he), fun c hc => .inl (newS_at n m c hc)⟩
theorem IP.new (n m : Nat) : IP (newS n m) n [] := ⟨rfl, (fun p hp => by cases hp), (fun q hq => by cases hq), List.Pairwise.nil⟩
theorem rank_eq (x : S74) : elim_System_Rank.f [x] = some (x.f2.length : Int) := by
  unfold elim_System_Rank.f elimM_Rank.f
  rw [if_neg (by simp), if_pos (by simp), hd_sys]
end Go.Proofs.YtjmgkknbgffbjaaDoor.Pure
namespace Go.Proofs.YtjmgkknbgffbjaaDoor.P
open Go.RowKit Go.Proofs.YtjmgkknbgffbjaaDoorW.PrintWords Go.Proofs.YtjmgkknbgffbjaaDoorW.PrintLast Go.Proofs.YtjmgkknbgffbjaaDoorW.PrintErr Go.Proofs.YtjmgkknbgffbjaaDoorW.PrintMore
attribute [local go_sem] max2_int min2_int max_two min_two max_three min_three max_four min_four run_eql_errOf run_neq_errOf eqGuard_errOf run_eql_ptrOf run_neq_ptrOf eqGuard_ptrOf   -- for this text's walks alone
set_option linter.unusedVariables false
set_option linter.unusedSimpArgs false
mutual
def geyserlaw05_fit.j1 : Nat → Int → Int → List (List Int) → List Int → Int → List (List Int) → Option (Int × (List (List Int)) × List Int)
 | 0, _, _, _, _, _, _ => none
 | k + 1, x3, x102000, x102001, x102002, x104000, x104001 => if (x104001.length : Int) = 0 then (if 0 ≤ x3 then (if (x3 : Int).toNat ≤ 281474976710656 then (geyserlaw05_fit.j2 k x102000 x102001 x102002 x104000 (([(List.replicate (x3 : Int).toNat 0)] : List (List Int)))) else (none)) else (none)) else (geyserlaw05_fit.j2 k x102000 x102001 x102002 x104000 x104001)
def geyserlaw05_fit.j2 : Nat → Int → List (List Int) → List Int → Int → List (List Int) → Option (Int × (List (List Int)) × List Int)
 | 0, _, _, _, _, _ => none
 | k + 1, x102000, x102001, x102002, x104000, x104001 => geyserlaw05_fit.l1 k 0 x102000 x102001 x102002 x104000 x104001 ([] : List Int)
def geyserlaw05_fit.l1 : Nat → Int → Int → List (List Int) → List Int → Int → List (List Int) → List Int → Option (Int × (List (List Int)) × List Int)
 | 0, _, _, _, _, _, _, _ => none
 | k + 1, x7, x102000, x102001, x102002, x104000, x104001, x104002 => if x7 < (x102002.length : Int) then (if x7 < 24 then (if 0 ≤ x7 then (if 0 ≤ (IntKind.u64.wrap ((x104001.length : Int))) then (if x104002.length < 17592186044416 then (geyserlaw05_fit.l1 k (wrap64 (x7 + 1)) x102000 x102001 x102002 x104000 x104001 (x104002 ++ [Go.bits .and .u64 (rd x102002 x7) (IntKind.u64.wrap ((shl .u64 1 (IntKind.u64.wrap ((x104001.length : Int)))) - 1))])) else (none)) else (none)) else (none)) else (some (x104000, x104001, x104002))) else (some (x104000, x104001, x104002))
def geyserlaw05_fit.l0 : Nat → Int → Int → Int → List (List Int) → List Int → Int → List (List Int) → Option (Int × (List (List Int)) × List Int)
 | 0, _, _, _, _, _, _, _ => none
 | k + 1, x3, x5, x102000, x102001, x102002, x104000, x104001 => if x5 < (x102001.length : Int) then (if x5 < 12 then (if 0 ≤ x3 then (if (x3 : Int).toNat ≤ 281474976710656 then (if 0 ≤ x5 then (if x104001.length < 5864062014805 then (geyserlaw05_fit.l0 k x3 (wrap64 (x5 + 1)) x102000 x102001 x102002 x104000 (x104001 ++ [(copyL (List.replicate (x3 : Int).toNat 0) (rd_Lsu8 x102001 x5))])) else (none)) else (none)) else (none)) else (none)) else (geyserlaw05_fit.j1 k x3 x102000 x102001 x102002 x104000 x104001)) else (geyserlaw05_fit.j1 k x3 x102000 x102001 x102002 x104000 x104001)
end
def geyserlaw05_fit.f (k : Nat) (a0_0 : Int) (l0_1 : List (List Int)) (l0_2 : List Int) : Option (Int × (List (List Int)) × List Int) := geyserlaw05_fit.l0 k (wrap64 (1 + (wrap64 (Int.tmod (IntKind.u64.wrap (a0_0)) 4)))) 0 a0_0 l0_1 l0_2 (wrap64 (1 + (wrap64 (Int.tmod (IntKind.u64.wrap (a0_0)) 4)))) ([] : List (List Int))
theorem geyserlaw05_fit.mono_l : ∀ k, (∀ y0 y1 y2 y3 y4 y5, LeO (geyserlaw05_fit.j1 k y0 y1 y2 y3 y4 y5) (geyserlaw05_fit.j1 (k + 1) y0 y1 y2 y3 y4 y5)) ∧ (∀ y0 y1 y2 y3 y4, LeO (geyserlaw05_fit.j2 k y0 y1 y2 y3 y4) (geyserlaw05_fit.j2 (k + 1) y0 y1 y2 y3 y4)) ∧ (∀ y0 y1 y2 y3 y4 y5 y6, LeO (geyserlaw05_fit.l1 k y0 y1 y2 y3 y4 y5 y6) (geyserlaw05_fit.l1 (k + 1) y0 y1 y2 y3 y4 y5 y6)) ∧ (∀ y0 y1 y2 y3 y4 y5 y6, LeO (geyserlaw05_fit.l0 k y0 y1 y2 y3 y4 y5 y6) (geyserlaw05_fit.l0 (k + 1) y0 y1 y2 y3 y4 y5 y6))
 | 0 => ⟨fun _ _ _ _ _ _ r h => by simp [geyserlaw05_fit.j1] at h, fun _ _ _ _ _ r h => by simp [geyserlaw05_fit.j2] at h, fun _ _ _ _ _ _ _ r h => by simp [geyserlaw05_fit.l1] at h, fun _ _ _ _ _ _ _ r h => by simp [geyserlaw05_fit.l0] at h⟩
 | k + 1 => by
  obtain ⟨ih0, ih1, ih2, ih3⟩ := geyserlaw05_fit.mono_l k; refine ⟨?_, ?_, ?_, ?_⟩; intro y0 y1 y2 y3 y4 y5; unfold geyserlaw05_fit.j1; rotate_left
  intro y0 y1 y2 y3 y4; unfold geyserlaw05_fit.j2; rotate_left
  intro y0 y1 y2 y3 y4 y5 y6; unfold geyserlaw05_fit.l1; rotate_left
  intro y0 y1 y2 y3 y4 y5 y6; unfold geyserlaw05_fit.l0; rotate_left
  all_goals repeat' first
   | (with_reducible exact ih0 _ _ _ _ _ _)
   | (with_reducible exact ih1 _ _ _ _ _)
   | (with_reducible exact ih2 _ _ _ _ _ _ _)
   | (with_reducible exact ih3 _ _ _ _ _ _ _)
   | (with_reducible exact LeO.refl _)
   | (with_reducible exact LeO.none _)
   | (with_reducible refine LeO.ite ?_ ?_)
   | (with_reducible refine LeO.bind ?_ (fun _ => ?_))
   | exact ih0 _ _ _ _ _ _
   | exact ih1 _ _ _ _ _
   | exact ih2 _ _ _ _ _ _ _
   | exact ih3 _ _ _ _ _ _ _
   | exact LeO.none _
   | refine LeO.ite ?_ ?_
   | refine LeO.bind ?_ (fun _ => ?_)
theorem geyserlaw05_fit.mono : ∀ a0 a1 a2 k, LeO (geyserlaw05_fit.f k a0 a1 a2) (geyserlaw05_fit.f (k + 1) a0 a1 a2) := by
 intro a0 a1 a2 k; obtain ⟨ih0, ih1, ih2, ih3⟩ := geyserlaw05_fit.mono_l k; unfold geyserlaw05_fit.f
 repeat' first
   | (with_reducible exact ih0 _ _ _ _ _ _)
   | (with_reducible exact ih1 _ _ _ _ _)
   | (with_reducible exact ih2 _ _ _ _ _ _ _)
   | (with_reducible exact ih3 _ _ _ _ _ _ _)
   | (with_reducible exact LeO.refl _)
   | (with_reducible exact LeO.none _)
   | (with_reducible refine LeO.ite ?_ ?_)
   | (with_reducible refine LeO.bind ?_ (fun _ => ?_))
   | exact ih0 _ _ _ _ _ _
   | exact ih1 _ _ _ _ _
   | exact ih2 _ _ _ _ _ _ _
   | exact ih3 _ _ _ _ _ _ _
   | exact LeO.none _
   | refine LeO.ite ?_ ?_
   | refine LeO.bind ?_ (fun _ => ?_)
def geyserlaw05_fit.T14 : Bool × List (List Nat × List Nat) := (true, [([], []), ([0], [0]), ([], []), ([2], [2]), ([], []), ([3, 4], [3, 4]), ([5], [5]), ([], []), ([7], [7]), ([8], [8]), ([9], [9]), ([10], [10]), ([11], [11]), ([6, 12], [6, 12]), ([13], [13]), ([1, 14], [1, 14]), ([0, 1, 2, 3, 4, 5, 6, 7, 8, 9, 10, 11, 12, 13, 14, 15], []), ([16, 15, 15, 0, 1, 2, 3, 4, 5, 6, 7, 8, 9, 10, 11, 12, 13, 14, 15], [15, 16])])
def geyserlaw05_fit.B14 : List Nat := [0, 1, 0, 4, 0, 28, 60, 0, 128, 384, 896, 1920, 3968, 8188, 16380, 32767, 65535, 131071]
theorem geyserlaw05_fit.tab14 : rtab .any (opsOf Tryd.f9 14) = geyserlaw05_fit.T14 := by kernel_rfl
theorem geyserlaw05_fit.bits14 : waitsOk geyserlaw05_fit.T14.2 geyserlaw05_fit.B14 = true := by kernel_rfl
set_option maxHeartbeats 8000000 in
set_option maxRecDepth 100000 in
theorem geyserlaw05_fit.calls (k : Nat) (a0_0 : Int) (A0_1 : Option Addr) (c0_1 : Nat) (l0_1 : List (List Int)) (A0_2 : Option Addr) (c0_2 : Nat) (l0_2 : List Int) (r1 : Int) (r2 : List (List Int)) (r3 : List Int) (w : World) (hr0_1 : Kd.C (Kd.slice 5 (Kd.int .u8)) w A0_1 l0_1.length l0_1) (hc0_1 : l0_1.length ≤ c0_1) (hr0_2 : Kd.C (Kd.int .u64) w A0_2 l0_2.length l0_2) (hc0_2 : l0_2.length ≤ c0_2) (h : geyserlaw05_fit.f k a0_0 l0_1 l0_2 = some (r1, r2, r3)) :
  Calls Tryd.prog 9 #[.agg #[.int .i64 a0_0, .slice A0_1 l0_1.length c0_1, .slice A0_2 l0_2.length c0_2]] w fun e w' => ∃ v1_ v2_ : Value, e = .returned (.agg #[.int .i64 r1, v1_, v2_]) ∧ Kd.S (Kd.slice 5 (Kd.int .u8)) 36 w' w.heap.size (fun _ => True) v1_ r2 ∧ Kd.R (Kd.int .u64) 35 w' w.heap.size (fun _ => True) v2_ r3 ∧ Below w.heap.size w w' := by
 have hu25 := Tryd.underlying25; have HR0_1 := AQ hr0_1; have HC0_1 := AQ hc0_1; clear hr0_1 hc0_1; have HR0_2 := AQ hr0_2; have HC0_2 := AQ hc0_2; clear hr0_2 hc0_2; have HB := AQ (Below.refl w.heap.size w); have H : (geyserlaw05_fit.l0 k (wrap64 (1 + (wrap64 (Int.tmod (IntKind.u64.wrap (a0_0)) 4)))) 0 a0_0 l0_1 l0_2 (wrap64 (1 + (wrap64 (Int.tmod (IntKind.u64.wrap (a0_0)) 4)))) ([] : List (List Int))) = some (r1, r2, r3) := h; clear h; have HC2 := AQ H; clear H; go_enter Tryd.func9, Tryd.ntmps9; go_upto_block 0 with (first | ((with_reducible refine gate_dst (N := 1) rfl ?_); refine box_event ?hg (N := 1) ?hd (cs := #[.int .i64 a0_0, .slice A0_1 l0_1.length c0_1, .slice A0_2 l0_2.length c0_2]) (t := 25) ?hr ?_; (case hd => rfl); (case hg => rfl); (case hr => first | (go_simp; done) | (go_simp; rfl)); intro gb101 hg w3 hbox hb; have n0_ := AQ (below_step (PB HB) hb); have n1_ := AQ (hbox); have n2_ := AQ ((by rw [hg]; exact (below_size (PB HB)) : w.heap.size ≤ gb101)); have n3_ := AQ ((by rw [hg]; exact (below_size (PB HB)) : w.heap.size ≤ gb101)); clear HB; have HB := n0_; have BK101 := n1_; have GW101 := n2_; have GE101 := n3_; clear n0_ n1_ n2_ n3_; clear hb hbox hg) | ((with_reducible refine gate_dst (N := 2) rfl ?_); refine box_event ?hg (N := 2) ?hd (cs := #[.int .i64 0, .slice none 0 0, .slice none 0 0]) (t := 25) ?hr ?_; (case hd => rfl); (case hg => rfl); (case hr => first | (go_simp; done) | (go_simp; rfl)); intro gb102 hg w4 hbox hb; have n0_ := AQ (blk_below (g := gb101) (o := .cells #[.int .i64 a0_0, .slice A0_1 l0_1.length c0_1, .slice A0_2 l0_2.length c0_2] 25 (0, 0)) (PK BK101) hb); have n1_ := AQ (below_step (PX HB) hb); have n2_ := AQ (hbox); have n3_ := AQ ((by rw [hg]; exact (below_size (PX HB)) : w.heap.size ≤ gb102)); have n4_ := AQ ((by rw [hg]; exact (below_size (PX HB)) : w.heap.size ≤ gb102)); have n5_ := AQ ((by rw [hg]; exact Nat.ne_of_lt (blk_lt (g := gb101) (o := .cells #[.int .i64 a0_0, .slice A0_1 l0_1.length c0_1, .slice A0_2 l0_2.length c0_2] 25 (0, 0)) (PK BK101)) : gb101 ≠ gb102)); have n6_ := AQ ((by rw [hg]; exact Nat.ne_of_gt (blk_lt (g := gb101) (o := .cells #[.int .i64 a0_0, .slice A0_1 l0_1.length c0_1, .slice A0_2 l0_2.length c0_2] 25 (0, 0)) (PK BK101)) : gb102 ≠ gb101)); clear BK101; clear HB; have BK101 := n0_; have HB := n1_; have BK102 := n2_; have GW102 := n3_; have GE102 := n4_; have NB101_102 := n5_; have NB102_101 := n6_; clear n0_ n1_ n2_ n3_ n4_ n5_ n6_; clear hb hbox hg; have hnb5 := NB101_102.out; have hnc5 := NB102_101.out; have hcz6_0 : w4.cell? ⟨gb101, 0, none⟩ = some (.int .i64 a0_0) := (blk_cell BK101.out 0).trans rfl; have hcz6_1 : w4.cell? ⟨gb101, 1, none⟩ = some (.slice A0_1 l0_1.length c0_1) := (blk_cell BK101.out 1).trans rfl; have hcz6_2 : w4.cell? ⟨gb101, 2, none⟩ = some (.slice A0_2 l0_2.length c0_2) := (blk_cell BK101.out 2).trans rfl; have hfz6_0 := blk_frozen BK101.out 0; have hfz6_1 := blk_frozen BK101.out 1; have hfz6_2 := blk_frozen BK101.out 2) | ((with_reducible refine gate_dst (N := 4) rfl ?_); refine box_event ?hg (N := 4) ?hd (cs := #[.int .i64 0, .slice none 0 0, .slice none 0 0]) (t := 25) ?hr ?_; (case hd => rfl); (case hg => rfl); (case hr => first | (go_simp; done) | (go_simp; rfl)); intro gb103 hg w7 hbox hb; have n0_ := AQ (blk_below (g := gb101) (o := .cells #[.int .i64 a0_0, .slice A0_1 l0_1.length c0_1, .slice A0_2 l0_2.length c0_2] 25 (0, 0)) (PK BK101) hb); have n1_ := AQ (blk_below (g := gb102) (o := .cells #[.int .i64 0, .slice none 0 0, .slice none 0 0] 25 (0, 0)) (PK BK102) hb); have n2_ := AQ (below_step (PX HB) hb); have n3_ := AQ (hbox); have n4_ := AQ ((by rw [hg]; exact (below_size (PX HB)) : w.heap.size ≤ gb103)); have n5_ := AQ ((by rw [hg]; exact (below_size (PX HB)) : w.heap.size ≤ gb103)); have n6_ := AQ ((by rw [hg]; exact Nat.ne_of_lt (blk_lt (g := gb101) (o := .cells #[.int .i64 a0_0, .slice A0_1 l0_1.length c0_1, .slice A0_2 l0_2.length c0_2] 25 (0, 0)) (PK BK101)) : gb101 ≠ gb103)); have n7_ := AQ ((by rw [hg]; exact Nat.ne_of_gt (blk_lt (g := gb101) (o := .cells #[.int .i64 a0_0, .slice A0_1 l0_1.length c0_1, .slice A0_2 l0_2.length c0_2] 25 (0, 0)) (PK BK101)) : gb103 ≠ gb101)); have n8_ := AQ ((by rw [hg]; exact Nat.ne_of_lt (blk_lt (g := gb102) (o := .cells #[.int .i64 0, .slice none 0 0, .slice none 0 0] 25 (0, 0)) (PK BK102)) : gb102 ≠ gb103)); have n9_ := AQ ((by rw [hg]; exact Nat.ne_of_gt (blk_lt (g := gb102) (o := .cells #[.int .i64 0, .slice none 0 0, .slice none 0 0] 25 (0, 0)) (PK BK102)) : gb103 ≠ gb102)); clear BK101; clear BK102; clear HB; have BK101 := n0_; have BK102 := n1_; have HB := n2_; have BK103 := n3_; have GW103 := n4_; have GE103 := n5_; have NB101_103 := n6_; have NB103_101 := n7_; have NB102_103 := n8_; have NB103_102 := n9_; clear n0_ n1_ n2_ n3_ n4_ n5_ n6_ n7_ n8_ n9_; clear hb hbox hg; have hnb8 := NB103_101.out; have hnc8 := NB101_103.out; have hnb9 := NB103_102.out; have hnc9 := NB102_103.out; have hcz10_0 : w7.cell? ⟨gb103, 0, none⟩ = some (.int .i64 0) := (blk_cell BK103.out 0).trans rfl; have hcz10_1 : w7.cell? ⟨gb103, 1, none⟩ = some (.slice none 0 0) := (blk_cell BK103.out 1).trans rfl; have hcz10_2 : w7.cell? ⟨gb103, 2, none⟩ = some (.slice none 0 0) := (blk_cell BK103.out 2).trans rfl; have hfz10_0 := blk_frozen BK103.out 0; have hfz10_1 := blk_frozen BK103.out 1; have hfz10_2 := blk_frozen BK103.out 2)); (try simp only [Act.put, List.setIfInBounds_toArray, List.set_cons_zero, List.set_cons_succ]); go_cut [] (fun wc => ∃ (kq : Nat) (x104001_1 : List (List Int)) (u104001 : Value), Aside0 (geyserlaw05_fit.j1 kq (wrap64 (1 + (wrap64 (Int.tmod (IntKind.u64.wrap (a0_0)) 4)))) a0_0 l0_1 l0_2 (wrap64 (1 + (wrap64 (Int.tmod (IntKind.u64.wrap (a0_0)) 4)))) x104001_1 = some (r1, r2, r3)) ∧ Aside0 (kq ≤ k) ∧ Aside0 (Kd.S (Kd.slice 5 (Kd.int .u8)) 36 wc w.heap.size (fun _ => True) u104001 x104001_1) ∧ Aside0 (wc.heap[gb101]? = some (.cells #[.int .i64 a0_0, (.slice A0_1 l0_1.length c0_1), (.slice A0_2 l0_2.length c0_2)] 25 (0, 0))) ∧ Aside0 (wc.heap[gb102]? = some (.cells #[.int .i64 0, (.slice none 0 0), (.slice none 0 0)] 25 (0, 0))) ∧ Aside0 (wc.heap[gb103]? = some (.cells #[.int .i64 (wrap64 (1 + (wrap64 (Int.tmod (IntKind.u64.wrap (a0_0)) 4)))), u104001, (.slice none 0 0)] 25 (0, 0))) ∧ Aside0 (Below w.heap.size w wc))
 case first =>
  have H := HC2.out; clear HC2; have H' := AQ H; clear H; go_wp2; go_loopg [5] k (fun kq v5 w' => ∃ (x5_1 : Int) (x104001_1 : List (List Int)) (u104001 : Value), v5 = .int .i64 x5_1 ∧ Aside0 (geyserlaw05_fit.l0 kq (wrap64 (1 + (wrap64 (Int.tmod (IntKind.u64.wrap (a0_0)) 4)))) x5_1 a0_0 l0_1 l0_2 (wrap64 (1 + (wrap64 (Int.tmod (IntKind.u64.wrap (a0_0)) 4)))) x104001_1 = some (r1, r2, r3)) ∧ Aside0 (kq ≤ k) ∧ Aside0 (Kd.S (Kd.slice 5 (Kd.int .u8)) 36 w' w.heap.size (fun _ => True) u104001 x104001_1) ∧ Aside0 (w'.heap[gb101]? = some (.cells #[.int .i64 a0_0, (.slice A0_1 l0_1.length c0_1), (.slice A0_2 l0_2.length c0_2)] 25 (0, 0))) ∧ Aside0 (w'.heap[gb102]? = some (.cells #[.int .i64 0, (.slice none 0 0), (.slice none 0 0)] 25 (0, 0))) ∧ Aside0 (w'.heap[gb103]? = some (.cells #[.int .i64 (wrap64 (1 + (wrap64 (Int.tmod (IntKind.u64.wrap (a0_0)) 4)))), u104001, (.slice none 0 0)] 25 (0, 0))) ∧ Aside0 (Below w.heap.size w w'))
  case atStart => exact ⟨(0), (([] : List (List Int))), (.slice none 0 0), (by first | rfl | (simp; done) | (simp [*]; done)), H', ⟨Nat.le_refl _⟩, ⟨by first | exact Kd.S_nil _ _ _ _ _ | exact Kd.N_nil _ _ _ _ _ | exact Kd.V_nil _ _ _ _ _ | exact Kd.Q_nil _ _ _ _ _ | exact Kd.R_nil _ _ _ _ _⟩, ⟨by (with_reducible repeat (first | refine blk_drewN ?_ _ | refine blk_drew ?_ | refine blk_alloc ?_ _)); refine blk_far ?_ NB101_103.out _; (with_reducible repeat (first | refine blk_drewN ?_ _ | refine blk_drew ?_ | refine blk_alloc ?_ _)); refine blk_far ?_ NB101_103.out _; (with_reducible repeat (first | refine blk_drewN ?_ _ | refine blk_drew ?_ | refine blk_alloc ?_ _)); refine blk_far ?_ NB101_103.out _; (with_reducible repeat (first | refine blk_drewN ?_ _ | refine blk_drew ?_ | refine blk_alloc ?_ _)); exact BK101.out⟩, ⟨by (with_reducible repeat (first | refine blk_drewN ?_ _ | refine blk_drew ?_ | refine blk_alloc ?_ _)); refine blk_far ?_ NB102_103.out _; (with_reducible repeat (first | refine blk_drewN ?_ _ | refine blk_drew ?_ | refine blk_alloc ?_ _)); refine blk_far ?_ NB102_103.out _; (with_reducible repeat (first | refine blk_drewN ?_ _ | refine blk_drew ?_ | refine blk_alloc ?_ _)); refine blk_far ?_ NB102_103.out _; (with_reducible repeat (first | refine blk_drewN ?_ _ | refine blk_drew ?_ | refine blk_alloc ?_ _)); exact BK102.out⟩, ⟨by (with_reducible repeat (first | refine blk_drewN ?_ _ | refine blk_drew ?_ | refine blk_alloc ?_ _)); refine blk_put (cs := #[.int .i64 (wrap64 (1 + (wrap64 (Int.tmod (IntKind.u64.wrap (a0_0)) 4)))), .slice none 0 0, .slice none 0 0]) ?_ 2 _ rfl; (with_reducible repeat (first | refine blk_drewN ?_ _ | refine blk_drew ?_ | refine blk_alloc ?_ _)); refine blk_put (cs := #[.int .i64 (wrap64 (1 + (wrap64 (Int.tmod (IntKind.u64.wrap (a0_0)) 4)))), .slice none 0 0, .slice none 0 0]) ?_ 1 _ rfl; (with_reducible repeat (first | refine blk_drewN ?_ _ | refine blk_drew ?_ | refine blk_alloc ?_ _)); refine blk_put (cs := #[.int .i64 0, .slice none 0 0, .slice none 0 0]) ?_ 0 _ rfl; (with_reducible repeat (first | refine blk_drewN ?_ _ | refine blk_drew ?_ | refine blk_alloc ?_ _)); exact BK103.out⟩, ⟨PX HB⟩⟩
  case round =>
   clear H'; (try clear p2); (try clear c5); (try clear p6); (try clear c8); (try clear c9); (try clear hcz10_0); (try clear hcz10_1); (try clear hcz10_2); (try clear hcz6_0); (try clear hcz6_1); (try clear hcz6_2); (try clear hfz10_0); (try clear hfz10_1); (try clear hfz10_2); (try clear hfz6_0); (try clear hfz6_1); (try clear hfz6_2); obtain ⟨x5_1, x104001_1, u104001, rfl, HA, HK1, HO_104001, BK101, BK102, BK103, HB⟩ := hrel; cases gk with
   | zero => exact absurd HA.out (by simp [geyserlaw05_fit.l0])
   | succ k1 =>
    have H := HA.out; clear HA; simp only [geyserlaw05_fit.l0] at H
    by_cases c11 : x5_1 < (l0_1.length : Int)
    ·rw [if_pos c11] at H; have c11b0 : decide (x5_1 < (l0_1.length : Int)) = true := decide_eq_true c11; clear c11; (first | rw [c11b0] | rw [c11b1] | (simp only [i64_w, i32_w]; rw [c11b0]) | skip)
     by_cases c12 : x5_1 < 12
     ·rw [if_pos c12] at H; have c12b0 : decide (x5_1 < 12) = true := decide_eq_true c12; clear c12
      by_cases c13 : 0 ≤ (wrap64 (1 + (wrap64 (Int.tmod (IntKind.u64.wrap (a0_0)) 4))))
      ·rw [if_pos c13] at H; have c13b0 := eq_true c13; have c13b1 : decide (0 ≤ (wrap64 (1 + (wrap64 (Int.tmod (IntKind.u64.wrap (a0_0)) 4))))) = true := decide_eq_true c13
       by_cases c14 : ((wrap64 (1 + (wrap64 (Int.tmod (IntKind.u64.wrap (a0_0)) 4)))) : Int).toNat ≤ 281474976710656
       ·rw [if_pos c14] at H; have c14b0 := eq_true c14; have c14b1 : decide (((wrap64 (1 + (wrap64 (Int.tmod (IntKind.u64.wrap (a0_0)) 4)))) : Int).toNat ≤ 281474976710656) = true := decide_eq_true c14; obtain ⟨y104, hy104⟩ : ∃ y_ : List Int, y_ = (List.replicate ((wrap64 (1 + (wrap64 (Int.tmod (IntKind.u64.wrap (a0_0)) 4)))) : Int).toNat 0) := ⟨_, rfl⟩; replace H : (if 0 ≤ x5_1 then (if x104001_1.length < 5864062014805 then (geyserlaw05_fit.l0 k1 (wrap64 (1 + (wrap64 (Int.tmod (IntKind.u64.wrap (a0_0)) 4)))) (wrap64 (x5_1 + 1)) a0_0 l0_1 l0_2 (wrap64 (1 + (wrap64 (Int.tmod (IntKind.u64.wrap (a0_0)) 4)))) (x104001_1 ++ [(copyL y104 (rd_Lsu8 l0_1 x5_1))])) else (none)) else (none)) = some (r1, r2, r3) := (by first | (rw [hy104]; with_reducible exact H) | (have H2_ := (Option.bind_some _ _).symm.trans H; rw [hy104]; with_reducible exact H2_) | (have H2_ := (Option.bind_some _ _).symm.trans H; with_reducible exact H2_) | with_reducible exact H | (rw [hy104]; exact H) | exact H); have Ny104 := AQ hy104; clear hy104
        by_cases c15 : 0 ≤ x5_1
        ·rw [if_pos c15] at H; have c15b0 : decide (0 ≤ x5_1) = true := decide_eq_true c15; clear c15; obtain ⟨y108, hy108⟩ : ∃ y_ : List Int, y_ = (copyL y104 (rd_Lsu8 l0_1 x5_1)) := ⟨_, rfl⟩; replace H : (if x104001_1.length < 5864062014805 then (geyserlaw05_fit.l0 k1 (wrap64 (1 + (wrap64 (Int.tmod (IntKind.u64.wrap (a0_0)) 4)))) (wrap64 (x5_1 + 1)) a0_0 l0_1 l0_2 (wrap64 (1 + (wrap64 (Int.tmod (IntKind.u64.wrap (a0_0)) 4)))) (x104001_1 ++ [y108])) else (none)) = some (r1, r2, r3) := (by first | (rw [hy108]; with_reducible exact H) | (have H2_ := (Option.bind_some _ _).symm.trans H; rw [hy108]; with_reducible exact H2_) | (have H2_ := (Option.bind_some _ _).symm.trans H; with_reducible exact H2_) | with_reducible exact H | (rw [hy108]; exact H) | exact H); have Ny108 := AQ hy108; clear hy108
         by_cases c16 : x104001_1.length < 5864062014805
         ·rw [if_pos c16] at H; have LMc16 := AQ c16; clear c16; obtain ⟨y109, hy109⟩ : ∃ y_ : List (List Int), y_ = (x104001_1 ++ [y108]) := ⟨_, rfl⟩; replace H : (geyserlaw05_fit.l0 k1 (wrap64 (1 + (wrap64 (Int.tmod (IntKind.u64.wrap (a0_0)) 4)))) (wrap64 (x5_1 + 1)) a0_0 l0_1 l0_2 (wrap64 (1 + (wrap64 (Int.tmod (IntKind.u64.wrap (a0_0)) 4)))) y109) = some (r1, r2, r3) := (by first | (rw [hy109]; with_reducible exact H) | (have H2_ := (Option.bind_some _ _).symm.trans H; rw [hy109]; with_reducible exact H2_) | (have H2_ := (Option.bind_some _ _).symm.trans H; with_reducible exact H2_) | with_reducible exact H | (rw [hy109]; exact H) | exact H); have Ny109 := AQ hy109; clear hy109; have H' := AQ H; clear H; have hnb17 := NB101_102.out; have hnc17 := NB102_101.out; have hnb18 := NB101_103.out; have hnc18 := NB103_101.out; have hcz19_0 : wr.cell? ⟨gb101, 0, none⟩ = some (.int .i64 a0_0) := (blk_cell BK101.out 0).trans rfl; have hcz19_1 : wr.cell? ⟨gb101, 1, none⟩ = some (.slice A0_1 l0_1.length c0_1) := (blk_cell BK101.out 1).trans rfl; have hcz19_2 : wr.cell? ⟨gb101, 2, none⟩ = some (.slice A0_2 l0_2.length c0_2) := (blk_cell BK101.out 2).trans rfl; have hfz19_0 := blk_frozen BK101.out 0; have hfz19_1 := blk_frozen BK101.out 1; have hfz19_2 := blk_frozen BK101.out 2; go_wp2_with (first | ((with_reducible refine gate_dst (N := 28) rfl ?_); refine Kd.R_make (Kd.int .u8) _ 5 rfl (N := 28) rfl 36 _ _ rfl (wrap64 (1 + (wrap64 (Int.tmod (IntKind.u64.wrap (a0_0)) 4)))) rfl rfl Tryd.underlying36 (.int .u8 0) 1 info5 rfl (by decide) (by omega) 0 (ok := fun _ => True) (okp := fun _ => True) rfl (fun _ hk => hk) trivial (PD) (Nat.le_trans (Nat.mul_le_mul_right _ (PD : (wrap64 (1 + (wrap64 (Int.tmod (IntKind.u64.wrap (a0_0)) 4)))).toNat ≤ 281474976710656)) (by omega)) (Below.refl _ _) (Nat.le_refl _) ?_; intro v105 w20 ho21 hb hg_ hnew_; clear hg_ hnew_; (first | rw [← Ny104.out] at ho21 | (simp only [Int.reduceToNat] at ho21; rw [← Ny104.out] at ho21)); have n0_ := AQ (Kd.S_elder' (PS HO_104001) (Kd.R_base ho21) hb); have n1_ := AQ (Kd.R_lower ho21 (below_size (PX HB))); have n2_ := AQ (blk_below (g := gb101) (o := .cells #[.int .i64 a0_0, .slice A0_1 l0_1.length c0_1, .slice A0_2 l0_2.length c0_2] 25 (0, 0)) (PK BK101) hb); have n3_ := AQ (blk_below (g := gb102) (o := .cells #[.int .i64 0, .slice none 0 0, .slice none 0 0] 25 (0, 0)) (PK BK102) hb); have n4_ := AQ (blk_below (g := gb103) (o := .cells #[.int .i64 (wrap64 (1 + (wrap64 (Int.tmod (IntKind.u64.wrap (a0_0)) 4)))), u104001, .slice none 0 0] 25 (0, 0)) (PK BK103) hb); have n5_ := AQ (below_step (PX HB) hb); clear HO_104001; clear BK101; clear BK102; clear BK103; clear HB; have HO_104001 := n0_; have HO106 := n1_; have BK101 := n2_; have BK102 := n3_; have BK103 := n4_; have HB := n5_; clear n0_ n1_ n2_ n3_ n4_ n5_; clear hb ho21; have hcz22_0 : w20.cell? ⟨gb101, 0, none⟩ = some (.int .i64 a0_0) := (blk_cell BK101.out 0).trans rfl; have hcz22_1 : w20.cell? ⟨gb101, 1, none⟩ = some (.slice A0_1 l0_1.length c0_1) := (blk_cell BK101.out 1).trans rfl; have hcz22_2 : w20.cell? ⟨gb101, 2, none⟩ = some (.slice A0_2 l0_2.length c0_2) := (blk_cell BK101.out 2).trans rfl; have hfz22_0 := blk_frozen BK101.out 0; have hfz22_1 := blk_frozen BK101.out 1; have hfz22_2 := blk_frozen BK101.out 2; have p107 : 0 ≤ (x5_1 : Int) := PD; have q107 : x5_1 < (l0_1.length : Int) := PD; obtain ⟨ad107, A107_0, c107_0, e107, hx107_0, hl107_0, hi107_0⟩ := at_Lsu8 HR0_1.out x5_1 p107 q107; cases e107; (first | replace hx107_0 := PH HB hx107_0 | skip); have HR107_0 := AQ hi107_0; have HC107_0 := AQ hl107_0; clear hi107_0 hl107_0; replace p107 := eq_true p107; replace q107 := eq_true q107; obtain ⟨Ao23, co23, eo23⟩ := Kd.R_slice HO106.out; subst eo23) | ((with_reducible refine gate_builtin (b := .copy) (xs := #[.tmp 29, .tmp 34]) rfl ?_); refine R_copy_event (w0 := w) w.heap.size rfl (.tmp 29) (.tmp 34) 36 36 rfl 5 Tryd.underlying36 (by kernel_rfl) (.slice Ao23 y104.length co23) y104 A107_0 _ c107_0 (rd_Lsu8 l0_1 x5_1) (fun _ => True) rfl rfl (PR HO106) ?cS (PX HB) ?_; (case cS => repeat (first | exact (Kd.C_below HR107_0.out HB.out) | (with_reducible refine Kd.C_alloc ?_ _) | (with_reducible refine Kd.C_drewN ?_ _) | (with_reducible refine Kd.C_drew ?_))); intro w25 hp_ hb_ hg; rw [← Ny108.out] at hp_; have hw := True.intro; have n0_ := AQ (Kd.S_after (v := (.slice Ao23 y104.length co23)) (v1 := (.slice Ao23 y104.length co23)) (ok := (fun _ => True)) (PS HO_104001) hg (.inl rfl)); have n1_ := AQ (blk_grown (g := gb101) (o := .cells #[.int .i64 a0_0, .slice (some ad107) l0_1.length c0_1, .slice A0_2 l0_2.length c0_2] 25 (0, 0)) (PK BK101) hg (Kd.R_ne HO106.out BK101.out (by decide))); have n2_ := AQ (blk_grown (g := gb102) (o := .cells #[.int .i64 0, .slice none 0 0, .slice none 0 0] 25 (0, 0)) (PK BK102) hg (Kd.R_ne HO106.out BK102.out (by decide))); have n3_ := AQ (blk_grown (g := gb103) (o := .cells #[.int .i64 (wrap64 (1 + (wrap64 (Int.tmod (IntKind.u64.wrap (a0_0)) 4)))), u104001, .slice none 0 0] 25 (0, 0)) (PK BK103) hg (Kd.R_ne HO106.out BK103.out (by decide))); have n4_ := AQ (hp_); have n5_ := AQ (hb_); clear HO_104001; clear BK101; clear BK102; clear BK103; clear HO106; clear HB; have HO_104001 := n0_; have BK101 := n1_; have BK102 := n2_; have BK103 := n3_; have HO106 := n4_; have HB := n5_; clear n0_ n1_ n2_ n3_ n4_ n5_; clear hg hw hp_ hb_; have hnb26 := NB103_102.out; have hnc26 := NB102_103.out; have hcz27_0 : w25.cell? ⟨gb103, 0, none⟩ = some (.int .i64 (wrap64 (1 + (wrap64 (Int.tmod (IntKind.u64.wrap (a0_0)) 4))))) := (blk_cell BK103.out 0).trans rfl; have hcz27_1 : w25.cell? ⟨gb103, 1, none⟩ = some (u104001) := (blk_cell BK103.out 1).trans rfl; have hcz27_2 : w25.cell? ⟨gb103, 2, none⟩ = some (.slice none 0 0) := (blk_cell BK103.out 2).trans rfl; have hfz27_0 := blk_frozen BK103.out 0; have hfz27_1 := blk_frozen BK103.out 1; have hfz27_2 := blk_frozen BK103.out 2) | ((with_reducible refine gate_builtin (b := .append) (xs := #[.tmp 37, .tmp 39]) rfl ?_); at_builtin; refine Kd.S_append (Kd.slice 5 (Kd.int .u8)) (w0 := w) w.heap.size rfl (.tmp 37) (.tmp 39) 22 36 (.slice none 0 0) 24 rfl Tryd.underlying22 info36 rfl (by decide) (by omega) u104001 x104001_1 y108 [.slice Ao23 y104.length co23] (fun _ => True) (fun k_ => some k_ = (.slice Ao23 y104.length co23 : Value).ownBlock) rfl rfl ?aP (fun k_ hk_ => ((Kd.R_mono (ok' := fun k_ => ((fun _ => True)) k_ ∧ some k_ ≠ (u104001 : Value).ownBlock) (Kd.R_apart' (HO106.out) (Kd.S_typed HO_104001.out) (by decide)) (fun k_ hk => ⟨trivial, hk.2⟩))).1 k_ hk_.symm) ?aF ?aO ?aB ?aS ?aL ?_; (case aP => exact Kd.M_row (Kd.R_mono (Kd.R_tight rfl (Kd.R_mono (ok' := fun k_ => ((fun _ => True)) k_ ∧ some k_ ≠ (u104001 : Value).ownBlock) (Kd.R_apart' (HO106.out) (Kd.S_typed HO_104001.out) (by decide)) (fun k_ hk => ⟨trivial, hk.2⟩))) (fun _ h_ => h_))); (case aB => exact (PX HB)); (case aF => exact (fun _ _ => trivial)); (case aO => exact (by (with_reducible repeat (first | apply Kd.S_alloc | apply Kd.S_drewN | apply Kd.S_drew)); exact Kd.S_mono HO_104001.out (fun k_ hk => ⟨trivial, fun e_ => hk.2 e_⟩))); (case aS => exact (below_size (PX HB))); (case aL => have := LMc16.out; omega); intro v110 w28 ho hb hg hat; rw [← Ny109.out] at ho; have n0_ := AQ (blk_grown (g := gb101) (o := .cells #[.int .i64 a0_0, .slice (some ad107) l0_1.length c0_1, .slice A0_2 l0_2.length c0_2] 25 (0, 0)) (PK BK101) hg (Kd.S_ne HO_104001.out BK101.out (by decide))); have n1_ := AQ (blk_grown (g := gb102) (o := .cells #[.int .i64 0, .slice none 0 0, .slice none 0 0] 25 (0, 0)) (PK BK102) hg (Kd.S_ne HO_104001.out BK102.out (by decide))); have n2_ := AQ (blk_grown (g := gb103) (o := .cells #[.int .i64 (wrap64 (1 + (wrap64 (Int.tmod (IntKind.u64.wrap (a0_0)) 4)))), u104001, .slice none 0 0] 25 (0, 0)) (PK BK103) hg (Kd.S_ne HO_104001.out BK103.out (by decide))); have n3_ := AQ (hb); have n4_ := AQ (ho); clear BK101; clear BK102; clear BK103; clear HB; clear HO_104001; clear HO106; have BK101 := n0_; have BK102 := n1_; have BK103 := n2_; have HB := n3_; have HO111 := n4_; clear n0_ n1_ n2_ n3_ n4_; clear ho hb hg hat; obtain ⟨Ao29, co29, eo29⟩ := Kd.S_slice HO111.out; subst eo29; have hcz30_0 : w28.cell? ⟨gb103, 0, none⟩ = some (.int .i64 (wrap64 (1 + (wrap64 (Int.tmod (IntKind.u64.wrap (a0_0)) 4))))) := (blk_cell BK103.out 0).trans rfl; have hcz30_1 : w28.cell? ⟨gb103, 1, none⟩ = some (u104001) := (blk_cell BK103.out 1).trans rfl; have hcz30_2 : w28.cell? ⟨gb103, 2, none⟩ = some (.slice none 0 0) := (blk_cell BK103.out 2).trans rfl; have hfz30_0 := blk_frozen BK103.out 0; have hfz30_1 := blk_frozen BK103.out 1; have hfz30_2 := blk_frozen BK103.out 2)); go_roundg k1
          case measure => have := HK1.out; omega
          case rel => exact ⟨(wrap64 (x5_1 + 1)), (y109), (.slice Ao29 y109.length co29), (by first | rfl | (simp; done) | (simp [*]; done)), H', ⟨by have := HK1.out; omega⟩, ⟨by (with_reducible repeat (first | apply Kd.S_alloc | apply Kd.S_drewN | apply Kd.S_drew)); exact Kd.S_mono (Kd.S_far (p := ⟨gb103, 1, none⟩) (Kd.S_types HO111.out BK103.out (by decide)) (fun _ hk => hk.2) (.slice Ao29 y109.length co29)) (fun _ hk => trivial)⟩, ⟨by (with_reducible repeat (first | refine blk_drewN ?_ _ | refine blk_drew ?_ | refine blk_alloc ?_ _)); refine blk_far ?_ NB101_103.out _; (with_reducible repeat (first | refine blk_drewN ?_ _ | refine blk_drew ?_ | refine blk_alloc ?_ _)); exact BK101.out⟩, ⟨by (with_reducible repeat (first | refine blk_drewN ?_ _ | refine blk_drew ?_ | refine blk_alloc ?_ _)); refine blk_far ?_ NB102_103.out _; (with_reducible repeat (first | refine blk_drewN ?_ _ | refine blk_drew ?_ | refine blk_alloc ?_ _)); exact BK102.out⟩, ⟨by (with_reducible repeat (first | refine blk_drewN ?_ _ | refine blk_drew ?_ | refine blk_alloc ?_ _)); refine blk_put (cs := #[.int .i64 (wrap64 (1 + (wrap64 (Int.tmod (IntKind.u64.wrap (a0_0)) 4)))), u104001, .slice none 0 0]) ?_ 1 _ rfl; (with_reducible repeat (first | refine blk_drewN ?_ _ | refine blk_drew ?_ | refine blk_alloc ?_ _)); exact BK103.out⟩, ⟨PX HB⟩⟩
         ·rw [if_neg c16] at H; exact absurd H (by simp)
        ·rw [if_neg c15] at H; exact absurd H (by simp)
       ·rw [if_neg c14] at H; exact absurd H (by simp)
      ·rw [if_neg c13] at H; exact absurd H (by simp)
     ·rw [if_neg c12] at H; have c12b0 : decide (x5_1 < 12) = false := decide_eq_false c12; clear c12; have H' := AQ H; clear H; have hnb31 := NB101_102.out; have hnc31 := NB102_101.out; have hnb32 := NB101_103.out; have hnc32 := NB103_101.out; have hcz33_0 : wr.cell? ⟨gb101, 0, none⟩ = some (.int .i64 a0_0) := (blk_cell BK101.out 0).trans rfl; have hcz33_1 : wr.cell? ⟨gb101, 1, none⟩ = some (.slice A0_1 l0_1.length c0_1) := (blk_cell BK101.out 1).trans rfl; have hcz33_2 : wr.cell? ⟨gb101, 2, none⟩ = some (.slice A0_2 l0_2.length c0_2) := (blk_cell BK101.out 2).trans rfl; have hfz33_0 := blk_frozen BK101.out 0; have hfz33_1 := blk_frozen BK101.out 1; have hfz33_2 := blk_frozen BK101.out 2; go_wp2; go_meet
      case rel => exact ⟨_, (x104001_1), (u104001), H', ⟨by have := HK1.out; first | omega | exact Nat.le_refl _⟩, ⟨PS HO_104001⟩, ⟨PK BK101⟩, ⟨PK BK102⟩, ⟨PK BK103⟩, ⟨PX HB⟩⟩
    ·rw [if_neg c11] at H; have c11b0 : decide (x5_1 < (l0_1.length : Int)) = false := decide_eq_false c11; clear c11; (first | rw [c11b0] | rw [c11b1] | (simp only [i64_w, i32_w]; rw [c11b0]) | skip); have H' := AQ H; clear H; have hnb34 := NB101_102.out; have hnc34 := NB102_101.out; have hnb35 := NB101_103.out; have hnc35 := NB103_101.out; have hcz36_0 : wr.cell? ⟨gb101, 0, none⟩ = some (.int .i64 a0_0) := (blk_cell BK101.out 0).trans rfl; have hcz36_1 : wr.cell? ⟨gb101, 1, none⟩ = some (.slice A0_1 l0_1.length c0_1) := (blk_cell BK101.out 1).trans rfl; have hcz36_2 : wr.cell? ⟨gb101, 2, none⟩ = some (.slice A0_2 l0_2.length c0_2) := (blk_cell BK101.out 2).trans rfl; have hfz36_0 := blk_frozen BK101.out 0; have hfz36_1 := blk_frozen BK101.out 1; have hfz36_2 := blk_frozen BK101.out 2; go_wp2; go_meet
     case rel => exact ⟨_, (x104001_1), (u104001), H', ⟨by have := HK1.out; first | omega | exact Nat.le_refl _⟩, ⟨PS HO_104001⟩, ⟨PK BK101⟩, ⟨PK BK102⟩, ⟨PK BK103⟩, ⟨PX HB⟩⟩
 case rest =>
  clear HC2; (try clear c1); (try clear p1); (try clear q1); (try clear hx1); (try clear c2); (try clear p2); (try clear c3); (try clear c5); (try clear p6); (try clear c8); (try clear c9); (try clear c10); (try clear p10); (try clear q10); (try clear hx10); (try clear c11); (try clear c11b0); (try clear c11b1); (try clear c12); (try clear c12b0); (try clear c13); (try clear c13b0); (try clear c13b1); (try clear c14); (try clear c14b0); (try clear c14b1); (try clear c15); (try clear c15b0); (try clear c16); (try clear c17); (try clear c18); (try clear c26); (try clear c31); (try clear c32); (try clear c34); (try clear c35); (try clear hcz10_0); (try clear hcz10_1); (try clear hcz10_2); (try clear hcz19_0); (try clear hcz19_1); (try clear hcz19_2); (try clear hcz22_0); (try clear hcz22_1); (try clear hcz22_2); (try clear hcz27_0); (try clear hcz27_1); (try clear hcz27_2); (try clear hcz30_0); (try clear hcz30_1); (try clear hcz30_2); (try clear hcz33_0); (try clear hcz33_1); (try clear hcz33_2); (try clear hcz36_0); (try clear hcz36_1); (try clear hcz36_2); (try clear hcz6_0); (try clear hcz6_1); (try clear hcz6_2); (try clear hfz10_0); (try clear hfz10_1); (try clear hfz10_2); (try clear hfz19_0); (try clear hfz19_1); (try clear hfz19_2); (try clear hfz22_0); (try clear hfz22_1); (try clear hfz22_2); (try clear hfz27_0); (try clear hfz27_1); (try clear hfz27_2); (try clear hfz30_0); (try clear hfz30_1); (try clear hfz30_2); (try clear hfz33_0); (try clear hfz33_1); (try clear hfz33_2); (try clear hfz36_0); (try clear hfz36_1); (try clear hfz36_2); (try clear hfz6_0); (try clear hfz6_1); (try clear hfz6_2); (try clear hx107_0); (try clear p107); (try clear p2); (try clear p6); (try clear q107); obtain ⟨kq, x104001_1, u104001, HA, HJ1, HO_104001, BK101, BK102, BK103, HB⟩ := hcut; cases kq with
  | zero => exact absurd HA.out (by simp [geyserlaw05_fit.j1])
  | succ kj1 =>
   have H := HA.out; clear HA; simp only [geyserlaw05_fit.j1] at H; have HC37 := AQ H; clear H; have hnb38 := NB103_101.out; have hnc38 := NB101_103.out; have hnb39 := NB103_102.out; have hnc39 := NB102_103.out; have hcz40_0 : wc.cell? ⟨gb103, 0, none⟩ = some (.int .i64 (wrap64 (1 + (wrap64 (Int.tmod (IntKind.u64.wrap (a0_0)) 4))))) := (blk_cell BK103.out 0).trans rfl; have hcz40_1 : wc.cell? ⟨gb103, 1, none⟩ = some (u104001) := (blk_cell BK103.out 1).trans rfl; have hcz40_2 : wc.cell? ⟨gb103, 2, none⟩ = some (.slice none 0 0) := (blk_cell BK103.out 2).trans rfl; have hfz40_0 := blk_frozen BK103.out 0; have hfz40_1 := blk_frozen BK103.out 1; have hfz40_2 := blk_frozen BK103.out 2; obtain ⟨Ao41, co41, eo41⟩ := Kd.S_slice HO_104001.out; subst eo41; go_upto_if 45 with (fail); go_cut [] (fun wc => ∃ (kq : Nat) (x104001_36 : List (List Int)) (u104001 : Value), Aside0 (geyserlaw05_fit.j2 kq a0_0 l0_1 l0_2 (wrap64 (1 + (wrap64 (Int.tmod (IntKind.u64.wrap (a0_0)) 4)))) x104001_36 = some (r1, r2, r3)) ∧ Aside0 (kq ≤ kj1) ∧ Aside0 (Kd.S (Kd.slice 5 (Kd.int .u8)) 36 wc w.heap.size (fun _ => True) u104001 x104001_36) ∧ Aside0 (wc.heap[gb101]? = some (.cells #[.int .i64 a0_0, (.slice A0_1 l0_1.length c0_1), (.slice A0_2 l0_2.length c0_2)] 25 (0, 0))) ∧ Aside0 (wc.heap[gb102]? = some (.cells #[.int .i64 0, (.slice none 0 0), (.slice none 0 0)] 25 (0, 0))) ∧ Aside0 (wc.heap[gb103]? = some (.cells #[.int .i64 (wrap64 (1 + (wrap64 (Int.tmod (IntKind.u64.wrap (a0_0)) 4)))), u104001, (.slice none 0 0)] 25 (0, 0))) ∧ Aside0 (Below w.heap.size w wc))
   case first =>
    have H := HC37.out; clear HC37
    by_cases c42 : (x104001_1.length : Int) = 0
    ·rw [if_pos c42] at H; have c42b0 : ((x104001_1.length : Int) == 0) = true := beq_iff_eq.mpr c42; have c42b1 : ((x104001_1.length : Int) != 0) = false := bne_eq_false_iff_eq.mpr c42; clear c42; (first | rw [c42b0] | rw [c42b1] | (simp only [i64_w, i32_w]; rw [c42b0]) | skip)
     by_cases c43 : 0 ≤ (wrap64 (1 + (wrap64 (Int.tmod (IntKind.u64.wrap (a0_0)) 4))))
     ·rw [if_pos c43] at H; have c43b0 := eq_true c43; have c43b1 : decide (0 ≤ (wrap64 (1 + (wrap64 (Int.tmod (IntKind.u64.wrap (a0_0)) 4))))) = true := decide_eq_true c43
      by_cases c44 : ((wrap64 (1 + (wrap64 (Int.tmod (IntKind.u64.wrap (a0_0)) 4)))) : Int).toNat ≤ 281474976710656
      ·rw [if_pos c44] at H; have c44b0 := eq_true c44; have c44b1 : decide (((wrap64 (1 + (wrap64 (Int.tmod (IntKind.u64.wrap (a0_0)) 4)))) : Int).toNat ≤ 281474976710656) = true := decide_eq_true c44; obtain ⟨y112, hy112⟩ : ∃ y_ : List Int, y_ = (List.replicate ((wrap64 (1 + (wrap64 (Int.tmod (IntKind.u64.wrap (a0_0)) 4)))) : Int).toNat 0) := ⟨_, rfl⟩; replace H : (geyserlaw05_fit.j2 kj1 a0_0 l0_1 l0_2 (wrap64 (1 + (wrap64 (Int.tmod (IntKind.u64.wrap (a0_0)) 4)))) (([y112] : List (List Int)))) = some (r1, r2, r3) := (by first | (rw [hy112]; with_reducible exact H) | (have H2_ := (Option.bind_some _ _).symm.trans H; rw [hy112]; with_reducible exact H2_) | (have H2_ := (Option.bind_some _ _).symm.trans H; with_reducible exact H2_) | with_reducible exact H | (rw [hy112]; exact H) | exact H); have Ny112 := AQ hy112; clear hy112; obtain ⟨y115, hy115⟩ : ∃ y_ : List (List Int), y_ = (([y112] : List (List Int))) := ⟨_, rfl⟩; replace H : (geyserlaw05_fit.j2 kj1 a0_0 l0_1 l0_2 (wrap64 (1 + (wrap64 (Int.tmod (IntKind.u64.wrap (a0_0)) 4)))) y115) = some (r1, r2, r3) := (by first | (rw [hy115]; with_reducible exact H) | (have H2_ := (Option.bind_some _ _).symm.trans H; rw [hy115]; with_reducible exact H2_) | (have H2_ := (Option.bind_some _ _).symm.trans H; with_reducible exact H2_) | with_reducible exact H | (rw [hy115]; exact H) | exact H); have Ny115 := AQ hy115; clear hy115; have H' := AQ H; clear H; go_wp2_with (first | ((with_reducible refine gate_dst (N := 47) rfl ?_); refine Kd.R_make (Kd.int .u8) _ 5 rfl (N := 47) rfl 36 _ _ rfl (wrap64 (1 + (wrap64 (Int.tmod (IntKind.u64.wrap (a0_0)) 4)))) rfl rfl Tryd.underlying36 (.int .u8 0) 1 info5 rfl (by decide) (by omega) 0 (ok := fun _ => True) (okp := fun _ => True) rfl (fun _ hk => hk) trivial (PD) (Nat.le_trans (Nat.mul_le_mul_right _ (PD : (wrap64 (1 + (wrap64 (Int.tmod (IntKind.u64.wrap (a0_0)) 4)))).toNat ≤ 281474976710656)) (by omega)) (Below.refl _ _) (Nat.le_refl _) ?_; intro v113 w45 ho46 hb hg_ hnew_; clear hg_ hnew_; (first | rw [← Ny112.out] at ho46 | (simp only [Int.reduceToNat] at ho46; rw [← Ny112.out] at ho46)); have n0_ := AQ (Kd.S_elder' (PS HO_104001) (Kd.R_base ho46) hb); have n1_ := AQ (Kd.R_lower ho46 (below_size (PX HB))); have n2_ := AQ (blk_below (g := gb101) (o := .cells #[.int .i64 a0_0, .slice A0_1 l0_1.length c0_1, .slice A0_2 l0_2.length c0_2] 25 (0, 0)) (PK BK101) hb); have n3_ := AQ (blk_below (g := gb102) (o := .cells #[.int .i64 0, .slice none 0 0, .slice none 0 0] 25 (0, 0)) (PK BK102) hb); have n4_ := AQ (blk_below (g := gb103) (o := .cells #[.int .i64 (wrap64 (1 + (wrap64 (Int.tmod (IntKind.u64.wrap (a0_0)) 4)))), .slice Ao41 x104001_1.length co41, .slice none 0 0] 25 (0, 0)) (PK BK103) hb); have n5_ := AQ (below_step (PX HB) hb); clear HO_104001; clear BK101; clear BK102; clear BK103; clear HB; have HO_104001 := n0_; have HO114 := n1_; have BK101 := n2_; have BK102 := n3_; have BK103 := n4_; have HB := n5_; clear n0_ n1_ n2_ n3_ n4_ n5_; clear hb ho46; obtain ⟨Ao47, co47, eo47⟩ := Kd.R_slice HO114.out; subst eo47) | ((with_reducible refine gate_dst (N := 48) rfl ?_); refine Kd.S_lit1 (Kd.int .u8) 36 5 w.heap.size ?hg (N := 48) ?hd (x := y112) (v := (.slice Ao47 y112.length co47)) (ok := (fun k_ => some k_ ≠ (.slice Ao41 x104001_1.length co41 : Value).ownBlock)) (okp := (fun k_ => some k_ ≠ (.slice Ao41 x104001_1.length co41 : Value).ownBlock)) ?hr ?hp ?h1 ?h2 ?h3 ?_; (case hd => rfl); (case hg => rfl); (case hr => first | (go_simp; done) | (go_simp; rfl)); (case hp => (with_reducible repeat (first | apply Kd.R_alloc | apply Kd.R_drewN | apply Kd.R_drew)); exact Kd.R_mono (Kd.R_apart' HO114.out (Kd.S_typed HO_104001.out) (by decide)) (fun k_ hk_ => hk_.2)); (case h1 => exact (fun _ hk => hk)); (case h2 => exact (Kd.fresh' (Kd.S_lt (PS HO_104001)) _ (Nat.le_refl _))); (case h3 => exact (below_size (PX HB))); intro v116 w48 ho49 hfr_ hb; rw [← Ny115.out] at ho49; have n0_ := AQ (Kd.S_elder' (PS HO_104001) hfr_ hb); have n1_ := AQ (ho49); have n2_ := AQ (blk_below (g := gb101) (o := .cells #[.int .i64 a0_0, .slice A0_1 l0_1.length c0_1, .slice A0_2 l0_2.length c0_2] 25 (0, 0)) (PK BK101) hb); have n3_ := AQ (blk_below (g := gb102) (o := .cells #[.int .i64 0, .slice none 0 0, .slice none 0 0] 25 (0, 0)) (PK BK102) hb); have n4_ := AQ (blk_below (g := gb103) (o := .cells #[.int .i64 (wrap64 (1 + (wrap64 (Int.tmod (IntKind.u64.wrap (a0_0)) 4)))), .slice Ao41 x104001_1.length co41, .slice none 0 0] 25 (0, 0)) (PK BK103) hb); have n5_ := AQ (below_step (PX HB) hb); clear HO_104001; clear BK101; clear BK102; clear BK103; clear HB; clear HO114; have HO_104001 := n0_; have HO117 := n1_; have BK101 := n2_; have BK102 := n3_; have BK103 := n4_; have HB := n5_; clear n0_ n1_ n2_ n3_ n4_ n5_; clear hb hfr_ ho49; obtain ⟨Ao50, co50, eo50⟩ := Kd.S_slice HO117.out; subst eo50; have hnb51 := NB103_101.out; have hnc51 := NB101_103.out; have hnb52 := NB103_102.out; have hnc52 := NB102_103.out; have hcz53_0 : w48.cell? ⟨gb103, 0, none⟩ = some (.int .i64 (wrap64 (1 + (wrap64 (Int.tmod (IntKind.u64.wrap (a0_0)) 4))))) := (blk_cell BK103.out 0).trans rfl; have hcz53_1 : w48.cell? ⟨gb103, 1, none⟩ = some (.slice Ao41 x104001_1.length co41) := (blk_cell BK103.out 1).trans rfl; have hcz53_2 : w48.cell? ⟨gb103, 2, none⟩ = some (.slice none 0 0) := (blk_cell BK103.out 2).trans rfl; have hfz53_0 := blk_frozen BK103.out 0; have hfz53_1 := blk_frozen BK103.out 1; have hfz53_2 := blk_frozen BK103.out 2)); go_meet
       case rel => exact ⟨_, (y115), (.slice Ao50 y115.length co50), H', ⟨by have := HJ1.out; first | omega | exact Nat.le_refl _⟩, ⟨by (with_reducible repeat (first | apply Kd.S_alloc | apply Kd.S_drewN | apply Kd.S_drew)); exact Kd.S_mono (Kd.S_far (p := ⟨gb103, 1, none⟩) (Kd.S_types HO117.out BK103.out (by decide)) (fun _ hk => hk.2) (.slice Ao50 y115.length co50)) (fun _ hk => trivial)⟩, ⟨by (with_reducible repeat (first | refine blk_drewN ?_ _ | refine blk_drew ?_ | refine blk_alloc ?_ _)); refine blk_far ?_ NB101_103.out _; (with_reducible repeat (first | refine blk_drewN ?_ _ | refine blk_drew ?_ | refine blk_alloc ?_ _)); exact BK101.out⟩, ⟨by (with_reducible repeat (first | refine blk_drewN ?_ _ | refine blk_drew ?_ | refine blk_alloc ?_ _)); refine blk_far ?_ NB102_103.out _; (with_reducible repeat (first | refine blk_drewN ?_ _ | refine blk_drew ?_ | refine blk_alloc ?_ _)); exact BK102.out⟩, ⟨by (with_reducible repeat (first | refine blk_drewN ?_ _ | refine blk_drew ?_ | refine blk_alloc ?_ _)); refine blk_put (cs := #[.int .i64 (wrap64 (1 + (wrap64 (Int.tmod (IntKind.u64.wrap (a0_0)) 4)))), .slice Ao41 x104001_1.length co41, .slice none 0 0]) ?_ 1 _ rfl; (with_reducible repeat (first | refine blk_drewN ?_ _ | refine blk_drew ?_ | refine blk_alloc ?_ _)); exact BK103.out⟩, ⟨PX HB⟩⟩
      ·rw [if_neg c44] at H; exact absurd H (by simp)
     ·rw [if_neg c43] at H; exact absurd H (by simp)
    ·rw [if_neg c42] at H; have c42b0 : ((x104001_1.length : Int) == 0) = false := beq_eq_false_iff_ne.mpr c42; have c42b1 : ((x104001_1.length : Int) != 0) = true := bne_iff_ne.mpr c42; have c42b2 : ¬ (x104001_1 = []) := fun h_ => c42 (by rw [h_]; rfl)
     (first | rw [c42b0] | rw [c42b1] | (simp only [i64_w, i32_w]; rw [c42b0]) | skip); have H' := AQ H; clear H; go_wp2; go_meet
     case rel => exact ⟨_, (x104001_1), (.slice Ao41 x104001_1.length co41), H', ⟨by have := HJ1.out; first | omega | exact Nat.le_refl _⟩, ⟨PS HO_104001⟩, ⟨PK BK101⟩, ⟨PK BK102⟩, ⟨PK BK103⟩, ⟨PX HB⟩⟩
   case rest =>
    clear HC37; (try clear c1); (try clear p1); (try clear q1); (try clear hx1); (try clear c2); (try clear p2); (try clear c3); (try clear c4); (try clear c5); (try clear p6); (try clear c8); (try clear c9); (try clear c10); (try clear p10); (try clear q10); (try clear hx10); (try clear c11); (try clear c11b0); (try clear c11b1); (try clear c12); (try clear c12b0); (try clear c13); (try clear c13b0); (try clear c13b1); (try clear c14); (try clear c14b0); (try clear c14b1); (try clear c15); (try clear c15b0); (try clear c16); (try clear c17); (try clear c18); (try clear c26); (try clear c31); (try clear c32); (try clear c34); (try clear c35); (try clear c38); (try clear c39); (try clear c42); (try clear c42b0); (try clear c42b1); (try clear c42b2); (try clear c43); (try clear c43b0); (try clear c43b1); (try clear c44); (try clear c44b0); (try clear c44b1); (try clear c51); (try clear c52); (try clear hcz10_0); (try clear hcz10_1); (try clear hcz10_2); (try clear hcz19_0); (try clear hcz19_1); (try clear hcz19_2); (try clear hcz22_0); (try clear hcz22_1); (try clear hcz22_2); (try clear hcz27_0); (try clear hcz27_1); (try clear hcz27_2); (try clear hcz30_0); (try clear hcz30_1); (try clear hcz30_2); (try clear hcz33_0); (try clear hcz33_1); (try clear hcz33_2); (try clear hcz36_0); (try clear hcz36_1); (try clear hcz36_2); (try clear hcz40_0); (try clear hcz40_1); (try clear hcz40_2); (try clear hcz53_0); (try clear hcz53_1); (try clear hcz53_2); (try clear hcz6_0); (try clear hcz6_1); (try clear hcz6_2); (try clear hfz10_0); (try clear hfz10_1); (try clear hfz10_2); (try clear hfz19_0); (try clear hfz19_1); (try clear hfz19_2); (try clear hfz22_0); (try clear hfz22_1); (try clear hfz22_2); (try clear hfz27_0); (try clear hfz27_1); (try clear hfz27_2); (try clear hfz30_0); (try clear hfz30_1); (try clear hfz30_2); (try clear hfz33_0); (try clear hfz33_1); (try clear hfz33_2); (try clear hfz36_0); (try clear hfz36_1); (try clear hfz36_2); (try clear hfz40_0); (try clear hfz40_1); (try clear hfz40_2); (try clear hfz53_0); (try clear hfz53_1); (try clear hfz53_2); (try clear hfz6_0); (try clear hfz6_1); (try clear hfz6_2); (try clear hx107_0); (try clear p1); (try clear p10); (try clear p107); (try clear p2); (try clear p6); (try clear q1); (try clear q10); (try clear q107); obtain ⟨kq, x104001_36, u104001, HA, HJ36, HO_104001, BK101, BK102, BK103, HB⟩ := hcut; cases kq with
    | zero => exact absurd HA.out (by simp [geyserlaw05_fit.j2])
    | succ kj36 =>
     have H := HA.out; clear HA; simp only [geyserlaw05_fit.j2] at H; have H' := AQ H; clear H; go_wp2; go_loopg [7] kj36 (fun kq v7 w' => ∃ (x7_3 : Int) (x104002_3 : List Int) (u104002 : Value), v7 = .int .i64 x7_3 ∧ Aside0 (geyserlaw05_fit.l1 kq x7_3 a0_0 l0_1 l0_2 (wrap64 (1 + (wrap64 (Int.tmod (IntKind.u64.wrap (a0_0)) 4)))) x104001_36 x104002_3 = some (r1, r2, r3)) ∧ Aside0 (kq ≤ kj36) ∧ Aside0 (Kd.S (Kd.slice 5 (Kd.int .u8)) 36 w' w.heap.size (fun _ => True) u104001 x104001_36) ∧ Aside0 (Kd.R (Kd.int .u64) 35 w' w.heap.size (fun _ => True) u104002 x104002_3) ∧ Aside0 (w'.heap[gb101]? = some (.cells #[.int .i64 a0_0, (.slice A0_1 l0_1.length c0_1), (.slice A0_2 l0_2.length c0_2)] 25 (0, 0))) ∧ Aside0 (w'.heap[gb102]? = some (.cells #[.int .i64 0, (.slice none 0 0), (.slice none 0 0)] 25 (0, 0))) ∧ Aside0 (w'.heap[gb103]? = some (.cells #[.int .i64 (wrap64 (1 + (wrap64 (Int.tmod (IntKind.u64.wrap (a0_0)) 4)))), u104001, u104002] 25 (0, 0))) ∧ Aside0 (Below w.heap.size w w'))
     case atStart => exact ⟨(0), (([] : List Int)), (.slice none 0 0), (by first | rfl | (simp; done) | (simp [*]; done)), H', ⟨Nat.le_refl _⟩, ⟨PS HO_104001⟩, ⟨by first | exact Kd.R_nil _ _ _ _ _ | exact Kd.N_nil _ _ _ _ _ | exact Kd.V_nil _ _ _ _ _ | exact Kd.Q_nil _ _ _ _ _ | exact Kd.S_nil _ _ _ _ _⟩, ⟨PK BK101⟩, ⟨PK BK102⟩, ⟨PK BK103⟩, ⟨PX HB⟩⟩
     case round =>
      clear H'; (try clear c1); (try clear p1); (try clear q1); (try clear hx1); (try clear c2); (try clear p2); (try clear c3); (try clear c4); (try clear c5); (try clear p6); (try clear c8); (try clear c9); (try clear c10); (try clear p10); (try clear q10); (try clear hx10); (try clear c11); (try clear c11b0); (try clear c11b1); (try clear c12); (try clear c12b0); (try clear c13); (try clear c13b0); (try clear c13b1); (try clear c14); (try clear c14b0); (try clear c14b1); (try clear c15); (try clear c15b0); (try clear c16); (try clear c17); (try clear c18); (try clear c26); (try clear c31); (try clear c32); (try clear c34); (try clear c35); (try clear c38); (try clear c39); (try clear c42); (try clear c42b0); (try clear c42b1); (try clear c42b2); (try clear c43); (try clear c43b0); (try clear c43b1); (try clear c44); (try clear c44b0); (try clear c44b1); (try clear c51); (try clear c52); (try clear hcz10_0); (try clear hcz10_1); (try clear hcz10_2); (try clear hcz19_0); (try clear hcz19_1); (try clear hcz19_2); (try clear hcz22_0); (try clear hcz22_1); (try clear hcz22_2); (try clear hcz27_0); (try clear hcz27_1); (try clear hcz27_2); (try clear hcz30_0); (try clear hcz30_1); (try clear hcz30_2); (try clear hcz33_0); (try clear hcz33_1); (try clear hcz33_2); (try clear hcz36_0); (try clear hcz36_1); (try clear hcz36_2); (try clear hcz40_0); (try clear hcz40_1); (try clear hcz40_2); (try clear hcz53_0); (try clear hcz53_1); (try clear hcz53_2); (try clear hcz6_0); (try clear hcz6_1); (try clear hcz6_2); (try clear hfz10_0); (try clear hfz10_1); (try clear hfz10_2); (try clear hfz19_0); (try clear hfz19_1); (try clear hfz19_2); (try clear hfz22_0); (try clear hfz22_1); (try clear hfz22_2); (try clear hfz27_0); (try clear hfz27_1); (try clear hfz27_2); (try clear hfz30_0); (try clear hfz30_1); (try clear hfz30_2); (try clear hfz33_0); (try clear hfz33_1); (try clear hfz33_2); (try clear hfz36_0); (try clear hfz36_1); (try clear hfz36_2); (try clear hfz40_0); (try clear hfz40_1); (try clear hfz40_2); (try clear hfz53_0); (try clear hfz53_1); (try clear hfz53_2); (try clear hfz6_0); (try clear hfz6_1); (try clear hfz6_2); (try clear hx107_0); (try clear p1); (try clear p10); (try clear p107); (try clear p2); (try clear p6); (try clear q1); (try clear q10); (try clear q107); obtain ⟨x7_3, x104002_3, u104002, rfl, HA, HK3, HO_104001, HO_104002, BK101, BK102, BK103, HB⟩ := hrel; cases gk with
      | zero => exact absurd HA.out (by simp [geyserlaw05_fit.l1])
      | succ k3 =>
       have H := HA.out; clear HA; simp only [geyserlaw05_fit.l1] at H
       by_cases c54 : x7_3 < (l0_2.length : Int)
       ·rw [if_pos c54] at H; have c54b0 : decide (x7_3 < (l0_2.length : Int)) = true := decide_eq_true c54; clear c54
        by_cases c55 : x7_3 < 24
        ·rw [if_pos c55] at H; have c55b0 : decide (x7_3 < 24) = true := decide_eq_true c55; clear c55
         by_cases c56 : 0 ≤ x7_3
         ·rw [if_pos c56] at H; have c56b0 : decide (0 ≤ x7_3) = true := decide_eq_true c56; clear c56
          by_cases c57 : 0 ≤ (IntKind.u64.wrap ((x104001_36.length : Int)))
          ·rw [if_pos c57] at H; have c57b0 := eq_true c57; have c57b1 : decide (0 ≤ (IntKind.u64.wrap ((x104001_36.length : Int)))) = true := decide_eq_true c57; clear c57; obtain ⟨ji58, hji58⟩ : ∃ j_ : Int, (shl .u64 1 (IntKind.u64.wrap ((x104001_36.length : Int)))) = j_ := ⟨_, rfl⟩; replace H : (if x104002_3.length < 17592186044416 then (geyserlaw05_fit.l1 k3 (wrap64 (x7_3 + 1)) a0_0 l0_1 l0_2 (wrap64 (1 + (wrap64 (Int.tmod (IntKind.u64.wrap (a0_0)) 4)))) x104001_36 (x104002_3 ++ [Go.bits .and .u64 (rd l0_2 x7_3) (IntKind.u64.wrap ((ji58) - 1))])) else (none)) = some (r1, r2, r3) := (by first | (rw [hji58] at H; exact H) | (simp only [hji58] at H ⊢; exact H)); have hji58_ : (IntKind.u64.wrap (1 * 2 ^ min (IntKind.u64.wrap ((x104001_36.length : Int))).toNat 64)) = ji58 := hji58; have hji58z : (IntKind.u64.wrap ((x104001_36.length : Int))) ≤ 64 → (IntKind.u64.wrap (1 * 2 ^ (IntKind.u64.wrap ((x104001_36.length : Int))).toNat)) = ji58 := shl_small hji58; have hji58u : (IntKind.u64.wrap (2 ^ min (IntKind.u64.wrap ((x104001_36.length : Int))).toNat 64)) = ji58 := (by have h_ := hji58_; rw [Int.one_mul] at h_; exact h_); have hji58v : (IntKind.u64.wrap ((x104001_36.length : Int))) ≤ 64 → (IntKind.u64.wrap (2 ^ (IntKind.u64.wrap ((x104001_36.length : Int))).toNat)) = ji58 := fun hle_ => by have h_ := hji58z hle_; rw [Int.one_mul] at h_; exact h_
           by_cases c59 : x104002_3.length < 17592186044416
           ·rw [if_pos c59] at H; have LMc59 := AQ c59; clear c59; obtain ⟨y119, hy119⟩ : ∃ y_ : List Int, y_ = (x104002_3 ++ [Go.bits .and .u64 (rd l0_2 x7_3) (IntKind.u64.wrap ((ji58) - 1))]) := ⟨_, rfl⟩; replace H : (geyserlaw05_fit.l1 k3 (wrap64 (x7_3 + 1)) a0_0 l0_1 l0_2 (wrap64 (1 + (wrap64 (Int.tmod (IntKind.u64.wrap (a0_0)) 4)))) x104001_36 y119) = some (r1, r2, r3) := (by first | (rw [hy119]; with_reducible exact H) | (have H2_ := (Option.bind_some _ _).symm.trans H; rw [hy119]; with_reducible exact H2_) | (have H2_ := (Option.bind_some _ _).symm.trans H; with_reducible exact H2_) | with_reducible exact H | (rw [hy119]; exact H) | exact H); have Ny119 := AQ hy119; clear hy119; have H' := AQ H; clear H; have hnb60 := NB101_102.out; have hnc60 := NB102_101.out; have hnb61 := NB101_103.out; have hnc61 := NB103_101.out; have hcz62_0 : wr.cell? ⟨gb101, 0, none⟩ = some (.int .i64 a0_0) := (blk_cell BK101.out 0).trans rfl; have hcz62_1 : wr.cell? ⟨gb101, 1, none⟩ = some (.slice A0_1 l0_1.length c0_1) := (blk_cell BK101.out 1).trans rfl; have hcz62_2 : wr.cell? ⟨gb101, 2, none⟩ = some (.slice A0_2 l0_2.length c0_2) := (blk_cell BK101.out 2).trans rfl; have hfz62_0 := blk_frozen BK101.out 0; have hfz62_1 := blk_frozen BK101.out 1; have hfz62_2 := blk_frozen BK101.out 2; (try go_wp2); have n0_ := AQ (Kd.S_drew HO_104001.out); have n1_ := AQ (Kd.R_drew HO_104002.out); have n2_ := AQ (blk_drew BK101.out); have n3_ := AQ (blk_drew BK102.out); have n4_ := AQ (blk_drew BK103.out); have n5_ := AQ (below_drew1 HB.out); clear HO_104001; clear HO_104002; clear BK101; clear BK102; clear BK103; clear HB; have HO_104001 := n0_; have HO_104002 := n1_; have BK101 := n2_; have BK102 := n3_; have BK103 := n4_; have HB := n5_; clear n0_ n1_ n2_ n3_ n4_ n5_; have p118 : 0 ≤ (x7_3 : Int) := PD; have q118 : x7_3 < (l0_2.length : Int) := PD; obtain ⟨ad118, e118, hx118_0⟩ := Kd.at_int HR0_2.out x7_3 p118 q118; have hw118_0 := hx118_0; cases e118; (first | replace hx118_0 := PH HB hx118_0 | skip); replace p118 := eq_true p118; replace q118 := eq_true q118; obtain ⟨Ao64, co64, eo64⟩ := Kd.S_slice HO_104001.out; (first | subst eo64 | (injection eo64 with f1_ f2_ f3_; have f4_ := f1_.symm; have f5_ := f3_.symm; clear f1_ f2_ f3_; subst f4_; subst f5_)); refine start_ (n := 18) (S := fun w' => w'.cell? ⟨gb103, 0, none⟩ = some (.int .i64 (wrap64 (1 + (wrap64 (Int.tmod (IntKind.u64.wrap (a0_0)) 4))))) ∧ w'.cell? ⟨gb103, 1, none⟩ = some (.slice Ao64 x104001_36.length co64) ∧ w'.cell? ⟨gb103, 2, none⟩ = some (u104002) ∧ w'.cell? ⟨gb101, 0, none⟩ = some (.int .i64 a0_0) ∧ w'.cell? ⟨gb101, 1, none⟩ = some (.slice A0_1 l0_1.length c0_1) ∧ w'.cell? ⟨gb101, 2, none⟩ = some (.slice (some ad118) l0_2.length c0_2) ∧ w'.cell? (ad118.add (x7_3).toNat) = some (.int .u64 (rd l0_2 x7_3))) (ds := [17]) #[false, false, false, false, false, false, false, false, false, false, false, false, false, false, false, false, false, false] (by kernel_rfl) rfl rfl ⟨(blk_cell BK103.out 0).trans rfl, (blk_cell BK103.out 1).trans rfl, (blk_cell BK103.out 2).trans rfl, (blk_cell BK101.out 0).trans rfl, (blk_cell BK101.out 1).trans rfl, (blk_cell BK101.out 2).trans rfl, (PH HB hw118_0)⟩ (fun hHeld => ?_); refine with_tabW geyserlaw05_fit.tab14 geyserlaw05_fit.bits14 (fun HT_ HW_ => ?_)
            generalize wr.drew = w63 at HO_104001 HO_104002 BK101 BK102 BK103 HB hx118_0 hHeld ⊢; refine pure_ (i := 0) (N := some 61) (v := ?_) (a' := ?_) #[true, false, false, false, false, false, false, false, false, false, false, false, false, false, false, false, false, false] rfl rfl (any_of HT_.out (by kernel_rfl)) (fun _ _ _ h => h) (Or.inl ⟨by rfl, ?_⟩) ?_ ?_; rotate_left
            ·intro w'; go_simp
             with_reducible rfl
            rotate_left
            ·simp only [Act.put, qT, qZ, qS, i64_w, i32_w]; rfl
            refine pure_ (i := 2) (N := some 63) (v := ?_) (a' := ?_) #[true, false, true, false, false, false, false, false, false, false, false, false, false, false, false, false, false, false] rfl rfl (any_of HT_.out (by kernel_rfl)) (fun _ _ _ h => h) (Or.inl ⟨by rfl, ?_⟩) ?_ ?_; rotate_left
            ·intro w'; go_simp
             with_reducible rfl
            rotate_left
            ·simp only [Act.put, qT, qZ, qS, i64_w, i32_w]; rfl
            refine pure_ (i := 4) (N := some 65) (v := ?_) (a' := ?_) #[true, false, true, false, true, false, false, false, false, false, false, false, false, false, false, false, false, false] rfl rfl (any_of HT_.out (by kernel_rfl)) (fun _ _ _ h => h) (Or.inl ⟨by rfl, ?_⟩) ?_ ?_; rotate_left
            ·intro w'; go_simp
             with_reducible rfl
            rotate_left
            ·simp only [Act.put, qT, qZ, qS, i64_w, i32_w]; rfl
            refine pure_ (i := 7) (N := some 68) (v := ?_) (a' := ?_) #[true, false, true, false, true, false, false, true, false, false, false, false, false, false, false, false, false, false] rfl rfl (any_of HT_.out (by kernel_rfl)) (fun _ _ _ h => h) (Or.inl ⟨by rfl, ?_⟩) ?_ ?_; rotate_left
            ·intro w'; go_simp
             with_reducible rfl
            rotate_left
            ·simp only [Act.put, qT, qZ, qS, i64_w, i32_w]; rfl
            refine take_ (i := 1) (N := some 62) (v := ?_) (a' := ?_) #[true, true, true, false, true, false, false, true, false, false, false, false, false, false, false, false, false, false] rfl rfl (take_ofW HT_.out HW_.out (by kernel_rfl)) (fun _ _ _ h => h) (Or.inl ⟨by rfl, ?_⟩) hHeld ?_ ?_; rotate_left
            ·rintro w' ⟨s0, s1, s2, s3, s4, s5, s6⟩; go_simp
             with_reducible rfl
            rotate_left
            ·simp only [Act.put, qT, qZ, qS, i64_w, i32_w]; rfl
            refine take_ (i := 3) (N := some 64) (v := ?_) (a' := ?_) #[true, true, true, true, true, false, false, true, false, false, false, false, false, false, false, false, false, false] rfl rfl (take_ofW HT_.out HW_.out (by kernel_rfl)) (fun _ _ _ h => h) (Or.inl ⟨by rfl, ?_⟩) hHeld ?_ ?_; rotate_left
            ·rintro w' ⟨s0, s1, s2, s3, s4, s5, s6⟩; go_simp
             with_reducible rfl
            rotate_left
            ·simp only [Act.put, qT, qZ, qS, i64_w, i32_w]; rfl
            refine pure_ (i := 5) (N := some 66) (v := ?_) (a' := ?_) #[true, true, true, true, true, true, false, true, false, false, false, false, false, false, false, false, false, false] rfl rfl (any_of HT_.out (by kernel_rfl)) (fun _ _ _ h => h) (Or.inl ⟨by rfl, ?_⟩) ?_ ?_; rotate_left
            ·intro w'; go_simp
             with_reducible rfl
            rotate_left
            ·simp only [Act.put, qT, qZ, qS, i64_w, i32_w]; rfl
            refine take_ (i := 6) (N := some 67) (v := ?_) (a' := ?_) #[true, true, true, true, true, true, true, true, false, false, false, false, false, false, false, false, false, false] rfl rfl (take_ofW HT_.out HW_.out (by kernel_rfl)) (fun _ _ _ h => h) (Or.inl ⟨by rfl, ?_⟩) hHeld ?_ ?_; rotate_left
            ·rintro w' ⟨s0, s1, s2, s3, s4, s5, s6⟩; go_simp
             with_reducible rfl
            rotate_left
            ·simp only [Act.put, qT, qZ, qS, i64_w, i32_w]; rfl
            refine take_ (i := 8) (N := some 69) (v := ?_) (a' := ?_) #[true, true, true, true, true, true, true, true, true, false, false, false, false, false, false, false, false, false] rfl rfl (take_ofW HT_.out HW_.out (by kernel_rfl)) (fun _ _ _ h => h) (Or.inl ⟨by rfl, ?_⟩) hHeld ?_ ?_; rotate_left
            ·rintro w' ⟨s0, s1, s2, s3, s4, s5, s6⟩; go_simp
             with_reducible rfl
            rotate_left
            ·simp only [Act.put, qT, qZ, qS, i64_w, i32_w]; rfl
            refine pure_ (i := 9) (N := some 70) (v := ?_) (a' := ?_) #[true, true, true, true, true, true, true, true, true, true, false, false, false, false, false, false, false, false] rfl rfl (any_of HT_.out (by kernel_rfl)) (fun _ _ _ h => h) (Or.inl ⟨by rfl, ?_⟩) ?_ ?_; rotate_left
            ·intro w'; go_simp
             with_reducible rfl
            rotate_left
            ·simp only [Act.put, qT, qZ, qS, i64_w, i32_w]; rfl
            refine pure_ (i := 10) (N := some 71) (v := ?_) (a' := ?_) #[true, true, true, true, true, true, true, true, true, true, true, false, false, false, false, false, false, false] rfl rfl (any_of HT_.out (by kernel_rfl)) (fun _ _ _ h => h) (Or.inl ⟨by rfl, ?_⟩) ?_ ?_; rotate_left
            ·intro w'; go_simp
             with_reducible rfl
            rotate_left
            ·simp only [Act.put, qT, qZ, qS, i64_w, i32_w]; rfl
            refine pure_ (i := 11) (N := some 72) (v := ?_) (a' := ?_) #[true, true, true, true, true, true, true, true, true, true, true, true, false, false, false, false, false, false] rfl rfl (any_of HT_.out (by kernel_rfl)) (fun _ _ _ h => h) (Or.inl ⟨by rfl, ?_⟩) ?_ ?_; rotate_left
            ·intro w'; go_simp
             with_reducible rfl
            rotate_left
            ·simp only [Act.put, qT, qZ, qS, i64_w, i32_w]; rfl
            refine pure_ (i := 12) (N := some 73) (v := ?_) (a' := ?_) #[true, true, true, true, true, true, true, true, true, true, true, true, true, false, false, false, false, false] rfl rfl (any_of HT_.out (by kernel_rfl)) (fun _ _ _ h => h) (Or.inl ⟨by rfl, ?_⟩) ?_ ?_; rotate_left
            ·intro w'; go_simp
             with_reducible rfl
            rotate_left
            ·simp only [Act.put, qT, qZ, qS, i64_w, i32_w]; rfl
            refine pure_ (i := 13) (N := some 74) (v := ?_) (a' := ?_) #[true, true, true, true, true, true, true, true, true, true, true, true, true, true, false, false, false, false] rfl rfl (any_of HT_.out (by kernel_rfl)) (fun _ _ _ h => h) (Or.inl ⟨by rfl, ?_⟩) ?_ ?_; rotate_left
            ·intro w'; go_simp
             with_reducible rfl
            rotate_left
            ·simp only [Act.put, qT, qZ, qS, i64_w, i32_w]; rfl
            refine one_ (i := 14) (N := some 75) #[true, true, true, true, true, true, true, true, true, true, true, true, true, true, true, false, false, false] rfl rfl (one_of HT_.out (by kernel_rfl)) (by decide) (fun K hK => ?_); refine value_ (w1 := ?_) (v := ?_) (by rfl) rfl ?_ ?_; rotate_left 2
            ·go_simp; constructor
             ·rfl
             ·rfl
            refine hK.out _ _ ⟨(blk_cell (blk_alloc BK103.out _) 0).trans rfl, (blk_cell (blk_alloc BK103.out _) 1).trans rfl, (blk_cell (blk_alloc BK103.out _) 2).trans rfl, (blk_cell (blk_alloc BK101.out _) 0).trans rfl, (blk_cell (blk_alloc BK101.out _) 1).trans rfl, (blk_cell (blk_alloc BK101.out _) 2).trans rfl, (World.cell?_alloc_lt _ _ _ (World.block_lt_of_cell? _ _ ((PH HB hw118_0)))).trans ((PH HB hw118_0))⟩ (fun hHeld => ?_); clear hK K; refine norm_ (a' := ?_) ?_ ?_; rotate_left
            ·show Act.put _ (some 75) _ = _
             simp only [Act.put, qT, qZ, qS, i64_w, i32_w]; rfl
            refine one_ (i := 15) (N := some 76) #[true, true, true, true, true, true, true, true, true, true, true, true, true, true, true, true, false, false] rfl rfl (one_of HT_.out (by kernel_rfl)) (by decide) (fun K hK => ?_); refine Kd.R_append_step (Kd.int .u64) (w0 := w) w.heap.size (by rfl) (.tmp 62) (.tmp 75) 23 35 (.int .u64 0) 8 rfl Tryd.underlying23 info35 rfl (by decide) (by omega) u104002 x104002_3 (Go.bits .and .u64 (rd l0_2 x7_3) (IntKind.u64.wrap ((ji58) - 1))) [.int .u64 (Go.bits .and .u64 (rd l0_2 x7_3) (IntKind.u64.wrap ((ji58) - 1)))] (fun _ => True) (fun _ => False) rfl rfl ?aP (fun _ hk => hk.elim) ?aF ?aO ?aB ?aS ?aL ?_; (case aP => exact rfl); (case aB => exact (PX HB)); (case aF => exact (fun _ _ => trivial)); (case aO => exact (PR HO_104002)); (case aS => exact (below_size (PX HB))); (case aL => have := LMc59.out; omega); intro v120 w65 ho hb hg hat; rw [← Ny119.out] at ho; have n0_ := AQ (Kd.S_over' (PS HO_104001) (Kd.R_typed (PR HO_104002)) (by decide) hg); have n1_ := AQ (blk_grown (g := gb101) (o := .cells #[.int .i64 a0_0, .slice A0_1 l0_1.length c0_1, .slice (some ad118) l0_2.length c0_2] 25 (0, 0)) (PK BK101) hg (Kd.R_ne HO_104002.out BK101.out (by decide))); have n2_ := AQ (blk_grown (g := gb102) (o := .cells #[.int .i64 0, .slice none 0 0, .slice none 0 0] 25 (0, 0)) (PK BK102) hg (Kd.R_ne HO_104002.out BK102.out (by decide))); have n3_ := AQ (blk_grown (g := gb103) (o := .cells #[.int .i64 (wrap64 (1 + (wrap64 (Int.tmod (IntKind.u64.wrap (a0_0)) 4)))), .slice Ao64 x104001_36.length co64, u104002] 25 (0, 0)) (PK BK103) hg (Kd.R_ne HO_104002.out BK103.out (by decide))); have n4_ := AQ (hb); have n5_ := AQ (ho); clear HO_104001; clear BK101; clear BK102; clear BK103; clear HB; clear HO_104002; have HO_104001 := n0_; have BK101 := n1_; have BK102 := n2_; have BK103 := n3_; have HB := n4_; have HO121 := n5_; clear n0_ n1_ n2_ n3_ n4_ n5_; clear ho hb hg hat; obtain ⟨Ao66, co66, eo66⟩ := Kd.R_slice HO121.out; (first | subst eo66 | (injection eo66 with f1_ f2_ f3_; have f4_ := f1_.symm; have f5_ := f3_.symm; clear f1_ f2_ f3_; subst f4_; subst f5_)); refine hK.out _ _ ⟨(blk_cell BK103.out 0).trans rfl, (blk_cell BK103.out 1).trans rfl, (blk_cell BK103.out 2).trans rfl, (blk_cell BK101.out 0).trans rfl, (blk_cell BK101.out 1).trans rfl, (blk_cell BK101.out 2).trans rfl, (PH HB hw118_0)⟩ (fun hHeld => ?_); clear hK K; refine norm_ (a' := ?_) ?_ ?_; rotate_left
            ·show Act.put _ (some 76) _ = _
             simp only [Act.put, qT, qZ, qS, i64_w, i32_w]; rfl
            refine pure_ (i := 16) (N := some 77) (v := ?_) (a' := ?_) #[true, true, true, true, true, true, true, true, true, true, true, true, true, true, true, true, true, false] rfl rfl (any_of HT_.out (by kernel_rfl)) (fun _ _ _ h => h) (Or.inl ⟨by rfl, ?_⟩) ?_ ?_; rotate_left
            ·intro w'; go_simp
             with_reducible rfl
            rotate_left
            ·simp only [Act.put, qT, qZ, qS, i64_w, i32_w]; rfl
            refine last_ (i := 17) (N := none) #[true, true, true, true, true, true, true, true, true, true, true, true, true, true, true, true, true, true] rfl rfl (one_of HT_.out (by kernel_rfl)) (by decide) (fun K hK => ?_); have hs67 : w65.cell? ⟨gb103, 2, none⟩ = some (u104002) := (blk_cell BK103.out 2).trans rfl; have hfs67 := blk_frozen BK103.out 2; have hns67_0 := NB101_103.out; have hns67_1 := NB102_103.out; have hms67_0 := NB103_101.out; have hms67_1 := NB103_102.out; refine skip_ (w1 := ?_) (by rfl) rfl ?_ ?_; rotate_left
            ·go_simp; rfl
            refine hK.out _ _ ?_; clear hK K; refine done_ (done_of HT_.out (by kernel_rfl)) ?_; (try go_wp2); go_roundg k3
            case measure => have := HJ1.out; have := HJ36.out; have := HK3.out; omega
            case rel => exact ⟨(wrap64 (x7_3 + 1)), (y119), (.slice Ao66 y119.length co66), (by first | rfl | (simp; done) | (simp [*]; done)), H', ⟨by have := HJ1.out; have := HJ36.out; have := HK3.out; omega⟩, ⟨by (with_reducible repeat (first | apply Kd.S_alloc | apply Kd.S_drewN | apply Kd.S_drew)); exact Kd.S_mono (Kd.S_far (p := ⟨gb103, 2, none⟩) (Kd.S_types HO_104001.out BK103.out (by decide)) (fun _ hk => hk.2) (.slice Ao66 y119.length co66)) (fun _ hk => trivial)⟩, ⟨by (with_reducible repeat (first | apply Kd.R_alloc | apply Kd.R_drewN | apply Kd.R_drew)); exact Kd.R_mono (Kd.R_far (p := ⟨gb103, 2, none⟩) (Kd.R_types HO121.out BK103.out (by decide)) (fun _ hk => hk.2) (.slice Ao66 y119.length co66)) (fun _ hk => trivial)⟩, ⟨by (with_reducible repeat (first | refine blk_drewN ?_ _ | refine blk_drew ?_ | refine blk_alloc ?_ _)); refine blk_far ?_ NB101_103.out _; (with_reducible repeat (first | refine blk_drewN ?_ _ | refine blk_drew ?_ | refine blk_alloc ?_ _)); exact BK101.out⟩, ⟨by (with_reducible repeat (first | refine blk_drewN ?_ _ | refine blk_drew ?_ | refine blk_alloc ?_ _)); refine blk_far ?_ NB102_103.out _; (with_reducible repeat (first | refine blk_drewN ?_ _ | refine blk_drew ?_ | refine blk_alloc ?_ _)); exact BK102.out⟩, ⟨by (with_reducible repeat (first | refine blk_drewN ?_ _ | refine blk_drew ?_ | refine blk_alloc ?_ _)); refine blk_put (cs := #[.int .i64 (wrap64 (1 + (wrap64 (Int.tmod (IntKind.u64.wrap (a0_0)) 4)))), .slice Ao64 x104001_36.length co64, u104002]) ?_ 2 _ rfl; (with_reducible repeat (first | refine blk_drewN ?_ _ | refine blk_drew ?_ | refine blk_alloc ?_ _)); exact BK103.out⟩, ⟨PX HB⟩⟩
           ·rw [if_neg c59] at H; exact absurd H (by simp)
          ·rw [if_neg c57] at H; exact absurd H (by simp)
         ·rw [if_neg c56] at H; exact absurd H (by simp)
        ·rw [if_neg c55] at H; have c55b0 : decide (x7_3 < 24) = false := decide_eq_false c55; clear c55; simp only [Option.some.injEq, Prod.mk.injEq] at H; obtain ⟨rfl, rfl, rfl⟩ := H; have hnb68 := NB101_102.out; have hnc68 := NB102_101.out; have hnb69 := NB101_103.out; have hnc69 := NB103_101.out; have hcz70_0 : wr.cell? ⟨gb101, 0, none⟩ = some (.int .i64 a0_0) := (blk_cell BK101.out 0).trans rfl; have hcz70_1 : wr.cell? ⟨gb101, 1, none⟩ = some (.slice A0_1 l0_1.length c0_1) := (blk_cell BK101.out 1).trans rfl; have hcz70_2 : wr.cell? ⟨gb101, 2, none⟩ = some (.slice A0_2 l0_2.length c0_2) := (blk_cell BK101.out 2).trans rfl; have hfz70_0 := blk_frozen BK101.out 0; have hfz70_1 := blk_frozen BK101.out 1; have hfz70_2 := blk_frozen BK101.out 2; have hnb71 := NB103_102.out; have hnc71 := NB102_103.out; have hcz72_0 : wr.cell? ⟨gb103, 0, none⟩ = some (.int .i64 (wrap64 (1 + (wrap64 (Int.tmod (IntKind.u64.wrap (a0_0)) 4))))) := (blk_cell BK103.out 0).trans rfl; have hcz72_1 : wr.cell? ⟨gb103, 1, none⟩ = some (u104001) := (blk_cell BK103.out 1).trans rfl; have hcz72_2 : wr.cell? ⟨gb103, 2, none⟩ = some (u104002) := (blk_cell BK103.out 2).trans rfl; have hfz72_0 := blk_frozen BK103.out 0; have hfz72_1 := blk_frozen BK103.out 1; have hfz72_2 := blk_frozen BK103.out 2; have hcz73_0 : wr.cell? ⟨gb102, 0, none⟩ = some (.int .i64 0) := (blk_cell BK102.out 0).trans rfl; have hcz73_1 : wr.cell? ⟨gb102, 1, none⟩ = some (.slice none 0 0) := (blk_cell BK102.out 1).trans rfl; have hcz73_2 : wr.cell? ⟨gb102, 2, none⟩ = some (.slice none 0 0) := (blk_cell BK102.out 2).trans rfl; have hfz73_0 := blk_frozen BK102.out 0; have hfz73_1 := blk_frozen BK102.out 1; have hfz73_2 := blk_frozen BK102.out 2; obtain ⟨Ao74, co74, eo74⟩ := Kd.S_slice HO_104001.out; subst eo74; obtain ⟨Ao75, co75, eo75⟩ := Kd.R_slice HO_104002.out; subst eo75; go_wp2; refine bodyPost_ret (results_cell_row rfl _ _ gb102 25 #[.int .i64 (wrap64 (1 + (wrap64 (Int.tmod (IntKind.u64.wrap (a0_0)) 4)))), .slice Ao74 x104001_36.length co74, .slice Ao75 x104002_3.length co75] (0, 0) _ rfl (by (with_reducible repeat (first | refine blk_drewN ?_ _ | refine blk_drew ?_ | refine blk_alloc ?_ _)); refine blk_put (cs := #[.int .i64 (wrap64 (1 + (wrap64 (Int.tmod (IntKind.u64.wrap (a0_0)) 4)))), .slice Ao74 x104001_36.length co74, .slice none 0 0]) ?_ 2 _ rfl; (with_reducible repeat (first | refine blk_drewN ?_ _ | refine blk_drew ?_ | refine blk_alloc ?_ _)); refine blk_put (cs := #[.int .i64 (wrap64 (1 + (wrap64 (Int.tmod (IntKind.u64.wrap (a0_0)) 4)))), .slice none 0 0, .slice none 0 0]) ?_ 1 _ rfl; (with_reducible repeat (first | refine blk_drewN ?_ _ | refine blk_drew ?_ | refine blk_alloc ?_ _)); refine blk_put (cs := #[.int .i64 0, .slice none 0 0, .slice none 0 0]) ?_ 0 _ rfl; exact PK BK102) Tryd.underlying25 rfl (by kernel_rfl)) rfl ?_; exact ⟨_, _, by first | rfl | (simp [errW_none, errW_some] <;> rfl) | (simp [*, errW_none, errW_some] <;> rfl), by (with_reducible repeat (first | apply Kd.S_alloc | apply Kd.S_drewN | apply Kd.S_drew)); exact Kd.S_mono (Kd.S_far (p := ⟨gb102, 2, none⟩) (Kd.S_far (p := ⟨gb102, 1, none⟩) (Kd.S_far (p := ⟨gb102, 0, none⟩) (Kd.S_types HO_104001.out BK102.out (by decide)) (fun _ hk => hk.2) (.int .i64 (wrap64 (1 + (wrap64 (Int.tmod (IntKind.u64.wrap (a0_0)) 4)))))) (fun _ hk => hk.2) (.slice Ao74 x104001_36.length co74)) (fun _ hk => hk.2) (.slice Ao75 x104002_3.length co75)) (fun _ hk => trivial), by (with_reducible repeat (first | apply Kd.R_alloc | apply Kd.R_drewN | apply Kd.R_drew)); exact Kd.R_mono (Kd.R_far (p := ⟨gb102, 2, none⟩) (Kd.R_far (p := ⟨gb102, 1, none⟩) (Kd.R_far (p := ⟨gb102, 0, none⟩) (Kd.R_types HO_104002.out BK102.out (by decide)) (fun _ hk => hk.2) (.int .i64 (wrap64 (1 + (wrap64 (Int.tmod (IntKind.u64.wrap (a0_0)) 4)))))) (fun _ hk => hk.2) (.slice Ao74 x104001_36.length co74)) (fun _ hk => hk.2) (.slice Ao75 x104002_3.length co75)) (fun _ hk => trivial), PX HB⟩
       ·rw [if_neg c54] at H; have c54b0 : decide (x7_3 < (l0_2.length : Int)) = false := decide_eq_false c54; clear c54; simp only [Option.some.injEq, Prod.mk.injEq] at H; obtain ⟨rfl, rfl, rfl⟩ := H; have hnb76 := NB101_102.out; have hnc76 := NB102_101.out; have hnb77 := NB101_103.out; have hnc77 := NB103_101.out; have hcz78_0 : wr.cell? ⟨gb101, 0, none⟩ = some (.int .i64 a0_0) := (blk_cell BK101.out 0).trans rfl; have hcz78_1 : wr.cell? ⟨gb101, 1, none⟩ = some (.slice A0_1 l0_1.length c0_1) := (blk_cell BK101.out 1).trans rfl; have hcz78_2 : wr.cell? ⟨gb101, 2, none⟩ = some (.slice A0_2 l0_2.length c0_2) := (blk_cell BK101.out 2).trans rfl; have hfz78_0 := blk_frozen BK101.out 0; have hfz78_1 := blk_frozen BK101.out 1; have hfz78_2 := blk_frozen BK101.out 2; have hnb79 := NB103_102.out; have hnc79 := NB102_103.out; have hcz80_0 : wr.cell? ⟨gb103, 0, none⟩ = some (.int .i64 (wrap64 (1 + (wrap64 (Int.tmod (IntKind.u64.wrap (a0_0)) 4))))) := (blk_cell BK103.out 0).trans rfl; have hcz80_1 : wr.cell? ⟨gb103, 1, none⟩ = some (u104001) := (blk_cell BK103.out 1).trans rfl; have hcz80_2 : wr.cell? ⟨gb103, 2, none⟩ = some (u104002) := (blk_cell BK103.out 2).trans rfl; have hfz80_0 := blk_frozen BK103.out 0; have hfz80_1 := blk_frozen BK103.out 1; have hfz80_2 := blk_frozen BK103.out 2; have hcz81_0 : wr.cell? ⟨gb102, 0, none⟩ = some (.int .i64 0) := (blk_cell BK102.out 0).trans rfl; have hcz81_1 : wr.cell? ⟨gb102, 1, none⟩ = some (.slice none 0 0) := (blk_cell BK102.out 1).trans rfl; have hcz81_2 : wr.cell? ⟨gb102, 2, none⟩ = some (.slice none 0 0) := (blk_cell BK102.out 2).trans rfl; have hfz81_0 := blk_frozen BK102.out 0; have hfz81_1 := blk_frozen BK102.out 1; have hfz81_2 := blk_frozen BK102.out 2; obtain ⟨Ao82, co82, eo82⟩ := Kd.S_slice HO_104001.out; subst eo82; obtain ⟨Ao83, co83, eo83⟩ := Kd.R_slice HO_104002.out; subst eo83; go_wp2; refine bodyPost_ret (results_cell_row rfl _ _ gb102 25 #[.int .i64 (wrap64 (1 + (wrap64 (Int.tmod (IntKind.u64.wrap (a0_0)) 4)))), .slice Ao82 x104001_36.length co82, .slice Ao83 x104002_3.length co83] (0, 0) _ rfl (by (with_reducible repeat (first | refine blk_drewN ?_ _ | refine blk_drew ?_ | refine blk_alloc ?_ _)); refine blk_put (cs := #[.int .i64 (wrap64 (1 + (wrap64 (Int.tmod (IntKind.u64.wrap (a0_0)) 4)))), .slice Ao82 x104001_36.length co82, .slice none 0 0]) ?_ 2 _ rfl; (with_reducible repeat (first | refine blk_drewN ?_ _ | refine blk_drew ?_ | refine blk_alloc ?_ _)); refine blk_put (cs := #[.int .i64 (wrap64 (1 + (wrap64 (Int.tmod (IntKind.u64.wrap (a0_0)) 4)))), .slice none 0 0, .slice none 0 0]) ?_ 1 _ rfl; (with_reducible repeat (first | refine blk_drewN ?_ _ | refine blk_drew ?_ | refine blk_alloc ?_ _)); refine blk_put (cs := #[.int .i64 0, .slice none 0 0, .slice none 0 0]) ?_ 0 _ rfl; exact PK BK102) Tryd.underlying25 rfl (by kernel_rfl)) rfl ?_; exact ⟨_, _, by first | rfl | (simp [errW_none, errW_some] <;> rfl) | (simp [*, errW_none, errW_some] <;> rfl), by (with_reducible repeat (first | apply Kd.S_alloc | apply Kd.S_drewN | apply Kd.S_drew)); exact Kd.S_mono (Kd.S_far (p := ⟨gb102, 2, none⟩) (Kd.S_far (p := ⟨gb102, 1, none⟩) (Kd.S_far (p := ⟨gb102, 0, none⟩) (Kd.S_types HO_104001.out BK102.out (by decide)) (fun _ hk => hk.2) (.int .i64 (wrap64 (1 + (wrap64 (Int.tmod (IntKind.u64.wrap (a0_0)) 4)))))) (fun _ hk => hk.2) (.slice Ao82 x104001_36.length co82)) (fun _ hk => hk.2) (.slice Ao83 x104002_3.length co83)) (fun _ hk => trivial), by (with_reducible repeat (first | apply Kd.R_alloc | apply Kd.R_drewN | apply Kd.R_drew)); exact Kd.R_mono (Kd.R_far (p := ⟨gb102, 2, none⟩) (Kd.R_far (p := ⟨gb102, 1, none⟩) (Kd.R_far (p := ⟨gb102, 0, none⟩) (Kd.R_types HO_104002.out BK102.out (by decide)) (fun _ hk => hk.2) (.int .i64 (wrap64 (1 + (wrap64 (Int.tmod (IntKind.u64.wrap (a0_0)) 4)))))) (fun _ hk => hk.2) (.slice Ao82 x104001_36.length co82)) (fun _ hk => hk.2) (.slice Ao83 x104002_3.length co83)) (fun _ hk => trivial), PX HB⟩
def geyserlaw05_True_sym.f (k : Nat) (a0_0 : Int) (l0_1 : List (List Int)) (l0_2 : List Int) (a1 : Int) : Option (List Int) := (geyserref02_Unpack.f k (([a1] : List Int))).bind fun t222 => ((geyserref04_Picked.f k t222 l0_1).bind fun t225 => ((geyserref04_Sum.f k t225 a0_0).bind fun t228 => (some t228)))
theorem geyserlaw05_True_sym.mono : ∀ a0 a1 a2 a3 k, LeO (geyserlaw05_True_sym.f k a0 a1 a2 a3) (geyserlaw05_True_sym.f (k + 1) a0 a1 a2 a3) := by
 intro a0 a1 a2 a3 k; unfold geyserlaw05_True_sym.f
 repeat' first
   | (with_reducible exact geyserref02_Unpack.mono _ _)
   | (with_reducible exact geyserref04_Picked.mono _ _ _)
   | (with_reducible exact geyserref04_Sum.mono _ _ _)
   | (with_reducible exact LeO.refl _)
   | (with_reducible exact LeO.none _)
   | (with_reducible refine LeO.ite ?_ ?_)
   | (with_reducible refine LeO.bind ?_ (fun _ => ?_))
   | exact geyserref02_Unpack.mono _ _
   | exact geyserref04_Picked.mono _ _ _
   | exact geyserref04_Sum.mono _ _ _
   | exact LeO.none _
   | refine LeO.ite ?_ ?_
   | refine LeO.bind ?_ (fun _ => ?_)
def geyserlaw05_True_sym.T1 : Bool × List (List Nat × List Nat) := (true, [([], []), ([0], [0]), ([1], [1]), ([], []), ([3], [3]), ([2, 4, 2], [2, 4]), ([], []), ([6], [6]), ([5, 7, 5], [5, 7]), ([8, 8, 0, 1, 2, 3, 4, 5, 6, 7, 8], [8])])
def geyserlaw05_True_sym.B1 : List Nat := [0, 1, 3, 0, 8, 31, 0, 64, 255, 511]
theorem geyserlaw05_True_sym.tab1 : rtab .any (opsOf Tryd.f12 1) = geyserlaw05_True_sym.T1 := by kernel_rfl
theorem geyserlaw05_True_sym.bits1 : waitsOk geyserlaw05_True_sym.T1.2 geyserlaw05_True_sym.B1 = true := by kernel_rfl
set_option maxHeartbeats 8000000 in
set_option maxRecDepth 100000 in
theorem geyserlaw05_True_sym.calls (k : Nat) (a0_0 : Int) (A0_1 : Option Addr) (c0_1 : Nat) (l0_1 : List (List Int)) (A0_2 : Option Addr) (c0_2 : Nat) (l0_2 : List Int) (a1 : Int) (r : List Int) (w : World) (hr0_1 : Kd.C (Kd.slice 5 (Kd.int .u8)) w A0_1 l0_1.length l0_1) (hc0_1 : l0_1.length ≤ c0_1) (hr0_2 : Kd.C (Kd.int .u64) w A0_2 l0_2.length l0_2) (hc0_2 : l0_2.length ≤ c0_2) (h : geyserlaw05_True_sym.f k a0_0 l0_1 l0_2 a1 = some r) :
  Calls Tryd.prog 12 #[.agg #[.int .i64 a0_0, .slice A0_1 l0_1.length c0_1, .slice A0_2 l0_2.length c0_2], .int .u64 a1] w fun e w' => ∃ v0_ : Value, e = .returned (v0_) ∧ Kd.R (Kd.int .u8) 5 w' w.heap.size (fun _ => True) v0_ r ∧ Below w.heap.size w w' := by
 have hu25 := Tryd.underlying25; have HR0_1 := AQ hr0_1; have HC0_1 := AQ hc0_1; clear hr0_1 hc0_1; have HR0_2 := AQ hr0_2; have HC0_2 := AQ hc0_2; clear hr0_2 hc0_2; have HB := AQ (Below.refl w.heap.size w); have H : ((geyserref02_Unpack.f k (([a1] : List Int))).bind fun t222 => ((geyserref04_Picked.f k t222 l0_1).bind fun t225 => ((geyserref04_Sum.f k t225 a0_0).bind fun t228 => (some t228)))) = some r := h; clear h; obtain ⟨y219, hy219⟩ : ∃ y_ : List Int, y_ = (([a1] : List Int)) := ⟨_, rfl⟩; replace H : ((geyserref02_Unpack.f k y219).bind fun t222 => ((geyserref04_Picked.f k t222 l0_1).bind fun t225 => ((geyserref04_Sum.f k t225 a0_0).bind fun t228 => (some t228)))) = some r := (by first | (rw [hy219]; with_reducible exact H) | (have H2_ := (Option.bind_some _ _).symm.trans H; rw [hy219]; with_reducible exact H2_) | (have H2_ := (Option.bind_some _ _).symm.trans H; with_reducible exact H2_) | with_reducible exact H | (rw [hy219]; exact H) | exact H); have Ny219 := AQ hy219; clear hy219; replace H := Option.bind_eq_some_iff.mp H; obtain ⟨t222, A30, H⟩ := H; replace H : ((geyserref04_Picked.f k t222 l0_1).bind fun t225 => ((geyserref04_Sum.f k t225 a0_0).bind fun t228 => (some t228))) = some r := H; have A3 := AQ A30; clear A30; replace H := Option.bind_eq_some_iff.mp H; obtain ⟨t225, A40, H⟩ := H; replace H : ((geyserref04_Sum.f k t225 a0_0).bind fun t228 => (some t228)) = some r := H; have A4 := AQ A40; clear A40; replace H := Option.bind_eq_some_iff.mp H; obtain ⟨t228, A50, H⟩ := H; replace H : (some t228) = some r := H; have A5 := AQ A50; clear A50; obtain rfl := Option.some.inj H; go_enter Tryd.func12, Tryd.ntmps12; (try go_wp2_with (first | ((with_reducible refine gate_dst (N := 2) rfl ?_); refine box_event ?hg (N := 2) ?hd (cs := #[.int .i64 a0_0, .slice A0_1 l0_1.length c0_1, .slice A0_2 l0_2.length c0_2]) (t := 25) ?hr ?_; (case hd => rfl); (case hg => rfl); (case hr => first | (go_simp; done) | (go_simp; rfl)); intro gb218 hg w6 hbox hb; have n0_ := AQ (below_step (PB HB) hb); have n1_ := AQ (hbox); have n2_ := AQ ((by rw [hg]; exact (below_size (PB HB)) : w.heap.size ≤ gb218)); have n3_ := AQ ((by rw [hg]; exact (below_size (PB HB)) : w.heap.size ≤ gb218)); clear HB; have HB := n0_; have BK218 := n1_; have GW218 := n2_; have GE218 := n3_; clear n0_ n1_ n2_ n3_; clear hb hbox hg))); have n0_ := AQ (blk_drew BK218.out); have n1_ := AQ (below_drew1 HB.out); clear BK218; clear HB; have BK218 := n0_; have HB := n1_; clear n0_ n1_; refine start_ (n := 10) (S := fun w' => w'.cell? ⟨gb218, 0, none⟩ = some (.int .i64 a0_0) ∧ w'.cell? ⟨gb218, 1, none⟩ = some (.slice A0_1 l0_1.length c0_1) ∧ w'.cell? ⟨gb218, 2, none⟩ = some (.slice A0_2 l0_2.length c0_2)) (ds := []) #[false, false, false, false, false, false, false, false, false, false] (by kernel_rfl) rfl rfl ⟨(blk_cell BK218.out 0).trans rfl, (blk_cell BK218.out 1).trans rfl, (blk_cell BK218.out 2).trans rfl⟩ (fun hHeld => ?_); refine with_tabW geyserlaw05_True_sym.tab1 geyserlaw05_True_sym.bits1 (fun HT_ HW_ => ?_)
 generalize w6.drew = w7 at BK218 HB hHeld ⊢; refine pure_ (i := 0) (N := some 5) (v := ?_) (a' := ?_) #[true, false, false, false, false, false, false, false, false, false] rfl rfl (any_of HT_.out (by kernel_rfl)) (fun _ _ _ h => h) (Or.inl ⟨by rfl, ?_⟩) ?_ ?_; rotate_left
 ·intro w'; go_simp
  with_reducible rfl
 rotate_left
 ·simp only [Act.put, qT, qZ, qS, i64_w, i32_w]; rfl
 refine pure_ (i := 3) (N := some 8) (v := ?_) (a' := ?_) #[true, false, false, true, false, false, false, false, false, false] rfl rfl (any_of HT_.out (by kernel_rfl)) (fun _ _ _ h => h) (Or.inl ⟨by rfl, ?_⟩) ?_ ?_; rotate_left
 ·intro w'; go_simp
  with_reducible rfl
 rotate_left
 ·simp only [Act.put, qT, qZ, qS, i64_w, i32_w]; rfl
 refine pure_ (i := 6) (N := some 11) (v := ?_) (a' := ?_) #[true, false, false, true, false, false, true, false, false, false] rfl rfl (any_of HT_.out (by kernel_rfl)) (fun _ _ _ h => h) (Or.inl ⟨by rfl, ?_⟩) ?_ ?_; rotate_left
 ·intro w'; go_simp
  with_reducible rfl
 rotate_left
 ·simp only [Act.put, qT, qZ, qS, i64_w, i32_w]; rfl
 refine take_ (i := 4) (N := some 9) (v := ?_) (a' := ?_) #[true, false, false, true, true, false, true, false, false, false] rfl rfl (take_ofW HT_.out HW_.out (by kernel_rfl)) (fun _ _ _ h => h) (Or.inl ⟨by rfl, ?_⟩) hHeld ?_ ?_; rotate_left
 ·rintro w' ⟨s0, s1, s2⟩; go_simp
  with_reducible rfl
 rotate_left
 ·simp only [Act.put, qT, qZ, qS, i64_w, i32_w]; rfl
 refine take_ (i := 7) (N := some 12) (v := ?_) (a' := ?_) #[true, false, false, true, true, false, true, true, false, false] rfl rfl (take_ofW HT_.out HW_.out (by kernel_rfl)) (fun _ _ _ h => h) (Or.inl ⟨by rfl, ?_⟩) hHeld ?_ ?_; rotate_left
 ·rintro w' ⟨s0, s1, s2⟩; go_simp
  with_reducible rfl
 rotate_left
 ·simp only [Act.put, qT, qZ, qS, i64_w, i32_w]; rfl
 refine one_ (i := 1) (N := some 6) #[true, true, false, true, true, false, true, true, false, false] rfl rfl (one_of HT_.out (by kernel_rfl)) (by decide) (fun K hK => ?_); refine Kd.R_lit_step (Kd.int .u64) _ 35 ?hg (N := 6) ?hd (xs := ([a1] : List Int)) (inner := [.int .u64 a1]) (ok := fun _ => True) (okp := fun _ => True) ?hr ?hp (fun _ hk => hk) trivial (Below.refl _ _) (Nat.le_refl _) (by simp) ?_; (case hd => rfl); (case hg => rfl); (case hr => first | (go_simp; done) | (go_simp; rfl)); (case hp => exact (Reps.one (show Kd.M (Kd.int .u64) _ _ _ a1 [.int .u64 a1] from rfl) (Reps.none _ _)))
 intro v220 w8 ho9 hb hg_ hnew_; clear hg_ hnew_; (first | rw [← Ny219.out] at ho9 | (simp only [Int.reduceToNat] at ho9; rw [← Ny219.out] at ho9)); have n0_ := AQ (Kd.R_lower ho9 (below_size (PX HB))); have n1_ := AQ (blk_below (g := gb218) (o := .cells #[.int .i64 a0_0, .slice A0_1 l0_1.length c0_1, .slice A0_2 l0_2.length c0_2] 25 (0, 0)) (PK BK218) hb); have n2_ := AQ (below_step (PX HB) hb); clear BK218; clear HB; have HO221 := n0_; have BK218 := n1_; have HB := n2_; clear n0_ n1_ n2_; clear hb ho9; obtain ⟨Ao10, co10, eo10⟩ := Kd.R_slice HO221.out; (first | subst eo10 | (injection eo10 with f1_ f2_ f3_; have f4_ := f1_.symm; have f5_ := f3_.symm; clear f1_ f2_ f3_; subst f4_; subst f5_)); refine hK.out _ _ ⟨(blk_cell BK218.out 0).trans rfl, (blk_cell BK218.out 1).trans rfl, (blk_cell BK218.out 2).trans rfl⟩ (fun hHeld => ?_); clear hK K; refine norm_ (a' := ?_) ?_ ?_; rotate_left
 ·show Act.put _ (some 6) _ = _
  simp only [Act.put, qT, qZ, qS, i64_w, i32_w]; rfl
 refine one_ (i := 2) (N := some 7) #[true, true, true, true, true, false, true, true, false, false] rfl rfl (one_of HT_.out (by kernel_rfl)) (by decide) (fun K hK => ?_); refine goes_ Tryd.func34 (by kernel_rfl) rfl #[.slice Ao10 y219.length co10] (by rfl) rfl rfl (by (try simp only [List.map_toArray, List.map_cons, List.map_nil]); first | done | rfl | (simp only [List.length_drop, List.length_take]; rfl)) ?_
 with_reducible refine (geyserref02_Unpack.calls k _ _ y219 t222 _ ?side1 ?side2 A3.out).mono ?_
 (case side1 => exact QC HO221); (case side2 => exact (Kd.R_reads' HO221.out).2.1); rintro e w11 ⟨v223, rfl, ho0, hb⟩; refine ⟨_, rfl, ?_⟩; have n0_ := AQ (Kd.R_below (PR HO221) hb); have n1_ := AQ (Kd.R_lower ho0 (below_size (PX HB))); have n2_ := AQ (blk_below (g := gb218) (o := .cells #[.int .i64 a0_0, .slice A0_1 l0_1.length c0_1, .slice A0_2 l0_2.length c0_2] 25 (0, 0)) (PK BK218) hb); have n3_ := AQ (below_step (PX HB) hb); clear HO221; clear BK218; clear HB; have HO221 := n0_; have HO224 := n1_; have BK218 := n2_; have HB := n3_; clear n0_ n1_ n2_ n3_; (try clear hb); (try clear hb2); (try clear hk); (try clear hi); (try clear ho0); obtain ⟨Ao12, co12, eo12⟩ := Kd.R_slice HO224.out; (first | subst eo12 | (injection eo12 with f1_ f2_ f3_; have f4_ := f1_.symm; have f5_ := f3_.symm; clear f1_ f2_ f3_; subst f4_; subst f5_)); refine hK.out _ _ ⟨(blk_cell BK218.out 0).trans rfl, (blk_cell BK218.out 1).trans rfl, (blk_cell BK218.out 2).trans rfl⟩ (fun hHeld => ?_); clear hK K; refine norm_ (a' := ?_) ?_ ?_; rotate_left
 ·show Act.put _ (some 7) _ = _
  simp only [Act.put, qT, qZ, qS, i64_w, i32_w]; rfl
 refine one_ (i := 5) (N := some 10) #[true, true, true, true, true, true, true, true, false, false] rfl rfl (one_of HT_.out (by kernel_rfl)) (by decide) (fun K hK => ?_); refine goes_ Tryd.func33 (by kernel_rfl) rfl #[.slice Ao12 t222.length co12, .slice A0_1 l0_1.length c0_1] (by rfl) rfl rfl (by (try simp only [List.map_toArray, List.map_cons, List.map_nil]); first | done | rfl | (simp only [List.length_drop, List.length_take]; rfl)) ?_
 with_reducible refine (geyserref04_Picked.calls k _ _ t222 (fun k_ => k_ < w.heap.size) _ _ l0_1 t225 _ ?side1 ?side2 ?side3 A4.out).mono ?_
 (case side1 => exact QC HO224); (case side2 => exact (Kd.R_reads' HO224.out).2.1); (case side3 => exact Kd.V_mk HC0_1.out (Kd.F_below (Kd.C_F (Kd.heap_slice 5 (Kd.heap_int .u8)) HR0_1.out) (PX HB))); rintro e w13 ⟨v226, rfl, ho0, hb⟩; refine ⟨_, rfl, ?_⟩; have n0_ := AQ (Kd.R_below (PR HO221) hb); have n1_ := AQ (Kd.R_below (PR HO224) hb); have n2_ := AQ (Kd.N_lower (Kd.N_mono (ok' := fun k_ => some k_ ≠ (.slice Ao10 y219.length co10 : Value).ownBlock ∧ some k_ ≠ (.slice Ao12 t222.length co12 : Value).ownBlock ∧ k_ ≠ gb218) ho0 (fun k_ hk_ => ⟨Or.elim hk_ (fun hs_ => fun e_ => Nat.not_le.2 hs_ (Kd.R_base HO221.out k_ e_.symm)) (fun hn_ => (Kd.fresh' (Kd.R_lt (PR HO221)) k_ hn_)), Or.elim hk_ (fun hs_ => fun e_ => Nat.not_le.2 hs_ (Kd.R_base HO224.out k_ e_.symm)) (fun hn_ => (Kd.fresh' (Kd.R_lt (PR HO224)) k_ hn_)), Or.elim hk_ (fun hs_ => fun e_ => Nat.not_le.2 hs_ (by rw [e_]; exact GW218.out)) (fun hn_ => (Kd.freshB (g := gb218) (o := .cells #[.int .i64 a0_0, .slice A0_1 l0_1.length c0_1, .slice A0_2 l0_2.length c0_2] 25 (0, 0)) (PK BK218) k_ hn_))⟩)) (below_size (PX HB))); have n3_ := AQ (blk_below (g := gb218) (o := .cells #[.int .i64 a0_0, .slice A0_1 l0_1.length c0_1, .slice A0_2 l0_2.length c0_2] 25 (0, 0)) (PK BK218) hb); have n4_ := AQ (below_step (PX HB) hb); clear HO221; clear HO224; clear BK218; clear HB; have HO221 := n0_; have HO224 := n1_; have HO227 := n2_; have BK218 := n3_; have HB := n4_; clear n0_ n1_ n2_ n3_ n4_; (try clear hb); (try clear hb2); (try clear hk); (try clear hi); (try clear ho0); obtain ⟨Ao14, co14, eo14⟩ := Kd.N_slice HO227.out; (first | subst eo14 | (injection eo14 with f1_ f2_ f3_; have f4_ := f1_.symm; have f5_ := f3_.symm; clear f1_ f2_ f3_; subst f4_; subst f5_)); refine hK.out _ _ ⟨(blk_cell BK218.out 0).trans rfl, (blk_cell BK218.out 1).trans rfl, (blk_cell BK218.out 2).trans rfl⟩ (fun hHeld => ?_); clear hK K; refine norm_ (a' := ?_) ?_ ?_; rotate_left
 ·show Act.put _ (some 10) _ = _
  simp only [Act.put, qT, qZ, qS, i64_w, i32_w]; rfl
 refine one_ (i := 8) (N := some 13) #[true, true, true, true, true, true, true, true, true, false] rfl rfl (one_of HT_.out (by kernel_rfl)) (by decide) (fun K hK => ?_); refine goes_ Tryd.func32 (by kernel_rfl) rfl #[.slice Ao14 t225.length co14, .int .i64 a0_0] (by rfl) rfl rfl (by (try simp only [List.map_toArray, List.map_cons, List.map_nil]); first | done | rfl | (simp only [List.length_drop, List.length_take]; rfl)) ?_
 with_reducible refine (geyserref04_Sum.calls k _ _ t225 a0_0 t228 _ ?side1 ?side2 A5.out).mono ?_
 (case side1 => repeat (first | exact (Kd.N_reads' HO227.out).2.2 | (with_reducible refine Kd.C_alloc ?_ _) | (with_reducible refine Kd.C_drewN ?_ _) | (with_reducible refine Kd.C_drew ?_))); (case side2 => exact (Kd.N_reads' HO227.out).2.1); rintro e w15 ⟨v229, rfl, ho0, hb⟩; refine ⟨_, rfl, ?_⟩; have n0_ := AQ (Kd.R_below (PR HO221) hb); have n1_ := AQ (Kd.R_below (PR HO224) hb); have n2_ := AQ (Kd.N_elder' (PN HO227) (Kd.R_base ho0) hb); have n3_ := AQ (Kd.R_lower ho0 (below_size (PX HB))); have n4_ := AQ (blk_below (g := gb218) (o := .cells #[.int .i64 a0_0, .slice A0_1 l0_1.length c0_1, .slice A0_2 l0_2.length c0_2] 25 (0, 0)) (PK BK218) hb); have n5_ := AQ (below_step (PX HB) hb); clear HO221; clear HO224; clear HO227; clear BK218; clear HB; have HO221 := n0_; have HO224 := n1_; have HO227 := n2_; have HO230 := n3_; have BK218 := n4_; have HB := n5_; clear n0_ n1_ n2_ n3_ n4_ n5_; (try clear hb); (try clear hb2); (try clear hk); (try clear hi); (try clear ho0); refine hK.out _ _ ⟨(blk_cell BK218.out 0).trans rfl, (blk_cell BK218.out 1).trans rfl, (blk_cell BK218.out 2).trans rfl⟩ (fun hHeld => ?_); clear hK K; refine norm_ (a' := ?_) ?_ ?_; rotate_left
 ·show Act.put _ (some 13) _ = _
  simp only [Act.put, qT, qZ, qS, i64_w, i32_w]; rfl
 refine pure_ (i := 9) (N := some 4) (v := ?_) (a' := ?_) #[true, true, true, true, true, true, true, true, true, true] rfl rfl (any_of HT_.out (by kernel_rfl)) (fun _ _ _ h => h) (Or.inl ⟨by rfl, ?_⟩) ?_ ?_; rotate_left
 ·intro w'; go_simp
  with_reducible rfl
 rotate_left
 ·simp only [Act.put, qT, qZ, qS, i64_w, i32_w]; rfl
 refine done_ (done_of HT_.out (by kernel_rfl)) ?_; (try go_wp2); go_ret; exact ⟨_, by first | rfl | (simp [errW_none, errW_some] <;> rfl) | (simp [*, errW_none, errW_some] <;> rfl), PR HO230, PX HB⟩
end Go.Proofs.YtjmgkknbgffbjaaDoor.P
