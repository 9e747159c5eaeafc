-- joined by merge.py: Px37 Px38 Px39 Px40 Px41 PureM3 Px65 PurePlain
import Derived.Test.YtgocibnmgfmceaaDoorWSort
import Derived.Test.YtgocibnmgfmceaaDoorMMatrixPlains1
namespace Go.Proofs.YtgocibnmgfmceaaDoor.P
open Go.RowKit Go.Proofs.YtgocibnmgfmceaaDoorW.PrintWords Go.Proofs.YtgocibnmgfmceaaDoorW.PrintLast Go.Proofs.YtgocibnmgfmceaaDoorW.PrintErr Go.Proofs.YtgocibnmgfmceaaDoorW.PrintMore
attribute [local go_sem] max2_int min2_int max_two min_two max_three min_three max_four min_four run_eql_errOf run_neq_errOf eqGuard_errOf   -- for this text's walks alone
set_option linter.unusedVariables false
set_option linter.unusedSimpArgs false

/-! ### geyserref03_swap: function 51 -/
def geyserref03_swap.f (l0 : List (List Bool)) (a1 : Int) (a2 : Int) : Option ((List (List Bool))) := (some (([] : List (List Bool)) : List (List Bool))).bind fun y343 => (if y343.length + l0.length < 5864062014805 then ((some (y343 ++ l0 : List (List Bool))).bind fun y346 => (if 0 ≤ a2 then (if a2 < (l0.length : Int) then (if 0 ≤ a1 then (if a1 < (y346.length : Int) then (if a1 < (l0.length : Int) then (if a2 < (y346.length : Int) then (some ((y346.set (a1 : Int).toNat (rd_Lsbool l0 a2)).set (a2 : Int).toNat (rd_Lsbool l0 a1))) else (none)) else (none)) else (none)) else (none)) else (none)) else (none))) else (none))
set_option maxHeartbeats 8000000 in
set_option maxRecDepth 100000 in
theorem geyserref03_swap.calls (P0_ : Nat → Prop) (A0 : Option Addr) (c0 : Nat) (l0 : List (List Bool)) (a1 : Int) (a2 : Int) (r : List (List Bool)) (w : World) (hs0 : Kd.V (Kd.slice 4 Kd.bool) 23 w w.heap.size (fun k_ => P0_ k_) (.slice A0 l0.length c0) l0) (h : geyserref03_swap.f l0 a1 a2 = some r) :
  Calls Tryd.prog 51 #[.slice A0 l0.length c0, .int .i64 a1, .int .i64 a2] w fun e w' => ∃ v0_ : Value, e = .returned (v0_) ∧ Kd.N (Kd.slice 4 Kd.bool) 23 w' w.heap.size (fun k_ => (P0_ k_ ∨ w.heap.size ≤ k_)) v0_ r ∧ Below w.heap.size w w' := by
 have HO0 := Aside0.mk (show Kd.V (Kd.slice 4 Kd.bool) 23 w w.heap.size (fun k_ => (P0_ k_ ∨ w.heap.size ≤ k_)) (.slice A0 l0.length c0) l0 from Kd.V_mono hs0 (fun k_ hk => .inl hk))
 have HB := Aside0.mk (Below.refl w.heap.size w)
 have H : ((some (([] : List (List Bool)) : List (List Bool))).bind fun y343 => (if y343.length + l0.length < 5864062014805 then ((some (y343 ++ l0 : List (List Bool))).bind fun y346 => (if 0 ≤ a2 then (if a2 < (l0.length : Int) then (if 0 ≤ a1 then (if a1 < (y346.length : Int) then (if a1 < (l0.length : Int) then (if a2 < (y346.length : Int) then (some ((y346.set (a1 : Int).toNat (rd_Lsbool l0 a2)).set (a2 : Int).toNat (rd_Lsbool l0 a1))) else (none)) else (none)) else (none)) else (none)) else (none)) else (none))) else (none))) = some r := h
 clear h
 obtain ⟨y343, hy343⟩ : ∃ y_ : List (List Bool), y_ = (([] : List (List Bool))) := ⟨_, rfl⟩
 replace H : (if y343.length + l0.length < 5864062014805 then ((some (y343 ++ l0 : List (List Bool))).bind fun y346 => (if 0 ≤ a2 then (if a2 < (l0.length : Int) then (if 0 ≤ a1 then (if a1 < (y346.length : Int) then (if a1 < (l0.length : Int) then (if a2 < (y346.length : Int) then (some ((y346.set (a1 : Int).toNat (rd_Lsbool l0 a2)).set (a2 : Int).toNat (rd_Lsbool l0 a1))) else (none)) else (none)) else (none)) else (none)) else (none)) else (none))) else (none)) = some r := by first | (rw [hy343]; with_reducible exact H) | (have H2_ := (Option.bind_some _ _).symm.trans H; rw [hy343]; with_reducible exact H2_) | (have H2_ := (Option.bind_some _ _).symm.trans H; with_reducible exact H2_) | with_reducible exact H | (rw [hy343]; exact H) | exact H
 have Ny343 := Aside0.mk hy343
 clear hy343
 by_cases c4 : y343.length + l0.length < 5864062014805
 ·rw [if_pos c4] at H
  have LMc4 := Aside0.mk c4
  clear c4
  obtain ⟨y346, hy346⟩ : ∃ y_ : List (List Bool), y_ = (y343 ++ l0) := ⟨_, rfl⟩
  replace H : (if 0 ≤ a2 then (if a2 < (l0.length : Int) then (if 0 ≤ a1 then (if a1 < (y346.length : Int) then (if a1 < (l0.length : Int) then (if a2 < (y346.length : Int) then (some ((y346.set (a1 : Int).toNat (rd_Lsbool l0 a2)).set (a2 : Int).toNat (rd_Lsbool l0 a1))) else (none)) else (none)) else (none)) else (none)) else (none)) else (none)) = some r := by first | (rw [hy346]; with_reducible exact H) | (have H2_ := (Option.bind_some _ _).symm.trans H; rw [hy346]; with_reducible exact H2_) | (have H2_ := (Option.bind_some _ _).symm.trans H; with_reducible exact H2_) | with_reducible exact H | (rw [hy346]; exact H) | exact H
  have Ny346 := Aside0.mk hy346
  clear hy346
  by_cases c5 : 0 ≤ a2
  ·rw [if_pos c5] at H
   have c5b0 : decide (0 ≤ a2) = true := decide_eq_true c5
   clear c5
   by_cases c6 : a2 < (l0.length : Int)
   ·rw [if_pos c6] at H
    have c6b0 : decide (a2 < (l0.length : Int)) = true := decide_eq_true c6
    clear c6
    by_cases c7 : 0 ≤ a1
    ·rw [if_pos c7] at H
     have c7b0 : decide (0 ≤ a1) = true := decide_eq_true c7
     clear c7
     by_cases c8 : a1 < (y346.length : Int)
     ·rw [if_pos c8] at H
      have c8b0 : decide (a1 < (y346.length : Int)) = true := decide_eq_true c8
      clear c8
      obtain ⟨y350, hy350⟩ : ∃ y_ : List (List Bool), y_ = (y346.set (a1 : Int).toNat (rd_Lsbool l0 a2)) := ⟨_, rfl⟩
      replace H : (if a1 < (l0.length : Int) then (if a2 < (y346.length : Int) then (some (y350.set (a2 : Int).toNat (rd_Lsbool l0 a1))) else (none)) else (none)) = some r := by first | (rw [hy350]; with_reducible exact H) | (have H2_ := (Option.bind_some _ _).symm.trans H; rw [hy350]; with_reducible exact H2_) | (have H2_ := (Option.bind_some _ _).symm.trans H; with_reducible exact H2_) | with_reducible exact H | (rw [hy350]; exact H) | exact H
      have Ny350 := Aside0.mk hy350
      clear hy350
      by_cases c10 : a1 < (l0.length : Int)
      ·rw [if_pos c10] at H
       have c10b0 : decide (a1 < (l0.length : Int)) = true := decide_eq_true c10
       clear c10
       by_cases c11 : a2 < (y346.length : Int)
       ·rw [if_pos c11] at H
        have c11b0 : decide (a2 < (y346.length : Int)) = true := decide_eq_true c11
        clear c11
        obtain ⟨y352, hy352⟩ : ∃ y_ : List (List Bool), y_ = (y350.set (a2 : Int).toNat (rd_Lsbool l0 a1)) := ⟨_, rfl⟩
        replace H : (some y352) = some r := by first | (rw [hy352]; with_reducible exact H) | (have H2_ := (Option.bind_some _ _).symm.trans H; rw [hy352]; with_reducible exact H2_) | (have H2_ := (Option.bind_some _ _).symm.trans H; with_reducible exact H2_) | with_reducible exact H | (rw [hy352]; exact H) | exact H
        have Ny352 := Aside0.mk hy352
        clear hy352
        obtain rfl := Option.some.inj H
        go_enter Tryd.func51, Tryd.ntmps51
        go_wp2_with (first | ((with_reducible refine gate_dst (N := 8) rfl ?_); refine Kd.N_lit (Kd.slice 4 Kd.bool) _ 23 ?hg (N' := 8) ?hd (xs := ([] : List (List Bool))) (inner := []) (ok := (fun k_ => (P0_ k_ ∨ w.heap.size ≤ k_))) (okp := (fun k_ => (P0_ k_ ∨ w.heap.size ≤ k_))) ?hr ?hp (fun _ hk => hk) ((show ∀ k_, w.heap.size ≤ k_ → (fun k_ => (P0_ k_ ∨ w.heap.size ≤ k_)) k_ from fun k_ hk => (.inr (Nat.le_trans (below_size (by repeat (first | (with_reducible first | exact HB.out | apply below_alloc | apply pw_below_drewN | apply below_drew1) | exact HB.out))) hk))) _ (Nat.le_refl _)) (Below.refl _ _) (Nat.le_refl _) (by simp) ?_; (case hd => rfl); (case hg => rfl); (case hr => first | (go_simp; done) | (go_simp; rfl)); (case hp => exact (Reps.none _ _)); intro v344 w13 ho14 hb hg_ hnew_; clear hg_ hnew_; (first | rw [← Ny343.out] at ho14 | (simp only [Int.reduceToNat] at ho14; rw [← Ny343.out] at ho14)); have n0_ := Aside0.mk (Kd.V_elder' (by (with_reducible repeat (first | apply Kd.V_alloc | apply Kd.V_drewN | apply Kd.V_drew)); exact HO0.out) (Kd.N_base ho14) hb); have n1_ := Aside0.mk (Kd.N_lower ho14 (below_size (by repeat (first | (with_reducible first | exact HB.out | apply below_alloc | apply pw_below_drewN | apply below_drew1) | exact HB.out)))); have n2_ := Aside0.mk (below_step (by repeat (first | (with_reducible first | exact HB.out | apply below_alloc | apply pw_below_drewN | apply below_drew1) | exact HB.out)) hb); clear HO0; clear HB; have HO0 := n0_; have HO345 := n1_; have HB := n2_; clear n0_ n1_ n2_; clear hb ho14) | ((with_reducible refine gate_builtin (b := .append) (xs := #[.tmp 8, .tmp 9]) rfl ?_); at_builtin; refine Kd.N_append_rows (Kd.slice 4 Kd.bool) (w0 := w) w.heap.size rfl (.tmp 8) (.tmp 9) 65 23 (.slice none 0 0) 24 rfl Tryd.underlying65 info23 rfl (by decide) (by omega) v344 y343 l0 _ _ _ (fun k_ => (P0_ k_ ∨ w.heap.size ≤ k_)) (fun k_ => ((fun k_ => (P0_ k_ ∨ w.heap.size ≤ k_))) k_ ∧ some k_ ≠ (v344 : Value).ownBlock) rfl rfl ?aO ?aR (fun _ hk => hk) ?aF ?aB ?aS ?aL ?_; (case aR => exact (by skip; exact Kd.V_F (Kd.V_mono (ok' := (fun k_ => ((fun k_ => (P0_ k_ ∨ w.heap.size ≤ k_))) k_ ∧ some k_ ≠ (v344 : Value).ownBlock)) (HO0.out) (fun k_ hk => ⟨hk.1, hk.2⟩)))); (case aB => exact (by repeat (first | (with_reducible first | exact HB.out | apply below_alloc | apply pw_below_drewN | apply below_drew1) | exact HB.out))); (case aF => exact (fun k_ hk => (.inr (Nat.le_trans (below_size (by repeat (first | (with_reducible first | exact HB.out | apply below_alloc | apply pw_below_drewN | apply below_drew1) | exact HB.out))) hk)))); (case aO => exact (by (with_reducible repeat (first | apply Kd.N_alloc | apply Kd.N_drewN | apply Kd.N_drew)); exact HO345.out)); (case aS => exact (below_size (by repeat (first | (with_reducible first | exact HB.out | apply below_alloc | apply pw_below_drewN | apply below_drew1) | exact HB.out)))); (case aL => have := LMc4.out; omega); intro v347 w15 ho hb hg hat; rw [← Ny346.out] at ho; have n0_ := Aside0.mk (Kd.V_afterv (ok := (fun k_ => (P0_ k_ ∨ w.heap.size ≤ k_))) (by (with_reducible repeat (first | apply Kd.V_alloc | apply Kd.V_drewN | apply Kd.V_drew)); exact HO0.out) hg hat); have n1_ := Aside0.mk (hb); have n2_ := Aside0.mk (ho); clear HO0; clear HB; clear HO345; have HO0 := n0_; have HB := n1_; have HO348 := n2_; clear n0_ n1_ n2_; clear ho hb hg hat; have p349 : 0 ≤ (a2 : Int) := of_decide_eq_true (by first | (with_reducible assumption) | assumption); have q349 : a2 < (l0.length : Int) := of_decide_eq_true (by first | (with_reducible assumption) | assumption); obtain ⟨ad349, A349_0, c349_0, e349, hx349_0, hl349_0, hi349_0⟩ := at_Lsbool (Kd.V_reads' HO0.out).2.2 a2 p349 q349; cases e349; obtain ⟨ce349, hce349, hMe349, hcc349⟩ := Kd.V_get HO0.out [] a2 p349 (by first | exact q349 | exact of_decide_eq_true (by first | (with_reducible assumption) | assumption) | (have e_ := (Kd.V_reads' HO0.out).1; omega)); obtain ⟨ua349_0, uc349_0, rfl, ul349_0, ge349_0⟩ := Kd.FK_slice_open hMe349; have hv349_0 := hcc349 0 _ rfl; rw [Nat.add_zero, show ((Kd.slice 4 Kd.bool)).sz = 1 from rfl, Nat.mul_one] at hv349_0; replace hv349_0 := Option.some.inj (hv349_0.symm.trans hx349_0); injection hv349_0 with hva_ hvn_ hvc_; rw [hva_] at ge349_0; rw [hvc_] at ul349_0; have HL349_0 := Aside0.mk (show Kd.V Kd.bool 4 _ w.heap.size _ _ (rd_Lsbool l0 a2) from Kd.V_mk ul349_0 ge349_0); clear hva_ hvn_ hvc_ ge349_0 ul349_0; clear hcc349 hce349; have HR349_0 := Aside0.mk hi349_0; have HC349_0 := Aside0.mk hl349_0; clear hi349_0 hl349_0; replace p349 := eq_true p349; replace q349 := eq_true q349; have p9 : 0 ≤ (a1 : Int) := of_decide_eq_true (by first | (with_reducible assumption) | assumption); have q9 : (a1 : Int) < ((y346.length : Int) : Int) := of_decide_eq_true (by first | (with_reducible assumption) | assumption); obtain ⟨go9, co9, eo9, gb9, gl9, cl9, HG9⟩ := Kd.N_form HO348.out (by omega); (first | cases eo9 | (injection eo9 with ea_ en_ ec_; (first | subst ea_ | (injection ea_ with ea_; subst ea_)); subst ec_; clear en_)); have GB9 := Aside0.mk gb9; have GG9 := Aside0.mk HG9; clear gb9 gl9 HG9; obtain ⟨ce9, hcl9, hM9, hcc9, hfr9⟩ := Kd.N_elem HO348.out [] (a1 : Int) p9 q9; obtain ⟨ua9_0, uc9_0, rfl, ul9_0, ge9_0⟩ := Kd.FK_slice_open hM9; have hx9_0 := hcc9 0 _ rfl; have hf9_0 := hfr9 0; (try simp only [show ((Kd.slice 4 Kd.bool)).sz = 1 from rfl, Nat.mul_one, Nat.add_zero] at hx9_0); (try simp only [show ((Kd.slice 4 Kd.bool)).sz = 1 from rfl, Nat.mul_one, Nat.add_zero] at hf9_0); clear hcl9 hcc9 hfr9 hM9; replace p9 := eq_true p9; replace q9 := eq_true q9; have HX16 := Aside0.mk (show Kd.N (Kd.slice 4 Kd.bool) 23 w15 w.heap.size (fun k_ => (P0_ k_ ∨ w.heap.size ≤ k_)) (.slice (some ⟨go9, 0, none⟩) y346.length co9) y346 from (by (with_reducible repeat (first | apply Kd.N_alloc | apply Kd.N_drewN | apply Kd.N_drew)); exact HO348.out)); obtain ⟨ce16, hcl16, hM16, hcc16, hfr16⟩ := Kd.N_elem HX16.out [] (a1 : Int) (of_decide_eq_true (by first | (with_reducible assumption) | assumption)) (by have h_ : (a1 : Int) < ((y346.length : Int) : Int) := of_decide_eq_true (by first | (with_reducible assumption) | assumption); first | exact h_ | (have e_ := (Kd.N_reads' HO348.out).1; omega) | simpa using h_); obtain ⟨ua16_0, uc16_0, rfl, ul16_0, ge16_0⟩ := Kd.FK_slice_open hM16; have HP16 := Kd.N_seg HX16.out (a1 : Int) (of_decide_eq_true (by first | (with_reducible assumption) | assumption)) (by have h_ : (a1 : Int) < ((y346.length : Int) : Int) := of_decide_eq_true (by first | (with_reducible assumption) | assumption); first | exact h_ | (have e_ := (Kd.N_reads' HO348.out).1; omega) | simpa using h_) (seg := [.slice A349_0 (rd_Lsbool l0 a2).length c349_0]) (j := 0) hcl16 hcc16 (show 1 ≤ 1 from by decide) (x' := rd_Lsbool l0 a2) (Kd.FK_slice_mk (Kd.V_reads' (Kd.V_mono (ok' := (fun k_ => ((fun k_ => (P0_ k_ ∨ w.heap.size ≤ k_))) k_ ∧ k_ ≠ go9)) (HL349_0.out) (fun k_ hk => ⟨hk.1, fun e_ => (hk.2) (by rw [e_]; rfl)⟩))).2.1 (Kd.V_F (Kd.V_mono (ok' := (fun k_ => ((fun k_ => (P0_ k_ ∨ w.heap.size ≤ k_))) k_ ∧ k_ ≠ go9)) (HL349_0.out) (fun k_ hk => ⟨hk.1, fun e_ => (hk.2) (by rw [e_]; rfl)⟩)))) (fun _ hk => hk); have hx16_0 := hcc16 0 _ rfl; (try simp only [show ((Kd.slice 4 Kd.bool)).sz = 1 from rfl, Nat.mul_one, Nat.add_zero] at hx16_0); have hf16_0 := hfr16 0; (try simp only [show ((Kd.slice 4 Kd.bool)).sz = 1 from rfl, Nat.mul_one, Nat.add_zero] at hf16_0); clear hcl16 hcc16 hfr16 hM16; (try simp only [show ((Kd.slice 4 Kd.bool)).sz = 1 from rfl, Nat.mul_one, Nat.add_zero] at HP16); (try simp only [show ((Kd.slice 4 Kd.bool)).sz = 1 from rfl, Nat.mul_one, Nat.add_zero] at HP16)) | ((with_reducible refine gate_store (t := 23) (p := 17) rfl ?_); refine store_event (t := 23) (p := 17) (v := ?vo_w17) (w1 := (w15.setCell ⟨go9, (a1 : Int).toNat, none⟩ (.slice A349_0 (rd_Lsbool l0 a2).length c349_0))) ?hg ?ho ?hn ?hr ?_; (case ho => rfl); (case hg => rfl); (case hn => rfl); (case hr => first | (go_simp; done) | (go_simp; rfl)); intro w17 hw; have hg : w15.grownBy w17 (some go9) := (by rw [hw]; exact HP16.2); have hp_ : Kd.N (Kd.slice 4 Kd.bool) 23 w17 w.heap.size (fun k_ => (P0_ k_ ∨ w.heap.size ≤ k_)) (.slice (some ⟨go9, 0, none⟩) y346.length co9) y350 := (by rw [hw, Ny350.out]; exact HP16.1); clear HP16; have n0_ := Aside0.mk (Kd.V_afterv (v := (.slice (some ⟨go9, 0, none⟩) y346.length co9)) (v1 := (.slice (some ⟨go9, 0, none⟩) y346.length co9)) (ok := (fun k_ => (P0_ k_ ∨ w.heap.size ≤ k_))) (by (with_reducible repeat (first | apply Kd.V_alloc | apply Kd.V_drewN | apply Kd.V_drew)); exact HO0.out) hg (.inl rfl)); have n1_ := Aside0.mk (hp_); have n2_ := Aside0.mk (Kd.V_afterv (v := (.slice (some ⟨go9, 0, none⟩) y346.length co9)) (v1 := (.slice (some ⟨go9, 0, none⟩) y346.length co9)) (ok := (fun k_ => (P0_ k_ ∨ w.heap.size ≤ k_))) (by (with_reducible repeat (first | apply Kd.V_alloc | apply Kd.V_drewN | apply Kd.V_drew)); exact HL349_0.out) hg (.inl rfl)); have n3_ := Aside0.mk ((by rw [hw]; exact below_set (HB.out) GB9.out : Below w.heap.size w w17)); clear HO0; clear HO348; clear HL349_0; clear HB; have HO0 := n0_; have HO348 := n1_; have HL349_0 := n2_; have HB := n3_; clear n0_ n1_ n2_ n3_; clear hg hw hp_; have p351 : 0 ≤ (a1 : Int) := of_decide_eq_true (by first | (with_reducible assumption) | assumption); have q351 : a1 < (l0.length : Int) := of_decide_eq_true (by first | (with_reducible assumption) | assumption); obtain ⟨ad351, A351_0, c351_0, e351, hx351_0, hl351_0, hi351_0⟩ := at_Lsbool (Kd.V_reads' HO0.out).2.2 a1 p351 q351; obtain rfl : ad349 = ad351 := (by injection e351); obtain ⟨ce351, hce351, hMe351, hcc351⟩ := Kd.V_get HO0.out [] a1 p351 (by first | exact q351 | exact of_decide_eq_true (by first | (with_reducible assumption) | assumption) | (have e_ := (Kd.V_reads' HO0.out).1; omega)); obtain ⟨ua351_0, uc351_0, rfl, ul351_0, ge351_0⟩ := Kd.FK_slice_open hMe351; have hv351_0 := hcc351 0 _ rfl; rw [Nat.add_zero, show ((Kd.slice 4 Kd.bool)).sz = 1 from rfl, Nat.mul_one] at hv351_0; replace hv351_0 := Option.some.inj (hv351_0.symm.trans hx351_0); injection hv351_0 with hva_ hvn_ hvc_; rw [hva_] at ge351_0; rw [hvc_] at ul351_0; have HL351_0 := Aside0.mk (show Kd.V Kd.bool 4 _ w.heap.size _ _ (rd_Lsbool l0 a1) from Kd.V_mk ul351_0 ge351_0); clear hva_ hvn_ hvc_ ge351_0 ul351_0; clear hcc351 hce351; have HR351_0 := Aside0.mk hi351_0; have HC351_0 := Aside0.mk hl351_0; clear hi351_0 hl351_0; replace p351 := eq_true p351; replace q351 := eq_true q351; have p12 : 0 ≤ (a2 : Int) := of_decide_eq_true (by first | (with_reducible assumption) | assumption); have q12 : (a2 : Int) < ((y346.length : Int) : Int) := of_decide_eq_true (by first | (with_reducible assumption) | assumption); obtain ⟨ce12, hcl12, hM12, hcc12, hfr12⟩ := Kd.N_elem HO348.out [] (a2 : Int) p12 q12; obtain ⟨ua12_0, uc12_0, rfl, ul12_0, ge12_0⟩ := Kd.FK_slice_open hM12; have hx12_0 := hcc12 0 _ rfl; have hf12_0 := hfr12 0; (try simp only [show ((Kd.slice 4 Kd.bool)).sz = 1 from rfl, Nat.mul_one, Nat.add_zero] at hx12_0); (try simp only [show ((Kd.slice 4 Kd.bool)).sz = 1 from rfl, Nat.mul_one, Nat.add_zero] at hf12_0); clear hcl12 hcc12 hfr12 hM12; replace p12 := eq_true p12; replace q12 := eq_true q12; have HX18 := Aside0.mk (show Kd.N (Kd.slice 4 Kd.bool) 23 w17 w.heap.size (fun k_ => (P0_ k_ ∨ w.heap.size ≤ k_)) (.slice (some ⟨go9, 0, none⟩) y346.length co9) y350 from (by (with_reducible repeat (first | apply Kd.N_alloc | apply Kd.N_drewN | apply Kd.N_drew)); exact HO348.out)); obtain ⟨ce18, hcl18, hM18, hcc18, hfr18⟩ := Kd.N_elem HX18.out [] (a2 : Int) (of_decide_eq_true (by first | (with_reducible assumption) | assumption)) (by have h_ : (a2 : Int) < ((y346.length : Int) : Int) := of_decide_eq_true (by first | (with_reducible assumption) | assumption); first | exact h_ | (have e_ := (Kd.N_reads' HO348.out).1; omega) | simpa using h_); obtain ⟨ua18_0, uc18_0, rfl, ul18_0, ge18_0⟩ := Kd.FK_slice_open hM18; have HP18 := Kd.N_seg HX18.out (a2 : Int) (of_decide_eq_true (by first | (with_reducible assumption) | assumption)) (by have h_ : (a2 : Int) < ((y346.length : Int) : Int) := of_decide_eq_true (by first | (with_reducible assumption) | assumption); first | exact h_ | (have e_ := (Kd.N_reads' HO348.out).1; omega) | simpa using h_) (seg := [.slice A351_0 (rd_Lsbool l0 a1).length c351_0]) (j := 0) hcl18 hcc18 (show 1 ≤ 1 from by decide) (x' := rd_Lsbool l0 a1) (Kd.FK_slice_mk (Kd.V_reads' (Kd.V_mono (ok' := (fun k_ => ((fun k_ => (P0_ k_ ∨ w.heap.size ≤ k_))) k_ ∧ k_ ≠ go9)) (HL351_0.out) (fun k_ hk => ⟨hk.1, fun e_ => (hk.2) (by rw [e_]; rfl)⟩))).2.1 (Kd.V_F (Kd.V_mono (ok' := (fun k_ => ((fun k_ => (P0_ k_ ∨ w.heap.size ≤ k_))) k_ ∧ k_ ≠ go9)) (HL351_0.out) (fun k_ hk => ⟨hk.1, fun e_ => (hk.2) (by rw [e_]; rfl)⟩)))) (fun _ hk => hk); have hx18_0 := hcc18 0 _ rfl; (try simp only [show ((Kd.slice 4 Kd.bool)).sz = 1 from rfl, Nat.mul_one, Nat.add_zero] at hx18_0); have hf18_0 := hfr18 0; (try simp only [show ((Kd.slice 4 Kd.bool)).sz = 1 from rfl, Nat.mul_one, Nat.add_zero] at hf18_0); clear hcl18 hcc18 hfr18 hM18; (try simp only [show ((Kd.slice 4 Kd.bool)).sz = 1 from rfl, Nat.mul_one, Nat.add_zero] at HP18); (try simp only [show ((Kd.slice 4 Kd.bool)).sz = 1 from rfl, Nat.mul_one, Nat.add_zero] at HP18)) | ((with_reducible refine gate_store (t := 23) (p := 24) rfl ?_); refine store_event (t := 23) (p := 24) (v := ?vo_w19) (w1 := (w17.setCell ⟨go9, (a2 : Int).toNat, none⟩ (.slice A351_0 (rd_Lsbool l0 a1).length c351_0))) ?hg ?ho ?hn ?hr ?_; (case ho => rfl); (case hg => rfl); (case hn => rfl); (case hr => first | (go_simp; done) | (go_simp; rfl)); intro w19 hw; have hg : w17.grownBy w19 (some go9) := (by rw [hw]; exact HP18.2); have hp_ : Kd.N (Kd.slice 4 Kd.bool) 23 w19 w.heap.size (fun k_ => (P0_ k_ ∨ w.heap.size ≤ k_)) (.slice (some ⟨go9, 0, none⟩) y346.length co9) y352 := (by rw [hw, Ny352.out]; exact HP18.1); clear HP18; have n0_ := Aside0.mk (Kd.V_afterv (v := (.slice (some ⟨go9, 0, none⟩) y346.length co9)) (v1 := (.slice (some ⟨go9, 0, none⟩) y346.length co9)) (ok := (fun k_ => (P0_ k_ ∨ w.heap.size ≤ k_))) (by (with_reducible repeat (first | apply Kd.V_alloc | apply Kd.V_drewN | apply Kd.V_drew)); exact HO0.out) hg (.inl rfl)); have n1_ := Aside0.mk (hp_); have n2_ := Aside0.mk (Kd.V_afterv (v := (.slice (some ⟨go9, 0, none⟩) y346.length co9)) (v1 := (.slice (some ⟨go9, 0, none⟩) y346.length co9)) (ok := (fun k_ => (P0_ k_ ∨ w.heap.size ≤ k_))) (by (with_reducible repeat (first | apply Kd.V_alloc | apply Kd.V_drewN | apply Kd.V_drew)); exact HL349_0.out) hg (.inl rfl)); have n3_ := Aside0.mk (Kd.V_afterv (v := (.slice (some ⟨go9, 0, none⟩) y346.length co9)) (v1 := (.slice (some ⟨go9, 0, none⟩) y346.length co9)) (ok := (fun k_ => (P0_ k_ ∨ w.heap.size ≤ k_))) (by (with_reducible repeat (first | apply Kd.V_alloc | apply Kd.V_drewN | apply Kd.V_drew)); exact HL351_0.out) hg (.inl rfl)); have n4_ := Aside0.mk ((by rw [hw]; exact below_set (HB.out) GB9.out : Below w.heap.size w w19)); clear HO0; clear HO348; clear HL349_0; clear HL351_0; clear HB; have HO0 := n0_; have HO348 := n1_; have HL349_0 := n2_; have HL351_0 := n3_; have HB := n4_; clear n0_ n1_ n2_ n3_ n4_; clear hg hw hp_))
        go_ret
        exact ⟨_, by first | rfl | (simp [errW_none, errW_some] <;> rfl) | (simp [*, errW_none, errW_some] <;> rfl), by (with_reducible repeat (first | apply Kd.N_alloc | apply Kd.N_drewN | apply Kd.N_drew)); exact HO348.out, by repeat (first | (with_reducible first | exact HB.out | apply below_alloc | apply pw_below_drewN | apply below_drew1) | exact HB.out)⟩
       ·rw [if_neg c11] at H
        exact absurd H (by simp)
      ·rw [if_neg c10] at H
       exact absurd H (by simp)
     ·rw [if_neg c8] at H
      exact absurd H (by simp)
    ·rw [if_neg c7] at H
     exact absurd H (by simp)
   ·rw [if_neg c6] at H
    exact absurd H (by simp)
  ·rw [if_neg c5] at H
   exact absurd H (by simp)
 ·rw [if_neg c4] at H
  exact absurd H (by simp)


/-! ### geyserref03_Gauss: function 34 -/
def geyserref03_Gauss.l0 : Nat → List (List Bool) → Int → Int → Int → Option ((List (List Bool)))
 | 0, _, _, _, _ => none
 | k + 1, x0, x1, x5, x6 => if x6 < x1 then ((geyserref03_pivot.f k x0 x5 x6).bind fun t358 => (if t358 < 0 then (geyserref03_Gauss.l0 k x0 x1 x5 (wrap64 (x6 + 1))) else ((geyserref03_swap.f x0 x5 t358).bind fun t359 => ((geyserref03_clear.f k t359 x5 x6).bind fun t362 => (geyserref03_Gauss.l0 k t362 x1 (wrap64 (x5 + 1)) (wrap64 (x6 + 1))))))) else (if 0 ≤ x5 then (if x5 ≤ (x0.length : Int) then (some (x0.take (x5 : Int).toNat)) else (none)) else (none))
def geyserref03_Gauss.f (k : Nat) (l0 : List (List Bool)) (a1 : Int) : Option ((List (List Bool))) := geyserref03_Gauss.l0 k l0 a1 0 0
theorem geyserref03_Gauss.mono_l : ∀ k, (∀ y0 y1 y2 y3, LeO (geyserref03_Gauss.l0 k y0 y1 y2 y3) (geyserref03_Gauss.l0 (k + 1) y0 y1 y2 y3))
 | 0 => fun _ _ _ _ r h => by simp [geyserref03_Gauss.l0] at h
 | k + 1 => by
  have ih0 := geyserref03_Gauss.mono_l k
  ·intro y0 y1 y2 y3
   unfold geyserref03_Gauss.l0
   repeat' first
   | (with_reducible exact ih0 _ _ _ _)
   | (with_reducible exact geyserref03_clear.mono _ _ _ _)
   | (with_reducible exact geyserref03_pivot.mono _ _ _ _)
   | (with_reducible exact LeO.refl _)
   | (with_reducible exact LeO.none _)
   | (with_reducible refine LeO.ite ?_ ?_)
   | (with_reducible refine LeO.bind ?_ (fun _ => ?_))
   | exact ih0 _ _ _ _
   | exact geyserref03_clear.mono _ _ _ _
   | exact geyserref03_pivot.mono _ _ _ _
   | exact LeO.none _
   | refine LeO.ite ?_ ?_
   | refine LeO.bind ?_ (fun _ => ?_)
theorem geyserref03_Gauss.mono : ∀ a0 a1 k, LeO (geyserref03_Gauss.f k a0 a1) (geyserref03_Gauss.f (k + 1) a0 a1) := by
 intro a0 a1 k
 have ih0 := geyserref03_Gauss.mono_l k
 unfold geyserref03_Gauss.f
 repeat' first
   | (with_reducible exact ih0 _ _ _ _)
   | (with_reducible exact geyserref03_clear.mono _ _ _ _)
   | (with_reducible exact geyserref03_pivot.mono _ _ _ _)
   | (with_reducible exact LeO.refl _)
   | (with_reducible exact LeO.none _)
   | (with_reducible refine LeO.ite ?_ ?_)
   | (with_reducible refine LeO.bind ?_ (fun _ => ?_))
   | exact ih0 _ _ _ _
   | exact geyserref03_clear.mono _ _ _ _
   | exact geyserref03_pivot.mono _ _ _ _
   | exact LeO.none _
   | refine LeO.ite ?_ ?_
   | refine LeO.bind ?_ (fun _ => ?_)
set_option maxHeartbeats 8000000 in
set_option maxRecDepth 100000 in
theorem geyserref03_Gauss.calls (k : Nat) (P0_ : Nat → Prop) (A0 : Option Addr) (c0 : Nat) (l0 : List (List Bool)) (a1 : Int) (r : List (List Bool)) (w : World) (hs0 : Kd.V (Kd.slice 4 Kd.bool) 23 w w.heap.size (fun k_ => P0_ k_) (.slice A0 l0.length c0) l0) (h : geyserref03_Gauss.f k l0 a1 = some r) :
  Calls Tryd.prog 34 #[.slice A0 l0.length c0, .int .i64 a1] w fun e w' => ∃ v0_ : Value, e = .returned (v0_) ∧ Kd.V (Kd.slice 4 Kd.bool) 23 w' w.heap.size (fun k_ => (P0_ k_ ∨ w.heap.size ≤ k_)) v0_ r ∧ Below w.heap.size w w' := by
 have HO0 := Aside0.mk (show Kd.V (Kd.slice 4 Kd.bool) 23 w w.heap.size (fun k_ => (P0_ k_ ∨ w.heap.size ≤ k_)) (.slice A0 l0.length c0) l0 from Kd.V_mono hs0 (fun k_ hk => .inl hk))
 have HB := Aside0.mk (Below.refl w.heap.size w)
 have H : (geyserref03_Gauss.l0 k l0 a1 0 0) = some r := h
 clear h
 have H' := Aside0.mk H
 clear H
 go_enter Tryd.func34, Tryd.ntmps34
 go_wp2
 go_loopg [0, 5, 6] k (fun kq v0 v5 v6 w' => ∃ (x0_1 : List (List Bool)) (x5_1 : Int) (x6_1 : Int), v5 = .int .i64 x5_1 ∧ v6 = .int .i64 x6_1 ∧ Aside0 (geyserref03_Gauss.l0 kq x0_1 a1 x5_1 x6_1 = some r) ∧ Aside0 (kq ≤ k) ∧ Aside0 (Kd.V (Kd.slice 4 Kd.bool) 23 w' w.heap.size (fun k_ => (P0_ k_ ∨ w.heap.size ≤ k_)) v0 x0_1) ∧ Aside0 (Below w.heap.size w w'))
 case atStart => exact ⟨(l0), (0), (0), (by first | rfl | (simp; done) | (simp [*]; done)), (by first | rfl | (simp; done) | (simp [*]; done)), H', ⟨Nat.le_refl _⟩, ⟨by (with_reducible repeat (first | apply Kd.V_alloc | apply Kd.V_drewN | apply Kd.V_drew)); exact HO0.out⟩, ⟨by repeat (first | (with_reducible first | exact HB.out | apply below_alloc | apply pw_below_drewN | apply below_drew1) | exact HB.out)⟩⟩
 case round =>
  clear H'
  try clear p2
  obtain ⟨x0_1, x5_1, x6_1, rfl, rfl, HA, HK1, HO_0, HB⟩ := hrel
  cases gk with
  | zero => exact absurd HA.out (by simp [geyserref03_Gauss.l0])
  | succ k1 =>
   have H := HA.out
   clear HA
   simp only [geyserref03_Gauss.l0] at H
   by_cases c3 : x6_1 < a1
   ·rw [if_pos c3] at H
    have c3b0 : decide (x6_1 < a1) = true := decide_eq_true c3
    clear c3
    replace H := Option.bind_eq_some_iff.mp H
    obtain ⟨t358, A40, H⟩ := H
    replace H : (if t358 < 0 then (geyserref03_Gauss.l0 k1 x0_1 a1 x5_1 (wrap64 (x6_1 + 1))) else ((geyserref03_swap.f x0_1 x5_1 t358).bind fun t359 => ((geyserref03_clear.f k1 t359 x5_1 x6_1).bind fun t362 => (geyserref03_Gauss.l0 k1 t362 a1 (wrap64 (x5_1 + 1)) (wrap64 (x6_1 + 1)))))) = some r := H
    have A4 := Aside0.mk A40
    clear A40
    by_cases c5 : t358 < 0
    ·rw [if_pos c5] at H
     have c5b0 : decide (t358 < 0) = true := decide_eq_true c5
     clear c5
     have H' := Aside0.mk H
     clear H
     obtain ⟨Ao6, co6, eo6⟩ := Kd.V_slice HO_0.out
     subst eo6
     go_wp2_with (first | ((with_reducible refine gate_callee (f := 49) rfl ?_); refine goesL_ (some 16) rfl rfl Tryd.func49 (by kernel_rfl) rfl #[.slice Ao6 x0_1.length co6, .int .i64 x5_1, .int .i64 x6_1] rfl (by (try simp only [List.map_toArray, List.map_cons, List.map_nil]); first | done | rfl | (simp only [List.length_drop, List.length_take]; rfl)) ?_; (with_reducible refine (geyserref03_pivot.calls k1 _ _ x0_1 x5_1 x6_1 t358 _ ?side1 ?side2 A4.out).mono ?_); (case side1 => repeat (first | exact (Kd.V_reads' HO_0.out).2.2 | (with_reducible refine Kd.C_alloc ?_ _) | (with_reducible refine Kd.C_drewN ?_ _) | (with_reducible refine Kd.C_drew ?_))); (case side2 => exact (Kd.V_reads' HO_0.out).2.1); rintro e w' ⟨rfl, ⟨nd, rfl⟩⟩; refine ⟨_, rfl, ?_⟩))
     go_roundg k1
     case measure => have := HK1.out; omega
     case rel => exact ⟨(x0_1), (x5_1), (wrap64 (x6_1 + 1)), (by first | rfl | (simp; done) | (simp [*]; done)), (by first | rfl | (simp; done) | (simp [*]; done)), H', ⟨by have := HK1.out; omega⟩, ⟨by (with_reducible repeat (first | apply Kd.V_alloc | apply Kd.V_drewN | apply Kd.V_drew)); exact HO_0.out⟩, ⟨by repeat (first | (with_reducible first | exact HB.out | apply below_alloc | apply pw_below_drewN | apply below_drew1) | exact HB.out)⟩⟩
    ·rw [if_neg c5] at H
     have c5b0 : decide (t358 < 0) = false := decide_eq_false c5
     clear c5
     replace H := Option.bind_eq_some_iff.mp H
     obtain ⟨t359, A70, H⟩ := H
     replace H : ((geyserref03_clear.f k1 t359 x5_1 x6_1).bind fun t362 => (geyserref03_Gauss.l0 k1 t362 a1 (wrap64 (x5_1 + 1)) (wrap64 (x6_1 + 1)))) = some r := H
     have A7 := Aside0.mk A70
     clear A70
     replace H := Option.bind_eq_some_iff.mp H
     obtain ⟨t362, A80, H⟩ := H
     replace H : (geyserref03_Gauss.l0 k1 t362 a1 (wrap64 (x5_1 + 1)) (wrap64 (x6_1 + 1))) = some r := H
     have A8 := Aside0.mk A80
     clear A80
     have H' := Aside0.mk H
     clear H
     obtain ⟨Ao9, co9, eo9⟩ := Kd.V_slice HO_0.out
     subst eo9
     go_wp2_with (first | ((with_reducible refine gate_callee (f := 49) rfl ?_); refine goesL_ (some 16) rfl rfl Tryd.func49 (by kernel_rfl) rfl #[.slice Ao9 x0_1.length co9, .int .i64 x5_1, .int .i64 x6_1] rfl (by (try simp only [List.map_toArray, List.map_cons, List.map_nil]); first | done | rfl | (simp only [List.length_drop, List.length_take]; rfl)) ?_; (with_reducible refine (geyserref03_pivot.calls k1 _ _ x0_1 x5_1 x6_1 t358 _ ?side1 ?side2 A4.out).mono ?_); (case side1 => repeat (first | exact (Kd.V_reads' HO_0.out).2.2 | (with_reducible refine Kd.C_alloc ?_ _) | (with_reducible refine Kd.C_drewN ?_ _) | (with_reducible refine Kd.C_drew ?_))); (case side2 => exact (Kd.V_reads' HO_0.out).2.1); rintro e w' ⟨rfl, ⟨nd, rfl⟩⟩; refine ⟨_, rfl, ?_⟩) | ((with_reducible refine gate_callee (f := 51) rfl ?_); refine goesL_ (some 22) rfl rfl Tryd.func51 (by kernel_rfl) rfl #[.slice Ao9 x0_1.length co9, .int .i64 x5_1, .int .i64 t358] rfl (by (try simp only [List.map_toArray, List.map_cons, List.map_nil]); first | done | rfl | (simp only [List.length_drop, List.length_take]; rfl)) ?_; (with_reducible refine (geyserref03_swap.calls (fun k_ => (P0_ k_ ∨ w.heap.size ≤ k_)) _ _ x0_1 x5_1 t358 t359 _ ?side1 A7.out).mono ?_); (case side1 => exact HO_0.out); rintro e w10 ⟨v360, rfl, ho0, hb⟩; refine ⟨_, rfl, ?_⟩; have n0_ := Aside0.mk (Kd.V_elder' (by (with_reducible repeat (first | apply Kd.V_alloc | apply Kd.V_drewN | apply Kd.V_drew)); exact HO_0.out) (Kd.N_base ho0) hb); have n1_ := Aside0.mk (Kd.N_lower (Kd.N_mono (ok' := fun k_ => (P0_ k_ ∨ w.heap.size ≤ k_)) ho0 (fun k_ hk_ => Or.elim hk_ (fun hs_ => hs_) (fun hn_ => (.inr (Nat.le_trans (below_size (by repeat (first | (with_reducible first | exact HB.out | apply below_alloc | apply pw_below_drewN | apply below_drew1) | exact HB.out))) hn_))))) (below_size (by repeat (first | (with_reducible first | exact HB.out | apply below_alloc | apply pw_below_drewN | apply below_drew1) | exact HB.out)))); have n2_ := Aside0.mk (below_step (by repeat (first | (with_reducible first | exact HB.out | apply below_alloc | apply pw_below_drewN | apply below_drew1) | exact HB.out)) hb); clear HO_0; clear HB; have HO_0 := n0_; have HO361 := n1_; have HB := n2_; clear n0_ n1_ n2_; (try clear hb); (try clear hb2); (try clear hk); (try clear hi); (try clear ho0); obtain ⟨Ao11, co11, eo11⟩ := Kd.N_slice HO361.out; subst eo11) | ((with_reducible refine gate_callee (f := 50) rfl ?_); refine goesL_ (some 25) rfl rfl Tryd.func50 (by kernel_rfl) rfl #[.slice Ao11 t359.length co11, .int .i64 x5_1, .int .i64 x6_1] rfl (by (try simp only [List.map_toArray, List.map_cons, List.map_nil]); first | done | rfl | (simp only [List.length_drop, List.length_take]; rfl)) ?_; (with_reducible refine (geyserref03_clear.calls k1 (fun k_ => (P0_ k_ ∨ w.heap.size ≤ k_)) _ _ t359 x5_1 x6_1 t362 _ ?side1 A8.out).mono ?_); (case side1 => exact Kd.N_V (HO361.out)); rintro e w12 ⟨v363, rfl, ho0, hb⟩; refine ⟨_, rfl, ?_⟩; have n0_ := Aside0.mk (Kd.V_elder' (by (with_reducible repeat (first | apply Kd.V_alloc | apply Kd.V_drewN | apply Kd.V_drew)); exact HO_0.out) (Kd.N_base ho0) hb); have n1_ := Aside0.mk (Kd.N_elder' (by (with_reducible repeat (first | apply Kd.N_alloc | apply Kd.N_drewN | apply Kd.N_drew)); exact HO361.out) (Kd.N_base ho0) hb); have n2_ := Aside0.mk (Kd.N_lower (Kd.N_mono (ok' := fun k_ => (P0_ k_ ∨ w.heap.size ≤ k_)) ho0 (fun k_ hk_ => Or.elim hk_ (fun hs_ => hs_) (fun hn_ => (.inr (Nat.le_trans (below_size (by repeat (first | (with_reducible first | exact HB.out | apply below_alloc | apply pw_below_drewN | apply below_drew1) | exact HB.out))) hn_))))) (below_size (by repeat (first | (with_reducible first | exact HB.out | apply below_alloc | apply pw_below_drewN | apply below_drew1) | exact HB.out)))); have n3_ := Aside0.mk (below_step (by repeat (first | (with_reducible first | exact HB.out | apply below_alloc | apply pw_below_drewN | apply below_drew1) | exact HB.out)) hb); clear HO_0; clear HO361; clear HB; have HO_0 := n0_; have HO361 := n1_; have HO364 := n2_; have HB := n3_; clear n0_ n1_ n2_ n3_; (try clear hb); (try clear hb2); (try clear hk); (try clear hi); (try clear ho0)))
     go_roundg k1
     case measure => have := HK1.out; omega
     case rel => exact ⟨(t362), (wrap64 (x5_1 + 1)), (wrap64 (x6_1 + 1)), (by first | rfl | (simp; done) | (simp [*]; done)), (by first | rfl | (simp; done) | (simp [*]; done)), H', ⟨by have := HK1.out; omega⟩, ⟨Kd.N_V (by (with_reducible repeat (first | apply Kd.N_alloc | apply Kd.N_drewN | apply Kd.N_drew)); exact HO364.out)⟩, ⟨by repeat (first | (with_reducible first | exact HB.out | apply below_alloc | apply pw_below_drewN | apply below_drew1) | exact HB.out)⟩⟩
   ·rw [if_neg c3] at H
    have c3b0 : decide (x6_1 < a1) = false := decide_eq_false c3
    clear c3
    by_cases c13 : 0 ≤ x5_1
    ·rw [if_pos c13] at H
     have c13b0 := eq_true c13
     have c13b1 : decide (0 ≤ x5_1) = true := decide_eq_true c13
     clear c13
     by_cases c14 : x5_1 ≤ (x0_1.length : Int)
     ·rw [if_pos c14] at H
      have c14b0 := eq_true c14
      have c14b1 : decide (x5_1 ≤ (x0_1.length : Int)) = true := decide_eq_true c14
      clear c14
      obtain ⟨y353, hy353⟩ : ∃ y_ : List (List Bool), y_ = (x0_1.take (x5_1 : Int).toNat) := ⟨_, rfl⟩
      replace H : (some y353) = some r := by first | (rw [hy353]; with_reducible exact H) | (have H2_ := (Option.bind_some _ _).symm.trans H; rw [hy353]; with_reducible exact H2_) | (have H2_ := (Option.bind_some _ _).symm.trans H; with_reducible exact H2_) | with_reducible exact H | (rw [hy353]; exact H) | exact H
      have Ny353 := Aside0.mk hy353
      clear hy353
      obtain rfl := Option.some.inj H
      obtain ⟨Ao16, co16, eo16⟩ := Kd.V_slice HO_0.out
      subst eo16
      have q15 : (x5_1 : Int) ≤ ((x0_1.length : Int) : Int) := of_decide_eq_true (by first | (with_reducible assumption) | assumption)
      obtain ⟨i015, hi015, _, hsz15, _⟩ := info_parts info23
      have hroom15 : x0_1.length ≤ co16 := (Kd.V_reads' HO_0.out).2.1
      have hC15 : Kd.F (Kd.slice 4 Kd.bool) _ _ Ao16 x0_1.length x0_1 := (Kd.V_at (base := w.heap.size) HO_0.out).2.2
      have hcut15 := cut_to (P := Tryd.prog) 65 23 .i64 Tryd.underlying65 hi015 Ao16 x0_1.length co16 x5_1 (of_decide_eq_true (by first | (with_reducible assumption) | assumption)) q15 hroom15
      have hr15 := Kd.F_take (m := (x5_1 : Int).toNat) hC15 (by omega)
      have hy15 : y353.length = (x5_1 : Int).toNat := (by rw [Ny353.out, List.length_take]; omega)
      rw [← Ny353.out] at hr15
      rw [← hy15] at hcut15
      have HO357 := Aside0.mk (show Kd.V (Kd.slice 4 Kd.bool) 23 _ w.heap.size _ (.slice Ao16 y353.length co16) y353 from Kd.V_mk (by omega) hr15)
      have HC357 := Aside0.mk (show y353.length ≤ co16 from by omega)
      clear hr15 hC15 hroom15 hi015 hsz15
      have KY15 := Aside0.mk hy15
      clear hy15
      replace q15 := eq_true q15
      go_wp2
      go_ret
      exact ⟨_, by first | rfl | (simp [errW_none, errW_some] <;> rfl) | (simp [*, errW_none, errW_some] <;> rfl), by (with_reducible repeat (first | apply Kd.V_alloc | apply Kd.V_drewN | apply Kd.V_drew)); exact HO357.out, by repeat (first | (with_reducible first | exact HB.out | apply below_alloc | apply pw_below_drewN | apply below_drew1) | exact HB.out)⟩
     ·rw [if_neg c14] at H
      exact absurd H (by simp)
    ·rw [if_neg c13] at H
     exact absurd H (by simp)


/-! ### geyserref03_Truths: function 52 -/
def geyserref03_Truths.l0 : Nat → List Int → Int → List Bool → Int → Option (List Bool)
 | 0, _, _, _, _ => none
 | k + 1, x0, x1, x5, x6 => if x6 < x1 then ((geyserref02_Has.f x0 x6).bind fun t368 => (if 0 ≤ x6 then (if x6 < (x5.length : Int) then (geyserref03_Truths.l0 k x0 x1 (x5.set (x6 : Int).toNat t368) (wrap64 (x6 + 1))) else (none)) else (none))) else (some x5)
def geyserref03_Truths.f (k : Nat) (l0 : List Int) (a1 : Int) : Option (List Bool) := if 0 ≤ a1 then (if (a1 : Int).toNat ≤ 281474976710656 then (geyserref03_Truths.l0 k l0 a1 (List.replicate (a1 : Int).toNat false) 0) else (none)) else (none)
theorem geyserref03_Truths.mono_l : ∀ k, (∀ y0 y1 y2 y3, LeO (geyserref03_Truths.l0 k y0 y1 y2 y3) (geyserref03_Truths.l0 (k + 1) y0 y1 y2 y3))
 | 0 => fun _ _ _ _ r h => by simp [geyserref03_Truths.l0] at h
 | k + 1 => by
  have ih0 := geyserref03_Truths.mono_l k
  ·intro y0 y1 y2 y3
   unfold geyserref03_Truths.l0
   repeat' first
   | (with_reducible exact ih0 _ _ _ _)
   | (with_reducible exact LeO.refl _)
   | (with_reducible exact LeO.none _)
   | (with_reducible refine LeO.ite ?_ ?_)
   | (with_reducible refine LeO.bind ?_ (fun _ => ?_))
   | exact ih0 _ _ _ _
   | exact LeO.none _
   | refine LeO.ite ?_ ?_
   | refine LeO.bind ?_ (fun _ => ?_)
theorem geyserref03_Truths.mono : ∀ a0 a1 k, LeO (geyserref03_Truths.f k a0 a1) (geyserref03_Truths.f (k + 1) a0 a1) := by
 intro a0 a1 k
 have ih0 := geyserref03_Truths.mono_l k
 unfold geyserref03_Truths.f
 repeat' first
   | (with_reducible exact ih0 _ _ _ _)
   | (with_reducible exact LeO.refl _)
   | (with_reducible exact LeO.none _)
   | (with_reducible refine LeO.ite ?_ ?_)
   | (with_reducible refine LeO.bind ?_ (fun _ => ?_))
   | exact ih0 _ _ _ _
   | exact LeO.none _
   | refine LeO.ite ?_ ?_
   | refine LeO.bind ?_ (fun _ => ?_)
set_option maxHeartbeats 8000000 in
set_option maxRecDepth 100000 in
theorem geyserref03_Truths.calls (k : Nat) (A0 : Option Addr) (c0 : Nat) (l0 : List Int) (a1 : Int) (r : List Bool) (w : World) (hr0 : Kd.C (Kd.int .u64) w A0 l0.length l0) (hc0 : l0.length ≤ c0) (h : geyserref03_Truths.f k l0 a1 = some r) :
  Calls Tryd.prog 52 #[.slice A0 l0.length c0, .int .i64 a1] w fun e w' => ∃ v0_ : Value, e = .returned (v0_) ∧ Kd.R Kd.bool 4 w' w.heap.size (fun _ => True) v0_ r ∧ Below w.heap.size w w' := by
 have HR0 := Aside0.mk hr0
 have HC0 := Aside0.mk hc0
 clear hr0 hc0
 have HB := Aside0.mk (Below.refl w.heap.size w)
 have H : (if 0 ≤ a1 then (if (a1 : Int).toNat ≤ 281474976710656 then (geyserref03_Truths.l0 k l0 a1 (List.replicate (a1 : Int).toNat false) 0) else (none)) else (none)) = some r := h
 clear h
 by_cases c3 : 0 ≤ a1
 ·rw [if_pos c3] at H
  have c3b0 := eq_true c3
  have c3b1 : decide (0 ≤ a1) = true := decide_eq_true c3
  clear c3
  by_cases c4 : (a1 : Int).toNat ≤ 281474976710656
  ·rw [if_pos c4] at H
   have c4b0 := eq_true c4
   have c4b1 : decide ((a1 : Int).toNat ≤ 281474976710656) = true := decide_eq_true c4
   clear c4
   obtain ⟨y365, hy365⟩ : ∃ y_ : List Bool, y_ = (List.replicate (a1 : Int).toNat false) := ⟨_, rfl⟩
   replace H : (geyserref03_Truths.l0 k l0 a1 y365 0) = some r := by first | (rw [hy365]; with_reducible exact H) | (have H2_ := (Option.bind_some _ _).symm.trans H; rw [hy365]; with_reducible exact H2_) | (have H2_ := (Option.bind_some _ _).symm.trans H; with_reducible exact H2_) | with_reducible exact H | (rw [hy365]; exact H) | exact H
   have Ny365 := Aside0.mk hy365
   clear hy365
   have H' := Aside0.mk H
   clear H
   go_enter Tryd.func52, Tryd.ntmps52
   go_wp2_with (first | ((with_reducible refine gate_dst (N := 8) rfl ?_); refine Kd.R_make Kd.bool _ 4 rfl (N := 8) rfl 23 _ _ rfl a1 rfl rfl Tryd.underlying23 (.bool false) 1 info4 rfl (by decide) (by omega) false (ok := fun _ => True) (okp := fun _ => True) rfl (fun _ hk => hk) trivial (of_decide_eq_true (by first | (with_reducible assumption) | assumption)) (Nat.le_trans (Nat.mul_le_mul_right _ (of_decide_eq_true (by first | (with_reducible assumption) | assumption) : a1.toNat ≤ 281474976710656)) (by omega)) (Below.refl _ _) (Nat.le_refl _) ?_; intro v366 w5 ho6 hb hg_ hnew_; clear hg_ hnew_; (first | rw [← Ny365.out] at ho6 | (simp only [Int.reduceToNat] at ho6; rw [← Ny365.out] at ho6)); have n0_ := Aside0.mk (Kd.R_lower ho6 (below_size (by repeat (first | (with_reducible first | exact HB.out | apply below_alloc | apply pw_below_drewN | apply below_drew1) | exact HB.out)))); have n1_ := Aside0.mk (below_step (by repeat (first | (with_reducible first | exact HB.out | apply below_alloc | apply pw_below_drewN | apply below_drew1) | exact HB.out)) hb); clear HB; have HO367 := n0_; have HB := n1_; clear n0_ n1_; clear hb ho6))
   go_loopg [6] k (fun kq v6 w' => ∃ (x5_1 : List Bool) (x6_1 : Int), v6 = .int .i64 x6_1 ∧ Aside0 (geyserref03_Truths.l0 kq l0 a1 x5_1 x6_1 = some r) ∧ Aside0 (kq ≤ k) ∧ Aside0 (Kd.R Kd.bool 4 w' w.heap.size (fun _ => True) v366 x5_1) ∧ Aside0 (Below w.heap.size w w'))
   case atStart => exact ⟨(y365), (0), (by first | rfl | (simp; done) | (simp [*]; done)), H', ⟨Nat.le_refl _⟩, ⟨by (with_reducible repeat (first | apply Kd.R_alloc | apply Kd.R_drewN | apply Kd.R_drew)); exact HO367.out⟩, ⟨by repeat (first | (with_reducible first | exact HB.out | apply below_alloc | apply pw_below_drewN | apply below_drew1) | exact HB.out)⟩⟩
   case round =>
    clear H'
    try clear p2
    try clear c3
    try clear c3b0
    try clear c3b1
    try clear c4
    try clear c4b0
    try clear c4b1
    try clear c5
    obtain ⟨x5_1, x6_1, rfl, HA, HK1, HO_5, HB⟩ := hrel
    cases gk with
    | zero => exact absurd HA.out (by simp [geyserref03_Truths.l0])
    | succ k1 =>
     have H := HA.out
     clear HA
     simp only [geyserref03_Truths.l0] at H
     by_cases c7 : x6_1 < a1
     ·rw [if_pos c7] at H
      have c7b0 : decide (x6_1 < a1) = true := decide_eq_true c7
      clear c7
      replace H := Option.bind_eq_some_iff.mp H
      obtain ⟨t368, A80, H⟩ := H
      replace H : (if 0 ≤ x6_1 then (if x6_1 < (x5_1.length : Int) then (geyserref03_Truths.l0 k1 l0 a1 (x5_1.set (x6_1 : Int).toNat t368) (wrap64 (x6_1 + 1))) else (none)) else (none)) = some r := H
      have A8 := Aside0.mk A80
      clear A80
      by_cases c9 : 0 ≤ x6_1
      ·rw [if_pos c9] at H
       have c9b0 : decide (0 ≤ x6_1) = true := decide_eq_true c9
       clear c9
       by_cases c10 : x6_1 < (x5_1.length : Int)
       ·rw [if_pos c10] at H
        have c10b0 : decide (x6_1 < (x5_1.length : Int)) = true := decide_eq_true c10
        clear c10
        obtain ⟨y369, hy369⟩ : ∃ y_ : List Bool, y_ = (x5_1.set (x6_1 : Int).toNat t368) := ⟨_, rfl⟩
        replace H : (geyserref03_Truths.l0 k1 l0 a1 y369 (wrap64 (x6_1 + 1))) = some r := by first | (rw [hy369]; with_reducible exact H) | (have H2_ := (Option.bind_some _ _).symm.trans H; rw [hy369]; with_reducible exact H2_) | (have H2_ := (Option.bind_some _ _).symm.trans H; with_reducible exact H2_) | with_reducible exact H | (rw [hy369]; exact H) | exact H
        have Ny369 := Aside0.mk hy369
        clear hy369
        have H' := Aside0.mk H
        clear H
        go_wp2_with (first | ((with_reducible refine gate_callee (f := 36) rfl ?_); refine goesL_ (some 18) rfl rfl Tryd.func36 (by kernel_rfl) rfl #[.slice A0 l0.length c0, .int .i64 x6_1] rfl (by (try simp only [List.map_toArray, List.map_cons, List.map_nil]); first | done | rfl | (simp only [List.length_drop, List.length_take]; rfl)) ?_; (with_reducible refine (geyserref02_Has.calls _ _ l0 x6_1 t368 _ ?side1 ?side2 A8.out).mono ?_); (case side1 => repeat (first | exact (Kd.C_below HR0.out HB.out) | (with_reducible refine Kd.C_alloc ?_ _) | (with_reducible refine Kd.C_drewN ?_ _) | (with_reducible refine Kd.C_drew ?_))); (case side2 => exact HC0.out); rintro e w' ⟨rfl, ⟨nd, rfl⟩⟩; refine ⟨_, rfl, ?_⟩; (try (rw [drewN_self wr]; generalize hq_ : World.drewN wr _ = wr; have n0_ : Aside0 (Kd.R Kd.bool 4 wr w.heap.size (fun _ => True) v366 x5_1) := ⟨by rw [← hq_]; exact (by (with_reducible repeat (first | apply Kd.R_alloc | apply Kd.R_drewN | apply Kd.R_drew)); exact HO_5.out)⟩; have n1_ : Aside0 (Below w.heap.size w wr) := ⟨by rw [← hq_]; exact (by repeat (first | (with_reducible first | exact HB.out | apply below_alloc | apply pw_below_drewN | apply below_drew1) | exact HB.out))⟩; clear HO_5 HB hq_; have HO_5 := n0_; have HB := n1_; clear n0_ n1_)); have p11 : 0 ≤ (x6_1 : Int) := of_decide_eq_true (by first | (with_reducible assumption) | assumption); have q11 : (x6_1 : Int) < ((x5_1.length : Int) : Int) := of_decide_eq_true (by first | (with_reducible assumption) | assumption); obtain ⟨go11, co11, eo11, gb11, gl11, cl11, HG11⟩ := Kd.R_form HO_5.out (by omega); (first | cases eo11 | (injection eo11 with ea_ en_ ec_; (first | subst ea_ | (injection ea_ with ea_; subst ea_)); subst ec_; clear en_)); have GB11 := Aside0.mk gb11; have GG11 := Aside0.mk HG11; clear gb11 gl11 HG11; obtain ⟨hx11_0, hf11_0⟩ := Kd.R_celln false HO_5.out (x6_1 : Int) p11 q11; replace p11 := eq_true p11; replace q11 := eq_true q11; obtain ⟨hy12_, hz12_⟩ := Kd.R_celln false HO_5.out (x6_1 : Int) (of_decide_eq_true (by first | (with_reducible assumption) | assumption)) (of_decide_eq_true (by first | (with_reducible assumption) | assumption)); have HP12 := Kd.R_putg HO_5.out (x6_1 : Int) t368) | ((with_reducible refine gate_store (t := 4) (p := 19) rfl ?_); refine store_event (t := 4) (p := 19) (v := ?vo_w13) (w1 := (wr.setCell ⟨go11, (x6_1 : Int).toNat, none⟩ (.bool t368))) ?hg ?ho ?hn ?hr ?_; (case ho => rfl); (case hg => rfl); (case hn => rfl); (case hr => first | (go_simp; done) | (go_simp; rfl)); intro w13 hw; have hg : wr.grownBy w13 (some go11) := (by rw [hw]; exact HP12.2); have hp_ : Kd.R Kd.bool 4 w13 w.heap.size (fun _ => True) (.slice (some ⟨go11, 0, none⟩) x5_1.length co11) y369 := (by rw [hw, Ny369.out]; exact HP12.1); clear HP12; have n0_ := Aside0.mk (hp_); have n1_ := Aside0.mk ((by rw [hw]; exact below_set (HB.out) GB11.out : Below w.heap.size w w13)); clear HO_5; clear HB; have HO_5 := n0_; have HB := n1_; clear n0_ n1_; clear hg hw hp_))
        go_roundg k1
        case measure => have := HK1.out; omega
        case rel => exact ⟨(y369), (wrap64 (x6_1 + 1)), (by first | rfl | (simp; done) | (simp [*]; done)), H', ⟨by have := HK1.out; omega⟩, ⟨by (with_reducible repeat (first | apply Kd.R_alloc | apply Kd.R_drewN | apply Kd.R_drew)); exact HO_5.out⟩, ⟨by repeat (first | (with_reducible first | exact HB.out | apply below_alloc | apply pw_below_drewN | apply below_drew1) | exact HB.out)⟩⟩
       ·rw [if_neg c10] at H
        exact absurd H (by simp)
      ·rw [if_neg c9] at H
       exact absurd H (by simp)
     ·rw [if_neg c7] at H
      have c7b0 : decide (x6_1 < a1) = false := decide_eq_false c7
      clear c7
      obtain rfl := Option.some.inj H
      go_wp2
      go_ret
      exact ⟨_, by first | rfl | (simp [errW_none, errW_some] <;> rfl) | (simp [*, errW_none, errW_some] <;> rfl), by (with_reducible repeat (first | apply Kd.R_alloc | apply Kd.R_drewN | apply Kd.R_drew)); exact HO_5.out, by repeat (first | (with_reducible first | exact HB.out | apply below_alloc | apply pw_below_drewN | apply below_drew1) | exact HB.out)⟩
  ·rw [if_neg c4] at H
   exact absurd H (by simp)
 ·rw [if_neg c3] at H
  exact absurd H (by simp)


/-! ### geyserref03_All: function 35 -/
def geyserref03_All.l0 : Nat → List (List Int) → Int → List (List Bool) → Int → Option ((List (List Bool)))
 | 0, _, _, _, _ => none
 | k + 1, x0, x1, x5, x6 => if x6 < (x0.length : Int) then (if 0 ≤ x6 then ((geyserref03_Truths.f k (rd_Lsu64 x0 x6) x1).bind fun t374 => (if x5.length < 5864062014805 then (geyserref03_All.l0 k x0 x1 (x5 ++ [t374]) (wrap64 (x6 + 1))) else (none))) else (none)) else (some x5)
def geyserref03_All.f (k : Nat) (l0 : List (List Int)) (a1 : Int) : Option ((List (List Bool))) := geyserref03_All.l0 k l0 a1 (([] : List (List Bool))) 0
theorem geyserref03_All.mono_l : ∀ k, (∀ y0 y1 y2 y3, LeO (geyserref03_All.l0 k y0 y1 y2 y3) (geyserref03_All.l0 (k + 1) y0 y1 y2 y3))
 | 0 => fun _ _ _ _ r h => by simp [geyserref03_All.l0] at h
 | k + 1 => by
  have ih0 := geyserref03_All.mono_l k
  ·intro y0 y1 y2 y3
   unfold geyserref03_All.l0
   repeat' first
   | (with_reducible exact ih0 _ _ _ _)
   | (with_reducible exact geyserref03_Truths.mono _ _ _)
   | (with_reducible exact LeO.refl _)
   | (with_reducible exact LeO.none _)
   | (with_reducible refine LeO.ite ?_ ?_)
   | (with_reducible refine LeO.bind ?_ (fun _ => ?_))
   | exact ih0 _ _ _ _
   | exact geyserref03_Truths.mono _ _ _
   | exact LeO.none _
   | refine LeO.ite ?_ ?_
   | refine LeO.bind ?_ (fun _ => ?_)
theorem geyserref03_All.mono : ∀ a0 a1 k, LeO (geyserref03_All.f k a0 a1) (geyserref03_All.f (k + 1) a0 a1) := by
 intro a0 a1 k
 have ih0 := geyserref03_All.mono_l k
 unfold geyserref03_All.f
 repeat' first
   | (with_reducible exact ih0 _ _ _ _)
   | (with_reducible exact geyserref03_Truths.mono _ _ _)
   | (with_reducible exact LeO.refl _)
   | (with_reducible exact LeO.none _)
   | (with_reducible refine LeO.ite ?_ ?_)
   | (with_reducible refine LeO.bind ?_ (fun _ => ?_))
   | exact ih0 _ _ _ _
   | exact geyserref03_Truths.mono _ _ _
   | exact LeO.none _
   | refine LeO.ite ?_ ?_
   | refine LeO.bind ?_ (fun _ => ?_)
set_option maxHeartbeats 8000000 in
set_option maxRecDepth 100000 in
theorem geyserref03_All.calls (k : Nat) (A0 : Option Addr) (c0 : Nat) (l0 : List (List Int)) (a1 : Int) (r : List (List Bool)) (w : World) (hr0 : Kd.C (Kd.slice 29 (Kd.int .u64)) w A0 l0.length l0) (hc0 : l0.length ≤ c0) (h : geyserref03_All.f k l0 a1 = some r) :
  Calls Tryd.prog 35 #[.slice A0 l0.length c0, .int .i64 a1] w fun e w' => ∃ v0_ : Value, e = .returned (v0_) ∧ Kd.S (Kd.slice 4 Kd.bool) 23 w' w.heap.size (fun _ => True) v0_ r ∧ Below w.heap.size w w' := by
 have HR0 := Aside0.mk hr0
 have HC0 := Aside0.mk hc0
 clear hr0 hc0
 have HB := Aside0.mk (Below.refl w.heap.size w)
 have H : (geyserref03_All.l0 k l0 a1 (([] : List (List Bool))) 0) = some r := h
 clear h
 obtain ⟨y370, hy370⟩ : ∃ y_ : List (List Bool), y_ = (([] : List (List Bool))) := ⟨_, rfl⟩
 replace H : (geyserref03_All.l0 k l0 a1 y370 0) = some r := by first | (rw [hy370]; with_reducible exact H) | (have H2_ := (Option.bind_some _ _).symm.trans H; rw [hy370]; with_reducible exact H2_) | (have H2_ := (Option.bind_some _ _).symm.trans H; with_reducible exact H2_) | with_reducible exact H | (rw [hy370]; exact H) | exact H
 have Ny370 := Aside0.mk hy370
 clear hy370
 have H' := Aside0.mk H
 clear H
 go_enter Tryd.func35, Tryd.ntmps35
 go_wp2_with (first | ((with_reducible refine gate_dst (N := 7) rfl ?_); refine Kd.S_lit (Kd.slice 4 Kd.bool) _ 23 ?hg (N := 7) ?hd (xs := ([] : List (List Bool))) (inner := []) (ok := fun _ => True) (okp := fun _ => True) ?hr ?hp (fun _ hk => hk) trivial (Below.refl _ _) (Nat.le_refl _) (by simp) ?_; (case hd => rfl); (case hg => rfl); (case hr => first | (go_simp; done) | (go_simp; rfl)); (case hp => exact (Reps.none _ _)); intro v371 w3 ho4 hb hg_ hnew_; clear hg_ hnew_; (first | rw [← Ny370.out] at ho4 | (simp only [Int.reduceToNat] at ho4; rw [← Ny370.out] at ho4)); have n0_ := Aside0.mk (Kd.S_lower ho4 (below_size (by repeat (first | (with_reducible first | exact HB.out | apply below_alloc | apply pw_below_drewN | apply below_drew1) | exact HB.out)))); have n1_ := Aside0.mk (below_step (by repeat (first | (with_reducible first | exact HB.out | apply below_alloc | apply pw_below_drewN | apply below_drew1) | exact HB.out)) hb); clear HB; have HO372 := n0_; have HB := n1_; clear n0_ n1_; clear hb ho4))
 go_loopg [5, 6] k (fun kq v5 v6 w' => ∃ (x5_1 : List (List Bool)) (x6_1 : Int), v6 = .int .i64 x6_1 ∧ Aside0 (geyserref03_All.l0 kq l0 a1 x5_1 x6_1 = some r) ∧ Aside0 (kq ≤ k) ∧ Aside0 (Kd.S (Kd.slice 4 Kd.bool) 23 w' w.heap.size (fun _ => True) v5 x5_1) ∧ Aside0 (Below w.heap.size w w'))
 case atStart => exact ⟨(y370), (0), (by first | rfl | (simp; done) | (simp [*]; done)), H', ⟨Nat.le_refl _⟩, ⟨by (with_reducible repeat (first | apply Kd.S_alloc | apply Kd.S_drewN | apply Kd.S_drew)); exact HO372.out⟩, ⟨by repeat (first | (with_reducible first | exact HB.out | apply below_alloc | apply pw_below_drewN | apply below_drew1) | exact HB.out)⟩⟩
 case round =>
  clear H'
  try clear p2
  try clear c3
  obtain ⟨x5_1, x6_1, rfl, HA, HK1, HO_5, HB⟩ := hrel
  cases gk with
  | zero => exact absurd HA.out (by simp [geyserref03_All.l0])
  | succ k1 =>
   have H := HA.out
   clear HA
   simp only [geyserref03_All.l0] at H
   by_cases c5 : x6_1 < (l0.length : Int)
   ·rw [if_pos c5] at H
    have c5b0 : decide (x6_1 < (l0.length : Int)) = true := decide_eq_true c5
    clear c5
    by_cases c6 : 0 ≤ x6_1
    ·rw [if_pos c6] at H
     have c6b0 : decide (0 ≤ x6_1) = true := decide_eq_true c6
     clear c6
     replace H := Option.bind_eq_some_iff.mp H
     obtain ⟨t374, A70, H⟩ := H
     replace H : (if x5_1.length < 5864062014805 then (geyserref03_All.l0 k1 l0 a1 (x5_1 ++ [t374]) (wrap64 (x6_1 + 1))) else (none)) = some r := H
     have A7 := Aside0.mk A70
     clear A70
     by_cases c8 : x5_1.length < 5864062014805
     ·rw [if_pos c8] at H
      have LMc8 := Aside0.mk c8
      clear c8
      obtain ⟨y377, hy377⟩ : ∃ y_ : List (List Bool), y_ = (x5_1 ++ [t374]) := ⟨_, rfl⟩
      replace H : (geyserref03_All.l0 k1 l0 a1 y377 (wrap64 (x6_1 + 1))) = some r := by first | (rw [hy377]; with_reducible exact H) | (have H2_ := (Option.bind_some _ _).symm.trans H; rw [hy377]; with_reducible exact H2_) | (have H2_ := (Option.bind_some _ _).symm.trans H; with_reducible exact H2_) | with_reducible exact H | (rw [hy377]; exact H) | exact H
      have Ny377 := Aside0.mk hy377
      clear hy377
      have H' := Aside0.mk H
      clear H
      have p373 : 0 ≤ (x6_1 : Int) := of_decide_eq_true (by first | (with_reducible assumption) | assumption)
      have q373 : x6_1 < (l0.length : Int) := of_decide_eq_true (by first | (with_reducible assumption) | assumption)
      obtain ⟨ad373, A373_0, c373_0, e373, hx373_0, hl373_0, hi373_0⟩ := at_Lsu64 HR0.out x6_1 p373 q373
      cases e373
      (first | replace hx373_0 := (HB.out.cell (World.block_lt_of_cell? w _ hx373_0)).trans hx373_0 | skip)
      have HR373_0 := Aside0.mk hi373_0
      have HC373_0 := Aside0.mk hl373_0
      clear hi373_0 hl373_0
      replace p373 := eq_true p373
      replace q373 := eq_true q373
      go_wp2_with (first | ((with_reducible refine gate_callee (f := 52) rfl ?_); refine goesL_ (some 20) rfl rfl Tryd.func52 (by kernel_rfl) rfl #[.slice A373_0 (rd_Lsu64 l0 x6_1).length c373_0, .int .i64 a1] rfl (by (try simp only [List.map_toArray, List.map_cons, List.map_nil]); first | done | rfl | (simp only [List.length_drop, List.length_take]; rfl)) ?_; (with_reducible refine (geyserref03_Truths.calls k1 _ _ (rd_Lsu64 l0 x6_1) a1 t374 _ ?side1 ?side2 A7.out).mono ?_); (case side1 => repeat (first | exact (Kd.C_below HR373_0.out HB.out) | (with_reducible refine Kd.C_alloc ?_ _) | (with_reducible refine Kd.C_drewN ?_ _) | (with_reducible refine Kd.C_drew ?_))); (case side2 => exact HC373_0.out); rintro e w9 ⟨v375, rfl, ho0, hb⟩; refine ⟨_, rfl, ?_⟩; have n0_ := Aside0.mk (Kd.S_elder' (by (with_reducible repeat (first | apply Kd.S_alloc | apply Kd.S_drewN | apply Kd.S_drew)); exact HO_5.out) (Kd.R_base ho0) hb); have n1_ := Aside0.mk (Kd.R_lower ho0 (below_size (by repeat (first | (with_reducible first | exact HB.out | apply below_alloc | apply pw_below_drewN | apply below_drew1) | exact HB.out)))); have n2_ := Aside0.mk (below_step (by repeat (first | (with_reducible first | exact HB.out | apply below_alloc | apply pw_below_drewN | apply below_drew1) | exact HB.out)) hb); clear HO_5; clear HB; have HO_5 := n0_; have HO376 := n1_; have HB := n2_; clear n0_ n1_ n2_; (try clear hb); (try clear hb2); (try clear hk); (try clear hi); (try clear ho0); obtain ⟨Ao11, co11, eo11⟩ := Kd.R_slice HO376.out; subst eo11) | ((with_reducible refine gate_builtin (b := .append) (xs := #[.tmp 14, .tmp 21]) rfl ?_); at_builtin; refine Kd.S_append (Kd.slice 4 Kd.bool) (w0 := w) w.heap.size rfl (.tmp 14) (.tmp 21) 65 23 (.slice none 0 0) 24 rfl Tryd.underlying65 info23 rfl (by decide) (by omega) u5 x5_1 t374 [.slice Ao11 t374.length co11] (fun _ => True) (fun k_ => some k_ = (.slice Ao11 t374.length co11 : Value).ownBlock) rfl rfl ?aP (fun k_ hk_ => ((Kd.R_mono (ok' := fun k_ => ((fun _ => True)) k_ ∧ some k_ ≠ (u5 : Value).ownBlock) (Kd.R_apart' (HO376.out) (Kd.S_typed HO_5.out) (by decide)) (fun k_ hk => ⟨trivial, hk.2⟩))).1 k_ hk_.symm) ?aF ?aO ?aB ?aS ?aL ?_; (case aP => exact Kd.M_row (Kd.R_mono (Kd.R_tight rfl (Kd.R_mono (ok' := fun k_ => ((fun _ => True)) k_ ∧ some k_ ≠ (u5 : Value).ownBlock) (Kd.R_apart' (HO376.out) (Kd.S_typed HO_5.out) (by decide)) (fun k_ hk => ⟨trivial, hk.2⟩))) (fun _ h_ => h_))); (case aB => exact (by repeat (first | (with_reducible first | exact HB.out | apply below_alloc | apply pw_below_drewN | apply below_drew1) | exact HB.out))); (case aF => exact (fun _ _ => trivial)); (case aO => exact (by (with_reducible repeat (first | apply Kd.S_alloc | apply Kd.S_drewN | apply Kd.S_drew)); exact Kd.S_mono HO_5.out (fun k_ hk => ⟨trivial, fun e_ => hk.2 e_⟩))); (case aS => exact (below_size (by repeat (first | (with_reducible first | exact HB.out | apply below_alloc | apply pw_below_drewN | apply below_drew1) | exact HB.out)))); (case aL => have := LMc8.out; omega); intro v378 w10 ho hb hg hat; rw [← Ny377.out] at ho; have n0_ := Aside0.mk (hb); have n1_ := Aside0.mk (ho); clear HB; clear HO_5; clear HO376; have HB := n0_; have HO379 := n1_; clear n0_ n1_; clear ho hb hg hat))
      go_roundg k1
      case measure => have := HK1.out; omega
      case rel => exact ⟨(y377), (wrap64 (x6_1 + 1)), (by first | rfl | (simp; done) | (simp [*]; done)), H', ⟨by have := HK1.out; omega⟩, ⟨by (with_reducible repeat (first | apply Kd.S_alloc | apply Kd.S_drewN | apply Kd.S_drew)); exact HO379.out⟩, ⟨by repeat (first | (with_reducible first | exact HB.out | apply below_alloc | apply pw_below_drewN | apply below_drew1) | exact HB.out)⟩⟩
     ·rw [if_neg c8] at H
      exact absurd H (by simp)
    ·rw [if_neg c6] at H
     exact absurd H (by simp)
   ·rw [if_neg c5] at H
    have c5b0 : decide (x6_1 < (l0.length : Int)) = false := decide_eq_false c5
    clear c5
    obtain rfl := Option.some.inj H
    go_wp2
    go_ret
    exact ⟨_, by first | rfl | (simp [errW_none, errW_some] <;> rfl) | (simp [*, errW_none, errW_some] <;> rfl), by (with_reducible repeat (first | apply Kd.S_alloc | apply Kd.S_drewN | apply Kd.S_drew)); exact HO_5.out, by repeat (first | (with_reducible first | exact HB.out | apply below_alloc | apply pw_below_drewN | apply below_drew1) | exact HB.out)⟩


/-! ### geyserref03_Rank: function 19 -/
def geyserref03_Rank.f (k : Nat) (l0 : List (List Int)) (a1 : Int) : Option (Int) := (geyserref03_All.f k l0 a1).bind fun t380 => ((geyserref03_Gauss.f k t380 a1).bind fun t383 => (some (t383.length : Int)))
theorem geyserref03_Rank.mono : ∀ a0 a1 k, LeO (geyserref03_Rank.f k a0 a1) (geyserref03_Rank.f (k + 1) a0 a1) := by
 intro a0 a1 k
 unfold geyserref03_Rank.f
 repeat' first
   | (with_reducible exact geyserref03_All.mono _ _ _)
   | (with_reducible exact geyserref03_Gauss.mono _ _ _)
   | (with_reducible exact LeO.refl _)
   | (with_reducible exact LeO.none _)
   | (with_reducible refine LeO.ite ?_ ?_)
   | (with_reducible refine LeO.bind ?_ (fun _ => ?_))
   | exact geyserref03_All.mono _ _ _
   | exact geyserref03_Gauss.mono _ _ _
   | exact LeO.none _
   | refine LeO.ite ?_ ?_
   | refine LeO.bind ?_ (fun _ => ?_)
set_option maxHeartbeats 8000000 in
set_option maxRecDepth 100000 in
theorem geyserref03_Rank.calls (k : Nat) (A0 : Option Addr) (c0 : Nat) (l0 : List (List Int)) (a1 : Int) (r : Int) (w : World) (hr0 : Kd.C (Kd.slice 29 (Kd.int .u64)) w A0 l0.length l0) (hc0 : l0.length ≤ c0) (h : geyserref03_Rank.f k l0 a1 = some r) :
  Calls Tryd.prog 19 #[.slice A0 l0.length c0, .int .i64 a1] w fun e w' => e = .returned (.int .i64 r) ∧ Below w.heap.size w w' := by
 have HR0 := Aside0.mk hr0
 have HC0 := Aside0.mk hc0
 clear hr0 hc0
 have HB := Aside0.mk (Below.refl w.heap.size w)
 have H : ((geyserref03_All.f k l0 a1).bind fun t380 => ((geyserref03_Gauss.f k t380 a1).bind fun t383 => (some (t383.length : Int)))) = some r := h
 clear h
 replace H := Option.bind_eq_some_iff.mp H
 obtain ⟨t380, A30, H⟩ := H
 replace H : ((geyserref03_Gauss.f k t380 a1).bind fun t383 => (some (t383.length : Int))) = some r := H
 have A3 := Aside0.mk A30
 clear A30
 replace H := Option.bind_eq_some_iff.mp H
 obtain ⟨t383, A40, H⟩ := H
 replace H : (some (t383.length : Int)) = some r := H
 have A4 := Aside0.mk A40
 clear A40
 obtain rfl := Option.some.inj H
 go_enter Tryd.func19, Tryd.ntmps19
 go_wp2_with (first | ((with_reducible refine gate_callee (f := 35) rfl ?_); refine goesL_ (some 7) rfl rfl Tryd.func35 (by kernel_rfl) rfl #[.slice A0 l0.length c0, .int .i64 a1] rfl (by (try simp only [List.map_toArray, List.map_cons, List.map_nil]); first | done | rfl | (simp only [List.length_drop, List.length_take]; rfl)) ?_; (with_reducible refine (geyserref03_All.calls k _ _ l0 a1 t380 _ ?side1 ?side2 A3.out).mono ?_); (case side1 => repeat (first | exact HR0.out | (with_reducible refine Kd.C_alloc ?_ _) | (with_reducible refine Kd.C_drewN ?_ _) | (with_reducible refine Kd.C_drew ?_))); (case side2 => exact HC0.out); rintro e w5 ⟨v381, rfl, ho0, hb⟩; refine ⟨_, rfl, ?_⟩; have n0_ := Aside0.mk (Kd.S_lower ho0 (below_size (by repeat (first | (with_reducible first | exact HB.out | apply below_alloc | apply pw_below_drewN | apply below_drew1) | exact HB.out)))); have n1_ := Aside0.mk (below_step (by repeat (first | (with_reducible first | exact HB.out | apply below_alloc | apply pw_below_drewN | apply below_drew1) | exact HB.out)) hb); clear HB; have HO382 := n0_; have HB := n1_; clear n0_ n1_; (try clear hb); (try clear hb2); (try clear hk); (try clear hi); (try clear ho0); obtain ⟨Ao6, co6, eo6⟩ := Kd.S_slice HO382.out; subst eo6) | ((with_reducible refine gate_callee (f := 34) rfl ?_); refine goesL_ (some 9) rfl rfl Tryd.func34 (by kernel_rfl) rfl #[.slice Ao6 t380.length co6, .int .i64 a1] rfl (by (try simp only [List.map_toArray, List.map_cons, List.map_nil]); first | done | rfl | (simp only [List.length_drop, List.length_take]; rfl)) ?_; (with_reducible refine (geyserref03_Gauss.calls k (fun k_ => True) _ _ t380 a1 t383 _ ?side1 A4.out).mono ?_); (case side1 => exact Kd.S_V (HO382.out)); rintro e w7 ⟨v384, rfl, ho0, hb⟩; refine ⟨_, rfl, ?_⟩; have n0_ := Aside0.mk (Kd.S_below (by (with_reducible repeat (first | apply Kd.S_alloc | apply Kd.S_drewN | apply Kd.S_drew)); exact HO382.out) hb); have n1_ := Aside0.mk (Kd.V_lower (Kd.V_mono (ok' := fun k_ => True) ho0 (fun k_ hk_ => trivial)) (below_size (by repeat (first | (with_reducible first | exact HB.out | apply below_alloc | apply pw_below_drewN | apply below_drew1) | exact HB.out)))); have n2_ := Aside0.mk (below_step (by repeat (first | (with_reducible first | exact HB.out | apply below_alloc | apply pw_below_drewN | apply below_drew1) | exact HB.out)) hb); clear HO382; clear HB; have HO382 := n0_; have HO385 := n1_; have HB := n2_; clear n0_ n1_ n2_; (try clear hb); (try clear hb2); (try clear hk); (try clear hi); (try clear ho0); obtain ⟨Ao8, co8, eo8⟩ := Kd.V_slice HO385.out; subst eo8))
 go_ret
 exact ⟨by first | rfl | (simp [errW_none, errW_some] <;> rfl) | (simp [*, errW_none, errW_some] <;> rfl), by repeat (first | (with_reducible first | exact HB.out | apply below_alloc | apply pw_below_drewN | apply below_drew1) | exact HB.out)⟩

end Go.Proofs.YtgocibnmgfmceaaDoor.P

namespace Go.Proofs.YtgocibnmgfmceaaDoor.Pure
open Go.RowKit Go.Proofs.YtgocibnmgfmceaaDoor.P Go.Proofs.YtgocibnmgfmceaaDoorW.PrintWords Go.Proofs.YtgocibnmgfmceaaDoorW.PrintLast Go.Proofs.YtgocibnmgfmceaaDoorW.PrintErr Go.Proofs.YtgocibnmgfmceaaDoorW.PrintMore Go.Proofs.YtgocibnmgfmceaaDoor.Lin
set_option linter.unusedVariables false
set_option linter.unusedSimpArgs false
def bv (t : List Bool) : V := fun c => t.getD c false
def tr (row : List Int) (n : Nat) : List Bool := (List.range' 0 n).map (hasB row)
theorem rdB_mid (A B : List Bool) (b : Bool) : rdOf false (A ++ b :: B) (A.length : Int) = b := by
  unfold rdOf
  rw [Int.toNat_natCast, List.getD_eq_getElem?_getD, List.getElem?_append_right (Nat.le_refl _)]
  simp
theorem setB_mid (A B : List Bool) (b c : Bool) : (A ++ b :: B).set A.length c = A ++ c :: B := by
  rw [List.set_append_right _ _ (Nat.le_refl _), Nat.sub_self]; rfl
theorem truths_l0 (row : List Int) (hl : ∀ x ∈ row, U64 x) (hn : row.length ≤ 1000000) (n : Nat) (hN : n ≤ 1000000) : ∀ (d c : Nat) (A : List Bool), c + d = n → A.length = c →
    Ev (fun k => geyserref03_Truths.l0 k row (n : Int) (A ++ List.replicate d false) (c : Int)) (A ++ (List.range' c d).map (hasB row)) := by
  intro d
  induction d with
  | zero =>
    intro c A hc hA
    refine Ev.step (f := fun _ => some (A ++ [])) (fun k => ?_) (Ev.now _)
    rw [geyserref03_Truths.l0, if_neg (by omega)]
    rfl
  | succ d ih =>
    intro c A hc hA
    have h' := ih (c + 1) (A ++ [hasB row c]) (by omega) (by simp [hA])
    have e1 : A ++ [hasB row c] ++ (List.range' (c + 1) d).map (hasB row) = A ++ (List.range' c (d + 1)).map (hasB row) := by rw [List.range'_succ]; simp
    have e2 : ((c + 1 : Nat) : Int) = wrap64 ((c : Int) + 1) := by rw [w64s (by omega) (by omega)]; rfl
    have e3 : A ++ [hasB row c] ++ List.replicate d false = A ++ hasB row c :: List.replicate d false := by simp
    rw [e1, e2, e3] at h'
    refine Ev.step (fun k => ?_) h'
    have e4 : (A ++ List.replicate (d + 1) false).length = n := by simp; omega
    rw [geyserref03_Truths.l0, if_pos (by omega), refhas_nat row hl hn c]
    simp only [Option.bind_some]
    rw [if_pos (by omega), if_pos (by omega), Int.toNat_natCast, ← hA, List.replicate_succ, setB_mid]
theorem truths_ev (row : List Int) (n : Nat) (hl : ∀ x ∈ row, U64 x) (hn : row.length ≤ 1000000) (hN : n ≤ 1000000) : Ev (fun k => geyserref03_Truths.f k row (n : Int)) (tr row n) := by
  unfold geyserref03_Truths.f
  have h := truths_l0 row hl hn n hN n 0 [] (by omega) rfl
  refine Ev.congr (fun k => ?_) h
  rw [if_pos (by omega), if_pos (by omega), Int.toNat_natCast]
  rfl
theorem tr_len (row : List Int) (n : Nat) : (tr row n).length = n := by simp [tr]
theorem bv_tr (row : List Int) (n : Nat) (h : ∀ c : Nat, n ≤ c → hasB row c = false) : bv (tr row n) = hasB row := by
  funext c
  unfold bv tr
  by_cases hc : c < n
  · rw [List.getD_eq_getElem?_getD, List.getElem?_eq_getElem (by simpa using hc), Option.getD_some, List.getElem_map, List.getElem_range']
    simp
  · rw [List.getD_eq_getElem?_getD, List.getElem?_eq_none (by simpa using hc), h c (by omega)]
    rfl
theorem all_l0 (n : Nat) (hN : n ≤ 1000000) (S : List (List Int)) : ∀ (P : List (List Int)) (acc : List (List Bool)), (P ++ S).length ≤ 1000000 → acc.length = P.length → (∀ r ∈ S, r.length ≤ 1000000 ∧ ∀ x ∈ r, U64 x) →
    Ev (fun k => geyserref03_All.l0 k (P ++ S) (n : Int) acc (P.length : Int)) (acc ++ S.map (tr · n)) := by
  induction S with
  | nil =>
    intro P acc hP _ _
    have e : acc ++ ([] : List (List Int)).map (tr · n) = acc := by simp
    rw [e]
    refine Ev.step (f := fun _ => some acc) (fun k => ?_) (Ev.now _)
    rw [geyserref03_All.l0, if_neg (by simp)]
  | cons s S ih =>
    intro P acc hP ha hS
    have hl : (P ++ s :: S).length = P.length + (S.length + 1) := by simp
    have h' := ih (P ++ [s]) (acc ++ [tr s n]) (by simpa using hP) (by simp [ha]) (fun r hr => hS r (by simp [hr]))
    have e1 : P ++ [s] ++ S = P ++ s :: S := by simp
    have e2 : ((P ++ [s]).length : Int) = wrap64 ((P.length : Int) + 1) := by rw [w64s (by omega) (by omega)]; simp
    have e3 : acc ++ [tr s n] ++ S.map (tr · n) = acc ++ (s :: S).map (tr · n) := by simp
    rw [e1, e2, e3] at h'
    refine Ev.step (f := fun k => (geyserref03_Truths.f k s (n : Int)).bind fun t351 => (if acc.length < 5864062014805 then (geyserref03_All.l0 k (P ++ s :: S) (n : Int) (acc ++ [t351]) (wrap64 ((P.length : Int) + 1))) else (none))) (fun k => ?_) (Ev.bind (truths_ev s n (hS s (by simp)).2 (hS s (by simp)).1 hN) ?_)
    · rw [geyserref03_All.l0, if_pos (by omega), if_pos (by omega), rd_rowW]
    · refine Ev.congr (fun k => ?_) h'
      rw [if_pos (by omega)]
theorem all_ev (n : Nat) (hN : n ≤ 1000000) (rows : List (List Int)) (hn : rows.length ≤ 1000000) (h : ∀ r ∈ rows, r.length ≤ 1000000 ∧ ∀ x ∈ r, U64 x) : Ev (fun k => geyserref03_All.f k rows (n : Int)) (rows.map (tr · n)) := by
  have := all_l0 n hN rows [] [] (by simpa using hn) rfl h
  exact this
/-! ### sum, pivot, swap, clear -/
def sumT (a b : List Bool) : List Bool := List.zipWith (· != ·) a b
theorem sumT_len {a b : List Bool} {n : Nat} (ha : a.length = n) (hb : b.length = n) : (sumT a b).length = n := by unfold sumT; rw [List.length_zipWith, ha, hb, Nat.min_self]
theorem bv_sum {a b : List Bool} (h : a.length = b.length) : bv (sumT a b) = vx (bv a) (bv b) := by
  funext c
  unfold bv sumT Lin.vx
  by_cases hc : c < a.length
  · simp only [List.getD_eq_getElem?_getD, List.getElem?_zipWith]
    rw [List.getElem?_eq_getElem hc, List.getElem?_eq_getElem (by omega)]
    rfl
  · simp only [List.getD_eq_getElem?_getD, List.getElem?_zipWith]
    rw [List.getElem?_eq_none (by omega), List.getElem?_eq_none (by omega)]
    rfl
theorem tsum_l0 (S : List Bool) : ∀ (P Q T X Y : List Bool), P.length = Q.length → X.length = P.length → T.length = S.length → Y.length = S.length → (P ++ S).length < 9223372036854775807 →
    Ev (fun k => geyserref03_sum.l0 k (P ++ S) (Q ++ T) (X ++ Y) (P.length : Int)) (X ++ sumT S T) := by
  induction S with
  | nil =>
    intro P Q T X Y hPQ hX hT hY hP
    obtain rfl : T = [] := List.eq_nil_of_length_eq_zero (by simpa using hT)
    obtain rfl : Y = [] := List.eq_nil_of_length_eq_zero (by simpa using hY)
    refine Ev.step (f := fun _ => some (X ++ [])) (fun k => ?_) (Ev.now _)
    rw [geyserref03_sum.l0, if_neg (by simp)]
  | cons s S ih =>
    intro P Q T X Y hPQ hX hT hY hP
    obtain ⟨t, T, rfl⟩ : ∃ t T', T = t :: T' := by cases T with | nil => simp at hT | cons t T => exact ⟨t, T, rfl⟩
    obtain ⟨y, Y, rfl⟩ : ∃ t T', Y = t :: T' := by cases Y with | nil => simp at hY | cons t T => exact ⟨t, T, rfl⟩
    have h1 : (P ++ s :: S).length = P.length + (S.length + 1) := by simp
    have h2 : (Q ++ t :: T).length = P.length + (S.length + 1) := by simp at hT ⊢; omega
    have h3 : (X ++ y :: Y).length = P.length + (S.length + 1) := by simp at hY ⊢; omega
    have h' := ih (P ++ [s]) (Q ++ [t]) T (X ++ [s != t]) Y (by simp [hPQ]) (by simp [hX]) (by simpa using hT) (by simpa using hY) (by simpa using hP)
    have e1 : P ++ [s] ++ S = P ++ s :: S := by simp
    have e2 : Q ++ [t] ++ T = Q ++ t :: T := by simp
    have e3 : X ++ [s != t] ++ Y = X ++ (s != t) :: Y := by simp
    have e4 : X ++ [s != t] ++ sumT S T = X ++ sumT (s :: S) (t :: T) := by simp [sumT]
    have e5 : ((P ++ [s]).length : Int) = wrap64 ((P.length : Int) + 1) := by rw [w64s (by omega) (by omega)]; simp
    rw [e1, e2, e3, e4, e5] at h'
    refine Ev.step (fun k => ?_) h'
    have r1 : rdOf false (P ++ s :: S) (P.length : Int) = s := rdB_mid P S s
    have r2 : rdOf false (Q ++ t :: T) (P.length : Int) = t := by rw [hPQ]; exact rdB_mid Q T t
    have r3 : (X ++ y :: Y).set (P.length : Int).toNat (s != t) = X ++ (s != t) :: Y := by rw [Int.toNat_natCast, ← hX, setB_mid]
    rw [geyserref03_sum.l0, if_pos (by omega), if_pos (by omega), if_pos (by omega), if_pos (by omega), r1, r2, r3]
theorem tsum_ev (a b : List Bool) (h : a.length = b.length) (ha : a.length ≤ 1000000) : Ev (fun k => geyserref03_sum.f k a b) (sumT a b) := by
  unfold geyserref03_sum.f
  have hx := tsum_l0 a [] [] b [] (List.replicate a.length false) rfl rfl h.symm (by simp) (by simp; omega)
  refine Ev.congr (fun k => ?_) hx
  rw [if_pos (by omega), if_pos (by omega), Int.toNat_natCast]
  rfl
/-- A row of rows. -/
def gr (R : List (List Bool)) (i : Nat) : List Bool := R.getD i []
theorem gr_mem {R : List (List Bool)} {i : Nat} (h : i < R.length) : gr R i ∈ R := by
  unfold gr
  rw [List.getD_eq_getElem?_getD, List.getElem?_eq_getElem h]
  exact List.getElem_mem h
theorem mem_gr {R : List (List Bool)} {x : List Bool} (h : x ∈ R) : ∃ i, i < R.length ∧ gr R i = x := by
  obtain ⟨i, hi, rfl⟩ := List.mem_iff_getElem.1 h
  refine ⟨i, hi, ?_⟩
  unfold gr
  rw [List.getD_eq_getElem?_getD, List.getElem?_eq_getElem hi]
  rfl
theorem rd_gr (R : List (List Bool)) (i : Nat) : rd_Lsbool R (i : Int) = gr R i := by unfold rd_Lsbool gr; rw [Int.toNat_natCast]
theorem rdOf_bv (t : List Bool) (c : Nat) : rdOf false t (c : Int) = bv t c := by unfold rdOf bv; rw [Int.toNat_natCast]
theorem pivot_ev (R : List (List Bool)) (n c : Nat) (hc : c < n) (hR : ∀ x ∈ R, x.length = n) (hm : R.length ≤ 1000000) : ∀ d i : Nat, i + d = R.length →
    ∃ r : Int, Ev (fun k => geyserref03_pivot.l0 k R (c : Int) (i : Int)) r ∧ ((r = -1 ∧ ∀ j, i ≤ j → j < R.length → bv (gr R j) c = false) ∨ ∃ j : Nat, r = j ∧ i ≤ j ∧ j < R.length ∧ bv (gr R j) c = true) := by
  intro d
  induction d with
  | zero =>
    intro i hi
    refine ⟨-1, ?_, .inl ⟨rfl, fun j h1 h2 => by omega⟩⟩
    refine Ev.step (f := fun _ => some (-1)) (fun k => ?_) (Ev.now _)
    rw [geyserref03_pivot.l0, if_neg (by omega)]
  | succ d ih =>
    intro i hi
    have hlen : (gr R i).length = n := hR _ (gr_mem (by omega))
    by_cases hb : bv (gr R i) c = true
    · refine ⟨(i : Int), ?_, .inr ⟨i, rfl, Nat.le_refl _, by omega, hb⟩⟩
      refine Ev.step (f := fun _ => some (i : Int)) (fun k => ?_) (Ev.now _)
      rw [geyserref03_pivot.l0, if_pos (by omega), if_pos (by omega), if_pos (by omega), rd_gr, if_pos (by omega), rdOf_bv, if_pos hb]
    · obtain ⟨r, hr, h⟩ := ih (i + 1) (by omega)
      have e2 : ((i + 1 : Nat) : Int) = wrap64 ((i : Int) + 1) := by rw [w64s (by omega) (by omega)]; rfl
      rw [e2] at hr
      refine ⟨r, ?_, ?_⟩
      · refine Ev.step (fun k => ?_) hr
        rw [geyserref03_pivot.l0, if_pos (by omega), if_pos (by omega), if_pos (by omega), rd_gr, if_pos (by omega), rdOf_bv, if_neg hb]
      · rcases h with ⟨e, h⟩ | ⟨j, e, h1, h2, h3⟩
        · refine .inl ⟨e, fun j h1 h2 => ?_⟩
          by_cases hj : j = i
          · subst hj; simpa using hb
          · exact h j (by omega) h2
        · exact .inr ⟨j, e, by omega, h2, h3⟩
def swapL (R : List (List Bool)) (a b : Nat) : List (List Bool) := (R.set a (gr R b)).set b (gr R a)
theorem swap_eq (R : List (List Bool)) (a b : Nat) (ha : a < R.length) (hb : b < R.length) (hm : R.length ≤ 1000000) : geyserref03_swap.f R (a : Int) (b : Int) = some (swapL R a b) := by
  unfold geyserref03_swap.f
  simp only [Option.bind_some, List.nil_append, List.length_nil, Nat.zero_add]
  rw [if_pos (by omega), if_pos (by omega), if_pos (by omega), if_pos (by omega), if_pos (by omega), if_pos (by omega), if_pos (by omega), rd_gr, rd_gr, Int.toNat_natCast, Int.toNat_natCast]
  rfl
theorem swapL_len (R : List (List Bool)) (a b : Nat) : (swapL R a b).length = R.length := by simp [swapL]
def sg (a b k : Nat) : Nat := if k = b then a else if k = a then b else k
theorem swapL_gr (R : List (List Bool)) (a b : Nat) (ha : a < R.length) (hb : b < R.length) (k : Nat) (hk : k < R.length) : gr (swapL R a b) k = gr R (sg a b k) := by
  unfold swapL sg
  show ((R.set a (gr R b)).set b (gr R a)).getD k [] = _
  rw [List.getD_eq_getElem?_getD, List.getElem?_set]
  by_cases h1 : b = k
  · subst h1
    rw [if_pos rfl, if_pos (by simpa using hb), if_pos rfl]
    rfl
  · rw [if_neg h1, if_neg (fun h => h1 h.symm), List.getElem?_set]
    by_cases h2 : a = k
    · subst h2
      rw [if_pos rfl, if_pos ha, if_pos rfl]
      rfl
    · rw [if_neg h2, if_neg (fun h => h2 h.symm)]
      unfold gr
      rw [List.getD_eq_getElem?_getD]
def clr (R : List (List Bool)) (a c k : Nat) : List Bool := if k = a then gr R k else if bv (gr R k) c = true then sumT (gr R k) (gr R a) else gr R k
def clearL (R : List (List Bool)) (a c : Nat) : List (List Bool) := (List.range' 0 R.length).map (clr R a c)
theorem clear_l0 (R : List (List Bool)) (n a c : Nat) (ha : a < R.length) (hc : c < n) (hR : ∀ x ∈ R, x.length = n) (hn : n ≤ 1000000) (hm : R.length ≤ 1000000) : ∀ (d i : Nat) (acc : List (List Bool)), i + d = R.length → acc.length = i →
    Ev (fun k => geyserref03_clear.l0 k R (a : Int) (c : Int) acc (i : Int)) (acc ++ (List.range' i d).map (clr R a c)) := by
  intro d
  induction d with
  | zero =>
    intro i acc hi hacc
    refine Ev.step (f := fun _ => some (acc ++ [])) (fun k => ?_) (Ev.now _)
    rw [geyserref03_clear.l0, if_neg (by omega), List.append_nil]
  | succ d ih =>
    intro i acc hi hacc
    have h' := ih (i + 1) (acc ++ [clr R a c i]) (by omega) (by simp [hacc])
    have e1 : acc ++ [clr R a c i] ++ (List.range' (i + 1) d).map (clr R a c) = acc ++ (List.range' i (d + 1)).map (clr R a c) := by rw [List.range'_succ]; simp
    have e2 : ((i + 1 : Nat) : Int) = wrap64 ((i : Int) + 1) := by rw [w64s (by omega) (by omega)]; rfl
    rw [e1, e2] at h'
    have hlen : (gr R i).length = n := hR _ (gr_mem (by omega))
    have hlena : (gr R a).length = n := hR _ (gr_mem ha)
    by_cases h1 : i = a
    · have ec : clr R a c i = gr R i := if_pos h1
      rw [ec] at h'
      refine Ev.step (fun k => ?_) h'
      rw [geyserref03_clear.l0, if_pos (by omega), if_pos (by omega), if_pos (by omega), if_pos (by omega), rd_gr]
    · by_cases hb : bv (gr R i) c = true
      · have ec : clr R a c i = sumT (gr R i) (gr R a) := by unfold clr; rw [if_neg h1, if_pos hb]
        rw [ec] at h'
        refine Ev.step (f := fun k => (geyserref03_sum.f k (gr R i) (gr R a)).bind fun t310 => (if acc.length < 5864062014805 then (geyserref03_clear.l0 k R (a : Int) (c : Int) (acc ++ [t310]) (wrap64 ((i : Int) + 1))) else (none))) (fun k => ?_) (Ev.bind (tsum_ev _ _ (by omega) (by omega)) ?_)
        · rw [geyserref03_clear.l0, if_pos (by omega), if_neg (by omega), if_pos (by omega), if_pos (by omega), rd_gr, if_pos (by omega), rdOf_bv, if_pos hb, if_pos (by omega), if_pos (by omega), rd_gr]
        · refine Ev.congr (fun k => ?_) h'
          rw [if_pos (by omega)]
      · have ec : clr R a c i = gr R i := by unfold clr; rw [if_neg h1, if_neg hb]
        rw [ec] at h'
        refine Ev.step (fun k => ?_) h'
        rw [geyserref03_clear.l0, if_pos (by omega), if_neg (by omega), if_pos (by omega), if_pos (by omega), rd_gr, if_pos (by omega), rdOf_bv, if_neg hb, if_pos (by omega)]
theorem clear_ev (R : List (List Bool)) (n a c : Nat) (ha : a < R.length) (hc : c < n) (hR : ∀ x ∈ R, x.length = n) (hn : n ≤ 1000000) (hm : R.length ≤ 1000000) : Ev (fun k => geyserref03_clear.f k R (a : Int) (c : Int)) (clearL R a c) := by
  have := clear_l0 R n a c ha hc hR hn hm R.length 0 [] (by omega) rfl
  exact this
theorem clearL_len (R : List (List Bool)) (a c : Nat) : (clearL R a c).length = R.length := by simp [clearL]
theorem clearL_gr (R : List (List Bool)) (a c k : Nat) (hk : k < R.length) : gr (clearL R a c) k = clr R a c k := by
  show (clearL R a c).getD k [] = _
  rw [List.getD_eq_getElem?_getD, List.getElem?_eq_getElem (by rw [clearL_len]; exact hk), Option.getD_some]
  unfold clearL
  rw [List.getElem_map, List.getElem_range']
  simp
/-! ### Gauss -/
structure GInv (n m : Nat) (R0 R : List (List Bool)) (done c : Nat) (p : Nat → Nat) : Prop where
  len : R.length = m
  le : done ≤ m
  rows : ∀ x ∈ R, x.length = n
  piv : ∀ j, j < done → bv (gr R j) (p j) = true ∧ ∀ i, i < m → i ≠ j → bv (gr R i) (p j) = false
  low : ∀ i, done ≤ i → i < m → ∀ e, e < c → bv (gr R i) e = false
  tos : ∀ x ∈ R, Sp (R0.map bv) (bv x)
  ofs : ∀ x ∈ R0, Sp (R.map bv) (bv x)
theorem GInv.skip {n m : Nat} {R0 R : List (List Bool)} {done c : Nat} {p : Nat → Nat} (h : GInv n m R0 R done c p) (hz : ∀ j, done ≤ j → j < m → bv (gr R j) c = false) : GInv n m R0 R done (c + 1) p :=
  ⟨h.len, h.le, h.rows, h.piv, fun i h1 h2 e he => by
    by_cases c1 : e = c
    · subst c1; exact hz i h1 h2
    · exact h.low i h1 h2 e (by omega), h.tos, h.ofs⟩
theorem bv_vx {a b : List Bool} {n : Nat} (ha : a.length = n) (hb : b.length = n) (e : Nat) : bv (sumT a b) e = (bv a e != bv b e) := by
  rw [bv_sum (by omega)]; rfl
theorem GInv.take {n m : Nat} {R0 R : List (List Bool)} {done c : Nat} {p : Nat → Nat} (h : GInv n m R0 R done c p) (i : Nat) (hi1 : done ≤ i) (hi2 : i < m) (hb : bv (gr R i) c = true) :
    GInv n m R0 (clearL (swapL R done i) done c) (done + 1) (c + 1) (fun j => if j = done then c else p j) := by
  have hlenR := h.len
  have l1 : (swapL R done i).length = m := by rw [swapL_len]; exact h.len
  have hd : done < m := by omega
  have g1 : ∀ k, k < m → gr (swapL R done i) k = gr R (sg done i k) := fun k hk => swapL_gr R done i (by omega) (by omega) k (by omega)
  have sg_lt : ∀ k, k < m → sg done i k < m := by intro k hk; unfold sg; split; omega; split <;> omega
  have sg_hi : ∀ k, done ≤ k → done ≤ sg done i k := by intro k hk; unfold sg; split; omega; split <;> omega
  have sg_lo : ∀ k, k < done → sg done i k = k := by intro k hk; unfold sg; rw [if_neg (by omega), if_neg (by omega)]
  have sg_done : sg done i done = i := by unfold sg; split; omega; rw [if_pos rfl]
  have sg_ne : ∀ j k, j < done → k ≠ j → sg done i k ≠ j := by
    intro j k hj hk
    by_cases hk2 : k < done
    · rw [sg_lo k hk2]; exact hk
    · have := sg_hi k (by omega); omega
  have r1len : ∀ k, k < m → (gr (swapL R done i) k).length = n := fun k hk => by rw [g1 k hk]; exact h.rows _ (gr_mem (by rw [h.len]; exact sg_lt k hk))
  have gd : gr (swapL R done i) done = gr R i := by rw [g1 done hd, sg_done]
  have g2 : ∀ k, k < m → gr (clearL (swapL R done i) done c) k = clr (swapL R done i) done c k := fun k hk => clearL_gr _ _ _ _ (by omega)
  -- columns of what comes out
  have hcol : ∀ k, k < m → k ≠ done → ∀ e, bv (gr (clearL (swapL R done i) done c) k) e = if bv (gr (swapL R done i) k) c = true then (bv (gr (swapL R done i) k) e != bv (gr R i) e) else bv (gr (swapL R done i) k) e := by
    intro k hk hne e
    rw [g2 k hk]
    unfold clr
    rw [if_neg hne]
    split
    · rw [bv_vx (r1len k hk) (r1len done hd), gd]
    · rfl
  have hdone : gr (clearL (swapL R done i) done c) done = gr R i := by rw [g2 done hd]; unfold clr; rw [if_pos rfl, gd]
  have spk : ∀ k, k < m → Sp ((clearL (swapL R done i) done c).map bv) (bv (gr (swapL R done i) k)) := by
    have sd : Sp ((clearL (swapL R done i) done c).map bv) (bv (gr R i)) := by
      rw [← hdone]
      exact Sp.mem (List.mem_map.2 ⟨_, gr_mem (by rw [clearL_len]; omega), rfl⟩)
    intro k hk
    have sk : Sp ((clearL (swapL R done i) done c).map bv) (bv (gr (clearL (swapL R done i) done c) k)) := Sp.mem (List.mem_map.2 ⟨_, gr_mem (by rw [clearL_len]; omega), rfl⟩)
    by_cases hkd : k = done
    · subst hkd; rw [gd]; exact sd
    · rw [g2 k hk] at sk
      unfold clr at sk
      rw [if_neg hkd] at sk
      split at sk
      · rw [bv_sum (by rw [r1len k hk, r1len done hd]), gd] at sk
        have := sk.vx sd
        rwa [vx_cancel] at this
      · exact sk
  refine ⟨by rw [clearL_len, l1], by omega, ?_, ?_, ?_, ?_, ?_⟩
  · intro x hx
    obtain ⟨k, hk, rfl⟩ := mem_gr hx
    rw [clearL_len, l1] at hk
    rw [g2 k hk]
    unfold clr
    split
    · exact r1len k hk
    · split
      · exact sumT_len (r1len k hk) (r1len done hd)
      · exact r1len k hk
  · intro j hj
    by_cases hjd : j = done
    · subst hjd
      rw [if_pos rfl, hdone]
      refine ⟨hb, fun k hk hne => ?_⟩
      rw [hcol k hk hne c]
      by_cases hbit : bv (gr (swapL R j i) k) c = true
      · rw [if_pos hbit, hbit, hb]; rfl
      · rw [if_neg hbit]; simpa using hbit
    · rw [if_neg hjd]
      obtain ⟨p1, p2⟩ := h.piv j (by omega)
      have hz : bv (gr R i) (p j) = false := p2 i hi2 (by omega)
      refine ⟨?_, fun k hk hne => ?_⟩
      · rw [hcol j (by omega) hjd, g1 j (by omega), sg_lo j (by omega), p1, hz]
        split <;> rfl
      · by_cases hkd : k = done
        · subst hkd; rw [hdone]; exact hz
        · have hzk : bv (gr (swapL R done i) k) (p j) = false := by rw [g1 k hk]; exact p2 _ (sg_lt k hk) (sg_ne j k (by omega) hne)
          rw [hcol k hk hkd, hzk, hz]
          split <;> rfl
  · intro k hk1 hk2 e he
    by_cases hec : e = c
    · subst hec
      rw [hcol k hk2 (by omega) e]
      by_cases hbit : bv (gr (swapL R done i) k) e = true
      · rw [if_pos hbit, hbit, hb]; rfl
      · rw [if_neg hbit]; simpa using hbit
    · have z1 : bv (gr (swapL R done i) k) e = false := by rw [g1 k hk2]; exact h.low _ (sg_hi k (by omega)) (sg_lt k hk2) e (by omega)
      have z2 : bv (gr R i) e = false := h.low i hi1 hi2 e (by omega)
      rw [hcol k hk2 (by omega) e, z1, z2]
      split <;> rfl
  · intro x hx
    obtain ⟨k, hk, rfl⟩ := mem_gr hx
    rw [clearL_len, l1] at hk
    have s1 : ∀ k, k < m → Sp (R0.map bv) (bv (gr (swapL R done i) k)) := fun k hk => by rw [g1 k hk]; exact h.tos _ (gr_mem (by rw [h.len]; exact sg_lt k hk))
    rw [g2 k hk]
    unfold clr
    split
    · exact s1 k hk
    · split
      · rw [bv_sum (by rw [r1len k hk, r1len done hd])]; exact (s1 k hk).vx (s1 done hd)
      · exact s1 k hk
  · intro x hx
    refine (h.ofs x hx).trans fun u hu => ?_
    obtain ⟨y, hy, rfl⟩ := List.mem_map.1 hu
    obtain ⟨k, hk, rfl⟩ := mem_gr hy
    rw [h.len] at hk
    have hs := spk (sg done i k) (sg_lt k hk)
    rw [g1 _ (sg_lt k hk)] at hs
    have inv : sg done i (sg done i k) = k := by
      unfold sg
      by_cases a1 : k = i
      · rw [if_pos a1]
        by_cases a2 : done = i
        · rw [if_pos a2]; omega
        · rw [if_neg a2, if_pos rfl]; omega
      · rw [if_neg a1]
        by_cases a2 : k = done
        · rw [if_pos a2, if_pos rfl]; omega
        · rw [if_neg a2, if_neg a1, if_neg a2]
    rwa [inv] at hs
theorem ind_cols : ∀ L : List V, (∀ j, ∀ h : j < L.length, ∃ c, L[j] c = true ∧ ∀ i, ∀ hi : i < L.length, i ≠ j → L[i] c = false) → Ind L
  | [], _ => trivial
  | v :: L, h => by
    refine ⟨fun hs => ?_, ind_cols L fun j hj => ?_⟩
    · obtain ⟨c, h1, h2⟩ := h 0 (by simp)
      have h3 : v c = true := h1
      have h4 := Sp.col (c := c) (fun u hu => by
        obtain ⟨i, hi, rfl⟩ := List.mem_iff_getElem.1 hu
        exact h2 (i + 1) (by simp; omega) (by omega)) hs
      rw [h3] at h4
      cases h4
    · obtain ⟨c, h1, h2⟩ := h (j + 1) (by simp; omega)
      exact ⟨c, h1, fun i hi hne => h2 (i + 1) (by simp; omega) (by omega)⟩
theorem GInv.rk {n m : Nat} {R0 R : List (List Bool)} {done : Nat} {p : Nat → Nat} (h : GInv n m R0 R done n p) : Rk (R0.map bv) done := by
  have hlenR := h.len
  have hle := h.le
  have hlen : ((R.take done).map bv).length = done := by rw [List.length_map, List.length_take]; omega
  have hget : ∀ j, ∀ hj : j < ((R.take done).map bv).length, ((R.take done).map bv)[j] = bv (gr R j) := by
    intro j hj
    rw [List.getElem_map, List.getElem_take]
    unfold gr
    rw [List.getD_eq_getElem?_getD, List.getElem?_eq_getElem (by omega)]
    rfl
  refine ⟨(R.take done).map bv, ind_cols _ fun j hj => ⟨p j, ?_, fun i hi hne => ?_⟩, hlen, fun b hb => ?_, fun x hx => ?_⟩
  · rw [hget j hj]; exact (h.piv j (by omega)).1
  · rw [hget i hi]; exact (h.piv j (by omega)).2 i (by omega) hne
  · obtain ⟨y, hy, rfl⟩ := List.mem_map.1 hb
    exact h.tos y (List.mem_of_mem_take hy)
  · obtain ⟨y, hy, rfl⟩ := List.mem_map.1 hx
    refine (h.ofs y hy).trans fun u hu => ?_
    obtain ⟨z, hz, rfl⟩ := List.mem_map.1 hu
    obtain ⟨k, hk, rfl⟩ := mem_gr hz
    by_cases hkd : k < done
    · have := List.getElem_mem (l := (R.take done).map bv) (n := k) (by omega)
      rw [hget k (by omega)] at this
      exact Sp.mem this
    · have hz0 : bv (gr R k) = v0 := by
        funext e
        by_cases he : e < n
        · exact h.low k (by omega) (by omega) e he
        · have hl := h.rows _ (gr_mem hk)
          unfold bv
          rw [List.getD_eq_getElem?_getD, List.getElem?_eq_none (by omega)]
          rfl
      rw [hz0]; exact Sp.zero
theorem gauss_l0 (n m : Nat) (hn : n ≤ 1000000) (hm : m ≤ 1000000) (R0 : List (List Bool)) : ∀ (d c : Nat) (R : List (List Bool)) (done : Nat) (p : Nat → Nat), c + d = n → GInv n m R0 R done c p →
    ∃ R' done' p', Ev (fun k => geyserref03_Gauss.l0 k R (n : Int) (done : Int) (c : Int)) (R'.take done') ∧ GInv n m R0 R' done' n p' := by
  intro d
  induction d with
  | zero =>
    intro c R done p hc h
    obtain rfl : c = n := by omega
    have hlenR := h.len
    have hle := h.le
    refine ⟨R, done, p, ?_, h⟩
    refine Ev.step (f := fun _ => some (R.take done)) (fun k => ?_) (Ev.now _)
    rw [geyserref03_Gauss.l0, if_neg (by omega), if_pos (by omega), if_pos (by omega), Int.toNat_natCast]
  | succ d ih =>
    intro c R done p hc h
    have hlenR := h.len
    have hle := h.le
    have e2 : ((c + 1 : Nat) : Int) = wrap64 ((c : Int) + 1) := by rw [w64s (by omega) (by omega)]; rfl
    obtain ⟨r, hr, hcase⟩ := pivot_ev R n c (by omega) h.rows (by omega) (R.length - done) done (by omega)
    have hr' : Ev (fun k => geyserref03_pivot.f k R (done : Int) (c : Int)) r := hr
    rcases hcase with ⟨rfl, hz⟩ | ⟨i, rfl, h1, h2, h3⟩
    · obtain ⟨R', done', p', hev, hI⟩ := ih (c + 1) R done p (by omega) (h.skip (fun j a b => hz j a (by omega)))
      rw [e2] at hev
      refine ⟨R', done', p', ?_, hI⟩
      refine Ev.step (f := fun k => (geyserref03_pivot.f k R (done : Int) (c : Int)).bind fun t335 => (if t335 < 0 then (geyserref03_Gauss.l0 k R (n : Int) (done : Int) (wrap64 ((c : Int) + 1))) else ((geyserref03_swap.f R (done : Int) t335).bind fun t336 => ((geyserref03_clear.f k t336 (done : Int) (c : Int)).bind fun t339 => (geyserref03_Gauss.l0 k t339 (n : Int) (wrap64 ((done : Int) + 1)) (wrap64 ((c : Int) + 1))))))) (fun k => ?_) (Ev.bind hr' ?_)
      · rw [geyserref03_Gauss.l0, if_pos (by omega)]
      · refine Ev.congr (fun k => ?_) hev
        rw [if_pos (by decide)]
    · have hI1 := h.take i h1 (by omega) h3
      obtain ⟨R', done', p', hev, hI⟩ := ih (c + 1) _ (done + 1) _ (by omega) hI1
      have e3 : ((done + 1 : Nat) : Int) = wrap64 ((done : Int) + 1) := by rw [w64s (by omega) (by omega)]; rfl
      rw [e2, e3] at hev
      have l1 : (swapL R done i).length = m := by rw [swapL_len]; exact h.len
      have hrows1 : ∀ x ∈ swapL R done i, x.length = n := by
        intro x hx
        obtain ⟨k, hk, rfl⟩ := mem_gr hx
        rw [swapL_gr R done i (by omega) (by omega) k (by omega)]
        refine h.rows _ (gr_mem ?_)
        unfold sg; split; omega; split <;> omega
      have hclr := clear_ev (swapL R done i) n done c (by omega) (by omega) hrows1 hn (by omega)
      refine ⟨R', done', p', ?_, hI⟩
      refine Ev.step (f := fun k => (geyserref03_pivot.f k R (done : Int) (c : Int)).bind fun t335 => (if t335 < 0 then (geyserref03_Gauss.l0 k R (n : Int) (done : Int) (wrap64 ((c : Int) + 1))) else ((geyserref03_swap.f R (done : Int) t335).bind fun t336 => ((geyserref03_clear.f k t336 (done : Int) (c : Int)).bind fun t339 => (geyserref03_Gauss.l0 k t339 (n : Int) (wrap64 ((done : Int) + 1)) (wrap64 ((c : Int) + 1))))))) (fun k => ?_) (Ev.bind hr' ?_)
      · rw [geyserref03_Gauss.l0, if_pos (by omega)]
      · refine Ev.congr (fun k => ?_) (Ev.bind (f := fun k t339 => geyserref03_Gauss.l0 k t339 (n : Int) (wrap64 ((done : Int) + 1)) (wrap64 ((c : Int) + 1))) hclr hev)
        rw [if_neg (by omega), swap_eq R done i (by omega) (by omega) (by omega)]
        rfl
/-! ### Rank -/
/-- Rows that are a matrix of n columns. -/
def Mat (rows : List (List Int)) (n : Nat) : Prop := rows.length ≤ 1000000 ∧ n ≤ 4096 ∧ ∀ r ∈ rows, wokB r n = true ∧ ∀ x ∈ r, U64 x
theorem Mat.row {rows : List (List Int)} {n : Nat} (h : Mat rows n) : ∀ r ∈ rows, r.length = nW n ∧ (∀ a ∈ r, U64 a) ∧ ∀ c : Nat, n ≤ c → hasB r c = false := by
  intro r hr
  obtain ⟨h1, h2⟩ := h.2.2 r hr
  obtain ⟨h3, h4⟩ := (wokB_iff r n (by omega)).1 h1
  exact ⟨h3, h2, fun c hc => h4 c (by omega)⟩
theorem nW_le {n : Nat} (h : n ≤ 4096) : nW (n : Int) ≤ 64 := by unfold nW; rw [Int.toNat_natCast]; omega
theorem gauss_ev (R0 : List (List Bool)) (n : Nat) (hn : n ≤ 1000000) (hm : R0.length ≤ 1000000) (hR : ∀ x ∈ R0, x.length = n) : ∃ R' done' p', Ev (fun k => geyserref03_Gauss.f k R0 (n : Int)) (R'.take done') ∧ GInv n R0.length R0 R' done' n p' := by
  have h0 : GInv n R0.length R0 R0 0 0 (fun _ => 0) := ⟨rfl, Nat.zero_le _, hR, fun j hj => by omega, fun i _ _ e he => by omega, fun x hx => Sp.mem (List.mem_map.2 ⟨x, hx, rfl⟩), fun x hx => Sp.mem (List.mem_map.2 ⟨x, hx, rfl⟩)⟩
  exact gauss_l0 n R0.length hn hm R0 n 0 R0 0 (fun _ => 0) (by omega) h0
theorem rank_ev (rows : List (List Int)) (n : Nat) (h : Mat rows n) : Ev (fun k => geyserref03_Rank.f k rows (n : Int)) ((byOf [] rows).length : Int) := by
  obtain ⟨h1, h2, h3⟩ := h
  have hw := nW_le h2
  have hrow := Mat.row ⟨h1, h2, h3⟩
  have hall := all_ev n (by omega) rows h1 (fun r hr => ⟨by have := (hrow r hr).1; omega, (hrow r hr).2.1⟩)
  obtain ⟨R', done', p', hg, hI⟩ := gauss_ev (rows.map (tr · n)) n (by omega) (by simpa using h1) (fun x hx => by
    obtain ⟨r, _, rfl⟩ := List.mem_map.1 hx
    exact tr_len r n)
  have hrk := hI.rk
  have em : (rows.map (tr · n)).map bv = rows.map hasB := by
    rw [List.map_map]
    refine List.map_congr_left fun r hr => ?_
    exact bv_tr r n (hrow r hr).2.2
  rw [em] at hrk
  have hby := (byOf_rk (nW n) rows (fun r hr => ⟨(hrow r hr).1, (hrow r hr).2.1⟩)).1
  have he := hrk.uniq hby
  have hlt : (R'.take done').length = done' := by rw [List.length_take]; have := hI.len; have := hI.le; omega
  unfold geyserref03_Rank.f
  refine Ev.bind hall ?_
  refine Ev.bind hg ?_
  rw [hlt, he]
  exact Ev.now _
theorem Mat.take {rows : List (List Int)} {n : Nat} (h : Mat rows n) (i : Nat) : Mat (rows.take i) n := ⟨by rw [List.length_take]; have := h.1; omega, h.2.1, fun r hr => h.2.2 r (List.mem_of_mem_take hr)⟩
end Go.Proofs.YtgocibnmgfmceaaDoor.Pure

namespace Go.Proofs.YtgocibnmgfmceaaDoor.P
open Go.RowKit Go.Proofs.YtgocibnmgfmceaaDoorW.PrintWords Go.Proofs.YtgocibnmgfmceaaDoorW.PrintLast Go.Proofs.YtgocibnmgfmceaaDoorW.PrintErr Go.Proofs.YtgocibnmgfmceaaDoorW.PrintMore
attribute [local go_sem] max2_int min2_int max_two min_two max_three min_three max_four min_four run_eql_errOf run_neq_errOf eqGuard_errOf   -- for this text's walks alone
set_option linter.unusedVariables false
set_option linter.unusedSimpArgs false

-- IMPORT WSort
/-- The least columns of the rows. -/
def matrix_Plain_sort.keys (k : Nat) : List (List Int) → Option (List Int)
 | [] => some []
 | x :: l => (packed_First.f k x).bind fun a => (matrix_Plain_sort.keys k l).bind fun b => some (a :: b)
def matrix_Plain_sort.okKeys (ks : List Int) : Bool := decide (ks.Nodup ∧ ks.length < 4611686018427387904) && ks.all (fun x => decide (-1 ≤ x ∧ x < 4611686018427387904))
/-- The places of the rows, sorted by their keys. -/
def matrix_Plain_sort.places (n : Nat) (ks : List Int) : List (Fin n) := (List.finRange n).mergeSort fun i j => decide (ks.getD i.val 0 ≤ ks.getD j.val 0)
def matrix_Plain_sort.f (k : Nat) (l : List (List Int)) : Option (List (List Int)) := (matrix_Plain_sort.keys k l).bind fun ks => if matrix_Plain_sort.okKeys ks = true then some ((matrix_Plain_sort.places l.length ks).map fun i => l.getD i.val []) else none
theorem matrix_Plain_sort.keys_mono : ∀ l k, LeO (matrix_Plain_sort.keys k l) (matrix_Plain_sort.keys (k + 1) l)
 | [], k => LeO.refl _
 | x :: l, k => by
  unfold matrix_Plain_sort.keys
  exact LeO.bind (packed_First.mono x k) (fun _ => LeO.bind (matrix_Plain_sort.keys_mono l k) (fun _ => LeO.refl _))
theorem matrix_Plain_sort.mono : ∀ a0 k, LeO (matrix_Plain_sort.f k a0) (matrix_Plain_sort.f (k + 1) a0) := by
 intro a0 k
 unfold matrix_Plain_sort.f
 exact LeO.bind (matrix_Plain_sort.keys_mono a0 k) (fun _ => LeO.refl _)
theorem matrix_Plain_sort.keys_at : ∀ (l : List (List Int)) (k : Nat) (ks : List Int), matrix_Plain_sort.keys k l = some ks → ks.length = l.length ∧ ∀ i, i < l.length → packed_First.f k (l.getD i []) = some (ks.getD i 0)
 | [], k, ks, h => by
  simp only [matrix_Plain_sort.keys, Option.some.injEq] at h
  subst h
  exact ⟨rfl, fun i hi => by simp at hi⟩
 | x :: l, k, ks, h => by
  unfold matrix_Plain_sort.keys at h
  obtain ⟨a, h1, h⟩ := Option.bind_eq_some_iff.mp h
  obtain ⟨b, h2, h⟩ := Option.bind_eq_some_iff.mp h
  obtain rfl := Option.some.inj h
  obtain ⟨h3, h4⟩ := matrix_Plain_sort.keys_at l k b h2
  refine ⟨by simp [h3], fun i hi => ?_⟩
  cases i with
  | zero => simpa using h1
  | succ i => simpa using h4 i (by simpa using hi)
section
open Go.Sort
variable {α : Type} [Inhabited α] {enc : α → Value} {w : World} {g off m : Nat} {dk : Array α} {os : Array Obj}
theorem matrix_Plain_sort.sw_size : w.heap.size ≤ (sortWorld enc w g off m dk os).heap.size := by
 unfold sortWorld
 rw [size_grow]
 have : (putRow enc (Sort.ahead w m) g off dk).heap.size = w.heap.size := by simp [putRow, mapBlock, Sort.ahead]
 omega
theorem matrix_Plain_sort.sw_heap {k : Nat} (hk : k ≠ g) (hlt : k < w.heap.size) : (sortWorld enc w g off m dk os).heap[k]? = w.heap[k]? := by
 unfold sortWorld
 rw [heap_grow_old _ _ (by simpa [putRow, mapBlock, Sort.ahead] using hlt)]
 simp [putRow, mapBlock, Sort.ahead, Array.getElem?_modify, Ne.symm hk]
theorem matrix_Plain_sort.sw_row {cur : Array Value} {e : TypeId} (hb : w.heap[g]? = some (.cells cur e (0, 0))) : (sortWorld enc w g off m dk os).heap[g]? = some (.cells (putCells enc off dk cur) e (0, 0)) := by
 have hlt : g < w.heap.size := (Array.getElem?_eq_some_iff.1 hb).1
 unfold sortWorld
 rw [heap_grow_old _ _ (by simpa [putRow, mapBlock, Sort.ahead] using hlt)]
 simp [putRow, mapBlock, Sort.ahead, Array.getElem?_modify, hb, onCells]
theorem matrix_Plain_sort.sw_below {B : Nat} (hg : B ≤ g) (hB : B ≤ w.heap.size) : Below B w (sortWorld enc w g off m dk os) :=
 ⟨rfl, rfl, rfl, matrix_Plain_sort.sw_size, fun k hk => matrix_Plain_sort.sw_heap (by omega) (by omega)⟩
end
set_option maxHeartbeats 1000000 in
set_option maxRecDepth 100000 in
/-- The closure: which row's least column is less. -/
theorem matrix_Plain_sort.less_calls (k : Nat) (A0 : Option Addr) (c0 : Nat) (l0 : List Int) (A1 : Option Addr) (c1 : Nat) (l1 : List Int) (a b : Int) (w : World) (ht : TabIn w) (hr0 : Kd.C (Kd.int .u64) w A0 l0.length l0) (hc0 : l0.length ≤ c0) (hr1 : Kd.C (Kd.int .u64) w A1 l1.length l1) (hc1 : l1.length ≤ c1)
  (ha : packed_First.f k l0 = some a) (hb : packed_First.f k l1 = some b) (h0 : -1 ≤ a ∧ a < 4611686018427387904) (h1 : -1 ≤ b ∧ b < 4611686018427387904) :
  Calls Tryd.prog 40 #[.slice A0 l0.length c0, .slice A1 l1.length c1] w fun e w' => e = .returned (.int .i64 (a - b)) ∧ ∃ q, w' = w.drewN q := by
 obtain ⟨h0a, h0b⟩ := h0
 obtain ⟨h1a, h1b⟩ := h1
 have HT := Aside0.mk ht
 have HR0 := Aside0.mk hr0
 have HC0 := Aside0.mk hc0
 have HR1 := Aside0.mk hr1
 have HC1 := Aside0.mk hc1
 have HA := Aside0.mk ha
 have HB := Aside0.mk hb
 have tok1 : True := trivial
 clear ht hr0 hc0 hr1 hc1 ha hb
 go_enter Tryd.func40, Tryd.ntmps40
 go_wp2_with (first | (go_at_call 31; have _t := tok1; refine (packed_First.calls k A0 c0 l0 a _ HT.out HR0.out HC0.out HA.out).mono ?_; rintro e w' ⟨rfl, ⟨n1, rfl⟩⟩; clear tok1) | (go_at_call 31; refine (packed_First.calls k A1 c1 l1 b _ (TabIn.drewN HT.out _) (Kd.C_drewN HR1.out _) HC1.out HB.out).mono ?_; rintro e w' ⟨rfl, ⟨n2, rfl⟩⟩))
 go_ret
 exact ⟨rfl, n1 + n2, by first | rfl | (simp [drewN_drewN])⟩
theorem matrix_Plain_sort.cf_lt (ks : List Int) (x y : Int) : (decide (x - y < 0)) = decide (x < y) := by
 by_cases h : x < y
 ·simp [h]; omega
 ·simp [h]; omega
theorem matrix_Plain_sort.take1 {l : List Value} {j : Nat} {v : Value} (h : (l.drop (j * 1)).take 1 = [v]) : l[j]? = some v := by
 rw [Nat.mul_one] at h
 have h4 : ((l.drop j).take 1)[0]? = some v := by rw [h]; rfl
 rw [List.getElem?_take_of_lt (by omega), List.getElem?_drop] at h4
 simpa using h4
set_option maxHeartbeats 4000000 in
set_option maxRecDepth 100000 in
theorem matrix_Plain_sort.calls (k : Nat) (B : Nat) (OK : Nat → Prop) (v : Value) (l0 : List (List Int)) (r : List (List Int)) (w : World) (ht : TabIn w) (hB : B ≤ w.heap.size) (hN : Kd.R (Kd.slice 29 (Kd.int .u64)) 27 w B OK v l0) (h : matrix_Plain_sort.f k l0 = some r) :
  Calls Tryd.prog 39 #[v, .func (.func 40) #[] #[]] w fun e w' => e = .returned (.tuple #[]) ∧ Kd.R (Kd.slice 29 (Kd.int .u64)) 27 w' B OK v r ∧ Below B w w' := by
 unfold matrix_Plain_sort.f at h
 obtain ⟨ks, hk, h⟩ := Option.bind_eq_some_iff.mp h
 have hok : matrix_Plain_sort.okKeys ks = true := by
  by_cases hok : matrix_Plain_sort.okKeys ks = true
  ·exact hok
  ·rw [if_neg hok] at h; cases h
 rw [if_pos hok] at h
 obtain rfl := Option.some.inj h
 clear h
 obtain ⟨hkl, hka⟩ := matrix_Plain_sort.keys_at l0 k ks hk
 obtain ⟨hnd, hks62⟩ : ks.Nodup ∧ ks.length < 4611686018427387904 := of_decide_eq_true (Bool.and_eq_true_iff.1 hok).1
 have hin : ∀ x ∈ ks, -1 ≤ x ∧ x < 4611686018427387904 := fun x hx => of_decide_eq_true (List.all_eq_true.1 (Bool.and_eq_true_iff.1 hok).2 x hx)
 have hinD : ∀ i, i < l0.length → -1 ≤ ks.getD i 0 ∧ ks.getD i 0 < 4611686018427387904 := fun i hi => by
  rw [List.getD_eq_getElem?_getD, List.getElem?_eq_getElem (by omega)]
  exact hin _ (List.getElem_mem _)
 by_cases hn0 : l0.length = 0
 ·obtain rfl : l0 = [] := List.eq_nil_of_length_eq_zero hn0
  obtain ⟨A, c, rfl⟩ := Kd.R_slice hN
  have hS := AnyF.slices_SortFunc_none (P := Tryd.prog) (ρ := Tryd.sortF_ren) { Tryd.sortF with } A c (.func (.func 40) #[] #[]) w
  change Calls Tryd.prog 39 _ _ _ at hS
  refine Calls.mono hS ?_
  rintro e w' ⟨rfl, rfl⟩
  exact ⟨rfl, by simpa [matrix_Plain_sort.places] using hN, Below.refl _ _⟩
 ·have hpos : 0 < l0.length := by omega
  obtain ⟨h0, inner, ⟨hilen, hown⟩, hreps⟩ := hN
  rcases hown with ⟨_, hz⟩ | ⟨g, cap, cur, rfl, hbase, hheap, hncap, hcm, hcsz, hcur⟩
  ·omega
  have hilen' : inner.length = l0.length := by simpa [Kd.slice] using hilen
  have hcur' : cur.toList.take l0.length = inner := by simpa [Kd.slice] using hcur
  have hcsz' : cur.size = cap := by simpa [Kd.slice] using hcsz
  have hg : g < w.heap.size := (Array.getElem?_eq_some_iff.1 hheap).1
  have hsz62 : l0.length < 4611686018427387904 := by omega
  haveI : Inhabited (Fin l0.length) := ⟨⟨0, hpos⟩⟩
  have hrow : ∀ i (hi : i < l0.length), ∃ v, inner[i]? = some v ∧ Kd.R (Kd.int .u64) 29 w B (fun k_ => OK k_ ∧ some k_ ≠ (Value.slice (some ⟨g, 0, none⟩) l0.length cap).ownBlock) v (l0.getD i []) := fun i hi => by
   obtain ⟨v, hv, hR⟩ := hreps.2 i l0[i] (List.getElem?_eq_getElem hi)
   refine ⟨v, matrix_Plain_sort.take1 hv, ?_⟩
   rw [List.getD_eq_getElem?_getD, List.getElem?_eq_getElem hi]
   exact hR
  obtain ⟨enc, henc⟩ : ∃ enc : Fin l0.length → Value, enc = fun i => inner.getD i.val (.slice none 0 0) := ⟨_, rfl⟩
  have hencat : ∀ i : Fin l0.length, inner[i.val]? = some (enc i) ∧ Kd.R (Kd.int .u64) 29 w B (fun k_ => OK k_ ∧ some k_ ≠ (Value.slice (some ⟨g, 0, none⟩) l0.length cap).ownBlock) (enc i) (l0.getD i.val []) := fun i => by
   obtain ⟨v, h1, h2⟩ := hrow i.val i.isLt
   have : enc i = v := by rw [henc]; show inner.getD i.val _ = v; rw [List.getD_eq_getElem?_getD, h1]; rfl
   rw [this]; exact ⟨h1, h2⟩
  have hencF : ∀ i : Fin l0.length, Kd.R (Kd.int .u64) 29 w B (fun k_ => OK k_ ∧ some k_ ≠ (Value.slice (some ⟨g, 0, none⟩) l0.length cap).ownBlock) (enc i) (l0.getD i.val []) := fun i => (hencat i).2
  have hone : OneCell enc := fun i => (Kd.R_val (hencF i)).2
  have hcell : ∀ j (hj : j < l0.length), cur[j]? = some (enc ⟨j, hj⟩) := fun j hj => by
   rw [← (hencat ⟨j, hj⟩).1, ← hcur', List.getElem?_take_of_lt hj, Array.getElem?_toList]
  obtain ⟨d, hd⟩ : ∃ d : Array (Fin l0.length), d = (List.finRange l0.length).toArray := ⟨_, rfl⟩
  have hdsz : d.size = l0.length := by rw [hd]; simp
  have hdat : ∀ j (hj : j < l0.length), d[j]! = ⟨j, hj⟩ := fun j hj => by
   rw [getElem!_pos d j (by omega)]
   subst hd
   simp
  have hH : Go.Sort.Holds enc w g 0 d := fun j hj => by
   have hj' : j < l0.length := by omega
   refine ⟨?_, ?_⟩
   ·rw [hdat j hj', Nat.zero_add]
    simp only [World.cell?, hheap]
    simpa using hcell j hj'
   ·simp [World.frozen?, hheap]
  obtain ⟨cf, hcf⟩ : ∃ cf : Fin l0.length → Fin l0.length → Int, cf = fun i j => ks.getD i.val 0 - ks.getD j.val 0 := ⟨_, rfl⟩
  have hlt : ∀ i j, ltOf cf i j = decide (ks.getD i.val 0 < ks.getD j.val 0) := fun i j => by
   unfold ltOf
   rw [hcf]
   exact matrix_Plain_sort.cf_lt ks _ _
  have hO : Go.Sort.SWO (ltOf cf) := ⟨fun x => by rw [hlt]; simp, fun x y z h1 h2 => by rw [hlt] at *; simp at *; omega, fun x y z h1 h2 => by rw [hlt] at *; simp at *; omega⟩
  have hT : ∀ x y, (ltOf cf) x y = false → (ltOf cf) y x = false → x = y := fun x y h1 h2 => by
   rw [hlt] at h1 h2
   have he : ks.getD x.val 0 = ks.getD y.val 0 := by
    have := of_decide_eq_false h1
    have := of_decide_eq_false h2
    omega
   have hx := x.isLt
   have hy := y.isLt
   rw [List.getD_eq_getElem?_getD, List.getD_eq_getElem?_getD, List.getElem?_eq_getElem (by omega), List.getElem?_eq_getElem (by omega)] at he
   have he' : ks[x.val] = ks[y.val] := he
   apply Fin.ext
   have hpw := List.pairwise_iff_getElem.1 hnd
   rcases Nat.lt_trichotomy x.val y.val with h3 | h3 | h3
   ·exact absurd he' (hpw x.val y.val (by omega) (by omega) h3)
   ·exact h3
   ·exact absurd he'.symm (hpw y.val x.val (by omega) (by omega) h3)
  have htab : ∀ (W : World), (∀ q, q ≠ g → q < w.heap.size → W.heap[q]? = w.heap[q]?) → TabIn W := fun W hW j hj => by
   have h1 := ht j hj
   have h2 := World.block_lt_of_cell? w _ h1
   have hne : 1 ≠ g := by
    intro e
    have h3 := ht 0 (by decide)
    rw [e] at h3
    have h4 := (hH 0 (by omega)).1
    rw [hdat 0 hpos, Nat.zero_add, h3] at h4
    obtain ⟨A, c, h6⟩ := Kd.R_slice (hencF ⟨0, hpos⟩)
    rw [h6] at h4
    cases h4
   have h3 := hW _ hne h2
   rw [← h1]
   simp only [World.cell?, h3]
  have hstep : ∀ i (W : World), (∀ q, q ≠ g → q < w.heap.size → W.heap[q]? = w.heap[q]?) → Kd.R (Kd.int .u64) 29 W B (fun k_ => OK k_ ∧ some k_ ≠ (Value.slice (some ⟨g, 0, none⟩) l0.length cap).ownBlock) (enc i) (l0.getD i.val []) := fun i W hW =>
   Kd.R_step (hencF i) (fun q hq hlt => hW q (fun e => hq.2 (by rw [e]; rfl)) hlt)
  have hcmp : CmpLays1 Tryd.prog 40 #[] enc cf g 0 d.size w := by
   intro m os dk hdk x y
   obtain ⟨Ax, cx, ex, hlx, hrx⟩ := Kd.R_reads (hstep x (sortWorld enc w g 0 m dk os) (fun q hq hlt => matrix_Plain_sort.sw_heap hq hlt))
   obtain ⟨Ay, cy, ey, hly, hry⟩ := Kd.R_reads (hstep y (sortWorld enc w g 0 m dk os) (fun q hq hlt => matrix_Plain_sort.sw_heap hq hlt))
   have hc := matrix_Plain_sort.less_calls k Ax cx (l0.getD x.val []) Ay cy (l0.getD y.val []) _ _ (sortWorld enc w g 0 m dk os) (htab _ (fun q hq hlt => matrix_Plain_sort.sw_heap hq hlt)) hrx hlx hry hly (hka x.val x.isLt) (hka y.val y.isLt) (hinD x.val x.isLt) (hinD y.val y.isLt)
   rw [ex, ey, hcf]
   refine Calls.mono hc ?_
   rintro e w' ⟨rfl, q, rfl⟩
   exact ⟨rfl, q, #[], by rw [Go.Sort.grow_empty]⟩
  have eg : ∀ args w, (callFunc 40 args).run Tryd.prog w = .ok (.enter 40 args) w := enters_of Tryd.func40 (by kernel_rfl) rfl
  have hS := Any.slices_SortFunc_total Tryd.sortF enc hone cf hO 40 #[] g 0 cap d w eg hcmp hH hg (by rw [hdsz]; exact hsz62) hT
  rw [hdsz] at hS
  change Calls Tryd.prog 39 _ _ _ at hS
  refine Calls.mono hS ?_
  rintro e w' ⟨rfl, n, os, rfl⟩
  have hso : (d.toList.mergeSort fun x y => !(ltOf cf) y x) = matrix_Plain_sort.places l0.length ks := by
   unfold matrix_Plain_sort.places
   rw [hd]
   congr 1
   funext x y
   rw [hlt]
   by_cases hxy : ks.getD x.val 0 ≤ ks.getD y.val 0
   ·rw [decide_eq_true hxy, decide_eq_false (by omega)]; rfl
   ·rw [decide_eq_false hxy, decide_eq_true (by omega)]; rfl
  rw [hso]
  obtain ⟨so, hsoe⟩ : ∃ so, so = matrix_Plain_sort.places l0.length ks := ⟨_, rfl⟩
  rw [← hsoe]
  have hperm : so.Perm (List.finRange l0.length) := by rw [hsoe]; exact List.mergeSort_perm _ _
  have hsl : so.length = l0.length := by rw [hperm.length_eq]; simp
  have hW : ∀ q, q ≠ g → q < w.heap.size → (sortWorld enc w g 0 n so.toArray os).heap[q]? = w.heap[q]? := fun q hq hlt => matrix_Plain_sort.sw_heap hq hlt
  refine ⟨rfl, ?_, matrix_Plain_sort.sw_below hbase hB⟩
  have hrow' := matrix_Plain_sort.sw_row (enc := enc) (off := 0) (m := n) (dk := so.toArray) (os := os) hheap
  have hput : (Go.Sort.putCells enc 0 so.toArray cur).toList.take l0.length = so.map enc := by
   apply List.ext_getElem?
   intro j
   by_cases hj : j < l0.length
   ·rw [List.getElem?_take_of_lt hj, Array.getElem?_toList]
    have hjs : j < so.length := by omega
    rw [List.getElem?_map, List.getElem?_eq_getElem hjs]
    unfold Go.Sort.putCells
    rw [Array.getElem?_mapIdx, hcell j hj]
    simp only [Option.map_some]
    rw [if_pos ⟨Nat.zero_le _, by simpa using hjs⟩, Nat.sub_zero, getElem!_pos so.toArray j (by simpa using hjs)]
    simp
   ·rw [List.getElem?_eq_none (by simp; omega), List.getElem?_eq_none (by simp; omega)]
  have hfl : (so.map fun i => l0.getD i.val []).length = l0.length := by simp [hsl]
  refine ⟨fun q hq => h0 q hq, so.map enc, ⟨by simp [Kd.slice], .inr ⟨g, cap, _, by simp [hsl], hbase, hrow', by simp [hsl]; omega, hcm, by simpa [Go.Sort.putCells, Kd.slice] using hcsz', by simpa [Kd.slice, hsl] using hput⟩⟩, by simp [Kd.slice], ?_⟩
  intro j x hx
  have hjs : j < so.length := by simpa using (List.getElem?_eq_some_iff.1 hx).1
  rw [List.getElem?_map, List.getElem?_eq_getElem hjs] at hx
  obtain rfl := Option.some.inj hx
  have he : ((so.map enc).drop (j * 1)).take 1 = [enc so[j]] := by
   rw [Nat.mul_one, List.drop_eq_getElem_cons (by simpa using hjs)]
   simp
  exact ⟨enc so[j], he, hstep so[j] _ hW⟩

/-! ### matrix_Plain: function 24 -/
mutual
def matrix_Plain.l0 : Nat → List (List Int) → Int → Int → Option ((List (List Int)) × List FE)
 | 0, _, _, _ => none
 | k + 1, x7, x24, x25 => if x25 < x24 then (matrix_Plain.l1 k x7 x25 x24 x25 (x7.length : Int) 0) else ((matrix_Plain_sort.f k x7).bind fun y7 => (some (y7, ([] : List FE))))
def matrix_Plain.l1 : Nat → List (List Int) → Int → Int → Int → Int → Int → Option ((List (List Int)) × List FE)
 | 0, _, _, _, _, _, _ => none
 | k + 1, x7, x9, x24, x25, x29, x30 => if x30 < x29 then (if x30 = x9 then (matrix_Plain.l1 k x7 x9 x24 x25 x29 (wrap64 (x30 + 1))) else (if 0 ≤ x30 then (if x30 < (x7.length : Int) then (if 0 ≤ x9 then (if x9 < (x7.length : Int) then ((packed_First.f k (rd_Lsu64 x7 x9)).bind fun t463 => ((packed_Has.f (rd_Lsu64 x7 x30) t463).bind fun t464 => (if t464 = true then ((packed_Xor.f k (rd_Lsu64 x7 x30) (rd_Lsu64 x7 x9)).bind fun bt467 => (matrix_Plain.l1 k (x7.set (x30 : Int).toNat bt467.1) x9 x24 x25 x29 (wrap64 (x30 + 1)))) else (matrix_Plain.l1 k x7 x9 x24 x25 x29 (wrap64 (x30 + 1)))))) else (none)) else (none)) else (none)) else (none))) else (matrix_Plain.l0 k x7 x24 (wrap64 (x25 + 1)))
end
def matrix_Plain.f (k : Nat) (l0 : List (List Int)) (a1 : Int) : Option ((List (List Int)) × List FE) := (matrix_Check.f k l0 a1).bind fun t449 => (if (t449.length : Int) = 0 then ((matrix_reduce.f k l0).bind fun bt455 => (matrix_Plain.l0 k bt455.1 (bt455.1.length : Int) 0)) else ((fault_Wrap.f (⟨#[109, 97, 116, 114, 105, 120, 46, 80, 108, 97, 105, 110]⟩ : ByteArray) t449).bind fun t452 => (some (([] : List (List Int)), t452))))
theorem matrix_Plain.mono_l : ∀ k, (∀ y0 y1 y2, LeO (matrix_Plain.l0 k y0 y1 y2) (matrix_Plain.l0 (k + 1) y0 y1 y2)) ∧ (∀ y0 y1 y2 y3 y4 y5, LeO (matrix_Plain.l1 k y0 y1 y2 y3 y4 y5) (matrix_Plain.l1 (k + 1) y0 y1 y2 y3 y4 y5))
 | 0 => ⟨fun _ _ _ r h => by simp [matrix_Plain.l0] at h, fun _ _ _ _ _ _ r h => by simp [matrix_Plain.l1] at h⟩
 | k + 1 => by
  obtain ⟨ih0, ih1⟩ := matrix_Plain.mono_l k
  refine ⟨?_, ?_⟩
  ·intro y0 y1 y2
   unfold matrix_Plain.l0
   repeat' first
   | (with_reducible exact ih0 _ _ _)
   | (with_reducible exact ih1 _ _ _ _ _ _)
   | (with_reducible exact matrix_Check.mono _ _ _)
   | (with_reducible exact matrix_reduce.mono _ _)
   | (with_reducible exact packed_First.mono _ _)
   | (with_reducible exact packed_Xor.mono _ _ _)
   | (with_reducible exact matrix_Plain_sort.mono _ _)
   | (with_reducible exact LeO.refl _)
   | (with_reducible exact LeO.none _)
   | (with_reducible refine LeO.ite ?_ ?_)
   | (with_reducible refine LeO.bind ?_ (fun _ => ?_))
   | exact ih0 _ _ _
   | exact ih1 _ _ _ _ _ _
   | exact matrix_Check.mono _ _ _
   | exact matrix_reduce.mono _ _
   | exact packed_First.mono _ _
   | exact packed_Xor.mono _ _ _
   | exact LeO.none _
   | refine LeO.ite ?_ ?_
   | refine LeO.bind ?_ (fun _ => ?_)
  ·intro y0 y1 y2 y3 y4 y5
   unfold matrix_Plain.l1
   repeat' first
   | (with_reducible exact ih0 _ _ _)
   | (with_reducible exact ih1 _ _ _ _ _ _)
   | (with_reducible exact matrix_Check.mono _ _ _)
   | (with_reducible exact matrix_reduce.mono _ _)
   | (with_reducible exact packed_First.mono _ _)
   | (with_reducible exact packed_Xor.mono _ _ _)
   | (with_reducible exact matrix_Plain_sort.mono _ _)
   | (with_reducible exact LeO.refl _)
   | (with_reducible exact LeO.none _)
   | (with_reducible refine LeO.ite ?_ ?_)
   | (with_reducible refine LeO.bind ?_ (fun _ => ?_))
   | exact ih0 _ _ _
   | exact ih1 _ _ _ _ _ _
   | exact matrix_Check.mono _ _ _
   | exact matrix_reduce.mono _ _
   | exact packed_First.mono _ _
   | exact packed_Xor.mono _ _ _
   | exact LeO.none _
   | refine LeO.ite ?_ ?_
   | refine LeO.bind ?_ (fun _ => ?_)
theorem matrix_Plain.mono : ∀ a0 a1 k, LeO (matrix_Plain.f k a0 a1) (matrix_Plain.f (k + 1) a0 a1) := by
 intro a0 a1 k
 obtain ⟨ih0, ih1⟩ := matrix_Plain.mono_l k
 unfold matrix_Plain.f
 repeat' first
   | (with_reducible exact ih0 _ _ _)
   | (with_reducible exact ih1 _ _ _ _ _ _)
   | (with_reducible exact matrix_Check.mono _ _ _)
   | (with_reducible exact matrix_reduce.mono _ _)
   | (with_reducible exact packed_First.mono _ _)
   | (with_reducible exact packed_Xor.mono _ _ _)
   | (with_reducible exact matrix_Plain_sort.mono _ _)
   | (with_reducible exact LeO.refl _)
   | (with_reducible exact LeO.none _)
   | (with_reducible refine LeO.ite ?_ ?_)
   | (with_reducible refine LeO.bind ?_ (fun _ => ?_))
   | exact ih0 _ _ _
   | exact ih1 _ _ _ _ _ _
   | exact matrix_Check.mono _ _ _
   | exact matrix_reduce.mono _ _
   | exact packed_First.mono _ _
   | exact packed_Xor.mono _ _ _
   | exact LeO.none _
   | refine LeO.ite ?_ ?_
   | refine LeO.bind ?_ (fun _ => ?_)
def matrix_Plain.T11 : Bool × List (List Nat × List Nat) := (true, [([], []), ([], []), ([0, 1], [0, 1]), ([2], [2]), ([3], [3]), ([3], [3]), ([4, 5, 3], [3, 4, 5]), ([6, 3], [3, 6]), ([3], [3]), ([3], [3]), ([8, 9, 3], [3, 8, 9]), ([10, 3], [3, 10]), ([11, 3, 3], [3, 11]), ([7, 12, 12, 3], [3, 7, 12]), ([3, 13], [3, 13])])
def matrix_Plain.B11 : List Nat := [0, 0, 3, 7, 15, 15, 63, 127, 15, 15, 783, 1807, 3855, 8191, 16383]
theorem matrix_Plain.tab11 : rtab .any (opsOf Tryd.f24 11) = matrix_Plain.T11 := by kernel_rfl
theorem matrix_Plain.bits11 : waitsOk matrix_Plain.T11.2 matrix_Plain.B11 = true := by kernel_rfl
def matrix_Plain.T12 : Bool × List (List Nat × List Nat) := (true, [([], []), ([], []), ([], []), ([], []), ([2, 3], [2, 3]), ([4], [4]), ([], []), ([], []), ([6, 7], [6, 7]), ([8], [8]), ([5, 9], [5, 9]), ([10], [10]), ([11], [11]), ([11], [11]), ([0, 1, 0, 1, 2, 3, 4, 5, 6, 7, 8, 9, 10, 11, 12], [0, 1]), ([14, 12, 10, 0, 1, 2, 3, 4, 5, 6, 7, 8, 9, 10, 11, 12], [12, 14])])
def matrix_Plain.B12 : List Nat := [0, 0, 0, 0, 12, 28, 0, 0, 192, 448, 1020, 2044, 4092, 4092, 8191, 24575]
theorem matrix_Plain.tab12 : rtab .any (opsOf Tryd.f24 12) = matrix_Plain.T12 := by kernel_rfl
theorem matrix_Plain.bits12 : waitsOk matrix_Plain.T12.2 matrix_Plain.B12 = true := by kernel_rfl
set_option maxHeartbeats 8000000 in
set_option maxRecDepth 100000 in
theorem matrix_Plain.callsR (k : Nat) (A0 : Option Addr) (c0 : Nat) (l0 : List (List Int)) (a1 : Int) (r1 : List (List Int)) (r2 : List FE) (w : World) (ht : TabIn w) (hr0 : Kd.C (Kd.slice 29 (Kd.int .u64)) w A0 l0.length l0) (hc0 : l0.length ≤ c0) (h : matrix_Plain.f k l0 a1 = some (r1, r2)) :
  Calls Tryd.prog 24 #[.slice A0 l0.length c0, .int .i64 a1] w fun e w' => ∃ v0_ v1_ : Value, e = .returned (.tuple #[v0_, (errOf v1_)]) ∧ Kd.R (Kd.slice 29 (Kd.int .u64)) 27 w' w.heap.size (fun k_ => (w.heap.size ≤ k_)) v0_ r1 ∧ Kd.R kF 64 w' w.heap.size (fun k_ => (w.heap.size ≤ k_)) v1_ r2 ∧ Below w.heap.size w w' := by
 have HR0 := Aside0.mk hr0
 have HC0 := Aside0.mk hc0
 clear hr0 hc0
 have HB := Aside0.mk (Below.refl w.heap.size w)
 have HT := Aside0.mk ht
 clear ht
 have H : ((matrix_Check.f k l0 a1).bind fun t449 => (if (t449.length : Int) = 0 then ((matrix_reduce.f k l0).bind fun bt455 => (matrix_Plain.l0 k bt455.1 (bt455.1.length : Int) 0)) else ((fault_Wrap.f (⟨#[109, 97, 116, 114, 105, 120, 46, 80, 108, 97, 105, 110]⟩ : ByteArray) t449).bind fun t452 => (some (([] : List (List Int)), t452))))) = some (r1, r2) := h
 clear h
 replace H := Option.bind_eq_some_iff.mp H
 obtain ⟨t449, A30, H⟩ := H
 replace H : (if (t449.length : Int) = 0 then ((matrix_reduce.f k l0).bind fun bt455 => (matrix_Plain.l0 k bt455.1 (bt455.1.length : Int) 0)) else ((fault_Wrap.f (⟨#[109, 97, 116, 114, 105, 120, 46, 80, 108, 97, 105, 110]⟩ : ByteArray) t449).bind fun t452 => (some (([] : List (List Int)), t452)))) = some (r1, r2) := H
 have A3 := Aside0.mk A30
 clear A30
 by_cases c4 : (t449.length : Int) = 0
 ·rw [if_pos c4] at H
  have c4b0 : ((t449.length : Int) == 0) = true := beq_iff_eq.mpr c4
  have c4b1 : ((t449.length : Int) != 0) = false := bne_eq_false_iff_eq.mpr c4
  clear c4
  replace H := Option.bind_eq_some_iff.mp H
  obtain ⟨⟨t455, t456⟩, A50, H⟩ := H
  replace H : (matrix_Plain.l0 k t455 (t455.length : Int) 0) = some (r1, r2) := H
  have A5 := Aside0.mk A50
  clear A50
  have H' := Aside0.mk H
  clear H
  go_enter Tryd.func24, Tryd.ntmps24
  go_wp2_with (first | ((with_reducible refine gate_callee (f := 17) rfl ?_); refine goesL_ (some 13) rfl rfl Tryd.func17 (by kernel_rfl) rfl #[.slice A0 l0.length c0, .int .i64 a1] rfl (by (try simp only [List.map_toArray, List.map_cons, List.map_nil]); first | done | rfl | (simp only [List.length_drop, List.length_take]; rfl)) ?_; (with_reducible refine (matrix_Check.calls k _ _ l0 a1 t449 _ ?side1 ?side2 A3.out).mono ?_); (case side1 => repeat (first | exact HR0.out | (with_reducible refine Kd.C_alloc ?_ _) | (with_reducible refine Kd.C_drewN ?_ _) | (with_reducible refine Kd.C_drew ?_))); (case side2 => exact HC0.out); rintro e w6 ⟨v450, rfl, ho0, hb⟩; refine ⟨_, rfl, ?_⟩; have n0_ := Aside0.mk (Kd.R_lower (Kd.R_newM (M := fun k_ => (w.heap.size ≤ k_)) ho0 (below_size (by repeat (first | (with_reducible first | exact HB.out | apply below_alloc | apply pw_below_drewN | apply below_drew1) | exact HB.out))) (fun k_ h_ => h_)) (below_size (by repeat (first | (with_reducible first | exact HB.out | apply below_alloc | apply pw_below_drewN | apply below_drew1) | exact HB.out)))); have n1_ := Aside0.mk (below_step (by repeat (first | (with_reducible first | exact HB.out | apply below_alloc | apply pw_below_drewN | apply below_drew1) | exact HB.out)) hb); clear HB; have HO451 := n0_; have HB := n1_; clear n0_ n1_; (try clear hb); (try clear hb2); (try clear hk); (try clear hi); (try clear ho0); obtain ⟨Ao7, co7, eo7⟩ := Kd.R_slice HO451.out; subst eo7) | ((with_reducible refine gate_callee (f := 28) rfl ?_); refine goesL_ (some 20) rfl rfl Tryd.func28 (by kernel_rfl) rfl #[.slice A0 l0.length c0] rfl (by (try simp only [List.map_toArray, List.map_cons, List.map_nil]); first | done | rfl | (simp only [List.length_drop, List.length_take]; rfl)) ?_; (with_reducible refine (matrix_reduce.calls k _ _ l0 t455 t456 _ ?side1 ?side2 ?side3 A5.out).mono ?_); (case side1 => first | exact HT.out | exact TabIn.below HT.out (by repeat (first | (with_reducible first | exact HB.out | apply below_alloc | apply pw_below_drewN | apply below_drew1) | exact HB.out)) | (repeat (first | apply TabIn.drewN | apply TabIn.drew | exact HT.out))); (case side2 => repeat (first | exact (Kd.C_below HR0.out HB.out) | (with_reducible refine Kd.C_alloc ?_ _) | (with_reducible refine Kd.C_drewN ?_ _) | (with_reducible refine Kd.C_drew ?_))); (case side3 => exact HC0.out); rintro e w8 ⟨v457, v459, rfl, ho0, ho1, hb⟩; refine ⟨_, rfl, ?_⟩; have n0_ := Aside0.mk (Kd.R_below (by (with_reducible repeat (first | apply Kd.R_alloc | apply Kd.R_drewN | apply Kd.R_drew)); exact HO451.out) hb); have n1_ := Aside0.mk (Kd.R_lower (Kd.R_mono (ok' := fun k_ => (w.heap.size ≤ k_) ∧ some k_ ≠ (v459 : Value).ownBlock) (Kd.S_R (Kd.S_bound (Kd.S_apart' ho0 (Kd.R_typed ho1) (by decide)))) (fun k_ hk_ => ⟨(Nat.le_trans (below_size (by repeat (first | (with_reducible first | exact HB.out | apply below_alloc | apply pw_below_drewN | apply below_drew1) | exact HB.out))) hk_.2.1), hk_.1.2⟩)) (below_size (by repeat (first | (with_reducible first | exact HB.out | apply below_alloc | apply pw_below_drewN | apply below_drew1) | exact HB.out)))); have n2_ := Aside0.mk (Kd.R_lower (Kd.R_newM (M := fun k_ => (w.heap.size ≤ k_)) ho1 (below_size (by repeat (first | (with_reducible first | exact HB.out | apply below_alloc | apply pw_below_drewN | apply below_drew1) | exact HB.out))) (fun k_ h_ => h_)) (below_size (by repeat (first | (with_reducible first | exact HB.out | apply below_alloc | apply pw_below_drewN | apply below_drew1) | exact HB.out)))); have n3_ := Aside0.mk (below_step (by repeat (first | (with_reducible first | exact HB.out | apply below_alloc | apply pw_below_drewN | apply below_drew1) | exact HB.out)) hb); clear HO451; clear HB; have HO451 := n0_; have HO458 := n1_; have HO460 := n2_; have HB := n3_; clear n0_ n1_ n2_ n3_; (try clear hb); (try clear hb2); (try clear hk); (try clear hi); (try clear ho0); (try clear ho1); obtain ⟨Ao9, co9, eo9⟩ := Kd.R_slice HO458.out; subst eo9))
  go_loopg [25] k (fun kq v25 w' => ∃ (x7_1 : List (List Int)) (x25_1 : Int), v25 = .int .i64 x25_1 ∧ Aside0 (matrix_Plain.l0 kq x7_1 (t455.length : Int) x25_1 = some (r1, r2)) ∧ Aside0 (kq ≤ k) ∧ Aside0 (Kd.R (Kd.slice 29 (Kd.int .u64)) 27 w' w.heap.size (fun k_ => (w.heap.size ≤ k_)) (.slice Ao9 t455.length co9) x7_1) ∧ Aside0 (Below w.heap.size w w'))
  case atStart => exact ⟨(t455), (0), (by first | rfl | (simp; done) | (simp [*]; done)), H', ⟨Nat.le_refl _⟩, ⟨by (with_reducible repeat (first | apply Kd.R_alloc | apply Kd.R_drewN | apply Kd.R_drew)); exact Kd.R_mono HO458.out (fun _ hk => hk.1)⟩, ⟨by repeat (first | (with_reducible first | exact HB.out | apply below_alloc | apply pw_below_drewN | apply below_drew1) | exact HB.out)⟩⟩
  case round =>
   clear H'
   try clear c1
   try clear c2
   try clear p2
   try clear c4
   try clear c4b0
   try clear c4b1
   obtain ⟨x7_1, x25_1, rfl, HA, HK1, HO_7, HB⟩ := hrel
   have hl7_1 := (Kd.R_reads' HO_7.out).1
   rw [hl7_1] at HO_7
   (try simp only [hl7_1])
   cases gk with
   | zero => exact absurd HA.out (by simp [matrix_Plain.l0])
   | succ k1 =>
    have H := HA.out
    clear HA
    simp only [matrix_Plain.l0] at H
    by_cases c10 : x25_1 < (t455.length : Int)
    ·rw [if_pos c10] at H
     have c10b0 : decide (x25_1 < (t455.length : Int)) = true := decide_eq_true c10
     (try (have c10b0q := c10b0; simp only [hl7_1] at c10b0q))
     clear c10
     have H' := Aside0.mk H
     clear H
     go_wp2
     go_loopg [30] k1 (fun kq v30 w' => ∃ (x7_2 : List (List Int)) (x30_2 : Int), v30 = .int .i64 x30_2 ∧ Aside0 (matrix_Plain.l1 kq x7_2 x25_1 (t455.length : Int) x25_1 (x7_1.length : Int) x30_2 = some (r1, r2)) ∧ Aside0 (kq ≤ k1) ∧ Aside0 (Kd.R (Kd.slice 29 (Kd.int .u64)) 27 w' w.heap.size (fun k_ => (w.heap.size ≤ k_)) (.slice Ao9 x7_1.length co9) x7_2) ∧ Aside0 (Below w.heap.size w w'))
     case atStart => exact ⟨(x7_1), (0), (by first | rfl | (simp; done) | (simp [*]; done)), H', ⟨Nat.le_refl _⟩, ⟨by (try simp only [hl7_1]); (with_reducible repeat (first | apply Kd.R_alloc | apply Kd.R_drewN | apply Kd.R_drew)); exact HO_7.out⟩, ⟨by repeat (first | (with_reducible first | exact HB.out | apply below_alloc | apply pw_below_drewN | apply below_drew1) | exact HB.out)⟩⟩
     case round =>
      clear H'
      try clear c1
      try clear c2
      try clear p2
      try clear c4
      try clear c4b0
      try clear c4b1
      try clear c10
      try clear c10b0
      try clear p2
      obtain ⟨x7_2, x30_2, rfl, HA, HK2, HO_7, HB⟩ := hrel
      have hl7_2 := (Kd.R_reads' HO_7.out).1
      rw [hl7_2] at HO_7
      (try simp only [hl7_2])
      cases gk with
      | zero => exact absurd HA.out (by simp [matrix_Plain.l1])
      | succ k2 =>
       have H := HA.out
       clear HA
       simp only [matrix_Plain.l1] at H
       by_cases c11 : x30_2 < (x7_1.length : Int)
       ·rw [if_pos c11] at H
        have c11b0 : decide (x30_2 < (x7_1.length : Int)) = true := decide_eq_true c11
        (try (have c11b0q := c11b0; simp only [hl7_1, hl7_2] at c11b0q))
        clear c11
        by_cases c12 : x30_2 = x25_1
        ·rw [if_pos c12] at H
         have c12b0 : (x30_2 == x25_1) = true := beq_iff_eq.mpr c12
         have c12b1 : (x30_2 != x25_1) = false := bne_eq_false_iff_eq.mpr c12
         clear c12
         have H' := Aside0.mk H
         clear H
         try go_wp2
         have n0_ := Aside0.mk (Kd.R_drew HO_7.out)
         have n1_ := Aside0.mk (below_drew1 HB.out)
         clear HO_7
         clear HB
         have HO_7 := n0_
         have HB := n1_
         clear n0_ n1_
         refine start_ (n := 15) (S := fun w' => True) (ds := []) #[false, false, false, false, false, false, false, false, false, false, false, false, false, false, false] (by kernel_rfl) rfl rfl trivial (fun hHeld => ?_); refine with_tabW matrix_Plain.tab11 matrix_Plain.bits11 (fun HT_ HW_ => ?_)
         generalize wr.drew = w13 at HO_7 HB hHeld ⊢
         refine pure_ (i := 0) (N := some 33) (v := ?_) (a' := ?_) #[true, false, false, false, false, false, false, false, false, false, false, false, false, false, false] rfl rfl (any_of HT_.out (by kernel_rfl)) (fun _ _ _ h => h) (Or.inl ⟨by rfl, ?_⟩) ?_ ?_
         rotate_left
         ·intro w'
          go_simp
          with_reducible rfl
         rotate_left
         ·simp only [Act.put, List.setIfInBounds_toArray, List.set_cons_zero, List.set_cons_succ, i64_w, i32_w]
          rfl
         refine pure_ (i := 1) (N := some 34) (v := ?_) (a' := ?_) #[true, true, false, false, false, false, false, false, false, false, false, false, false, false, false] rfl rfl (any_of HT_.out (by kernel_rfl)) (fun _ _ _ h => h) (Or.inl ⟨by rfl, ?_⟩) ?_ ?_
         rotate_left
         ·intro w'
          go_simp
          with_reducible rfl
         rotate_left
         ·simp only [Act.put, List.setIfInBounds_toArray, List.set_cons_zero, List.set_cons_succ, i64_w, i32_w]
          rfl
         refine pure_ (i := 2) (N := some 35) (v := ?_) (a' := ?_) #[true, true, true, false, false, false, false, false, false, false, false, false, false, false, false] rfl rfl (any_of HT_.out (by kernel_rfl)) (fun _ _ _ h => h) (Or.inl ⟨by rfl, ?_⟩) ?_ ?_
         rotate_left
         ·intro w'
          go_simp
          with_reducible rfl
         rotate_left
         ·simp only [Act.put, List.setIfInBounds_toArray, List.set_cons_zero, List.set_cons_succ, i64_w, i32_w]
          rfl
         refine pure_ (i := 3) (N := some 36) (v := ?_) (a' := ?_) #[true, true, true, true, false, false, false, false, false, false, false, false, false, false, false] rfl rfl (any_of HT_.out (by kernel_rfl)) (fun _ _ _ h => h) (Or.inl ⟨by rfl, ?_⟩) ?_ ?_
         rotate_left
         ·intro w'
          go_simp
          with_reducible rfl
         rotate_left
         ·simp only [Act.put, List.setIfInBounds_toArray, List.set_cons_zero, List.set_cons_succ, i64_w, i32_w]
          rfl
         refine pure_ (i := 4) (N := some 37) (v := undef) (a' := ?_) #[true, true, true, true, true, false, false, false, false, false, false, false, false, false, false] rfl rfl (any_of HT_.out (by kernel_rfl)) (fun _ _ _ h => h) (Or.inr ⟨by rfl, rfl⟩) ?_ ?_
         rotate_left
         ·simp only [Act.put, List.setIfInBounds_toArray, List.set_cons_zero, List.set_cons_succ, i64_w, i32_w]
          rfl
         refine pure_ (i := 5) (N := some 38) (v := undef) (a' := ?_) #[true, true, true, true, true, true, false, false, false, false, false, false, false, false, false] rfl rfl (any_of HT_.out (by kernel_rfl)) (fun _ _ _ h => h) (Or.inr ⟨by rfl, rfl⟩) ?_ ?_
         rotate_left
         ·simp only [Act.put, List.setIfInBounds_toArray, List.set_cons_zero, List.set_cons_succ, i64_w, i32_w]
          rfl
         refine pure_ (i := 6) (N := some 39) (v := undef) (a' := ?_) #[true, true, true, true, true, true, true, false, false, false, false, false, false, false, false] rfl rfl (any_of HT_.out (by kernel_rfl)) (fun _ _ _ h => h) (Or.inr ⟨by rfl, rfl⟩) ?_ ?_
         rotate_left
         ·simp only [Act.put, List.setIfInBounds_toArray, List.set_cons_zero, List.set_cons_succ, i64_w, i32_w]
          rfl
         refine pure_ (i := 7) (N := some 40) (v := undef) (a' := ?_) #[true, true, true, true, true, true, true, true, false, false, false, false, false, false, false] rfl rfl (any_of HT_.out (by kernel_rfl)) (fun _ _ _ h => h) (Or.inr ⟨by rfl, rfl⟩) ?_ ?_
         rotate_left
         ·simp only [Act.put, List.setIfInBounds_toArray, List.set_cons_zero, List.set_cons_succ, i64_w, i32_w]
          rfl
         refine pure_ (i := 8) (N := some 41) (v := undef) (a' := ?_) #[true, true, true, true, true, true, true, true, true, false, false, false, false, false, false] rfl rfl (any_of HT_.out (by kernel_rfl)) (fun _ _ _ h => h) (Or.inr ⟨by rfl, rfl⟩) ?_ ?_
         rotate_left
         ·simp only [Act.put, List.setIfInBounds_toArray, List.set_cons_zero, List.set_cons_succ, i64_w, i32_w]
          rfl
         refine pure_ (i := 9) (N := some 42) (v := undef) (a' := ?_) #[true, true, true, true, true, true, true, true, true, true, false, false, false, false, false] rfl rfl (any_of HT_.out (by kernel_rfl)) (fun _ _ _ h => h) (Or.inr ⟨by rfl, rfl⟩) ?_ ?_
         rotate_left
         ·simp only [Act.put, List.setIfInBounds_toArray, List.set_cons_zero, List.set_cons_succ, i64_w, i32_w]
          rfl
         refine pure_ (i := 10) (N := some 43) (v := undef) (a' := ?_) #[true, true, true, true, true, true, true, true, true, true, true, false, false, false, false] rfl rfl (any_of HT_.out (by kernel_rfl)) (fun _ _ _ h => h) (Or.inr ⟨by rfl, rfl⟩) ?_ ?_
         rotate_left
         ·simp only [Act.put, List.setIfInBounds_toArray, List.set_cons_zero, List.set_cons_succ, i64_w, i32_w]
          rfl
         refine pure_ (i := 11) (N := some 44) (v := undef) (a' := ?_) #[true, true, true, true, true, true, true, true, true, true, true, true, false, false, false] rfl rfl (any_of HT_.out (by kernel_rfl)) (fun _ _ _ h => h) (Or.inr ⟨by rfl, rfl⟩) ?_ ?_
         rotate_left
         ·simp only [Act.put, List.setIfInBounds_toArray, List.set_cons_zero, List.set_cons_succ, i64_w, i32_w]
          rfl
         refine pure_ (i := 12) (N := some 45) (v := undef) (a' := ?_) #[true, true, true, true, true, true, true, true, true, true, true, true, true, false, false] rfl rfl (any_of HT_.out (by kernel_rfl)) (fun _ _ _ h => h) (Or.inr ⟨by rfl, rfl⟩) ?_ ?_
         rotate_left
         ·simp only [Act.put, List.setIfInBounds_toArray, List.set_cons_zero, List.set_cons_succ, i64_w, i32_w]
          rfl
         refine pure_ (i := 13) (N := some 46) (v := undef) (a' := ?_) #[true, true, true, true, true, true, true, true, true, true, true, true, true, true, false] rfl rfl (any_of HT_.out (by kernel_rfl)) (fun _ _ _ h => h) (Or.inr ⟨by rfl, rfl⟩) ?_ ?_
         rotate_left
         ·simp only [Act.put, List.setIfInBounds_toArray, List.set_cons_zero, List.set_cons_succ, i64_w, i32_w]
          rfl
         refine pure_ (i := 14) (N := some 47) (v := ?_) (a' := ?_) #[true, true, true, true, true, true, true, true, true, true, true, true, true, true, true] rfl rfl (any_of HT_.out (by kernel_rfl)) (fun _ _ _ h => h) (Or.inl ⟨by rfl, ?_⟩) ?_ ?_
         rotate_left
         ·intro w'
          go_simp
          with_reducible rfl
         rotate_left
         ·simp only [Act.put, List.setIfInBounds_toArray, List.set_cons_zero, List.set_cons_succ, i64_w, i32_w]
          rfl
         refine done_ (done_of HT_.out (by kernel_rfl)) ?_
         try go_wp2
         (try simp only [← hl7_2])
         go_roundg k2
         case measure => have := HK1.out; have := HK2.out; omega
         case rel => exact ⟨(x7_2), (wrap64 (x30_2 + 1)), (by first | rfl | (simp; done) | (simp [*]; done)), H', ⟨by have := HK1.out; have := HK2.out; omega⟩, ⟨by (try simp only [hl7_1]); (try simp only [hl7_2]); (with_reducible repeat (first | apply Kd.R_alloc | apply Kd.R_drewN | apply Kd.R_drew)); exact HO_7.out⟩, ⟨by repeat (first | (with_reducible first | exact HB.out | apply below_alloc | apply pw_below_drewN | apply below_drew1) | exact HB.out)⟩⟩
        ·rw [if_neg c12] at H
         have c12b0 : (x30_2 == x25_1) = false := beq_eq_false_iff_ne.mpr c12
         have c12b1 : (x30_2 != x25_1) = true := bne_iff_ne.mpr c12
         by_cases c14 : 0 ≤ x30_2
         ·rw [if_pos c14] at H
          have c14b0 : decide (0 ≤ x30_2) = true := decide_eq_true c14
          clear c14
          by_cases c15 : x30_2 < (x7_2.length : Int)
          ·rw [if_pos c15] at H
           have c15b0 : decide (x30_2 < (x7_2.length : Int)) = true := decide_eq_true c15
           (try (have c15b0q := c15b0; simp only [hl7_1, hl7_2] at c15b0q))
           clear c15
           by_cases c16 : 0 ≤ x25_1
           ·rw [if_pos c16] at H
            have c16b0 : decide (0 ≤ x25_1) = true := decide_eq_true c16
            clear c16
            by_cases c17 : x25_1 < (x7_2.length : Int)
            ·rw [if_pos c17] at H
             have c17b0 : decide (x25_1 < (x7_2.length : Int)) = true := decide_eq_true c17
             (try (have c17b0q := c17b0; simp only [hl7_1, hl7_2] at c17b0q))
             clear c17
             replace H := Option.bind_eq_some_iff.mp H
             obtain ⟨t463, A180, H⟩ := H
             replace H : ((packed_Has.f (rd_Lsu64 x7_2 x30_2) t463).bind fun t464 => (if t464 = true then ((packed_Xor.f k2 (rd_Lsu64 x7_2 x30_2) (rd_Lsu64 x7_2 x25_1)).bind fun bt467 => (matrix_Plain.l1 k2 (x7_2.set (x30_2 : Int).toNat bt467.1) x25_1 (t455.length : Int) x25_1 (x7_1.length : Int) (wrap64 (x30_2 + 1)))) else (matrix_Plain.l1 k2 x7_2 x25_1 (t455.length : Int) x25_1 (x7_1.length : Int) (wrap64 (x30_2 + 1))))) = some (r1, r2) := H
             have A18 := Aside0.mk A180
             clear A180
             replace H := Option.bind_eq_some_iff.mp H
             obtain ⟨t464, A190, H⟩ := H
             replace H : (if t464 = true then ((packed_Xor.f k2 (rd_Lsu64 x7_2 x30_2) (rd_Lsu64 x7_2 x25_1)).bind fun bt467 => (matrix_Plain.l1 k2 (x7_2.set (x30_2 : Int).toNat bt467.1) x25_1 (t455.length : Int) x25_1 (x7_1.length : Int) (wrap64 (x30_2 + 1)))) else (matrix_Plain.l1 k2 x7_2 x25_1 (t455.length : Int) x25_1 (x7_1.length : Int) (wrap64 (x30_2 + 1)))) = some (r1, r2) := H
             have A19 := Aside0.mk A190
             clear A190
             by_cases c20 : t464 = true
             ·subst c20
              have H1 : ((packed_Xor.f k2 (rd_Lsu64 x7_2 x30_2) (rd_Lsu64 x7_2 x25_1)).bind fun bt467 => (matrix_Plain.l1 k2 (x7_2.set (x30_2 : Int).toNat bt467.1) x25_1 (t455.length : Int) x25_1 (x7_1.length : Int) (wrap64 (x30_2 + 1)))) = some (r1, r2) := by rw [if_pos rfl] at H; exact H
              clear H
              have H := H1
              clear H1
              replace H := Option.bind_eq_some_iff.mp H
              obtain ⟨⟨t467, t468⟩, A210, H⟩ := H
              replace H : (matrix_Plain.l1 k2 (x7_2.set (x30_2 : Int).toNat t467) x25_1 (t455.length : Int) x25_1 (x7_1.length : Int) (wrap64 (x30_2 + 1))) = some (r1, r2) := H
              have A21 := Aside0.mk A210
              clear A210
              obtain ⟨y473, hy473⟩ : ∃ y_ : List (List Int), y_ = (x7_2.set (x30_2 : Int).toNat t467) := ⟨_, rfl⟩
              replace H : (matrix_Plain.l1 k2 y473 x25_1 (t455.length : Int) x25_1 (x7_1.length : Int) (wrap64 (x30_2 + 1))) = some (r1, r2) := by first | (rw [hy473]; with_reducible exact H) | (have H2_ := (Option.bind_some _ _).symm.trans H; rw [hy473]; with_reducible exact H2_) | (have H2_ := (Option.bind_some _ _).symm.trans H; with_reducible exact H2_) | with_reducible exact H | (rw [hy473]; exact H) | exact H
              have Ny473 := Aside0.mk hy473
              clear hy473
              have H' := Aside0.mk H
              clear H
              try go_wp2
              have n0_ := Aside0.mk (Kd.R_drew HO_7.out)
              have n1_ := Aside0.mk (below_drew1 HB.out)
              clear HO_7
              clear HB
              have HO_7 := n0_
              have HB := n1_
              clear n0_ n1_
              have p461 : 0 ≤ (x30_2 : Int) := of_decide_eq_true (by first | (with_reducible assumption) | assumption)
              have q461 : x30_2 < (x7_2.length : Int) := of_decide_eq_true (by first | (with_reducible assumption) | assumption)
              obtain ⟨ad461, A461_0, c461_0, e461, hx461_0, hl461_0, hi461_0⟩ := at_Lsu64 (Kd.R_reads' HO_7.out).2.2 x30_2 p461 q461
              cases e461
              obtain ⟨ce461, hce461, hMe461, hcc461⟩ := Kd.N_get (Kd.R_N HO_7.out) [] x30_2 p461 (by first | exact q461 | exact of_decide_eq_true (by first | (with_reducible assumption) | assumption) | (have e_ := (Kd.R_reads' HO_7.out).1; omega))
              obtain ⟨ua461_0, uc461_0, rfl, ul461_0, ge461_0⟩ := Kd.FK_slice_open hMe461
              have hv461_0 := hcc461 0 _ rfl
              rw [Nat.add_zero, show ((Kd.slice 29 (Kd.int .u64))).sz = 1 from rfl, Nat.mul_one] at hv461_0
              replace hv461_0 := Option.some.inj (hv461_0.symm.trans hx461_0)
              injection hv461_0 with hva_ hvn_ hvc_
              rw [hva_] at ge461_0
              rw [hvc_] at ul461_0
              have HL461_0 := Aside0.mk (show Kd.V (Kd.int .u64) 29 _ w.heap.size _ _ (rd_Lsu64 x7_2 x30_2) from Kd.V_mk ul461_0 ge461_0)
              clear hva_ hvn_ hvc_ ge461_0 ul461_0
              clear hcc461 hce461
              have HR461_0 := Aside0.mk hi461_0
              have HC461_0 := Aside0.mk hl461_0
              clear hi461_0 hl461_0
              replace p461 := eq_true p461
              replace q461 := eq_true q461
              have p462 : 0 ≤ (x25_1 : Int) := of_decide_eq_true (by first | (with_reducible assumption) | assumption)
              have q462 : x25_1 < (x7_2.length : Int) := of_decide_eq_true (by first | (with_reducible assumption) | assumption)
              obtain ⟨ad462, A462_0, c462_0, e462, hx462_0, hl462_0, hi462_0⟩ := at_Lsu64 (Kd.R_reads' HO_7.out).2.2 x25_1 p462 q462
              obtain rfl : ad461 = ad462 := (by injection e462)
              obtain ⟨ce462, hce462, hMe462, hcc462⟩ := Kd.N_get (Kd.R_N HO_7.out) [] x25_1 p462 (by first | exact q462 | exact of_decide_eq_true (by first | (with_reducible assumption) | assumption) | (have e_ := (Kd.R_reads' HO_7.out).1; omega))
              obtain ⟨ua462_0, uc462_0, rfl, ul462_0, ge462_0⟩ := Kd.FK_slice_open hMe462
              have hv462_0 := hcc462 0 _ rfl
              rw [Nat.add_zero, show ((Kd.slice 29 (Kd.int .u64))).sz = 1 from rfl, Nat.mul_one] at hv462_0
              replace hv462_0 := Option.some.inj (hv462_0.symm.trans hx462_0)
              injection hv462_0 with hva_ hvn_ hvc_
              rw [hva_] at ge462_0
              rw [hvc_] at ul462_0
              have HL462_0 := Aside0.mk (show Kd.V (Kd.int .u64) 29 _ w.heap.size _ _ (rd_Lsu64 x7_2 x25_1) from Kd.V_mk ul462_0 ge462_0)
              clear hva_ hvn_ hvc_ ge462_0 ul462_0
              clear hcc462 hce462
              have HR462_0 := Aside0.mk hi462_0
              have HC462_0 := Aside0.mk hl462_0
              clear hi462_0 hl462_0
              replace p462 := eq_true p462
              replace q462 := eq_true q462
              refine start_ (n := 15) (S := fun w' => w'.cell? (ad461.add (x30_2).toNat) = some (.slice A461_0 (rd_Lsu64 x7_2 x30_2).length c461_0) ∧ w'.cell? (ad461.add (x25_1).toNat) = some (.slice A462_0 (rd_Lsu64 x7_2 x25_1).length c462_0)) (ds := []) #[false, false, false, false, false, false, false, false, false, false, false, false, false, false, false] (by kernel_rfl) rfl rfl ⟨hx461_0, hx462_0⟩ (fun hHeld => ?_); refine with_tabW matrix_Plain.tab11 matrix_Plain.bits11 (fun HT_ HW_ => ?_)
              generalize wr.drew = w23 at HO_7 HB HL461_0 HL462_0 HR461_0 HR462_0 hx461_0 hx462_0 hHeld ⊢
              refine pure_ (i := 0) (N := some 33) (v := ?_) (a' := ?_) #[true, false, false, false, false, false, false, false, false, false, false, false, false, false, false] rfl rfl (any_of HT_.out (by kernel_rfl)) (fun _ _ _ h => h) (Or.inl ⟨by rfl, ?_⟩) ?_ ?_
              rotate_left
              ·intro w'
               go_simp
               with_reducible rfl
              rotate_left
              ·simp only [Act.put, List.setIfInBounds_toArray, List.set_cons_zero, List.set_cons_succ, i64_w, i32_w]
               rfl
              refine pure_ (i := 1) (N := some 34) (v := ?_) (a' := ?_) #[true, true, false, false, false, false, false, false, false, false, false, false, false, false, false] rfl rfl (any_of HT_.out (by kernel_rfl)) (fun _ _ _ h => h) (Or.inl ⟨by rfl, ?_⟩) ?_ ?_
              rotate_left
              ·intro w'
               go_simp
               with_reducible rfl
              rotate_left
              ·simp only [Act.put, List.setIfInBounds_toArray, List.set_cons_zero, List.set_cons_succ, i64_w, i32_w]
               rfl
              refine pure_ (i := 2) (N := some 35) (v := ?_) (a' := ?_) #[true, true, true, false, false, false, false, false, false, false, false, false, false, false, false] rfl rfl (any_of HT_.out (by kernel_rfl)) (fun _ _ _ h => h) (Or.inl ⟨by rfl, ?_⟩) ?_ ?_
              rotate_left
              ·intro w'
               go_simp
               with_reducible rfl
              rotate_left
              ·simp only [Act.put, List.setIfInBounds_toArray, List.set_cons_zero, List.set_cons_succ, i64_w, i32_w]
               rfl
              refine pure_ (i := 3) (N := some 36) (v := ?_) (a' := ?_) #[true, true, true, true, false, false, false, false, false, false, false, false, false, false, false] rfl rfl (any_of HT_.out (by kernel_rfl)) (fun _ _ _ h => h) (Or.inl ⟨by rfl, ?_⟩) ?_ ?_
              rotate_left
              ·intro w'
               go_simp
               with_reducible rfl
              rotate_left
              ·simp only [Act.put, List.setIfInBounds_toArray, List.set_cons_zero, List.set_cons_succ, i64_w, i32_w]
               rfl
              refine pure_ (i := 4) (N := some 37) (v := ?_) (a' := ?_) #[true, true, true, true, true, false, false, false, false, false, false, false, false, false, false] rfl rfl (any_of HT_.out (by kernel_rfl)) (fun _ _ _ h => h) (Or.inl ⟨by rfl, ?_⟩) ?_ ?_
              rotate_left
              ·intro w'
               go_simp
               with_reducible rfl
              rotate_left
              ·simp only [Act.put, List.setIfInBounds_toArray, List.set_cons_zero, List.set_cons_succ, i64_w, i32_w]
               rfl
              refine pure_ (i := 5) (N := some 38) (v := ?_) (a' := ?_) #[true, true, true, true, true, true, false, false, false, false, false, false, false, false, false] rfl rfl (any_of HT_.out (by kernel_rfl)) (fun _ _ _ h => h) (Or.inl ⟨by rfl, ?_⟩) ?_ ?_
              rotate_left
              ·intro w'
               go_simp
               with_reducible rfl
              rotate_left
              ·simp only [Act.put, List.setIfInBounds_toArray, List.set_cons_zero, List.set_cons_succ, i64_w, i32_w]
               rfl
              refine pure_ (i := 6) (N := some 39) (v := ?_) (a' := ?_) #[true, true, true, true, true, true, true, false, false, false, false, false, false, false, false] rfl rfl (any_of HT_.out (by kernel_rfl)) (fun _ _ _ h => h) (Or.inl ⟨by rfl, ?_⟩) ?_ ?_
              rotate_left
              ·intro w'
               go_simp
               with_reducible rfl
              rotate_left
              ·simp only [Act.put, List.setIfInBounds_toArray, List.set_cons_zero, List.set_cons_succ, i64_w, i32_w]
               rfl
              refine pure_ (i := 8) (N := some 41) (v := ?_) (a' := ?_) #[true, true, true, true, true, true, true, false, true, false, false, false, false, false, false] rfl rfl (any_of HT_.out (by kernel_rfl)) (fun _ _ _ h => h) (Or.inl ⟨by rfl, ?_⟩) ?_ ?_
              rotate_left
              ·intro w'
               go_simp
               with_reducible rfl
              rotate_left
              ·simp only [Act.put, List.setIfInBounds_toArray, List.set_cons_zero, List.set_cons_succ, i64_w, i32_w]
               rfl
              refine pure_ (i := 9) (N := some 42) (v := ?_) (a' := ?_) #[true, true, true, true, true, true, true, false, true, true, false, false, false, false, false] rfl rfl (any_of HT_.out (by kernel_rfl)) (fun _ _ _ h => h) (Or.inl ⟨by rfl, ?_⟩) ?_ ?_
              rotate_left
              ·intro w'
               go_simp
               with_reducible rfl
              rotate_left
              ·simp only [Act.put, List.setIfInBounds_toArray, List.set_cons_zero, List.set_cons_succ, i64_w, i32_w]
               rfl
              refine pure_ (i := 10) (N := some 43) (v := ?_) (a' := ?_) #[true, true, true, true, true, true, true, false, true, true, true, false, false, false, false] rfl rfl (any_of HT_.out (by kernel_rfl)) (fun _ _ _ h => h) (Or.inl ⟨by rfl, ?_⟩) ?_ ?_
              rotate_left
              ·intro w'
               go_simp
               with_reducible rfl
              rotate_left
              ·simp only [Act.put, List.setIfInBounds_toArray, List.set_cons_zero, List.set_cons_succ, i64_w, i32_w]
               rfl
              refine take_ (i := 7) (N := some 40) (v := ?_) (a' := ?_) #[true, true, true, true, true, true, true, true, true, true, true, false, false, false, false] rfl rfl (take_ofW HT_.out HW_.out (by kernel_rfl)) (fun _ _ _ h => h) (Or.inl ⟨by rfl, ?_⟩) hHeld ?_ ?_
              rotate_left
              ·rintro w' ⟨s0, s1⟩
               go_simp
               with_reducible rfl
              rotate_left
              ·simp only [Act.put, List.setIfInBounds_toArray, List.set_cons_zero, List.set_cons_succ, i64_w, i32_w]
               rfl
              refine take_ (i := 11) (N := some 44) (v := ?_) (a' := ?_) #[true, true, true, true, true, true, true, true, true, true, true, true, false, false, false] rfl rfl (take_ofW HT_.out HW_.out (by kernel_rfl)) (fun _ _ _ h => h) (Or.inl ⟨by rfl, ?_⟩) hHeld ?_ ?_
              rotate_left
              ·rintro w' ⟨s0, s1⟩
               go_simp
               with_reducible rfl
              rotate_left
              ·simp only [Act.put, List.setIfInBounds_toArray, List.set_cons_zero, List.set_cons_succ, i64_w, i32_w]
               rfl
              refine one_ (i := 12) (N := some 45) #[true, true, true, true, true, true, true, true, true, true, true, true, true, false, false] rfl rfl (one_of HT_.out (by kernel_rfl)) (by decide) (fun K hK => ?_)
              refine goes_ Tryd.func31 (by kernel_rfl) rfl #[.slice A462_0 (rd_Lsu64 x7_2 x25_1).length c462_0] (by rfl) rfl rfl (by (try simp only [List.map_toArray, List.map_cons, List.map_nil]); first | done | rfl | (simp only [List.length_drop, List.length_take]; rfl)) ?_
              with_reducible refine (packed_First.calls k2 _ _ (rd_Lsu64 x7_2 x25_1) t463 _ ?side1 ?side2 ?side3 A18.out).mono ?_
              (case side1 => first | exact HT.out | exact TabIn.below HT.out (by repeat (first | (with_reducible first | exact HB.out | apply below_alloc | apply pw_below_drewN | apply below_drew1) | exact HB.out)) | (repeat (first | apply TabIn.drewN | apply TabIn.drew | exact HT.out)))
              (case side2 => repeat (first | exact (by repeat (first | (with_reducible exact HR462_0.out) | (with_reducible refine Kd.C_alloc ?_ _) | (with_reducible refine Kd.C_drewN ?_ _) | (with_reducible refine Kd.C_drew ?_) | exact HR462_0.out)) | (with_reducible refine Kd.C_alloc ?_ _) | (with_reducible refine Kd.C_drewN ?_ _) | (with_reducible refine Kd.C_drew ?_)))
              (case side3 => exact HC462_0.out)
              rintro e w' ⟨rfl, ⟨nd, rfl⟩⟩
              refine ⟨_, rfl, ?_⟩
              refine hK.out _ _ ⟨hHeld.1, hHeld.2⟩ (fun hHeld => ?_)
              clear hK K
              refine norm_ (a' := ?_) ?_ ?_
              rotate_left
              ·show Act.put _ (some 45) _ = _
               simp only [Act.put, List.setIfInBounds_toArray, List.set_cons_zero, List.set_cons_succ, i64_w, i32_w]
               rfl
              refine one_ (i := 13) (N := some 46) #[true, true, true, true, true, true, true, true, true, true, true, true, true, true, false] rfl rfl (one_of HT_.out (by kernel_rfl)) (by decide) (fun K hK => ?_)
              refine goes_ Tryd.func37 (by kernel_rfl) rfl #[.slice A461_0 (rd_Lsu64 x7_2 x30_2).length c461_0, .int .i64 t463] (by rfl) rfl rfl (by (try simp only [List.map_toArray, List.map_cons, List.map_nil]); first | done | rfl | (simp only [List.length_drop, List.length_take]; rfl)) ?_
              with_reducible refine (packed_Has.calls _ _ (rd_Lsu64 x7_2 x30_2) t463 true _ ?side1 ?side2 A19.out).mono ?_
              (case side1 => repeat (first | exact (by repeat (first | (with_reducible exact HR461_0.out) | (with_reducible refine Kd.C_alloc ?_ _) | (with_reducible refine Kd.C_drewN ?_ _) | (with_reducible refine Kd.C_drew ?_) | exact HR461_0.out)) | (with_reducible refine Kd.C_alloc ?_ _) | (with_reducible refine Kd.C_drewN ?_ _) | (with_reducible refine Kd.C_drew ?_)))
              (case side2 => exact HC461_0.out)
              rintro e w' ⟨rfl, ⟨nd, rfl⟩⟩
              refine ⟨_, rfl, ?_⟩
              refine hK.out _ _ ⟨hHeld.1, hHeld.2⟩ (fun hHeld => ?_)
              clear hK K
              refine norm_ (a' := ?_) ?_ ?_
              rotate_left
              ·show Act.put _ (some 46) _ = _
               simp only [Act.put, List.setIfInBounds_toArray, List.set_cons_zero, List.set_cons_succ, i64_w, i32_w]
               rfl
              refine pure_ (i := 14) (N := some 47) (v := ?_) (a' := ?_) #[true, true, true, true, true, true, true, true, true, true, true, true, true, true, true] rfl rfl (any_of HT_.out (by kernel_rfl)) (fun _ _ _ h => h) (Or.inl ⟨by rfl, ?_⟩) ?_ ?_
              rotate_left
              ·intro w'
               go_simp
               with_reducible rfl
              rotate_left
              ·simp only [Act.put, List.setIfInBounds_toArray, List.set_cons_zero, List.set_cons_succ, i64_w, i32_w]
               rfl
              refine done_ (done_of HT_.out (by kernel_rfl)) ?_
              try go_wp2
              (try (rw [drewN_self w23]; generalize hq_ : World.drewN w23 _ = w23; have n0_ : Aside0 (Kd.V (Kd.int .u64) 29 w23 w.heap.size (fun k_ => (w.heap.size ≤ k_) ∧ some k_ ≠ (.slice (some ad461) x7_2.length co9 : Value).ownBlock) (.slice A461_0 (rd_Lsu64 x7_2 x30_2).length c461_0) (rd_Lsu64 x7_2 x30_2)) := ⟨by rw [← hq_]; exact (by (with_reducible repeat (first | apply Kd.V_alloc | apply Kd.V_drewN | apply Kd.V_drew)); exact HL461_0.out)⟩; have n1_ : Aside0 (Kd.V (Kd.int .u64) 29 w23 w.heap.size (fun k_ => (w.heap.size ≤ k_) ∧ some k_ ≠ (.slice (some ad461) x7_2.length co9 : Value).ownBlock) (.slice A462_0 (rd_Lsu64 x7_2 x25_1).length c462_0) (rd_Lsu64 x7_2 x25_1)) := ⟨by rw [← hq_]; exact (by (with_reducible repeat (first | apply Kd.V_alloc | apply Kd.V_drewN | apply Kd.V_drew)); exact HL462_0.out)⟩; have n2_ : Aside0 (Kd.R (Kd.slice 29 (Kd.int .u64)) 27 w23 w.heap.size (fun k_ => (w.heap.size ≤ k_)) (.slice (some ad461) x7_2.length co9) x7_2) := ⟨by rw [← hq_]; exact (by (with_reducible repeat (first | apply Kd.R_alloc | apply Kd.R_drewN | apply Kd.R_drew)); exact HO_7.out)⟩; have n3_ : Aside0 (Below w.heap.size w w23) := ⟨by rw [← hq_]; exact (by repeat (first | (with_reducible first | exact HB.out | apply below_alloc | apply pw_below_drewN | apply below_drew1) | exact HB.out))⟩; have n4_ : Aside0 (Kd.C (Kd.int .u64) w23 A461_0 (rd_Lsu64 x7_2 x30_2).length (rd_Lsu64 x7_2 x30_2)) := ⟨by rw [← hq_]; exact (by repeat (first | (with_reducible exact HR461_0.out) | (with_reducible refine Kd.C_alloc ?_ _) | (with_reducible refine Kd.C_drewN ?_ _) | (with_reducible refine Kd.C_drew ?_) | exact HR461_0.out))⟩; have n5_ : Aside0 (Kd.C (Kd.int .u64) w23 A462_0 (rd_Lsu64 x7_2 x25_1).length (rd_Lsu64 x7_2 x25_1)) := ⟨by rw [← hq_]; exact (by repeat (first | (with_reducible exact HR462_0.out) | (with_reducible refine Kd.C_alloc ?_ _) | (with_reducible refine Kd.C_drewN ?_ _) | (with_reducible refine Kd.C_drew ?_) | exact HR462_0.out))⟩; clear HL461_0 HL462_0 HO_7 HB HR461_0 HR462_0 hq_; have HL461_0 := n0_; have HL462_0 := n1_; have HO_7 := n2_; have HB := n3_; have HR461_0 := n4_; have HR462_0 := n5_; clear n0_ n1_ n2_ n3_ n4_ n5_))
              have n0_ := Aside0.mk (Kd.R_drew HO_7.out)
              have n1_ := Aside0.mk (Kd.V_drew HL461_0.out)
              have n2_ := Aside0.mk (Kd.V_drew HL462_0.out)
              have n3_ := Aside0.mk (Kd.C_drew HR461_0.out)
              have n4_ := Aside0.mk (Kd.C_drew HR462_0.out)
              have n5_ := Aside0.mk (below_drew1 HB.out)
              clear HO_7
              clear HL461_0
              clear HL462_0
              clear HR461_0
              clear HR462_0
              clear HB
              have HO_7 := n0_
              have HL461_0 := n1_
              have HL462_0 := n2_
              have HR461_0 := n3_
              have HR462_0 := n4_
              have HB := n5_
              clear n0_ n1_ n2_ n3_ n4_ n5_
              have p465 : 0 ≤ (x30_2 : Int) := of_decide_eq_true (by first | (with_reducible assumption) | assumption)
              have q465 : x30_2 < (x7_2.length : Int) := of_decide_eq_true (by first | (with_reducible assumption) | assumption)
              obtain ⟨ad465, A465_0, c465_0, e465, hx465_0, hl465_0, hi465_0⟩ := at_Lsu64 (Kd.R_reads' HO_7.out).2.2 x30_2 p465 q465
              obtain rfl : ad461 = ad465 := (by injection e465)
              obtain ⟨ce465, hce465, hMe465, hcc465⟩ := Kd.N_get (Kd.R_N HO_7.out) [] x30_2 p465 (by first | exact q465 | exact of_decide_eq_true (by first | (with_reducible assumption) | assumption) | (have e_ := (Kd.R_reads' HO_7.out).1; omega))
              obtain ⟨ua465_0, uc465_0, rfl, ul465_0, ge465_0⟩ := Kd.FK_slice_open hMe465
              have hv465_0 := hcc465 0 _ rfl
              rw [Nat.add_zero, show ((Kd.slice 29 (Kd.int .u64))).sz = 1 from rfl, Nat.mul_one] at hv465_0
              replace hv465_0 := Option.some.inj (hv465_0.symm.trans hx465_0)
              injection hv465_0 with hva_ hvn_ hvc_
              rw [hva_] at ge465_0
              rw [hvc_] at ul465_0
              have HL465_0 := Aside0.mk (show Kd.V (Kd.int .u64) 29 _ w.heap.size _ _ (rd_Lsu64 x7_2 x30_2) from Kd.V_mk ul465_0 ge465_0)
              clear hva_ hvn_ hvc_ ge465_0 ul465_0
              clear hcc465 hce465
              have HR465_0 := Aside0.mk hi465_0
              have HC465_0 := Aside0.mk hl465_0
              clear hi465_0 hl465_0
              replace p465 := eq_true p465
              replace q465 := eq_true q465
              have p466 : 0 ≤ (x25_1 : Int) := of_decide_eq_true (by first | (with_reducible assumption) | assumption)
              have q466 : x25_1 < (x7_2.length : Int) := of_decide_eq_true (by first | (with_reducible assumption) | assumption)
              obtain ⟨ad466, A466_0, c466_0, e466, hx466_0, hl466_0, hi466_0⟩ := at_Lsu64 (Kd.R_reads' HO_7.out).2.2 x25_1 p466 q466
              obtain rfl : ad461 = ad466 := (by injection e466)
              obtain ⟨ce466, hce466, hMe466, hcc466⟩ := Kd.N_get (Kd.R_N HO_7.out) [] x25_1 p466 (by first | exact q466 | exact of_decide_eq_true (by first | (with_reducible assumption) | assumption) | (have e_ := (Kd.R_reads' HO_7.out).1; omega))
              obtain ⟨ua466_0, uc466_0, rfl, ul466_0, ge466_0⟩ := Kd.FK_slice_open hMe466
              have hv466_0 := hcc466 0 _ rfl
              rw [Nat.add_zero, show ((Kd.slice 29 (Kd.int .u64))).sz = 1 from rfl, Nat.mul_one] at hv466_0
              replace hv466_0 := Option.some.inj (hv466_0.symm.trans hx466_0)
              injection hv466_0 with hva_ hvn_ hvc_
              rw [hva_] at ge466_0
              rw [hvc_] at ul466_0
              have HL466_0 := Aside0.mk (show Kd.V (Kd.int .u64) 29 _ w.heap.size _ _ (rd_Lsu64 x7_2 x25_1) from Kd.V_mk ul466_0 ge466_0)
              clear hva_ hvn_ hvc_ ge466_0 ul466_0
              clear hcc466 hce466
              have HR466_0 := Aside0.mk hi466_0
              have HC466_0 := Aside0.mk hl466_0
              clear hi466_0 hl466_0
              replace p466 := eq_true p466
              replace q466 := eq_true q466
              refine start_ (n := 16) (S := fun w' => w'.cell? (ad461.add (x30_2).toNat) = some (.slice A465_0 (rd_Lsu64 x7_2 x30_2).length c465_0) ∧ w'.cell? (ad461.add (x25_1).toNat) = some (.slice A466_0 (rd_Lsu64 x7_2 x25_1).length c466_0)) (ds := [15]) #[false, false, false, false, false, false, false, false, false, false, false, false, false, false, false, false] (by kernel_rfl) rfl rfl ⟨hx465_0, hx466_0⟩ (fun hHeld => ?_); refine with_tabW matrix_Plain.tab12 matrix_Plain.bits12 (fun HT_ HW_ => ?_)
              generalize w23.drew = w24 at HO_7 HL461_0 HL462_0 HR461_0 HR462_0 HB HL465_0 HL466_0 HR465_0 HR466_0 hx465_0 hx466_0 hHeld ⊢
              refine pure_ (i := 0) (N := some 49) (v := ?_) (a' := ?_) #[true, false, false, false, false, false, false, false, false, false, false, false, false, false, false, false] rfl rfl (any_of HT_.out (by kernel_rfl)) (fun _ _ _ h => h) (Or.inl ⟨by rfl, ?_⟩) ?_ ?_
              rotate_left
              ·intro w'
               go_simp
               with_reducible rfl
              rotate_left
              ·simp only [Act.put, List.setIfInBounds_toArray, List.set_cons_zero, List.set_cons_succ, i64_w, i32_w]
               rfl
              refine pure_ (i := 1) (N := some 50) (v := ?_) (a' := ?_) #[true, true, false, false, false, false, false, false, false, false, false, false, false, false, false, false] rfl rfl (any_of HT_.out (by kernel_rfl)) (fun _ _ _ h => h) (Or.inl ⟨by rfl, ?_⟩) ?_ ?_
              rotate_left
              ·intro w'
               go_simp
               with_reducible rfl
              rotate_left
              ·simp only [Act.put, List.setIfInBounds_toArray, List.set_cons_zero, List.set_cons_succ, i64_w, i32_w]
               rfl
              refine pure_ (i := 2) (N := some 51) (v := ?_) (a' := ?_) #[true, true, true, false, false, false, false, false, false, false, false, false, false, false, false, false] rfl rfl (any_of HT_.out (by kernel_rfl)) (fun _ _ _ h => h) (Or.inl ⟨by rfl, ?_⟩) ?_ ?_
              rotate_left
              ·intro w'
               go_simp
               with_reducible rfl
              rotate_left
              ·simp only [Act.put, List.setIfInBounds_toArray, List.set_cons_zero, List.set_cons_succ, i64_w, i32_w]
               rfl
              refine pure_ (i := 3) (N := some 52) (v := ?_) (a' := ?_) #[true, true, true, true, false, false, false, false, false, false, false, false, false, false, false, false] rfl rfl (any_of HT_.out (by kernel_rfl)) (fun _ _ _ h => h) (Or.inl ⟨by rfl, ?_⟩) ?_ ?_
              rotate_left
              ·intro w'
               go_simp
               with_reducible rfl
              rotate_left
              ·simp only [Act.put, List.setIfInBounds_toArray, List.set_cons_zero, List.set_cons_succ, i64_w, i32_w]
               rfl
              refine pure_ (i := 4) (N := some 53) (v := ?_) (a' := ?_) #[true, true, true, true, true, false, false, false, false, false, false, false, false, false, false, false] rfl rfl (any_of HT_.out (by kernel_rfl)) (fun _ _ _ h => h) (Or.inl ⟨by rfl, ?_⟩) ?_ ?_
              rotate_left
              ·intro w'
               go_simp
               with_reducible rfl
              rotate_left
              ·simp only [Act.put, List.setIfInBounds_toArray, List.set_cons_zero, List.set_cons_succ, i64_w, i32_w]
               rfl
              refine pure_ (i := 6) (N := some 55) (v := ?_) (a' := ?_) #[true, true, true, true, true, false, true, false, false, false, false, false, false, false, false, false] rfl rfl (any_of HT_.out (by kernel_rfl)) (fun _ _ _ h => h) (Or.inl ⟨by rfl, ?_⟩) ?_ ?_
              rotate_left
              ·intro w'
               go_simp
               with_reducible rfl
              rotate_left
              ·simp only [Act.put, List.setIfInBounds_toArray, List.set_cons_zero, List.set_cons_succ, i64_w, i32_w]
               rfl
              refine pure_ (i := 7) (N := some 56) (v := ?_) (a' := ?_) #[true, true, true, true, true, false, true, true, false, false, false, false, false, false, false, false] rfl rfl (any_of HT_.out (by kernel_rfl)) (fun _ _ _ h => h) (Or.inl ⟨by rfl, ?_⟩) ?_ ?_
              rotate_left
              ·intro w'
               go_simp
               with_reducible rfl
              rotate_left
              ·simp only [Act.put, List.setIfInBounds_toArray, List.set_cons_zero, List.set_cons_succ, i64_w, i32_w]
               rfl
              refine pure_ (i := 8) (N := some 57) (v := ?_) (a' := ?_) #[true, true, true, true, true, false, true, true, true, false, false, false, false, false, false, false] rfl rfl (any_of HT_.out (by kernel_rfl)) (fun _ _ _ h => h) (Or.inl ⟨by rfl, ?_⟩) ?_ ?_
              rotate_left
              ·intro w'
               go_simp
               with_reducible rfl
              rotate_left
              ·simp only [Act.put, List.setIfInBounds_toArray, List.set_cons_zero, List.set_cons_succ, i64_w, i32_w]
               rfl
              refine take_ (i := 5) (N := some 54) (v := ?_) (a' := ?_) #[true, true, true, true, true, true, true, true, true, false, false, false, false, false, false, false] rfl rfl (take_ofW HT_.out HW_.out (by kernel_rfl)) (fun _ _ _ h => h) (Or.inl ⟨by rfl, ?_⟩) hHeld ?_ ?_
              rotate_left
              ·rintro w' ⟨s0, s1⟩
               go_simp
               with_reducible rfl
              rotate_left
              ·simp only [Act.put, List.setIfInBounds_toArray, List.set_cons_zero, List.set_cons_succ, i64_w, i32_w]
               rfl
              refine take_ (i := 9) (N := some 58) (v := ?_) (a' := ?_) #[true, true, true, true, true, true, true, true, true, true, false, false, false, false, false, false] rfl rfl (take_ofW HT_.out HW_.out (by kernel_rfl)) (fun _ _ _ h => h) (Or.inl ⟨by rfl, ?_⟩) hHeld ?_ ?_
              rotate_left
              ·rintro w' ⟨s0, s1⟩
               go_simp
               with_reducible rfl
              rotate_left
              ·simp only [Act.put, List.setIfInBounds_toArray, List.set_cons_zero, List.set_cons_succ, i64_w, i32_w]
               rfl
              refine one_ (i := 10) (N := some 59) #[true, true, true, true, true, true, true, true, true, true, true, false, false, false, false, false] rfl rfl (one_of HT_.out (by kernel_rfl)) (by decide) (fun K hK => ?_)
              refine goes_ Tryd.func38 (by kernel_rfl) rfl #[.slice A465_0 (rd_Lsu64 x7_2 x30_2).length c465_0, .slice A466_0 (rd_Lsu64 x7_2 x25_1).length c466_0] (by rfl) rfl rfl (by (try simp only [List.map_toArray, List.map_cons, List.map_nil]); first | done | rfl | (simp only [List.length_drop, List.length_take]; rfl)) ?_
              with_reducible refine (packed_Xor.calls k2 _ _ (rd_Lsu64 x7_2 x30_2) _ _ (rd_Lsu64 x7_2 x25_1) t467 t468 _ ?side1 ?side2 ?side3 ?side4 A21.out).mono ?_
              (case side1 => repeat (first | exact (by repeat (first | (with_reducible exact HR465_0.out) | (with_reducible refine Kd.C_alloc ?_ _) | (with_reducible refine Kd.C_drewN ?_ _) | (with_reducible refine Kd.C_drew ?_) | exact HR465_0.out)) | (with_reducible refine Kd.C_alloc ?_ _) | (with_reducible refine Kd.C_drewN ?_ _) | (with_reducible refine Kd.C_drew ?_)))
              (case side2 => exact HC465_0.out)
              (case side3 => repeat (first | exact (by repeat (first | (with_reducible exact HR466_0.out) | (with_reducible refine Kd.C_alloc ?_ _) | (with_reducible refine Kd.C_drewN ?_ _) | (with_reducible refine Kd.C_drew ?_) | exact HR466_0.out)) | (with_reducible refine Kd.C_alloc ?_ _) | (with_reducible refine Kd.C_drewN ?_ _) | (with_reducible refine Kd.C_drew ?_)))
              (case side4 => exact HC466_0.out)
              rintro e w25 ⟨v469, v471, rfl, ho0, ho1, hb⟩
              have HS0_ := (hb.cell (World.block_lt_of_cell? _ _ (hHeld.1))).trans (hHeld.1)
              have HS1_ := (hb.cell (World.block_lt_of_cell? _ _ (hHeld.2))).trans (hHeld.2)
              refine ⟨_, rfl, ?_⟩
              have n0_ := Aside0.mk (Kd.R_elder' (by (with_reducible repeat (first | apply Kd.R_alloc | apply Kd.R_drewN | apply Kd.R_drew)); exact HO_7.out) (Kd.R_base ho0) hb)
              have n1_ := Aside0.mk (Kd.V_elder' (by (with_reducible repeat (first | apply Kd.V_alloc | apply Kd.V_drewN | apply Kd.V_drew)); exact HL461_0.out) (Kd.R_base ho0) hb)
              have n2_ := Aside0.mk (Kd.V_elder' (by (with_reducible repeat (first | apply Kd.V_alloc | apply Kd.V_drewN | apply Kd.V_drew)); exact HL462_0.out) (Kd.R_base ho0) hb)
              have n3_ := Aside0.mk (Kd.V_elder' (by (with_reducible repeat (first | apply Kd.V_alloc | apply Kd.V_drewN | apply Kd.V_drew)); exact HL465_0.out) (Kd.R_base ho0) hb)
              have n4_ := Aside0.mk (Kd.V_elder' (by (with_reducible repeat (first | apply Kd.V_alloc | apply Kd.V_drewN | apply Kd.V_drew)); exact HL466_0.out) (Kd.R_base ho0) hb)
              have n5_ := Aside0.mk (Kd.R_lower (Kd.R_newM (M := fun k_ => (w.heap.size ≤ k_)) ho0 (below_size (by repeat (first | (with_reducible first | exact HB.out | apply below_alloc | apply pw_below_drewN | apply below_drew1) | exact HB.out))) (fun k_ h_ => h_)) (below_size (by repeat (first | (with_reducible first | exact HB.out | apply below_alloc | apply pw_below_drewN | apply below_drew1) | exact HB.out))))
              have n6_ := Aside0.mk (Kd.R_lower (Kd.R_newM (M := fun k_ => (w.heap.size ≤ k_)) ho1 (below_size (by repeat (first | (with_reducible first | exact HB.out | apply below_alloc | apply pw_below_drewN | apply below_drew1) | exact HB.out))) (fun k_ h_ => h_)) (below_size (by repeat (first | (with_reducible first | exact HB.out | apply below_alloc | apply pw_below_drewN | apply below_drew1) | exact HB.out))))
              have n7_ := Aside0.mk (Kd.C_below (by repeat (first | (with_reducible exact HR461_0.out) | (with_reducible refine Kd.C_alloc ?_ _) | (with_reducible refine Kd.C_drewN ?_ _) | (with_reducible refine Kd.C_drew ?_) | exact HR461_0.out)) hb)
              have n8_ := Aside0.mk (Kd.C_below (by repeat (first | (with_reducible exact HR462_0.out) | (with_reducible refine Kd.C_alloc ?_ _) | (with_reducible refine Kd.C_drewN ?_ _) | (with_reducible refine Kd.C_drew ?_) | exact HR462_0.out)) hb)
              have n9_ := Aside0.mk (Kd.C_below (by repeat (first | (with_reducible exact HR465_0.out) | (with_reducible refine Kd.C_alloc ?_ _) | (with_reducible refine Kd.C_drewN ?_ _) | (with_reducible refine Kd.C_drew ?_) | exact HR465_0.out)) hb)
              have n10_ := Aside0.mk (Kd.C_below (by repeat (first | (with_reducible exact HR466_0.out) | (with_reducible refine Kd.C_alloc ?_ _) | (with_reducible refine Kd.C_drewN ?_ _) | (with_reducible refine Kd.C_drew ?_) | exact HR466_0.out)) hb)
              have n11_ := Aside0.mk (below_step (by repeat (first | (with_reducible first | exact HB.out | apply below_alloc | apply pw_below_drewN | apply below_drew1) | exact HB.out)) hb)
              clear HO_7
              clear HL461_0
              clear HL462_0
              clear HL465_0
              clear HL466_0
              clear HR461_0
              clear HR462_0
              clear HR465_0
              clear HR466_0
              clear HB
              have HO_7 := n0_
              have HL461_0 := n1_
              have HL462_0 := n2_
              have HL465_0 := n3_
              have HL466_0 := n4_
              have HO470 := n5_
              have HO472 := n6_
              have HR461_0 := n7_
              have HR462_0 := n8_
              have HR465_0 := n9_
              have HR466_0 := n10_
              have HB := n11_
              clear n0_ n1_ n2_ n3_ n4_ n5_ n6_ n7_ n8_ n9_ n10_ n11_
              (try clear hb)
              (try clear hb2)
              (try clear hk)
              (try clear hi)
              (try clear ho0)
              (try clear ho1)
              obtain ⟨Av_, cv_, ev_⟩ := Kd.R_slice HO470.out
              subst ev_
              have p22 : 0 ≤ (x30_2 : Int) := of_decide_eq_true (by first | (with_reducible assumption) | assumption)
              have q22 : (x30_2 : Int) < ((x7_2.length : Int) : Int) := of_decide_eq_true (by first | (with_reducible assumption) | assumption)
              obtain ⟨go22, co22, eo22, gb22, gl22, cl22, HG22⟩ := Kd.R_form HO_7.out (by omega)
              (first | cases eo22 | (injection eo22 with ea_ en_ ec_; (first | subst ea_ | (injection ea_ with ea_; subst ea_)); subst ec_; clear en_))
              have GB22 := Aside0.mk gb22
              have GG22 := Aside0.mk HG22
              clear gb22 gl22 HG22
              (first | simp only [add_plain] at hx461_0 | skip)
              (first | simp only [add_plain] at hx462_0 | skip)
              (first | simp only [add_plain] at hx465_0 | skip)
              (first | simp only [add_plain] at hx466_0 | skip)
              obtain ⟨ce22, hcl22, hM22, hcc22, hfr22⟩ := Kd.R_elem HO_7.out [] (x30_2 : Int) p22 q22
              obtain ⟨ua22_0, uc22_0, rfl, ul22_0, ge22_0⟩ := Kd.FK_slice_open (Kd.FK_of_M hM22)
              have hx22_0 := hcc22 0 _ rfl
              have hf22_0 := hfr22 0
              (try simp only [show ((Kd.slice 29 (Kd.int .u64))).sz = 1 from rfl, Nat.mul_one, Nat.add_zero] at hx22_0)
              (try simp only [show ((Kd.slice 29 (Kd.int .u64))).sz = 1 from rfl, Nat.mul_one, Nat.add_zero] at hf22_0)
              clear hcl22 hcc22 hfr22 hM22
              replace p22 := eq_true p22
              replace q22 := eq_true q22
              have HX26 := Aside0.mk (show Kd.R (Kd.slice 29 (Kd.int .u64)) 27 _ w.heap.size (fun k_ => (w.heap.size ≤ k_) ∧ some k_ ≠ (.slice Av_ t467.length cv_ : Value).ownBlock) (.slice (some ⟨go22, 0, none⟩) x7_2.length co9) x7_2 from (Kd.R_mono (HO_7.out) (fun k_ hk => ⟨hk.1, hk.2⟩)))
              replace HX26 := Aside0.mk (show Kd.R (Kd.slice 29 (Kd.int .u64)) 27 _ w.heap.size (fun k_ => (w.heap.size ≤ k_)) (.slice (some ⟨go22, 0, none⟩) x7_2.length co9) x7_2 from Kd.R_mono HX26.out (fun k_ hk => hk.1))
              obtain ⟨ce26, hcl26, hM26, hcc26, hfr26⟩ := Kd.R_elem HX26.out [] (x30_2 : Int) (of_decide_eq_true (by first | (with_reducible assumption) | assumption)) (by have h_ : (x30_2 : Int) < ((x7_2.length : Int) : Int) := of_decide_eq_true (by first | (with_reducible assumption) | assumption); first | exact h_ | (have e_ := (Kd.R_reads' HO_7.out).1; omega) | simpa using h_)
              obtain ⟨ua26_0, uc26_0, rfl, ul26_0, ge26_0⟩ := Kd.FK_slice_open (Kd.FK_of_M hM26)
              have HP26 := (Kd.R_seg HX26.out (x30_2 : Int) (of_decide_eq_true (by first | (with_reducible assumption) | assumption)) (by have h_ : (x30_2 : Int) < ((x7_2.length : Int) : Int) := of_decide_eq_true (by first | (with_reducible assumption) | assumption); first | exact h_ | (have e_ := (Kd.R_reads' HO_7.out).1; omega) | simpa using h_) (seg := [(.slice Av_ t467.length cv_ : Value)]) (j := 0) hcl26 hcc26 (show 1 ≤ 1 from by decide) (x' := t467) (Kd.M_row (Kd.R_mono (ok' := (fun k_ => ((fun k_ => (w.heap.size ≤ k_))) k_ ∧ k_ ≠ go22)) (Kd.R_apart' (HO470.out) (Kd.R_typed HO_7.out) (by decide)) (fun k_ hk => ⟨hk.1.1, fun e_ => (hk.2) (by rw [e_]; rfl)⟩))) (fun _ hk => hk)).1
              (try simp only [show ((Kd.slice 29 (Kd.int .u64))).sz = 1 from rfl, Nat.mul_one, Nat.add_zero] at HP26)
              rw [← Ny473.out] at HP26
              have HQ26 := Aside0.mk HP26
              clear hcl26 hcc26 hfr26 hM26 HP26
              refine hK.out _ _ ⟨HS0_, HS1_⟩ (fun hHeld => ?_)
              clear hK K
              refine norm_ (a' := ?_) ?_ ?_
              rotate_left
              ·show Act.put _ (some 59) _ = _
               simp only [Act.put, List.setIfInBounds_toArray, List.set_cons_zero, List.set_cons_succ, i64_w, i32_w]
               rfl
              refine pure_ (i := 11) (N := some 48) (v := ?_) (a' := ?_) #[true, true, true, true, true, true, true, true, true, true, true, true, false, false, false, false] rfl rfl (any_of HT_.out (by kernel_rfl)) (fun _ _ _ h => h) (Or.inl ⟨by rfl, ?_⟩) ?_ ?_
              rotate_left
              ·intro w'
               go_simp
               with_reducible rfl
              rotate_left
              ·simp only [Act.put, List.setIfInBounds_toArray, List.set_cons_zero, List.set_cons_succ, i64_w, i32_w]
               rfl
              refine pure_ (i := 12) (N := some 60) (v := ?_) (a' := ?_) #[true, true, true, true, true, true, true, true, true, true, true, true, true, false, false, false] rfl rfl (any_of HT_.out (by kernel_rfl)) (fun _ _ _ h => h) (Or.inl ⟨by rfl, ?_⟩) ?_ ?_
              rotate_left
              ·intro w'
               go_simp
               with_reducible rfl
              rotate_left
              ·simp only [Act.put, List.setIfInBounds_toArray, List.set_cons_zero, List.set_cons_succ, i64_w, i32_w]
               rfl
              refine pure_ (i := 13) (N := some 61) (v := ?_) (a' := ?_) #[true, true, true, true, true, true, true, true, true, true, true, true, true, true, false, false] rfl rfl (any_of HT_.out (by kernel_rfl)) (fun _ _ _ h => h) (Or.inl ⟨by rfl, ?_⟩) ?_ ?_
              rotate_left
              ·intro w'
               go_simp
               with_reducible rfl
              rotate_left
              ·simp only [Act.put, List.setIfInBounds_toArray, List.set_cons_zero, List.set_cons_succ, i64_w, i32_w]
               rfl
              refine pure_ (i := 14) (N := some 62) (v := ?_) (a' := ?_) #[true, true, true, true, true, true, true, true, true, true, true, true, true, true, true, false] rfl rfl (any_of HT_.out (by kernel_rfl)) (fun _ _ _ h => h) (Or.inl ⟨by rfl, ?_⟩) ?_ ?_
              rotate_left
              ·intro w'
               go_simp
               with_reducible rfl
              rotate_left
              ·simp only [Act.put, List.setIfInBounds_toArray, List.set_cons_zero, List.set_cons_succ, i64_w, i32_w]
               rfl
              refine last_ (i := 15) (N := none) #[true, true, true, true, true, true, true, true, true, true, true, true, true, true, true, true] rfl rfl (one_of HT_.out (by kernel_rfl)) (by decide) (fun K hK => ?_)
              refine skip_ (w1 := ?_) (by rfl) rfl ?_ ?_
              rotate_left
              ·go_simp
               rfl
              refine hK.out _ _ ?_
              clear hK K
              refine done_ (done_of HT_.out (by kernel_rfl)) ?_
              try go_wp2
              (try simp only [← hl7_2])
              go_roundg k2
              case measure => have := HK1.out; have := HK2.out; omega
              case rel => exact ⟨(y473), (wrap64 (x30_2 + 1)), (by first | rfl | (simp; done) | (simp [*]; done)), H', ⟨by have := HK1.out; have := HK2.out; omega⟩, ⟨by (try simp only [hl7_1]); (try simp only [hl7_2]); (with_reducible repeat (first | apply Kd.R_alloc | apply Kd.R_drewN | apply Kd.R_drew)); exact HQ26.out⟩, ⟨by repeat (first | (with_reducible first | exact HB.out | apply below_alloc | apply pw_below_drewN | apply below_drew1 | refine below_set ?_ GB22.out) | exact HB.out)⟩⟩
             ·replace c20 := Bool.eq_false_iff.mpr c20
              subst c20
              have H1 : (matrix_Plain.l1 k2 x7_2 x25_1 (t455.length : Int) x25_1 (x7_1.length : Int) (wrap64 (x30_2 + 1))) = some (r1, r2) := by rw [if_neg (show ¬ (false = true) by decide)] at H; exact H
              clear H
              have H := H1
              clear H1
              have H' := Aside0.mk H
              clear H
              try go_wp2
              have n0_ := Aside0.mk (Kd.R_drew HO_7.out)
              have n1_ := Aside0.mk (below_drew1 HB.out)
              clear HO_7
              clear HB
              have HO_7 := n0_
              have HB := n1_
              clear n0_ n1_
              have p461 : 0 ≤ (x30_2 : Int) := of_decide_eq_true (by first | (with_reducible assumption) | assumption)
              have q461 : x30_2 < (x7_2.length : Int) := of_decide_eq_true (by first | (with_reducible assumption) | assumption)
              obtain ⟨ad461, A461_0, c461_0, e461, hx461_0, hl461_0, hi461_0⟩ := at_Lsu64 (Kd.R_reads' HO_7.out).2.2 x30_2 p461 q461
              cases e461
              obtain ⟨ce461, hce461, hMe461, hcc461⟩ := Kd.N_get (Kd.R_N HO_7.out) [] x30_2 p461 (by first | exact q461 | exact of_decide_eq_true (by first | (with_reducible assumption) | assumption) | (have e_ := (Kd.R_reads' HO_7.out).1; omega))
              obtain ⟨ua461_0, uc461_0, rfl, ul461_0, ge461_0⟩ := Kd.FK_slice_open hMe461
              have hv461_0 := hcc461 0 _ rfl
              rw [Nat.add_zero, show ((Kd.slice 29 (Kd.int .u64))).sz = 1 from rfl, Nat.mul_one] at hv461_0
              replace hv461_0 := Option.some.inj (hv461_0.symm.trans hx461_0)
              injection hv461_0 with hva_ hvn_ hvc_
              rw [hva_] at ge461_0
              rw [hvc_] at ul461_0
              have HL461_0 := Aside0.mk (show Kd.V (Kd.int .u64) 29 _ w.heap.size _ _ (rd_Lsu64 x7_2 x30_2) from Kd.V_mk ul461_0 ge461_0)
              clear hva_ hvn_ hvc_ ge461_0 ul461_0
              clear hcc461 hce461
              have HR461_0 := Aside0.mk hi461_0
              have HC461_0 := Aside0.mk hl461_0
              clear hi461_0 hl461_0
              replace p461 := eq_true p461
              replace q461 := eq_true q461
              have p462 : 0 ≤ (x25_1 : Int) := of_decide_eq_true (by first | (with_reducible assumption) | assumption)
              have q462 : x25_1 < (x7_2.length : Int) := of_decide_eq_true (by first | (with_reducible assumption) | assumption)
              obtain ⟨ad462, A462_0, c462_0, e462, hx462_0, hl462_0, hi462_0⟩ := at_Lsu64 (Kd.R_reads' HO_7.out).2.2 x25_1 p462 q462
              obtain rfl : ad461 = ad462 := (by injection e462)
              obtain ⟨ce462, hce462, hMe462, hcc462⟩ := Kd.N_get (Kd.R_N HO_7.out) [] x25_1 p462 (by first | exact q462 | exact of_decide_eq_true (by first | (with_reducible assumption) | assumption) | (have e_ := (Kd.R_reads' HO_7.out).1; omega))
              obtain ⟨ua462_0, uc462_0, rfl, ul462_0, ge462_0⟩ := Kd.FK_slice_open hMe462
              have hv462_0 := hcc462 0 _ rfl
              rw [Nat.add_zero, show ((Kd.slice 29 (Kd.int .u64))).sz = 1 from rfl, Nat.mul_one] at hv462_0
              replace hv462_0 := Option.some.inj (hv462_0.symm.trans hx462_0)
              injection hv462_0 with hva_ hvn_ hvc_
              rw [hva_] at ge462_0
              rw [hvc_] at ul462_0
              have HL462_0 := Aside0.mk (show Kd.V (Kd.int .u64) 29 _ w.heap.size _ _ (rd_Lsu64 x7_2 x25_1) from Kd.V_mk ul462_0 ge462_0)
              clear hva_ hvn_ hvc_ ge462_0 ul462_0
              clear hcc462 hce462
              have HR462_0 := Aside0.mk hi462_0
              have HC462_0 := Aside0.mk hl462_0
              clear hi462_0 hl462_0
              replace p462 := eq_true p462
              replace q462 := eq_true q462
              refine start_ (n := 15) (S := fun w' => w'.cell? (ad461.add (x30_2).toNat) = some (.slice A461_0 (rd_Lsu64 x7_2 x30_2).length c461_0) ∧ w'.cell? (ad461.add (x25_1).toNat) = some (.slice A462_0 (rd_Lsu64 x7_2 x25_1).length c462_0)) (ds := []) #[false, false, false, false, false, false, false, false, false, false, false, false, false, false, false] (by kernel_rfl) rfl rfl ⟨hx461_0, hx462_0⟩ (fun hHeld => ?_); refine with_tabW matrix_Plain.tab11 matrix_Plain.bits11 (fun HT_ HW_ => ?_)
              generalize wr.drew = w27 at HO_7 HB HL461_0 HL462_0 HR461_0 HR462_0 hx461_0 hx462_0 hHeld ⊢
              refine pure_ (i := 0) (N := some 33) (v := ?_) (a' := ?_) #[true, false, false, false, false, false, false, false, false, false, false, false, false, false, false] rfl rfl (any_of HT_.out (by kernel_rfl)) (fun _ _ _ h => h) (Or.inl ⟨by rfl, ?_⟩) ?_ ?_
              rotate_left
              ·intro w'
               go_simp
               with_reducible rfl
              rotate_left
              ·simp only [Act.put, List.setIfInBounds_toArray, List.set_cons_zero, List.set_cons_succ, i64_w, i32_w]
               rfl
              refine pure_ (i := 1) (N := some 34) (v := ?_) (a' := ?_) #[true, true, false, false, false, false, false, false, false, false, false, false, false, false, false] rfl rfl (any_of HT_.out (by kernel_rfl)) (fun _ _ _ h => h) (Or.inl ⟨by rfl, ?_⟩) ?_ ?_
              rotate_left
              ·intro w'
               go_simp
               with_reducible rfl
              rotate_left
              ·simp only [Act.put, List.setIfInBounds_toArray, List.set_cons_zero, List.set_cons_succ, i64_w, i32_w]
               rfl
              refine pure_ (i := 2) (N := some 35) (v := ?_) (a' := ?_) #[true, true, true, false, false, false, false, false, false, false, false, false, false, false, false] rfl rfl (any_of HT_.out (by kernel_rfl)) (fun _ _ _ h => h) (Or.inl ⟨by rfl, ?_⟩) ?_ ?_
              rotate_left
              ·intro w'
               go_simp
               with_reducible rfl
              rotate_left
              ·simp only [Act.put, List.setIfInBounds_toArray, List.set_cons_zero, List.set_cons_succ, i64_w, i32_w]
               rfl
              refine pure_ (i := 3) (N := some 36) (v := ?_) (a' := ?_) #[true, true, true, true, false, false, false, false, false, false, false, false, false, false, false] rfl rfl (any_of HT_.out (by kernel_rfl)) (fun _ _ _ h => h) (Or.inl ⟨by rfl, ?_⟩) ?_ ?_
              rotate_left
              ·intro w'
               go_simp
               with_reducible rfl
              rotate_left
              ·simp only [Act.put, List.setIfInBounds_toArray, List.set_cons_zero, List.set_cons_succ, i64_w, i32_w]
               rfl
              refine pure_ (i := 4) (N := some 37) (v := ?_) (a' := ?_) #[true, true, true, true, true, false, false, false, false, false, false, false, false, false, false] rfl rfl (any_of HT_.out (by kernel_rfl)) (fun _ _ _ h => h) (Or.inl ⟨by rfl, ?_⟩) ?_ ?_
              rotate_left
              ·intro w'
               go_simp
               with_reducible rfl
              rotate_left
              ·simp only [Act.put, List.setIfInBounds_toArray, List.set_cons_zero, List.set_cons_succ, i64_w, i32_w]
               rfl
              refine pure_ (i := 5) (N := some 38) (v := ?_) (a' := ?_) #[true, true, true, true, true, true, false, false, false, false, false, false, false, false, false] rfl rfl (any_of HT_.out (by kernel_rfl)) (fun _ _ _ h => h) (Or.inl ⟨by rfl, ?_⟩) ?_ ?_
              rotate_left
              ·intro w'
               go_simp
               with_reducible rfl
              rotate_left
              ·simp only [Act.put, List.setIfInBounds_toArray, List.set_cons_zero, List.set_cons_succ, i64_w, i32_w]
               rfl
              refine pure_ (i := 6) (N := some 39) (v := ?_) (a' := ?_) #[true, true, true, true, true, true, true, false, false, false, false, false, false, false, false] rfl rfl (any_of HT_.out (by kernel_rfl)) (fun _ _ _ h => h) (Or.inl ⟨by rfl, ?_⟩) ?_ ?_
              rotate_left
              ·intro w'
               go_simp
               with_reducible rfl
              rotate_left
              ·simp only [Act.put, List.setIfInBounds_toArray, List.set_cons_zero, List.set_cons_succ, i64_w, i32_w]
               rfl
              refine pure_ (i := 8) (N := some 41) (v := ?_) (a' := ?_) #[true, true, true, true, true, true, true, false, true, false, false, false, false, false, false] rfl rfl (any_of HT_.out (by kernel_rfl)) (fun _ _ _ h => h) (Or.inl ⟨by rfl, ?_⟩) ?_ ?_
              rotate_left
              ·intro w'
               go_simp
               with_reducible rfl
              rotate_left
              ·simp only [Act.put, List.setIfInBounds_toArray, List.set_cons_zero, List.set_cons_succ, i64_w, i32_w]
               rfl
              refine pure_ (i := 9) (N := some 42) (v := ?_) (a' := ?_) #[true, true, true, true, true, true, true, false, true, true, false, false, false, false, false] rfl rfl (any_of HT_.out (by kernel_rfl)) (fun _ _ _ h => h) (Or.inl ⟨by rfl, ?_⟩) ?_ ?_
              rotate_left
              ·intro w'
               go_simp
               with_reducible rfl
              rotate_left
              ·simp only [Act.put, List.setIfInBounds_toArray, List.set_cons_zero, List.set_cons_succ, i64_w, i32_w]
               rfl
              refine pure_ (i := 10) (N := some 43) (v := ?_) (a' := ?_) #[true, true, true, true, true, true, true, false, true, true, true, false, false, false, false] rfl rfl (any_of HT_.out (by kernel_rfl)) (fun _ _ _ h => h) (Or.inl ⟨by rfl, ?_⟩) ?_ ?_
              rotate_left
              ·intro w'
               go_simp
               with_reducible rfl
              rotate_left
              ·simp only [Act.put, List.setIfInBounds_toArray, List.set_cons_zero, List.set_cons_succ, i64_w, i32_w]
               rfl
              refine take_ (i := 7) (N := some 40) (v := ?_) (a' := ?_) #[true, true, true, true, true, true, true, true, true, true, true, false, false, false, false] rfl rfl (take_ofW HT_.out HW_.out (by kernel_rfl)) (fun _ _ _ h => h) (Or.inl ⟨by rfl, ?_⟩) hHeld ?_ ?_
              rotate_left
              ·rintro w' ⟨s0, s1⟩
               go_simp
               with_reducible rfl
              rotate_left
              ·simp only [Act.put, List.setIfInBounds_toArray, List.set_cons_zero, List.set_cons_succ, i64_w, i32_w]
               rfl
              refine take_ (i := 11) (N := some 44) (v := ?_) (a' := ?_) #[true, true, true, true, true, true, true, true, true, true, true, true, false, false, false] rfl rfl (take_ofW HT_.out HW_.out (by kernel_rfl)) (fun _ _ _ h => h) (Or.inl ⟨by rfl, ?_⟩) hHeld ?_ ?_
              rotate_left
              ·rintro w' ⟨s0, s1⟩
               go_simp
               with_reducible rfl
              rotate_left
              ·simp only [Act.put, List.setIfInBounds_toArray, List.set_cons_zero, List.set_cons_succ, i64_w, i32_w]
               rfl
              refine one_ (i := 12) (N := some 45) #[true, true, true, true, true, true, true, true, true, true, true, true, true, false, false] rfl rfl (one_of HT_.out (by kernel_rfl)) (by decide) (fun K hK => ?_)
              refine goes_ Tryd.func31 (by kernel_rfl) rfl #[.slice A462_0 (rd_Lsu64 x7_2 x25_1).length c462_0] (by rfl) rfl rfl (by (try simp only [List.map_toArray, List.map_cons, List.map_nil]); first | done | rfl | (simp only [List.length_drop, List.length_take]; rfl)) ?_
              with_reducible refine (packed_First.calls k2 _ _ (rd_Lsu64 x7_2 x25_1) t463 _ ?side1 ?side2 ?side3 A18.out).mono ?_
              (case side1 => first | exact HT.out | exact TabIn.below HT.out (by repeat (first | (with_reducible first | exact HB.out | apply below_alloc | apply pw_below_drewN | apply below_drew1) | exact HB.out)) | (repeat (first | apply TabIn.drewN | apply TabIn.drew | exact HT.out)))
              (case side2 => repeat (first | exact (by repeat (first | (with_reducible exact HR462_0.out) | (with_reducible refine Kd.C_alloc ?_ _) | (with_reducible refine Kd.C_drewN ?_ _) | (with_reducible refine Kd.C_drew ?_) | exact HR462_0.out)) | (with_reducible refine Kd.C_alloc ?_ _) | (with_reducible refine Kd.C_drewN ?_ _) | (with_reducible refine Kd.C_drew ?_)))
              (case side3 => exact HC462_0.out)
              rintro e w' ⟨rfl, ⟨nd, rfl⟩⟩
              refine ⟨_, rfl, ?_⟩
              refine hK.out _ _ ⟨hHeld.1, hHeld.2⟩ (fun hHeld => ?_)
              clear hK K
              refine norm_ (a' := ?_) ?_ ?_
              rotate_left
              ·show Act.put _ (some 45) _ = _
               simp only [Act.put, List.setIfInBounds_toArray, List.set_cons_zero, List.set_cons_succ, i64_w, i32_w]
               rfl
              refine one_ (i := 13) (N := some 46) #[true, true, true, true, true, true, true, true, true, true, true, true, true, true, false] rfl rfl (one_of HT_.out (by kernel_rfl)) (by decide) (fun K hK => ?_)
              refine goes_ Tryd.func37 (by kernel_rfl) rfl #[.slice A461_0 (rd_Lsu64 x7_2 x30_2).length c461_0, .int .i64 t463] (by rfl) rfl rfl (by (try simp only [List.map_toArray, List.map_cons, List.map_nil]); first | done | rfl | (simp only [List.length_drop, List.length_take]; rfl)) ?_
              with_reducible refine (packed_Has.calls _ _ (rd_Lsu64 x7_2 x30_2) t463 false _ ?side1 ?side2 A19.out).mono ?_
              (case side1 => repeat (first | exact (by repeat (first | (with_reducible exact HR461_0.out) | (with_reducible refine Kd.C_alloc ?_ _) | (with_reducible refine Kd.C_drewN ?_ _) | (with_reducible refine Kd.C_drew ?_) | exact HR461_0.out)) | (with_reducible refine Kd.C_alloc ?_ _) | (with_reducible refine Kd.C_drewN ?_ _) | (with_reducible refine Kd.C_drew ?_)))
              (case side2 => exact HC461_0.out)
              rintro e w' ⟨rfl, ⟨nd, rfl⟩⟩
              refine ⟨_, rfl, ?_⟩
              refine hK.out _ _ ⟨hHeld.1, hHeld.2⟩ (fun hHeld => ?_)
              clear hK K
              refine norm_ (a' := ?_) ?_ ?_
              rotate_left
              ·show Act.put _ (some 46) _ = _
               simp only [Act.put, List.setIfInBounds_toArray, List.set_cons_zero, List.set_cons_succ, i64_w, i32_w]
               rfl
              refine pure_ (i := 14) (N := some 47) (v := ?_) (a' := ?_) #[true, true, true, true, true, true, true, true, true, true, true, true, true, true, true] rfl rfl (any_of HT_.out (by kernel_rfl)) (fun _ _ _ h => h) (Or.inl ⟨by rfl, ?_⟩) ?_ ?_
              rotate_left
              ·intro w'
               go_simp
               with_reducible rfl
              rotate_left
              ·simp only [Act.put, List.setIfInBounds_toArray, List.set_cons_zero, List.set_cons_succ, i64_w, i32_w]
               rfl
              refine done_ (done_of HT_.out (by kernel_rfl)) ?_
              try go_wp2
              (try simp only [← hl7_2])
              go_roundg k2
              case measure => have := HK1.out; have := HK2.out; omega
              case rel => exact ⟨(x7_2), (wrap64 (x30_2 + 1)), (by first | rfl | (simp; done) | (simp [*]; done)), H', ⟨by have := HK1.out; have := HK2.out; omega⟩, ⟨by (try simp only [hl7_1]); (try simp only [hl7_2]); (with_reducible repeat (first | apply Kd.R_alloc | apply Kd.R_drewN | apply Kd.R_drew)); exact HO_7.out⟩, ⟨by repeat (first | (with_reducible first | exact HB.out | apply below_alloc | apply pw_below_drewN | apply below_drew1) | exact HB.out)⟩⟩
            ·rw [if_neg c17] at H
             exact absurd H (by simp)
           ·rw [if_neg c16] at H
            exact absurd H (by simp)
          ·rw [if_neg c15] at H
           exact absurd H (by simp)
         ·rw [if_neg c14] at H
          exact absurd H (by simp)
       ·rw [if_neg c11] at H
        have c11b0 : decide (x30_2 < (x7_1.length : Int)) = false := decide_eq_false c11
        (try (have c11b0q := c11b0; simp only [hl7_1, hl7_2] at c11b0q))
        clear c11
        have H' := Aside0.mk H
        clear H
        go_wp2
        (try simp only [← hl7_1, ← hl7_2])
        go_roundg k2
        case measure => have := HK1.out; have := HK2.out; omega
        case rel => exact ⟨(x7_2), (wrap64 (x25_1 + 1)), (by first | rfl | (simp; done) | (simp [*]; done)), H', ⟨by have := HK1.out; have := HK2.out; omega⟩, ⟨by (try simp only [hl7_1]); (try simp only [hl7_2]); (with_reducible repeat (first | apply Kd.R_alloc | apply Kd.R_drewN | apply Kd.R_drew)); exact HO_7.out⟩, ⟨by repeat (first | (with_reducible first | exact HB.out | apply below_alloc | apply pw_below_drewN | apply below_drew1) | exact HB.out)⟩⟩
    ·rw [if_neg c10] at H
     have c10b0 : decide (x25_1 < (t455.length : Int)) = false := decide_eq_false c10
     (try (have c10b0q := c10b0; simp only [hl7_1] at c10b0q))
     clear c10
     replace H := Option.bind_eq_some_iff.mp H
     obtain ⟨t600, A600, H⟩ := H
     have A60 := Aside0.mk A600
     clear A600
     simp only [Option.some.injEq, Prod.mk.injEq] at H
     obtain ⟨rfl, rfl⟩ := H
     go_wp2_with (go_at_call 39; refine (matrix_Plain_sort.calls k1 w.heap.size _ _ x7_1 t600 _ (TabIn.below HT.out HB.out) HB.out.size HO_7.out A60.out).mono ?_; rintro e w' ⟨rfl, hso, hsb⟩; have n0_ := Aside0.mk hso; have n1_ := Aside0.mk (HB.out.trans hsb); clear HO_7 HB hso hsb; have HO_7 := n0_; have HB := n1_; clear n0_ n1_)
     go_ret2
     exact ⟨_, (.slice none 0 0), by first | rfl | (simp [errW_none, errW_some] <;> rfl) | (simp [*, errW_none, errW_some] <;> rfl), by (with_reducible repeat (first | apply Kd.R_alloc | apply Kd.R_drewN | apply Kd.R_drew)); exact Kd.R_mono HO_7.out (fun _ hk => hk), by first | exact Kd.R_nil _ _ _ _ _ | exact Kd.R_nil _ _ _ _ _ | exact Kd.V_nil _ _ _ _ _ | exact Kd.Q_nil _ _ _ _ _ | exact Kd.S_nil _ _ _ _ _, by repeat (first | (with_reducible first | exact HB.out | apply below_alloc | apply pw_below_drewN | apply below_drew1) | exact HB.out)⟩
 ·rw [if_neg c4] at H
  have c4b0 : ((t449.length : Int) == 0) = false := beq_eq_false_iff_ne.mpr c4
  have c4b1 : ((t449.length : Int) != 0) = true := bne_iff_ne.mpr c4
  have c4b2 : ¬ (t449 = []) := fun h_ => c4 (by rw [h_]; rfl)
  replace H := Option.bind_eq_some_iff.mp H
  obtain ⟨t452, A280, H⟩ := H
  replace H : (some (([] : List (List Int)), t452)) = some (r1, r2) := H
  have A28 := Aside0.mk A280
  clear A280
  simp only [Option.some.injEq, Prod.mk.injEq] at H
  obtain ⟨rfl, rfl⟩ := H
  go_enter Tryd.func24, Tryd.ntmps24
  go_wp2_with (first | ((with_reducible refine gate_callee (f := 17) rfl ?_); refine goesL_ (some 13) rfl rfl Tryd.func17 (by kernel_rfl) rfl #[.slice A0 l0.length c0, .int .i64 a1] rfl (by (try simp only [List.map_toArray, List.map_cons, List.map_nil]); first | done | rfl | (simp only [List.length_drop, List.length_take]; rfl)) ?_; (with_reducible refine (matrix_Check.calls k _ _ l0 a1 t449 _ ?side1 ?side2 A3.out).mono ?_); (case side1 => repeat (first | exact HR0.out | (with_reducible refine Kd.C_alloc ?_ _) | (with_reducible refine Kd.C_drewN ?_ _) | (with_reducible refine Kd.C_drew ?_))); (case side2 => exact HC0.out); rintro e w29 ⟨v450, rfl, ho0, hb⟩; refine ⟨_, rfl, ?_⟩; have n0_ := Aside0.mk (Kd.R_lower (Kd.R_newM (M := fun k_ => (w.heap.size ≤ k_)) ho0 (below_size (by repeat (first | (with_reducible first | exact HB.out | apply below_alloc | apply pw_below_drewN | apply below_drew1) | exact HB.out))) (fun k_ h_ => h_)) (below_size (by repeat (first | (with_reducible first | exact HB.out | apply below_alloc | apply pw_below_drewN | apply below_drew1) | exact HB.out)))); have n1_ := Aside0.mk (below_step (by repeat (first | (with_reducible first | exact HB.out | apply below_alloc | apply pw_below_drewN | apply below_drew1) | exact HB.out)) hb); clear HB; have HO451 := n0_; have HB := n1_; clear n0_ n1_; (try clear hb); (try clear hb2); (try clear hk); (try clear hi); (try clear ho0); obtain ⟨Ao30, co30, eo30⟩ := Kd.R_slice HO451.out; subst eo30) | ((with_reducible refine gate_callee (f := 27) rfl ?_); refine goesL_ (some 17) rfl rfl Tryd.func27 (by kernel_rfl) rfl #[.string (⟨#[109, 97, 116, 114, 105, 120, 46, 80, 108, 97, 105, 110]⟩ : ByteArray), errOf (.slice Ao30 t449.length co30)] rfl (by (try simp only [List.map_toArray, List.map_cons, List.map_nil]); first | done | rfl | (simp only [List.length_drop, List.length_take]; rfl)) ?_; (with_reducible refine (fault_Wrap.calls (⟨#[109, 97, 116, 114, 105, 120, 46, 80, 108, 97, 105, 110]⟩ : ByteArray) (fun k_ => some k_ = (.slice Ao30 t449.length co30 : Value).ownBlock) (.slice Ao30 t449.length co30) t449 t452 w _ ?side1 ?side2 A28.out).mono ?_); (case side1 => repeat (first | (with_reducible first | exact HB.out | apply below_alloc | apply pw_below_drewN | apply below_drew1) | exact HB.out)); (case side2 => exact Kd.R_tight rfl (kF0_of HO451.out)); rintro e w31 ⟨v453, rfl, ho0, hb, hkp⟩; refine ⟨_, rfl, ?_⟩; have n0_ := Aside0.mk (Kd.R_mono (ok' := fun k_ => (w.heap.size ≤ k_)) ho0 (fun k_ hk_ => Or.elim hk_ (fun hs_ => (HO451.out.1 k_ (hs_).symm).1) (fun hn_ => (Nat.le_trans (below_size (by repeat (first | (with_reducible first | exact HB.out | apply below_alloc | apply pw_below_drewN | apply below_drew1) | exact HB.out))) hn_)))); have n1_ := Aside0.mk (hb); clear HB; clear HO451; have HO454 := n0_; have HB := n1_; clear n0_ n1_; (try clear hb); (try clear hkp); (try clear ho0)))
  go_ret2
  exact ⟨_, _, by first | rfl | (simp [errW_none, errW_some] <;> rfl) | (simp [*, errW_none, errW_some] <;> rfl), by first | exact Kd.S_nil _ _ _ _ _ | exact Kd.R_nil _ _ _ _ _ | exact Kd.V_nil _ _ _ _ _ | exact Kd.Q_nil _ _ _ _ _ | exact Kd.R_nil _ _ _ _ _, by (with_reducible repeat (first | apply Kd.R_alloc | apply Kd.R_drewN | apply Kd.R_drew)); exact HO454.out, by repeat (first | (with_reducible first | exact HB.out | apply below_alloc | apply pw_below_drewN | apply below_drew1) | exact HB.out)⟩

theorem matrix_Plain.calls (k : Nat) (A0 : Option Addr) (c0 : Nat) (l0 : List (List Int)) (a1 : Int) (r1 : List (List Int)) (r2 : List FE) (w : World) (ht : TabIn w) (hr0 : Kd.C (Kd.slice 29 (Kd.int .u64)) w A0 l0.length l0) (hc0 : l0.length ≤ c0) (h : matrix_Plain.f k l0 a1 = some (r1, r2)) :
  Calls Tryd.prog 24 #[.slice A0 l0.length c0, .int .i64 a1] w fun e w' => ∃ v0_ v1_ : Value, e = .returned (.tuple #[v0_, (errOf v1_)]) ∧ Kd.N (Kd.slice 29 (Kd.int .u64)) 27 w' w.heap.size (fun k_ => (w.heap.size ≤ k_)) v0_ r1 ∧ Kd.R kF 64 w' w.heap.size (fun k_ => (w.heap.size ≤ k_)) v1_ r2 ∧ Below w.heap.size w w' :=
 (matrix_Plain.callsR k A0 c0 l0 a1 r1 r2 w ht hr0 hc0 h).mono fun _ _ ⟨v0, v1, he, h0, h1, hb⟩ => ⟨v0, v1, he, Kd.R_N h0, h1, hb⟩

end Go.Proofs.YtgocibnmgfmceaaDoor.P

namespace Go.Proofs.YtgocibnmgfmceaaDoor.Pure
open Go.RowKit Go.Proofs.YtgocibnmgfmceaaDoor.P Go.Proofs.YtgocibnmgfmceaaDoorW.PrintWords Go.Proofs.YtgocibnmgfmceaaDoorW.PrintLast Go.Proofs.YtgocibnmgfmceaaDoorW.PrintErr Go.Proofs.YtgocibnmgfmceaaDoorW.PrintMore Go.Proofs.YtgocibnmgfmceaaDoor.Lin
set_option linter.unusedVariables false
set_option linter.unusedSimpArgs false
/-! ### rows of words, as rows of truths -/
theorem row_ext {a b : List Int} (h : a.length = b.length) (ha : ∀ x ∈ a, U64 x) (hb : ∀ x ∈ b, U64 x) (he : ∀ c, hasB a c = hasB b c) : a = b := by
  apply List.ext_getElem h
  intro i h1 h2
  have u1 := ha _ (List.getElem_mem h1)
  have u2 := hb _ (List.getElem_mem h2)
  unfold U64 at u1 u2
  have e : a[i].toNat = b[i].toNat := by
    apply Nat.eq_of_testBit_eq
    intro j
    by_cases hj : j < 64
    · have h3 := he (64 * i + j)
      unfold hasB at h3
      rw [show (64 * i + j) / 64 = i by omega, show (64 * i + j) % 64 = j by omega, decide_eq_true h1, decide_eq_true h2, List.getD_eq_getElem?_getD, List.getD_eq_getElem?_getD, List.getElem?_eq_getElem h1, List.getElem?_eq_getElem h2] at h3
      simpa using h3
    · have e1 : (2 : Nat) ^ 64 ≤ 2 ^ j := Nat.pow_le_pow_right (by omega) (by omega)
      rw [Nat.testBit_lt_two_pow (Nat.lt_of_lt_of_le (by omega) e1), Nat.testBit_lt_two_pow (Nat.lt_of_lt_of_le (by omega) e1)]
  omega
/-- Rows of n columns. -/
def Rws (n : Nat) (rows : List (List Int)) : Prop := ∀ r ∈ rows, r.length = nW n ∧ (∀ a ∈ r, U64 a) ∧ ∀ c : Nat, n ≤ c → hasB r c = false
/-- The plain form of what hangs on rows. -/
structure IsPlain (n : Nat) (rows P : List (List Int)) : Prop where
  row : Rws n P
  pos : ∀ x ∈ P, 0 ≤ fstI x
  inc : P.Pairwise fun a b => fstI a < fstI b
  red : ∀ a ∈ P, ∀ b ∈ P, fstI a ≠ fstI b → hasB a (fstI b).toNat = false
  sub : ∀ x ∈ P, Sp (rows.map hasB) (hasB x)
  sup : ∀ x ∈ rows, Sp (P.map hasB) (hasB x)
theorem fst_nat {x : List Int} (h : 0 ≤ fstI x) : ∃ m : Nat, fstI x = m ∧ (fstI x).toNat = m ∧ m < 64 * x.length ∧ hasB x m = true ∧ ∀ c, c < m → hasB x c = false := by
  obtain ⟨m, e, h1, h2, h3⟩ := fstI_pos h
  exact ⟨m, e, by rw [e, Int.toNat_natCast], h1, h2, h3⟩
/-- A sum of rows begins where one of them begins. -/
theorem lead {L : Nat} : ∀ (B : List (List Int)), Tri B → (∀ x ∈ B, Good L x) → ∀ (v : V) (p : Nat), Sp (B.map hasB) v → (∀ c, c < p → v c = false) → v p = true → ∃ b ∈ B, fstI b = p
  | [], _, _, v, p, h, _, hp => by
    have := Sp.nil h
    rw [this] at hp
    cases hp
  | b :: B, ht, hg, v, p, h, hz, hp => by
    obtain ⟨t1, t2⟩ := List.pairwise_cons.1 ht
    obtain ⟨m, e, em, _, hbm, hbz⟩ := fst_nat (hg b (by simp)).2.2
    rcases Sp.cons h with h1 | h1
    · obtain ⟨b', hb', e'⟩ := lead B t2 (fun x hx => hg x (by simp [hx])) v p h1 hz hp
      exact ⟨b', by simp [hb'], e'⟩
    · have hc : (Lin.vx v (hasB b)) m = false := Sp.col (c := m) (fun u hu => by
        obtain ⟨x, hx, rfl⟩ := List.mem_map.1 hu
        have := t1 x hx
        rwa [em] at this) h1
      have hvm : v m = true := by
        unfold Lin.vx at hc
        rw [hbm] at hc
        cases hv : v m with
        | true => rfl
        | false => rw [hv] at hc; cases hc
      rcases Nat.lt_trichotomy m p with c | c | c
      · rw [hz m c] at hvm; cases hvm
      · exact ⟨b, by simp, by rw [e, c]⟩
      · obtain ⟨b', hb', e'⟩ := lead B t2 (fun x hx => hg x (by simp [hx])) (Lin.vx v (hasB b)) p h1
          (fun d hd => by unfold Lin.vx; rw [hz d hd, hbz d (by omega)]; rfl) (by unfold Lin.vx; rw [hp, hbz p c]; rfl)
        exact ⟨b', by simp [hb'], e'⟩
theorem IsPlain.good {n : Nat} {rows P : List (List Int)} (h : IsPlain n rows P) : ∀ x ∈ P, Good (nW n) x := fun x hx => ⟨(h.row x hx).1, (h.row x hx).2.1, h.pos x hx⟩
theorem IsPlain.tri {n : Nat} {rows P : List (List Int)} (h : IsPlain n rows P) : Tri P := by
  unfold Tri
  refine List.Pairwise.imp_of_mem (fun {a b} ha hb hab => ?_) h.inc
  exact h.red b hb a ha (by omega)
theorem IsPlain.sub_ {n : Nat} {rows rows' P Q : List (List Int)} (h : IsPlain n rows P) (k : IsPlain n rows' Q) (h1 : ∀ x ∈ rows, Sp (rows'.map hasB) (hasB x)) (h2 : ∀ x ∈ rows', Sp (rows.map hasB) (hasB x)) : ∀ a ∈ P, a ∈ Q := by
  have lift : ∀ {A B C : List (List Int)} {v : V}, Sp (A.map hasB) v → (∀ x ∈ A, Sp (B.map hasB) (hasB x)) → Sp (B.map hasB) v := fun hv hA => hv.trans fun u hu => by
    obtain ⟨x, hx, rfl⟩ := List.mem_map.1 hu
    exact hA x hx
  have pq : ∀ a ∈ P, Sp (Q.map hasB) (hasB a) := fun a ha => lift (C := []) (lift (C := []) (h.sub a ha) h1) k.sup
  have qp : ∀ b ∈ Q, Sp (P.map hasB) (hasB b) := fun b hb => lift (C := []) (lift (C := []) (k.sub b hb) h2) h.sup
  have piv : ∀ {A B : List (List Int)} {r s : List (List Int)}, IsPlain n r A → IsPlain n s B → (∀ a ∈ A, Sp (B.map hasB) (hasB a)) → ∀ a ∈ A, ∃ b ∈ B, fstI b = fstI a := fun hA hB hs a ha => by
    obtain ⟨m, e, _, _, h3, h4⟩ := fst_nat (hA.pos a ha)
    obtain ⟨b, hb, eb⟩ := lead _ hB.tri hB.good (hasB a) m (hs a ha) h4 h3
    exact ⟨b, hb, by rw [eb, e]⟩
  intro a ha
  obtain ⟨b, hb, eb⟩ := piv h k pq a ha
  have hz := tri_zero _ k.tri k.good (Lin.vx (hasB a) (hasB b)) ((pq a ha).vx (Sp.mem (List.mem_map.2 ⟨b, hb, rfl⟩))) (fun b' hb' => by
    unfold Lin.vx
    by_cases hc : fstI b' = fstI b
    · obtain ⟨m, e, em, _, h3, _⟩ := fst_nat (h.pos a ha)
      obtain ⟨m', e', em', _, h3', _⟩ := fst_nat (k.pos b hb)
      have hm : m' = m := by omega
      subst hm
      rw [hc, em', h3', h3]; rfl
    · have k1 := k.red b hb b' hb' (fun e => hc e.symm)
      obtain ⟨a', ha', ea'⟩ := piv k h qp b' hb'
      have k2 := h.red a ha a' ha' (by rw [ea', ← eb]; exact fun e => hc e.symm)
      rw [ea'] at k2
      rw [k1, k2]; rfl)
  have he : a = b := row_ext (by rw [(h.row a ha).1, (k.row b hb).1]) (h.row a ha).2.1 (k.row b hb).2.1 (fun c => by
    have := congrFun hz c
    unfold Lin.vx v0 at this
    cases h1 : hasB a c <;> cases h2 : hasB b c <;> simp_all)
  rw [he]
  exact hb
theorem IsPlain.nodup {n : Nat} {rows P : List (List Int)} (h : IsPlain n rows P) : P.Nodup := h.inc.imp (fun {a b} hab e => by rw [e] at hab; omega)
/-- There is one plain form. -/
theorem IsPlain.uniq {n : Nat} {rows rows' P Q : List (List Int)} (h : IsPlain n rows P) (k : IsPlain n rows' Q) (h1 : ∀ x ∈ rows, Sp (rows'.map hasB) (hasB x)) (h2 : ∀ x ∈ rows', Sp (rows.map hasB) (hasB x)) : P = Q := by
  have hp : P.Perm Q := (List.perm_ext_iff_of_nodup h.nodup k.nodup).2 fun a => ⟨h.sub_ k h1 h2 a, k.sub_ h h2 h1 a⟩
  refine List.Perm.eq_of_pairwise (le := fun a b => fstI a < fstI b) (fun a b _ _ hab hba => by omega) h.inc k.inc hp
theorem IsPlain.self {n : Nat} {rows P : List (List Int)} (h : IsPlain n rows P) : IsPlain n P P :=
  ⟨h.row, h.pos, h.inc, h.red, fun x hx => Sp.mem (List.mem_map.2 ⟨x, hx, rfl⟩), fun x hx => Sp.mem (List.mem_map.2 ⟨x, hx, rfl⟩)⟩
/-! ### the rows are taken off one another -/
def gw (R : List (List Int)) (i : Nat) : List Int := R.getD i []
theorem gw_mem {R : List (List Int)} {i : Nat} (h : i < R.length) : gw R i ∈ R := by
  unfold gw
  rw [List.getD_eq_getElem?_getD, List.getElem?_eq_getElem h]
  exact List.getElem_mem h
theorem mem_gw {R : List (List Int)} {x : List Int} (h : x ∈ R) : ∃ i, i < R.length ∧ gw R i = x := by
  obtain ⟨i, hi, rfl⟩ := List.mem_iff_getElem.1 h
  exact ⟨i, hi, by unfold gw; rw [List.getD_eq_getElem?_getD, List.getElem?_eq_getElem hi]; rfl⟩
theorem rd_gw (R : List (List Int)) (i : Nat) : rd_Lsu64 R (i : Int) = gw R i := by unfold rd_Lsu64 gw; rw [Int.toNat_natCast]
def clrW (B : List (List Int)) (i k : Nat) : List Int := if k = i then gw B k else if hasB (gw B k) (fstI (gw B i)).toNat = true then xorW (gw B k) (gw B i) else gw B k
/-- The rows, row i taken off the first k of the others. -/
def curW (B : List (List Int)) (i k : Nat) : List (List Int) := (List.range B.length).map fun j => if j < k then clrW B i j else gw B j
theorem curW_len (B : List (List Int)) (i k : Nat) : (curW B i k).length = B.length := by simp [curW]
theorem curW_gw (B : List (List Int)) (i k j : Nat) (h : j < B.length) : gw (curW B i k) j = if j < k then clrW B i j else gw B j := by
  unfold curW
  show (List.getD _ j []) = _
  rw [List.getD_eq_getElem?_getD, List.getElem?_map, List.getElem?_range h]
  rfl
theorem curW_zero (B : List (List Int)) (i : Nat) : curW B i 0 = B := by
  apply List.ext_getElem
  · simp [curW]
  · intro j h1 h2
    simp [curW, gw, List.getD_eq_getElem?_getD, List.getElem?_eq_getElem h2]
theorem curW_set (B : List (List Int)) (i k : Nat) (h : k < B.length) : (curW B i k).set k (clrW B i k) = curW B i (k + 1) := by
  apply List.ext_getElem
  · simp [curW]
  · intro j h1 h2
    have hj : j < B.length := by simpa [curW] using h2
    rw [List.getElem_set]
    by_cases c : k = j
    · subst c
      rw [if_pos rfl]
      simp only [curW, List.getElem_map, List.getElem_range]
      rw [if_pos (by omega)]
    · rw [if_neg c]
      simp only [curW, List.getElem_map, List.getElem_range]
      by_cases c2 : j < k
      · rw [if_pos c2, if_pos (by omega)]
      · rw [if_neg c2, if_neg (by omega)]
theorem curW_same (B : List (List Int)) (i k : Nat) (h : k < B.length) (hc : clrW B i k = gw B k) : curW B i k = curW B i (k + 1) := by
  rw [← curW_set B i k h, hc]
  apply List.ext_getElem
  · simp
  · intro j h1 h2
    rw [List.getElem_set]
    by_cases c : k = j
    · subst c
      rw [if_pos rfl]
      simp only [curW, List.getElem_map, List.getElem_range]
      rw [if_neg (by omega)]
    · rw [if_neg c]
/-- Rows of one length, each with a column. -/
def Gds (L : Nat) (B : List (List Int)) : Prop := ∀ x ∈ B, Good L x
theorem plain_l1 (B : List (List Int)) (L i : Nat) (hL : L ≤ 1000000) (hi : i < B.length) (hB : B.length < 5864062014805) (hg : Gds L B) (v : List (List Int) × List FE)
    (h : Ev (fun q => matrix_Plain.l0 q (curW B i B.length) (B.length : Int) (wrap64 ((i : Int) + 1))) v) : ∀ d k : Nat, k + d = B.length →
    Ev (fun q => matrix_Plain.l1 q (curW B i k) (i : Int) (B.length : Int) (i : Int) (B.length : Int) (k : Int)) v := by
  intro d
  induction d with
  | zero =>
    intro k hk
    obtain rfl : k = B.length := by omega
    refine Ev.step (fun q => ?_) h
    rw [matrix_Plain.l1, if_neg (by omega)]
  | succ d ih =>
    intro k hk
    have hk1 : k < B.length := by omega
    have h' := ih (k + 1) (by omega)
    have e2 : ((k + 1 : Nat) : Int) = wrap64 ((k : Int) + 1) := by rw [w64s (by omega) (by omega)]; rfl
    rw [e2] at h'
    have gi : gw (curW B i k) i = gw B i := by
      rw [curW_gw B i k i hi]
      split
      · unfold clrW; rw [if_pos rfl]
      · rfl
    have gk : gw (curW B i k) k = gw B k := by rw [curW_gw B i k k hk1, if_neg (by omega)]
    by_cases c : k = i
    · subst c
      have es : curW B k k = curW B k (k + 1) := curW_same B k k hk1 (by unfold clrW; rw [if_pos rfl])
      refine Ev.step (fun q => ?_) h'
      rw [matrix_Plain.l1, if_pos (by omega), if_pos rfl, es]
    · have gdi := hg _ (gw_mem hi)
      have gdk := hg _ (gw_mem hk1)
      obtain ⟨m, em, emn, hm1, hm2, _⟩ := fst_nat gdi.2.2
      have hf := fst_ev (gw B i) gdi.2.1 (by rw [gdi.1]; exact hL)
      have hh := has_eq (gw B k) gdk.2.1 m (by have := gdi.1; omega)
      have hx := wxor_ev (gw B k) (gw B i) (by rw [gdk.1, gdi.1]) (by rw [gdk.1]; exact hL)
      have hlen := curW_len B i k
      refine Ev.step (f := fun q => (packed_First.f q (gw B i)).bind fun t463 => ((packed_Has.f (gw B k) t463).bind fun t464 => (if t464 = true then ((packed_Xor.f q (gw B k) (gw B i)).bind fun bt467 => (matrix_Plain.l1 q ((curW B i k).set k bt467.1) (i : Int) (B.length : Int) (i : Int) (B.length : Int) (wrap64 ((k : Int) + 1)))) else (matrix_Plain.l1 q (curW B i k) (i : Int) (B.length : Int) (i : Int) (B.length : Int) (wrap64 ((k : Int) + 1)))))) (fun q => ?_) ?_
      · rw [matrix_Plain.l1, if_pos (by omega), if_neg (by omega), if_pos (by omega), if_pos (by omega), if_pos (by omega), if_pos (by omega), rd_gw, rd_gw, gi, gk]
        rfl
      · refine Ev.bind hf ?_
        simp only [em, hh, Option.bind_some]
        by_cases hc : hasB (gw B k) m = true
        · have es : (curW B i k).set k (xorW (gw B k) (gw B i)) = curW B i (k + 1) := by
            rw [← curW_set B i k hk1]
            unfold clrW
            rw [if_neg c, emn, if_pos hc]
          rw [← es] at h'
          simp only [hc, if_true]
          exact Ev.bind hx h'
        · have es : curW B i k = curW B i (k + 1) := curW_same B i k hk1 (by unfold clrW; rw [if_neg c, emn, if_neg hc])
          rw [← es] at h'
          refine Ev.congr (fun q => ?_) h'
          rw [if_neg hc]
/-- What holds of the rows, the first i taken off the others. -/
structure BInv (n : Nat) (rows : List (List Int)) (p : Nat → Int) (m i : Nat) (B : List (List Int)) : Prop where
  len : B.length = m
  row : Rws n B
  fst : ∀ k, k < m → fstI (gw B k) = p k
  off : ∀ l, l < i → l < m → ∀ k, k < m → k ≠ l → hasB (gw B k) (p l).toNat = false
  sub : ∀ x ∈ B, Sp (rows.map hasB) (hasB x)
  sup : ∀ x ∈ rows, Sp (B.map hasB) (hasB x)
theorem xor_fst {a b : List Int} (hl : a.length = b.length) (ha : ∀ x ∈ a, U64 x) (hb : ∀ x ∈ b, U64 x) (pa : 0 ≤ fstI a) (pb : 0 ≤ fstI b) (hne : fstI a ≠ fstI b) (hc : hasB a (fstI b).toNat = true) : fstI (xorW a b) = fstI a := by
  obtain ⟨m, e, em, h1, h2, h3⟩ := fst_nat pa
  obtain ⟨q, e', em', k1, k2, k3⟩ := fst_nat pb
  rw [em'] at hc
  have hlt : m < q := by
    rcases Nat.lt_trichotomy m q with c | c | c
    · exact c
    · exact absurd (by rw [e, e', c]) hne
    · rw [h3 q c] at hc; cases hc
  refine (fstI_is (xorW a b)).uniq ?_
  rw [e]
  refine .inr ⟨m, rfl, by rw [xorW_len a b hl]; exact h1, ?_, fun c hcm => ?_⟩
  · rw [hasB_xor a b hl ha hb, h2, k3 m hlt]; rfl
  · rw [hasB_xor a b hl ha hb, h3 c hcm, k3 c (by omega)]; rfl
theorem BInv.step {n m i : Nat} {rows B : List (List Int)} {p : Nat → Int} (h : BInv n rows p m i B) (hi : i < m) (hp : ∀ k, k < m → 0 ≤ p k) (hd : ∀ k l, k < m → l < m → k ≠ l → p k ≠ p l) : BInv n rows p m (i + 1) (curW B i m) := by
  have hlen := h.len
  have g : ∀ k, k < m → gw (curW B i m) k = clrW B i k := fun k hk => by rw [curW_gw B i m k (by omega), if_pos hk]
  have rw_ : ∀ k, k < m → (gw B k).length = nW n ∧ (∀ a ∈ gw B k, U64 a) ∧ ∀ c : Nat, n ≤ c → hasB (gw B k) c = false := fun k hk => h.row _ (gw_mem (by omega))
  have hx : ∀ k, k < m → ∀ c, hasB (xorW (gw B k) (gw B i)) c = (hasB (gw B k) c != hasB (gw B i) c) := fun k hk c => hasB_xor _ _ (by rw [(rw_ k hk).1, (rw_ i hi).1]) (rw_ k hk).2.1 (rw_ i hi).2.1 c
  have spi : ∀ {M : List V}, Sp M (hasB (gw B i)) → ∀ k, k < m → (Sp M (hasB (gw B k)) ↔ Sp M (hasB (clrW B i k))) := fun {M} hM k hk => by
    unfold clrW
    by_cases c : k = i
    · rw [if_pos c]
    · rw [if_neg c]
      split
      · rw [hasB_vx _ _ (by rw [(rw_ k hk).1, (rw_ i hi).1]) (rw_ k hk).2.1 (rw_ i hi).2.1]
        refine ⟨fun h => h.vx hM, fun h => ?_⟩
        have := h.vx hM
        rwa [vx_cancel] at this
      · exact Iff.rfl
  refine ⟨by rw [curW_len, hlen], ?_, ?_, ?_, ?_, ?_⟩
  · intro x hx'
    obtain ⟨k, hk, rfl⟩ := mem_gw hx'
    rw [curW_len, hlen] at hk
    rw [g k hk]
    unfold clrW
    by_cases c : k = i
    · rw [if_pos c]; exact rw_ k hk
    · rw [if_neg c]
      split
      · exact ⟨by rw [xorW_len _ _ (by rw [(rw_ k hk).1, (rw_ i hi).1])]; exact (rw_ k hk).1, xorW_u64 _ _, fun e he => by rw [hx k hk, (rw_ k hk).2.2 e he, (rw_ i hi).2.2 e he]; rfl⟩
      · exact rw_ k hk
  · intro k hk
    rw [g k hk]
    unfold clrW
    by_cases c : k = i
    · rw [if_pos c]; exact h.fst k hk
    · rw [if_neg c]
      split
      · rename_i hc
        rw [xor_fst (by rw [(rw_ k hk).1, (rw_ i hi).1]) (rw_ k hk).2.1 (rw_ i hi).2.1 (by rw [h.fst k hk]; exact hp k hk) (by rw [h.fst i hi]; exact hp i hi) (by rw [h.fst k hk, h.fst i hi]; exact hd k i hk hi c) hc]
        exact h.fst k hk
      · exact h.fst k hk
  · intro l hl hlm k hk hne
    rw [g k hk]
    by_cases c : l = i
    · subst c
      unfold clrW
      rw [if_neg hne, h.fst l hi]
      obtain ⟨m', e', em', _, k2, _⟩ := fst_nat (x := gw B l) (by rw [h.fst l hi]; exact hp l hi)
      rw [h.fst l hi] at em'
      by_cases hc : hasB (gw B k) (p l).toNat = true
      · rw [if_pos hc, hx k hk, hc, em', k2]; rfl
      · rw [if_neg hc]; simpa using hc
    · unfold clrW
      have h0 := h.off l (by omega) hlm k hk hne
      by_cases c2 : k = i
      · rw [if_pos c2]; exact h0
      · rw [if_neg c2]
        split
        · rw [hx k hk, h0, h.off l (by omega) hlm i hi (fun e => c e.symm)]; rfl
        · exact h0
  · intro x hx'
    obtain ⟨k, hk, rfl⟩ := mem_gw hx'
    rw [curW_len, hlen] at hk
    rw [g k hk]
    exact (spi (h.sub _ (gw_mem (by omega))) k hk).1 (h.sub _ (gw_mem (by omega)))
  · intro x hx'
    refine (h.sup x hx').trans fun u hu => ?_
    obtain ⟨y, hy, rfl⟩ := List.mem_map.1 hu
    obtain ⟨k, hk, rfl⟩ := mem_gw hy
    have hin : ∀ j, j < m → Sp ((curW B i m).map hasB) (hasB (clrW B i j)) := fun j hj => by
      rw [← g j hj]
      exact Sp.mem (List.mem_map.2 ⟨_, gw_mem (by rw [curW_len]; omega), rfl⟩)
    have hii : clrW B i i = gw B i := by unfold clrW; rw [if_pos rfl]
    have hI := hin i hi
    rw [hii] at hI
    exact (spi hI k (by omega)).2 (hin k (by omega))
theorem plain_l0 {n m : Nat} {rows : List (List Int)} {p : Nat → Int} (hn : n ≤ 4096) (hp : ∀ k, k < m → 0 ≤ p k) (hd : ∀ k l, k < m → l < m → k ≠ l → p k ≠ p l) (hm : m < 5864062014805) : ∀ (d i : Nat) (B : List (List Int)), i + d = m → BInv n rows p m i B →
    ∃ B', BInv n rows p m m B' ∧ ∀ v, Ev (fun q => (matrix_Plain_sort.f q B').bind fun y7 => (some (y7, ([] : List FE)))) v → Ev (fun q => matrix_Plain.l0 q B (m : Int) (i : Int)) v := by
  intro d
  induction d with
  | zero =>
    intro i B hi h
    obtain rfl : i = m := by omega
    refine ⟨B, h, fun v hv => Ev.step (fun q => ?_) hv⟩
    rw [matrix_Plain.l0, if_neg (by omega)]
  | succ d ih =>
    intro i B hi h
    have hlen := h.len
    obtain ⟨B', hB', hev⟩ := ih (i + 1) (curW B i m) (by omega) (h.step (by omega) hp hd)
    refine ⟨B', hB', fun v hv => ?_⟩
    have h1 := hev v hv
    have e2 : ((i + 1 : Nat) : Int) = wrap64 ((i : Int) + 1) := by rw [w64s (by omega) (by omega)]; rfl
    have hnw : nW (n : Int) ≤ 64 := by unfold nW; rw [Int.toNat_natCast]; omega
    have hg : Gds (nW (n : Int)) B := fun x hx => by
      obtain ⟨k, hk, rfl⟩ := mem_gw hx
      exact ⟨(h.row _ (gw_mem hk)).1, (h.row _ (gw_mem hk)).2.1, by rw [h.fst k (by omega)]; exact hp k (by omega)⟩
    rw [e2, ← hlen] at h1
    have h2 := plain_l1 B (nW (n : Int)) i (by omega) (by omega) (by omega) hg v h1 B.length 0 (by omega)
    rw [curW_zero] at h2
    refine Ev.step (fun q => ?_) h2
    rw [matrix_Plain.l0, if_pos (by omega), ← hlen]
    rfl
/-! ### sorting -/
theorem keys_ev (B : List (List Int)) (L : Nat) (hL : L ≤ 1000000) (h : ∀ x ∈ B, x.length = L ∧ ∀ a ∈ x, U64 a) : Ev (fun k => matrix_Plain_sort.keys k B) (B.map fstI) := by
  induction B with
  | nil => exact Ev.now _
  | cons x B ih =>
    have h1 := fst_ev x (h x (by simp)).2 (by rw [(h x (by simp)).1]; exact hL)
    have h2 := ih (fun y hy => h y (by simp [hy]))
    refine Ev.bind h1 ?_
    refine Ev.bind h2 ?_
    exact Ev.now _
/-- The rows, sorted by their least columns. -/
def srt (B : List (List Int)) : List (List Int) := (matrix_Plain_sort.places B.length (B.map fstI)).map fun i => B.getD i.val []
theorem finRange_getD (B : List (List Int)) : (List.finRange B.length).map (fun i => B.getD i.val []) = B := by
  apply List.ext_getElem
  · simp
  · intro i h1 h2
    simp [List.getD_eq_getElem?_getD, List.getElem?_eq_getElem h2]
theorem srt_perm (B : List (List Int)) : (srt B).Perm B := by
  have h := (List.mergeSort_perm (List.finRange B.length) fun i j => decide ((B.map fstI).getD i.val 0 ≤ (B.map fstI).getD j.val 0)).map fun i => B.getD i.val []
  rw [finRange_getD] at h
  exact h
theorem key_at (B : List (List Int)) (i : Fin B.length) : (B.map fstI).getD i.val 0 = fstI (B.getD i.val []) := by
  have := i.isLt
  rw [List.getD_eq_getElem?_getD, List.getElem?_map, List.getElem?_eq_getElem this, List.getD_eq_getElem?_getD, List.getElem?_eq_getElem this]
  rfl
theorem srt_sorted (B : List (List Int)) : (srt B).Pairwise fun a b => fstI a ≤ fstI b := by
  unfold srt
  rw [List.pairwise_map]
  have h := List.pairwise_mergeSort (le := fun i j : Fin B.length => decide ((B.map fstI).getD i.val 0 ≤ (B.map fstI).getD j.val 0)) (fun a b c h1 h2 => by
    have := of_decide_eq_true h1
    have := of_decide_eq_true h2
    exact decide_eq_true (by omega)) (fun a b => by
    by_cases h : (B.map fstI).getD a.val 0 ≤ (B.map fstI).getD b.val 0
    · rw [decide_eq_true h]; rfl
    · rw [decide_eq_true (p := (B.map fstI).getD b.val 0 ≤ (B.map fstI).getD a.val 0) (by omega), Bool.or_true]) (List.finRange B.length)
  refine h.imp fun {a b} hab => ?_
  have := of_decide_eq_true hab
  rwa [key_at, key_at] at this
theorem sort_ev (B : List (List Int)) (L : Nat) (hL : L ≤ 1000000) (h : ∀ x ∈ B, x.length = L ∧ ∀ a ∈ x, U64 a) (hk : matrix_Plain_sort.okKeys (B.map fstI) = true) : Ev (fun k => matrix_Plain_sort.f k B) (srt B) := by
  unfold matrix_Plain_sort.f
  refine Ev.bind (keys_ev B L hL h) ?_
  simp only [if_pos hk]
  exact Ev.now _
theorem BInv.plain {n m : Nat} {rows B : List (List Int)} {p : Nat → Int} (h : BInv n rows p m m B) (hp : ∀ k, k < m → 0 ≤ p k) (hd : ∀ k l, k < m → l < m → k ≠ l → p k ≠ p l) (hm : m < 4611686018427387904) (hn : n ≤ 4096) :
    (B.map fstI).Nodup ∧ matrix_Plain_sort.okKeys (B.map fstI) = true ∧ IsPlain n rows (srt B) := by
  have hlen := h.len
  have hget : ∀ j, ∀ hj : j < (B.map fstI).length, (B.map fstI)[j] = p j := fun j hj => by
    have hj' : j < B.length := by simpa using hj
    rw [List.getElem_map, ← h.fst j (by omega)]
    unfold gw
    rw [List.getD_eq_getElem?_getD, List.getElem?_eq_getElem hj']
    rfl
  have hnd : (B.map fstI).Nodup := by
    refine List.pairwise_iff_getElem.2 fun i j hi hj hij => ?_
    rw [hget i hi, hget j hj]
    have hi' : i < B.length := by simpa using hi
    have hj' : j < B.length := by simpa using hj
    exact hd i j (by omega) (by omega) (by omega)
  have hpm := srt_perm B
  have hrow : Rws n (srt B) := fun r hr => h.row r (hpm.mem_iff.1 hr)
  have hpos : ∀ x ∈ B, 0 ≤ fstI x := fun x hx => by
    obtain ⟨k, hk, rfl⟩ := mem_gw hx
    rw [h.fst k (by omega)]; exact hp k (by omega)
  have hmax : ∀ x ∈ B, fstI x < 4611686018427387904 := fun x hx => by
    obtain ⟨q, e, _, h1, _, _⟩ := fst_nat (hpos x hx)
    have h2 := (h.row x hx).1
    unfold nW at h2
    rw [Int.toNat_natCast] at h2
    omega
  refine ⟨hnd, ?_, hrow, fun x hx => hpos x (hpm.mem_iff.1 hx), ?_, ?_, fun x hx => h.sub x (hpm.mem_iff.1 hx), fun x hx => (h.sup x hx).sub fun u hu => ?_⟩
  · unfold matrix_Plain_sort.okKeys
    rw [Bool.and_eq_true]
    refine ⟨decide_eq_true ⟨hnd, by simp; omega⟩, List.all_eq_true.2 fun x hx => ?_⟩
    obtain ⟨y, hy, rfl⟩ := List.mem_map.1 hx
    have := hpos y hy
    have := hmax y hy
    exact decide_eq_true ⟨by omega, by omega⟩
  · have hk : ((srt B).map fstI).Nodup := (hpm.map fstI).nodup_iff.2 hnd
    have h1 := srt_sorted B
    have h2 : (srt B).Pairwise fun a b => fstI a ≠ fstI b := List.pairwise_map.1 hk
    exact List.Pairwise.imp₂ (fun a b h1 h2 => by omega) h1 h2
  · intro a ha b hb hne
    obtain ⟨i, hi, rfl⟩ := mem_gw (hpm.mem_iff.1 ha)
    obtain ⟨j, hj, rfl⟩ := mem_gw (hpm.mem_iff.1 hb)
    rw [h.fst j (by omega)]
    refine h.off j (by omega) (by omega) i (by omega) fun e => hne (by rw [e])
  · obtain ⟨y, hy, rfl⟩ := List.mem_map.1 hu
    exact List.mem_map.2 ⟨y, hpm.mem_iff.2 hy, rfl⟩
/-! ### Plain -/
def plainName : ByteArray := ⟨#[109, 97, 116, 114, 105, 120, 46, 80, 108, 97, 105, 110]⟩
theorem chk_rws {rows : List (List Int)} {n : Nat} (h : chk3 rows (n : Int) = 0) (hu : ∀ r ∈ rows, ∀ x ∈ r, U64 x) : n ≤ 4096 ∧ rows.length ≤ 4096 ∧ Rws n rows := by
  obtain ⟨h0, h1, h2, h3⟩ := chk3_zero h
  refine ⟨by omega, h2, fun r hr => ?_⟩
  obtain ⟨h4, h5⟩ := (wokB_iff r n (by omega)).1 (h3 r hr)
  exact ⟨h4, hu r hr, fun c hc => h5 c (by omega)⟩
theorem rws_chk {rows : List (List Int)} {n : Nat} (hn : n ≤ 4096) (hl : rows.length ≤ 4096) (h : Rws n rows) : chk3 rows (n : Int) = 0 := by
  unfold chk3
  rw [if_neg (by omega), if_neg (by omega), if_pos (List.all_eq_true.2 fun r hr => (wokB_iff r n (by omega)).2 ⟨(h r hr).1, fun c hc => (h r hr).2.2 c (by omega)⟩)]
theorem plain_bad (rows : List (List Int)) (n : Int) (hr : rows.length < 9223372036854775807) (hu : ∀ r ∈ rows, ∀ x ∈ r, U64 x) (h : chk3 rows n ≠ 0) : Ev (fun k => matrix_Plain.f k rows n) ([], [⟨plainName, false, chk3 rows n⟩]) := by
  unfold matrix_Plain.f
  refine Ev.bind (mcheck_ev rows n hr hu) ?_
  unfold mcheckR
  simp only [if_neg h]
  refine Ev.congr (fun k => ?_) (Ev.now _)
  rw [if_neg (by simp)]
  rfl
theorem plain_ev (rows : List (List Int)) (n : Nat) (hu : ∀ r ∈ rows, ∀ x ∈ r, U64 x) (h : chk3 rows (n : Int) = 0) : ∃ P, Ev (fun k => matrix_Plain.f k rows (n : Int)) (P, []) ∧ IsPlain n rows P ∧ P.length = (byOf [] rows).length := by
  obtain ⟨hn, hl, hR⟩ := chk_rws h hu
  have hnw : nW (n : Int) ≤ 64 := by unfold nW; rw [Int.toNat_natCast]; omega
  have hrow : ∀ r ∈ rows, r.length = nW n ∧ ∀ a ∈ r, U64 a := fun r hr => ⟨(hR r hr).1, (hR r hr).2.1⟩
  have hI := RInv.all rows [] [] (RInv.nil (nW n)) hrow
  rw [List.nil_append] at hI
  have hlb := hI.len
  have hred := reduce_ev (nW n) (by omega) rows (by omega) hrow
  obtain ⟨B, eB⟩ : ∃ B, B = byOf [] rows := ⟨_, rfl⟩
  rw [← eB] at hI hlb hred ⊢
  obtain ⟨p, ep⟩ : ∃ p : Nat → Int, p = fun k => fstI (gw B k) := ⟨_, rfl⟩
  have hp : ∀ k, k < B.length → 0 ≤ p k := fun k hk => by rw [ep]; exact (hI.good _ (gw_mem hk)).2.2
  have hlt : ∀ k l, k < l → l < B.length → p k ≠ p l := fun k l hkl hl e => by
    have h1 := List.pairwise_iff_getElem.1 hI.tri k l (by omega) hl hkl
    have e1 : ∀ j, ∀ hj : j < B.length, gw B j = B[j] := fun j hj => by unfold gw; rw [List.getD_eq_getElem?_getD, List.getElem?_eq_getElem hj]; rfl
    rw [← e1 k (by omega), ← e1 l hl] at h1
    obtain ⟨m, e2, em, _, h3, _⟩ := fst_nat (hI.good _ (gw_mem hl)).2.2
    have e3 : fstI (gw B k) = fstI (gw B l) := by rw [ep] at e; exact e
    rw [e3, em, h3] at h1
    cases h1
  have hd : ∀ k l, k < B.length → l < B.length → k ≠ l → p k ≠ p l := fun k l hk hl hne => by
    rcases Nat.lt_trichotomy k l with c | c | c
    · exact hlt k l c hl
    · exact absurd c hne
    · exact fun e => hlt l k c hk e.symm
  have h0 : BInv n rows p B.length 0 B := by
    refine ⟨rfl, fun r hr => ⟨(hI.good r hr).1, (hI.good r hr).2.1, fun c hc => ?_⟩, fun k _ => by rw [ep], fun l hl => by omega, hI.into, hI.from_⟩
    exact Sp.col (fun u hu => by
      obtain ⟨x, hx, rfl⟩ := List.mem_map.1 hu
      exact (hR x hx).2.2 c hc) (hI.into r hr)
  obtain ⟨B', hB', hev⟩ := plain_l0 hn hp hd (by omega) B.length 0 B (by omega) h0
  obtain ⟨_, hok, hpl⟩ := hB'.plain hp hd (by omega) hn
  have hs := sort_ev B' (nW n) (by omega) (fun x hx => ⟨(hB'.row x hx).1, (hB'.row x hx).2.1⟩) hok
  refine ⟨srt B', ?_, hpl, by rw [(srt_perm B').length_eq, hB'.len]⟩
  have hfin := hev (srt B', []) (Ev.bind hs (Ev.now _))
  unfold matrix_Plain.f
  refine Ev.bind (mcheck_ev rows n (by omega) hu) ?_
  unfold mcheckR
  simp only [if_pos h]
  refine Ev.congr (fun k => ?_) (Ev.bind (f := fun k (t : List (List Int) × List Int) => matrix_Plain.l0 k t.1 (t.1.length : Int) 0) hred hfin)
  rw [if_pos (by rfl)]
theorem IsPlain.le {n : Nat} {rows P : List (List Int)} (h : IsPlain n rows P) : P.length ≤ n := by
  -- the least columns rise, and lie below n
  have hlt : ∀ x ∈ P, fstI x < n := fun x hx => by
    obtain ⟨q, e, _, _, h3, _⟩ := fst_nat (h.pos x hx)
    by_cases hq : q < n
    · omega
    · rw [(h.row x hx).2.2 q (by omega)] at h3; cases h3
  have key : ∀ (P : List (List Int)) (b : Int), 0 ≤ b → P.Pairwise (fun a b => fstI a < fstI b) → (∀ x ∈ P, b ≤ fstI x) → (∀ x ∈ P, fstI x < n) → b ≤ n → (P.length : Int) ≤ n - b := by
    intro P
    induction P with
    | nil => intro b _ _ _ _ hb; simp; omega
    | cons x P ih =>
      intro b hb0 hp hb hn hbn
      obtain ⟨p1, p2⟩ := List.pairwise_cons.1 hp
      have h1 := hb x (by simp)
      have h2 := hn x (by simp)
      have := ih (fstI x + 1) (by omega) p2 (fun y hy => by have := p1 y hy; omega) (fun y hy => hn y (by simp [hy])) (by omega)
      rw [List.length_cons]
      omega
  have := key P 0 (by omega) h.inc h.pos hlt (by omega)
  omega
end Go.Proofs.YtgocibnmgfmceaaDoor.Pure
