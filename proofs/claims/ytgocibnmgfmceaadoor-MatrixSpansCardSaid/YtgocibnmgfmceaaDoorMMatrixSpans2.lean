-- joined by merge.py: Px37 Px38 Px39 Px40 Px41 PureM3 Px42 Px43 PureMatrixRanks Px22 Px44
import Derived.Test.YtgocibnmgfmceaaDoorMMatrixSpans1
namespace Go.Proofs.YtgocibnmgfmceaaDoor.P
open Go.RowKit Go.Proofs.YtgocibnmgfmceaaDoorW.PrintWords Go.Proofs.YtgocibnmgfmceaaDoorW.PrintLast Go.Proofs.YtgocibnmgfmceaaDoorW.PrintErr Go.Proofs.YtgocibnmgfmceaaDoorW.PrintMore
attribute [local go_sem] max2_int min2_int max_two min_two max_three min_three max_four min_four run_eql_errOf run_neq_errOf eqGuard_errOf   -- for this text's walks alone
set_option linter.unusedVariables false
set_option linter.unusedSimpArgs false

/-! ### geyserref03_swap: function 51 -/
def geyserref03_swap.f (l0 : List (List Bool)) (a1 : Int) (a2 : Int) : Option ((List (List Bool))) := (some (([] : List (List Bool)) : List (List Bool))).bind fun y320 => (if y320.length + l0.length < 5864062014805 then ((some (y320 ++ l0 : List (List Bool))).bind fun y323 => (if 0 ≤ a2 then (if a2 < (l0.length : Int) then (if 0 ≤ a1 then (if a1 < (y323.length : Int) then (if a1 < (l0.length : Int) then (if a2 < (y323.length : Int) then (some ((y323.set (a1 : Int).toNat (rd_Lsbool l0 a2)).set (a2 : Int).toNat (rd_Lsbool l0 a1))) else (none)) else (none)) else (none)) else (none)) else (none)) else (none))) else (none))
set_option maxHeartbeats 8000000 in
set_option maxRecDepth 100000 in
theorem geyserref03_swap.calls (P0_ : Nat → Prop) (A0 : Option Addr) (c0 : Nat) (l0 : List (List Bool)) (a1 : Int) (a2 : Int) (r : List (List Bool)) (w : World) (hs0 : Kd.V (Kd.slice 4 Kd.bool) 23 w w.heap.size (fun k_ => P0_ k_) (.slice A0 l0.length c0) l0) (h : geyserref03_swap.f l0 a1 a2 = some r) :
    Calls Tryd.prog 51 #[.slice A0 l0.length c0, .int .i64 a1, .int .i64 a2] w fun e w' => ∃ v0_ : Value, e = .returned (v0_) ∧ Kd.N (Kd.slice 4 Kd.bool) 23 w' w.heap.size (fun k_ => (P0_ k_ ∨ w.heap.size ≤ k_)) v0_ r ∧ Below w.heap.size w w' := by
  have HO0 := Aside0.mk (show Kd.V (Kd.slice 4 Kd.bool) 23 w w.heap.size (fun k_ => (P0_ k_ ∨ w.heap.size ≤ k_)) (.slice A0 l0.length c0) l0 from Kd.V_mono hs0 (fun k_ hk => .inl hk))
  have HB := Aside0.mk (Below.refl w.heap.size w)
  have H : ((some (([] : List (List Bool)) : List (List Bool))).bind fun y320 => (if y320.length + l0.length < 5864062014805 then ((some (y320 ++ l0 : List (List Bool))).bind fun y323 => (if 0 ≤ a2 then (if a2 < (l0.length : Int) then (if 0 ≤ a1 then (if a1 < (y323.length : Int) then (if a1 < (l0.length : Int) then (if a2 < (y323.length : Int) then (some ((y323.set (a1 : Int).toNat (rd_Lsbool l0 a2)).set (a2 : Int).toNat (rd_Lsbool l0 a1))) else (none)) else (none)) else (none)) else (none)) else (none)) else (none))) else (none))) = some r := h
  clear h
  obtain ⟨y320, hy320⟩ : ∃ y_ : List (List Bool), y_ = (([] : List (List Bool))) := ⟨_, rfl⟩
  replace H : (if y320.length + l0.length < 5864062014805 then ((some (y320 ++ l0 : List (List Bool))).bind fun y323 => (if 0 ≤ a2 then (if a2 < (l0.length : Int) then (if 0 ≤ a1 then (if a1 < (y323.length : Int) then (if a1 < (l0.length : Int) then (if a2 < (y323.length : Int) then (some ((y323.set (a1 : Int).toNat (rd_Lsbool l0 a2)).set (a2 : Int).toNat (rd_Lsbool l0 a1))) else (none)) else (none)) else (none)) else (none)) else (none)) else (none))) else (none)) = some r := by first | (rw [hy320]; with_reducible exact H) | (have H2_ := (Option.bind_some _ _).symm.trans H; rw [hy320]; with_reducible exact H2_) | (have H2_ := (Option.bind_some _ _).symm.trans H; with_reducible exact H2_) | with_reducible exact H | (rw [hy320]; exact H) | exact H
  have Ny320 := Aside0.mk hy320
  clear hy320
  by_cases c4 : y320.length + l0.length < 5864062014805
  · rw [if_pos c4] at H
    have LMc4 := Aside0.mk c4
    clear c4
    obtain ⟨y323, hy323⟩ : ∃ y_ : List (List Bool), y_ = (y320 ++ l0) := ⟨_, rfl⟩
    replace H : (if 0 ≤ a2 then (if a2 < (l0.length : Int) then (if 0 ≤ a1 then (if a1 < (y323.length : Int) then (if a1 < (l0.length : Int) then (if a2 < (y323.length : Int) then (some ((y323.set (a1 : Int).toNat (rd_Lsbool l0 a2)).set (a2 : Int).toNat (rd_Lsbool l0 a1))) else (none)) else (none)) else (none)) else (none)) else (none)) else (none)) = some r := by first | (rw [hy323]; with_reducible exact H) | (have H2_ := (Option.bind_some _ _).symm.trans H; rw [hy323]; with_reducible exact H2_) | (have H2_ := (Option.bind_some _ _).symm.trans H; with_reducible exact H2_) | with_reducible exact H | (rw [hy323]; exact H) | exact H
    have Ny323 := Aside0.mk hy323
    clear hy323
    by_cases c5 : 0 ≤ a2
    · rw [if_pos c5] at H
      have c5b0 : decide (0 ≤ a2) = true := decide_eq_true c5
      clear c5
      by_cases c6 : a2 < (l0.length : Int)
      · rw [if_pos c6] at H
        have c6b0 : decide (a2 < (l0.length : Int)) = true := decide_eq_true c6
        clear c6
        by_cases c7 : 0 ≤ a1
        · rw [if_pos c7] at H
          have c7b0 : decide (0 ≤ a1) = true := decide_eq_true c7
          clear c7
          by_cases c8 : a1 < (y323.length : Int)
          · rw [if_pos c8] at H
            have c8b0 : decide (a1 < (y323.length : Int)) = true := decide_eq_true c8
            clear c8
            obtain ⟨y327, hy327⟩ : ∃ y_ : List (List Bool), y_ = (y323.set (a1 : Int).toNat (rd_Lsbool l0 a2)) := ⟨_, rfl⟩
            replace H : (if a1 < (l0.length : Int) then (if a2 < (y323.length : Int) then (some (y327.set (a2 : Int).toNat (rd_Lsbool l0 a1))) else (none)) else (none)) = some r := by first | (rw [hy327]; with_reducible exact H) | (have H2_ := (Option.bind_some _ _).symm.trans H; rw [hy327]; with_reducible exact H2_) | (have H2_ := (Option.bind_some _ _).symm.trans H; with_reducible exact H2_) | with_reducible exact H | (rw [hy327]; exact H) | exact H
            have Ny327 := Aside0.mk hy327
            clear hy327
            by_cases c10 : a1 < (l0.length : Int)
            · rw [if_pos c10] at H
              have c10b0 : decide (a1 < (l0.length : Int)) = true := decide_eq_true c10
              clear c10
              by_cases c11 : a2 < (y323.length : Int)
              · rw [if_pos c11] at H
                have c11b0 : decide (a2 < (y323.length : Int)) = true := decide_eq_true c11
                clear c11
                obtain ⟨y329, hy329⟩ : ∃ y_ : List (List Bool), y_ = (y327.set (a2 : Int).toNat (rd_Lsbool l0 a1)) := ⟨_, rfl⟩
                replace H : (some y329) = some r := by first | (rw [hy329]; with_reducible exact H) | (have H2_ := (Option.bind_some _ _).symm.trans H; rw [hy329]; with_reducible exact H2_) | (have H2_ := (Option.bind_some _ _).symm.trans H; with_reducible exact H2_) | with_reducible exact H | (rw [hy329]; exact H) | exact H
                have Ny329 := Aside0.mk hy329
                clear hy329
                obtain rfl := Option.some.inj H
                go_enter Tryd.func51, Tryd.ntmps51
                go_wp2_with (first | ((with_reducible refine gate_dst (N := 8) rfl ?_); refine Kd.N_lit (Kd.slice 4 Kd.bool) _ 23 ?hg (N' := 8) ?hd (xs := ([] : List (List Bool))) (inner := []) (ok := (fun k_ => (P0_ k_ ∨ w.heap.size ≤ k_))) (okp := (fun k_ => (P0_ k_ ∨ w.heap.size ≤ k_))) ?hr ?hp (fun _ hk => hk) ((show ∀ k_, w.heap.size ≤ k_ → (fun k_ => (P0_ k_ ∨ w.heap.size ≤ k_)) k_ from fun k_ hk => (.inr (Nat.le_trans (below_size (by repeat (first | (with_reducible first | exact HB.out | apply below_alloc | apply pw_below_drewN | apply below_drew1) | exact HB.out))) hk))) _ (Nat.le_refl _)) (Below.refl _ _) (Nat.le_refl _) (by simp) ?_; (case hd => rfl); (case hg => rfl); (case hr => first | (go_simp; done) | (go_simp; rfl)); (case hp => exact (Reps.none _ _)); intro v321 w13 ho14 hb hg_ hnew_; clear hg_ hnew_; (first | rw [← Ny320.out] at ho14 | (simp only [Int.reduceToNat] at ho14; rw [← Ny320.out] at ho14)); have n0_ := Aside0.mk (Kd.V_elder' (by (with_reducible repeat (first | apply Kd.V_alloc | apply Kd.V_drewN | apply Kd.V_drew)); exact HO0.out) (Kd.N_base ho14) hb); have n1_ := Aside0.mk (Kd.N_lower ho14 (below_size (by repeat (first | (with_reducible first | exact HB.out | apply below_alloc | apply pw_below_drewN | apply below_drew1) | exact HB.out)))); have n2_ := Aside0.mk (below_step (by repeat (first | (with_reducible first | exact HB.out | apply below_alloc | apply pw_below_drewN | apply below_drew1) | exact HB.out)) hb); clear HO0; clear HB; have HO0 := n0_; have HO322 := n1_; have HB := n2_; clear n0_ n1_ n2_; clear hb ho14) | ((with_reducible refine gate_builtin (b := .append) (xs := #[.tmp 8, .tmp 9]) rfl ?_); at_builtin; refine Kd.N_append_rows (Kd.slice 4 Kd.bool) (w0 := w) w.heap.size rfl (.tmp 8) (.tmp 9) 65 23 (.slice none 0 0) 24 rfl Tryd.underlying65 info23 rfl (by decide) (by omega) v321 y320 l0 _ _ _ (fun k_ => (P0_ k_ ∨ w.heap.size ≤ k_)) (fun k_ => ((fun k_ => (P0_ k_ ∨ w.heap.size ≤ k_))) k_ ∧ some k_ ≠ (v321 : Value).ownBlock) rfl rfl ?aO ?aR (fun _ hk => hk) ?aF ?aB ?aS ?aL ?_; (case aR => exact (by skip; exact Kd.V_F (Kd.V_mono (ok' := (fun k_ => ((fun k_ => (P0_ k_ ∨ w.heap.size ≤ k_))) k_ ∧ some k_ ≠ (v321 : Value).ownBlock)) (HO0.out) (fun k_ hk => ⟨hk.1, hk.2⟩)))); (case aB => exact (by repeat (first | (with_reducible first | exact HB.out | apply below_alloc | apply pw_below_drewN | apply below_drew1) | exact HB.out))); (case aF => exact (fun k_ hk => (.inr (Nat.le_trans (below_size (by repeat (first | (with_reducible first | exact HB.out | apply below_alloc | apply pw_below_drewN | apply below_drew1) | exact HB.out))) hk)))); (case aO => exact (by (with_reducible repeat (first | apply Kd.N_alloc | apply Kd.N_drewN | apply Kd.N_drew)); exact HO322.out)); (case aS => exact (below_size (by repeat (first | (with_reducible first | exact HB.out | apply below_alloc | apply pw_below_drewN | apply below_drew1) | exact HB.out)))); (case aL => have := LMc4.out; omega); intro v324 w15 ho hb hg hat; rw [← Ny323.out] at ho; have n0_ := Aside0.mk (Kd.V_afterv (ok := (fun k_ => (P0_ k_ ∨ w.heap.size ≤ k_))) (by (with_reducible repeat (first | apply Kd.V_alloc | apply Kd.V_drewN | apply Kd.V_drew)); exact HO0.out) hg hat); have n1_ := Aside0.mk (hb); have n2_ := Aside0.mk (ho); clear HO0; clear HB; clear HO322; have HO0 := n0_; have HB := n1_; have HO325 := n2_; clear n0_ n1_ n2_; clear ho hb hg hat; have p326 : 0 ≤ (a2 : Int) := of_decide_eq_true (by first | (with_reducible assumption) | assumption); have q326 : a2 < (l0.length : Int) := of_decide_eq_true (by first | (with_reducible assumption) | assumption); obtain ⟨ad326, A326_0, c326_0, e326, hx326_0, hl326_0, hi326_0⟩ := at_Lsbool (Kd.V_reads' HO0.out).2.2 a2 p326 q326; cases e326; obtain ⟨ce326, hce326, hMe326, hcc326⟩ := Kd.V_get HO0.out [] a2 p326 (by first | exact q326 | exact of_decide_eq_true (by first | (with_reducible assumption) | assumption) | (have e_ := (Kd.V_reads' HO0.out).1; omega)); obtain ⟨ua326_0, uc326_0, rfl, ul326_0, ge326_0⟩ := Kd.FK_slice_open hMe326; have hv326_0 := hcc326 0 _ rfl; rw [Nat.add_zero, show ((Kd.slice 4 Kd.bool)).sz = 1 from rfl, Nat.mul_one] at hv326_0; replace hv326_0 := Option.some.inj (hv326_0.symm.trans hx326_0); injection hv326_0 with hva_ hvn_ hvc_; rw [hva_] at ge326_0; rw [hvc_] at ul326_0; have HL326_0 := Aside0.mk (show Kd.V Kd.bool 4 _ w.heap.size _ _ (rd_Lsbool l0 a2) from Kd.V_mk ul326_0 ge326_0); clear hva_ hvn_ hvc_ ge326_0 ul326_0; clear hcc326 hce326; have HR326_0 := Aside0.mk hi326_0; have HC326_0 := Aside0.mk hl326_0; clear hi326_0 hl326_0; replace p326 := eq_true p326; replace q326 := eq_true q326; have p9 : 0 ≤ (a1 : Int) := of_decide_eq_true (by first | (with_reducible assumption) | assumption); have q9 : (a1 : Int) < ((y323.length : Int) : Int) := of_decide_eq_true (by first | (with_reducible assumption) | assumption); obtain ⟨go9, co9, eo9, gb9, gl9, cl9, HG9⟩ := Kd.N_form HO325.out (by omega); (first | cases eo9 | (injection eo9 with ea_ en_ ec_; (first | subst ea_ | (injection ea_ with ea_; subst ea_)); subst ec_; clear en_)); have GB9 := Aside0.mk gb9; have GG9 := Aside0.mk HG9; clear gb9 gl9 HG9; obtain ⟨ce9, hcl9, hM9, hcc9, hfr9⟩ := Kd.N_elem HO325.out [] (a1 : Int) p9 q9; obtain ⟨ua9_0, uc9_0, rfl, ul9_0, ge9_0⟩ := Kd.FK_slice_open hM9; have hx9_0 := hcc9 0 _ rfl; have hf9_0 := hfr9 0; (try simp only [show ((Kd.slice 4 Kd.bool)).sz = 1 from rfl, Nat.mul_one, Nat.add_zero] at hx9_0); (try simp only [show ((Kd.slice 4 Kd.bool)).sz = 1 from rfl, Nat.mul_one, Nat.add_zero] at hf9_0); clear hcl9 hcc9 hfr9 hM9; replace p9 := eq_true p9; replace q9 := eq_true q9; have HX16 := Aside0.mk (show Kd.N (Kd.slice 4 Kd.bool) 23 w15 w.heap.size (fun k_ => (P0_ k_ ∨ w.heap.size ≤ k_)) (.slice (some ⟨go9, 0, none⟩) y323.length co9) y323 from (by (with_reducible repeat (first | apply Kd.N_alloc | apply Kd.N_drewN | apply Kd.N_drew)); exact HO325.out)); obtain ⟨ce16, hcl16, hM16, hcc16, hfr16⟩ := Kd.N_elem HX16.out [] (a1 : Int) (of_decide_eq_true (by first | (with_reducible assumption) | assumption)) (by have h_ : (a1 : Int) < ((y323.length : Int) : Int) := of_decide_eq_true (by first | (with_reducible assumption) | assumption); first | exact h_ | (have e_ := (Kd.N_reads' HO325.out).1; omega) | simpa using h_); obtain ⟨ua16_0, uc16_0, rfl, ul16_0, ge16_0⟩ := Kd.FK_slice_open hM16; have HP16 := Kd.N_seg HX16.out (a1 : Int) (of_decide_eq_true (by first | (with_reducible assumption) | assumption)) (by have h_ : (a1 : Int) < ((y323.length : Int) : Int) := of_decide_eq_true (by first | (with_reducible assumption) | assumption); first | exact h_ | (have e_ := (Kd.N_reads' HO325.out).1; omega) | simpa using h_) (seg := [.slice A326_0 (rd_Lsbool l0 a2).length c326_0]) (j := 0) hcl16 hcc16 (show 1 ≤ 1 from by decide) (x' := rd_Lsbool l0 a2) (Kd.FK_slice_mk (Kd.V_reads' (Kd.V_mono (ok' := (fun k_ => ((fun k_ => (P0_ k_ ∨ w.heap.size ≤ k_))) k_ ∧ k_ ≠ go9)) (HL326_0.out) (fun k_ hk => ⟨hk.1, fun e_ => (hk.2) (by rw [e_]; rfl)⟩))).2.1 (Kd.V_F (Kd.V_mono (ok' := (fun k_ => ((fun k_ => (P0_ k_ ∨ w.heap.size ≤ k_))) k_ ∧ k_ ≠ go9)) (HL326_0.out) (fun k_ hk => ⟨hk.1, fun e_ => (hk.2) (by rw [e_]; rfl)⟩)))) (fun _ hk => hk); have hx16_0 := hcc16 0 _ rfl; (try simp only [show ((Kd.slice 4 Kd.bool)).sz = 1 from rfl, Nat.mul_one, Nat.add_zero] at hx16_0); have hf16_0 := hfr16 0; (try simp only [show ((Kd.slice 4 Kd.bool)).sz = 1 from rfl, Nat.mul_one, Nat.add_zero] at hf16_0); clear hcl16 hcc16 hfr16 hM16; (try simp only [show ((Kd.slice 4 Kd.bool)).sz = 1 from rfl, Nat.mul_one, Nat.add_zero] at HP16); (try simp only [show ((Kd.slice 4 Kd.bool)).sz = 1 from rfl, Nat.mul_one, Nat.add_zero] at HP16)) | ((with_reducible refine gate_store (t := 23) (p := 17) rfl ?_); refine store_event (t := 23) (p := 17) (v := ?vo_w17) (w1 := (w15.setCell ⟨go9, (a1 : Int).toNat, none⟩ (.slice A326_0 (rd_Lsbool l0 a2).length c326_0))) ?hg ?ho ?hn ?hr ?_; (case ho => rfl); (case hg => rfl); (case hn => rfl); (case hr => first | (go_simp; done) | (go_simp; rfl)); intro w17 hw; have hg : w15.grownBy w17 (some go9) := (by rw [hw]; exact HP16.2); have hp_ : Kd.N (Kd.slice 4 Kd.bool) 23 w17 w.heap.size (fun k_ => (P0_ k_ ∨ w.heap.size ≤ k_)) (.slice (some ⟨go9, 0, none⟩) y323.length co9) y327 := (by rw [hw, Ny327.out]; exact HP16.1); clear HP16; have n0_ := Aside0.mk (Kd.V_afterv (v := (.slice (some ⟨go9, 0, none⟩) y323.length co9)) (v1 := (.slice (some ⟨go9, 0, none⟩) y323.length co9)) (ok := (fun k_ => (P0_ k_ ∨ w.heap.size ≤ k_))) (by (with_reducible repeat (first | apply Kd.V_alloc | apply Kd.V_drewN | apply Kd.V_drew)); exact HO0.out) hg (.inl rfl)); have n1_ := Aside0.mk (hp_); have n2_ := Aside0.mk (Kd.V_afterv (v := (.slice (some ⟨go9, 0, none⟩) y323.length co9)) (v1 := (.slice (some ⟨go9, 0, none⟩) y323.length co9)) (ok := (fun k_ => (P0_ k_ ∨ w.heap.size ≤ k_))) (by (with_reducible repeat (first | apply Kd.V_alloc | apply Kd.V_drewN | apply Kd.V_drew)); exact HL326_0.out) hg (.inl rfl)); have n3_ := Aside0.mk ((by rw [hw]; exact below_set (HB.out) GB9.out : Below w.heap.size w w17)); clear HO0; clear HO325; clear HL326_0; clear HB; have HO0 := n0_; have HO325 := n1_; have HL326_0 := n2_; have HB := n3_; clear n0_ n1_ n2_ n3_; clear hg hw hp_; have p328 : 0 ≤ (a1 : Int) := of_decide_eq_true (by first | (with_reducible assumption) | assumption); have q328 : a1 < (l0.length : Int) := of_decide_eq_true (by first | (with_reducible assumption) | assumption); obtain ⟨ad328, A328_0, c328_0, e328, hx328_0, hl328_0, hi328_0⟩ := at_Lsbool (Kd.V_reads' HO0.out).2.2 a1 p328 q328; obtain rfl : ad326 = ad328 := (by injection e328); obtain ⟨ce328, hce328, hMe328, hcc328⟩ := Kd.V_get HO0.out [] a1 p328 (by first | exact q328 | exact of_decide_eq_true (by first | (with_reducible assumption) | assumption) | (have e_ := (Kd.V_reads' HO0.out).1; omega)); obtain ⟨ua328_0, uc328_0, rfl, ul328_0, ge328_0⟩ := Kd.FK_slice_open hMe328; have hv328_0 := hcc328 0 _ rfl; rw [Nat.add_zero, show ((Kd.slice 4 Kd.bool)).sz = 1 from rfl, Nat.mul_one] at hv328_0; replace hv328_0 := Option.some.inj (hv328_0.symm.trans hx328_0); injection hv328_0 with hva_ hvn_ hvc_; rw [hva_] at ge328_0; rw [hvc_] at ul328_0; have HL328_0 := Aside0.mk (show Kd.V Kd.bool 4 _ w.heap.size _ _ (rd_Lsbool l0 a1) from Kd.V_mk ul328_0 ge328_0); clear hva_ hvn_ hvc_ ge328_0 ul328_0; clear hcc328 hce328; have HR328_0 := Aside0.mk hi328_0; have HC328_0 := Aside0.mk hl328_0; clear hi328_0 hl328_0; replace p328 := eq_true p328; replace q328 := eq_true q328; have p12 : 0 ≤ (a2 : Int) := of_decide_eq_true (by first | (with_reducible assumption) | assumption); have q12 : (a2 : Int) < ((y323.length : Int) : Int) := of_decide_eq_true (by first | (with_reducible assumption) | assumption); obtain ⟨ce12, hcl12, hM12, hcc12, hfr12⟩ := Kd.N_elem HO325.out [] (a2 : Int) p12 q12; obtain ⟨ua12_0, uc12_0, rfl, ul12_0, ge12_0⟩ := Kd.FK_slice_open hM12; have hx12_0 := hcc12 0 _ rfl; have hf12_0 := hfr12 0; (try simp only [show ((Kd.slice 4 Kd.bool)).sz = 1 from rfl, Nat.mul_one, Nat.add_zero] at hx12_0); (try simp only [show ((Kd.slice 4 Kd.bool)).sz = 1 from rfl, Nat.mul_one, Nat.add_zero] at hf12_0); clear hcl12 hcc12 hfr12 hM12; replace p12 := eq_true p12; replace q12 := eq_true q12; have HX18 := Aside0.mk (show Kd.N (Kd.slice 4 Kd.bool) 23 w17 w.heap.size (fun k_ => (P0_ k_ ∨ w.heap.size ≤ k_)) (.slice (some ⟨go9, 0, none⟩) y323.length co9) y327 from (by (with_reducible repeat (first | apply Kd.N_alloc | apply Kd.N_drewN | apply Kd.N_drew)); exact HO325.out)); obtain ⟨ce18, hcl18, hM18, hcc18, hfr18⟩ := Kd.N_elem HX18.out [] (a2 : Int) (of_decide_eq_true (by first | (with_reducible assumption) | assumption)) (by have h_ : (a2 : Int) < ((y323.length : Int) : Int) := of_decide_eq_true (by first | (with_reducible assumption) | assumption); first | exact h_ | (have e_ := (Kd.N_reads' HO325.out).1; omega) | simpa using h_); obtain ⟨ua18_0, uc18_0, rfl, ul18_0, ge18_0⟩ := Kd.FK_slice_open hM18; have HP18 := Kd.N_seg HX18.out (a2 : Int) (of_decide_eq_true (by first | (with_reducible assumption) | assumption)) (by have h_ : (a2 : Int) < ((y323.length : Int) : Int) := of_decide_eq_true (by first | (with_reducible assumption) | assumption); first | exact h_ | (have e_ := (Kd.N_reads' HO325.out).1; omega) | simpa using h_) (seg := [.slice A328_0 (rd_Lsbool l0 a1).length c328_0]) (j := 0) hcl18 hcc18 (show 1 ≤ 1 from by decide) (x' := rd_Lsbool l0 a1) (Kd.FK_slice_mk (Kd.V_reads' (Kd.V_mono (ok' := (fun k_ => ((fun k_ => (P0_ k_ ∨ w.heap.size ≤ k_))) k_ ∧ k_ ≠ go9)) (HL328_0.out) (fun k_ hk => ⟨hk.1, fun e_ => (hk.2) (by rw [e_]; rfl)⟩))).2.1 (Kd.V_F (Kd.V_mono (ok' := (fun k_ => ((fun k_ => (P0_ k_ ∨ w.heap.size ≤ k_))) k_ ∧ k_ ≠ go9)) (HL328_0.out) (fun k_ hk => ⟨hk.1, fun e_ => (hk.2) (by rw [e_]; rfl)⟩)))) (fun _ hk => hk); have hx18_0 := hcc18 0 _ rfl; (try simp only [show ((Kd.slice 4 Kd.bool)).sz = 1 from rfl, Nat.mul_one, Nat.add_zero] at hx18_0); have hf18_0 := hfr18 0; (try simp only [show ((Kd.slice 4 Kd.bool)).sz = 1 from rfl, Nat.mul_one, Nat.add_zero] at hf18_0); clear hcl18 hcc18 hfr18 hM18; (try simp only [show ((Kd.slice 4 Kd.bool)).sz = 1 from rfl, Nat.mul_one, Nat.add_zero] at HP18); (try simp only [show ((Kd.slice 4 Kd.bool)).sz = 1 from rfl, Nat.mul_one, Nat.add_zero] at HP18)) | ((with_reducible refine gate_store (t := 23) (p := 24) rfl ?_); refine store_event (t := 23) (p := 24) (v := ?vo_w19) (w1 := (w17.setCell ⟨go9, (a2 : Int).toNat, none⟩ (.slice A328_0 (rd_Lsbool l0 a1).length c328_0))) ?hg ?ho ?hn ?hr ?_; (case ho => rfl); (case hg => rfl); (case hn => rfl); (case hr => first | (go_simp; done) | (go_simp; rfl)); intro w19 hw; have hg : w17.grownBy w19 (some go9) := (by rw [hw]; exact HP18.2); have hp_ : Kd.N (Kd.slice 4 Kd.bool) 23 w19 w.heap.size (fun k_ => (P0_ k_ ∨ w.heap.size ≤ k_)) (.slice (some ⟨go9, 0, none⟩) y323.length co9) y329 := (by rw [hw, Ny329.out]; exact HP18.1); clear HP18; have n0_ := Aside0.mk (Kd.V_afterv (v := (.slice (some ⟨go9, 0, none⟩) y323.length co9)) (v1 := (.slice (some ⟨go9, 0, none⟩) y323.length co9)) (ok := (fun k_ => (P0_ k_ ∨ w.heap.size ≤ k_))) (by (with_reducible repeat (first | apply Kd.V_alloc | apply Kd.V_drewN | apply Kd.V_drew)); exact HO0.out) hg (.inl rfl)); have n1_ := Aside0.mk (hp_); have n2_ := Aside0.mk (Kd.V_afterv (v := (.slice (some ⟨go9, 0, none⟩) y323.length co9)) (v1 := (.slice (some ⟨go9, 0, none⟩) y323.length co9)) (ok := (fun k_ => (P0_ k_ ∨ w.heap.size ≤ k_))) (by (with_reducible repeat (first | apply Kd.V_alloc | apply Kd.V_drewN | apply Kd.V_drew)); exact HL326_0.out) hg (.inl rfl)); have n3_ := Aside0.mk (Kd.V_afterv (v := (.slice (some ⟨go9, 0, none⟩) y323.length co9)) (v1 := (.slice (some ⟨go9, 0, none⟩) y323.length co9)) (ok := (fun k_ => (P0_ k_ ∨ w.heap.size ≤ k_))) (by (with_reducible repeat (first | apply Kd.V_alloc | apply Kd.V_drewN | apply Kd.V_drew)); exact HL328_0.out) hg (.inl rfl)); have n4_ := Aside0.mk ((by rw [hw]; exact below_set (HB.out) GB9.out : Below w.heap.size w w19)); clear HO0; clear HO325; clear HL326_0; clear HL328_0; clear HB; have HO0 := n0_; have HO325 := n1_; have HL326_0 := n2_; have HL328_0 := n3_; have HB := n4_; clear n0_ n1_ n2_ n3_ n4_; clear hg hw hp_))
                go_ret
                exact ⟨_, by first | rfl | (simp [errW_none, errW_some] <;> rfl) | (simp [*, errW_none, errW_some] <;> rfl), by (with_reducible repeat (first | apply Kd.N_alloc | apply Kd.N_drewN | apply Kd.N_drew)); exact HO325.out, by repeat (first | (with_reducible first | exact HB.out | apply below_alloc | apply pw_below_drewN | apply below_drew1) | exact HB.out)⟩
              · rw [if_neg c11] at H
                exact absurd H (by simp)
            · rw [if_neg c10] at H
              exact absurd H (by simp)
          · rw [if_neg c8] at H
            exact absurd H (by simp)
        · rw [if_neg c7] at H
          exact absurd H (by simp)
      · rw [if_neg c6] at H
        exact absurd H (by simp)
    · rw [if_neg c5] at H
      exact absurd H (by simp)
  · rw [if_neg c4] at H
    exact absurd H (by simp)

end Go.Proofs.YtgocibnmgfmceaaDoor.P

namespace Go.Proofs.YtgocibnmgfmceaaDoor.P
open Go.RowKit Go.Proofs.YtgocibnmgfmceaaDoorW.PrintWords Go.Proofs.YtgocibnmgfmceaaDoorW.PrintLast Go.Proofs.YtgocibnmgfmceaaDoorW.PrintErr Go.Proofs.YtgocibnmgfmceaaDoorW.PrintMore
attribute [local go_sem] max2_int min2_int max_two min_two max_three min_three max_four min_four run_eql_errOf run_neq_errOf eqGuard_errOf   -- for this text's walks alone
set_option linter.unusedVariables false
set_option linter.unusedSimpArgs false

/-! ### geyserref03_Gauss: function 34 -/
def geyserref03_Gauss.l0 : Nat → List (List Bool) → Int → Int → Int → Option ((List (List Bool)))
  | 0, _, _, _, _ => none
  | k + 1, x0, x1, x5, x6 => if x6 < x1 then ((geyserref03_pivot.f k x0 x5 x6).bind fun t335 => (if t335 < 0 then (geyserref03_Gauss.l0 k x0 x1 x5 (wrap64 (x6 + 1))) else ((geyserref03_swap.f x0 x5 t335).bind fun t336 => ((geyserref03_clear.f k t336 x5 x6).bind fun t339 => (geyserref03_Gauss.l0 k t339 x1 (wrap64 (x5 + 1)) (wrap64 (x6 + 1))))))) else (if 0 ≤ x5 then (if x5 ≤ (x0.length : Int) then (some (x0.take (x5 : Int).toNat)) else (none)) else (none))
def geyserref03_Gauss.f (k : Nat) (l0 : List (List Bool)) (a1 : Int) : Option ((List (List Bool))) := geyserref03_Gauss.l0 k l0 a1 0 0
theorem geyserref03_Gauss.mono_l : ∀ k, (∀ y0 y1 y2 y3, LeO (geyserref03_Gauss.l0 k y0 y1 y2 y3) (geyserref03_Gauss.l0 (k + 1) y0 y1 y2 y3))
  | 0 => fun _ _ _ _ r h => by simp [geyserref03_Gauss.l0] at h
  | k + 1 => by
    have ih0 := geyserref03_Gauss.mono_l k
    · intro y0 y1 y2 y3
      unfold geyserref03_Gauss.l0
      repeat' first
      | (with_reducible exact ih0 _ _ _ _)
      | (with_reducible exact geyserref03_clear.mono _ _ _ _)
      | (with_reducible exact geyserref03_pivot.mono _ _ _ _)
      | (with_reducible exact LeO.refl _)
      | (with_reducible exact LeO.none _)
      | (with_reducible refine LeO.ite ?_ ?_)
      | (with_reducible refine LeO.bind ?_ (fun _ => ?_))
      | exact ih0 _ _ _ _
      | exact geyserref03_clear.mono _ _ _ _
      | exact geyserref03_pivot.mono _ _ _ _
      | exact LeO.none _
      | refine LeO.ite ?_ ?_
      | refine LeO.bind ?_ (fun _ => ?_)
theorem geyserref03_Gauss.mono : ∀ a0 a1 k, LeO (geyserref03_Gauss.f k a0 a1) (geyserref03_Gauss.f (k + 1) a0 a1) := by
  intro a0 a1 k
  have ih0 := geyserref03_Gauss.mono_l k
  unfold geyserref03_Gauss.f
  repeat' first
      | (with_reducible exact ih0 _ _ _ _)
      | (with_reducible exact geyserref03_clear.mono _ _ _ _)
      | (with_reducible exact geyserref03_pivot.mono _ _ _ _)
      | (with_reducible exact LeO.refl _)
      | (with_reducible exact LeO.none _)
      | (with_reducible refine LeO.ite ?_ ?_)
      | (with_reducible refine LeO.bind ?_ (fun _ => ?_))
      | exact ih0 _ _ _ _
      | exact geyserref03_clear.mono _ _ _ _
      | exact geyserref03_pivot.mono _ _ _ _
      | exact LeO.none _
      | refine LeO.ite ?_ ?_
      | refine LeO.bind ?_ (fun _ => ?_)
set_option maxHeartbeats 8000000 in
set_option maxRecDepth 100000 in
theorem geyserref03_Gauss.calls (k : Nat) (P0_ : Nat → Prop) (A0 : Option Addr) (c0 : Nat) (l0 : List (List Bool)) (a1 : Int) (r : List (List Bool)) (w : World) (hs0 : Kd.V (Kd.slice 4 Kd.bool) 23 w w.heap.size (fun k_ => P0_ k_) (.slice A0 l0.length c0) l0) (h : geyserref03_Gauss.f k l0 a1 = some r) :
    Calls Tryd.prog 34 #[.slice A0 l0.length c0, .int .i64 a1] w fun e w' => ∃ v0_ : Value, e = .returned (v0_) ∧ Kd.V (Kd.slice 4 Kd.bool) 23 w' w.heap.size (fun k_ => (P0_ k_ ∨ w.heap.size ≤ k_)) v0_ r ∧ Below w.heap.size w w' := by
  have HO0 := Aside0.mk (show Kd.V (Kd.slice 4 Kd.bool) 23 w w.heap.size (fun k_ => (P0_ k_ ∨ w.heap.size ≤ k_)) (.slice A0 l0.length c0) l0 from Kd.V_mono hs0 (fun k_ hk => .inl hk))
  have HB := Aside0.mk (Below.refl w.heap.size w)
  have H : (geyserref03_Gauss.l0 k l0 a1 0 0) = some r := h
  clear h
  have H' := Aside0.mk H
  clear H
  go_enter Tryd.func34, Tryd.ntmps34
  go_wp2
  go_loopg [0, 5, 6] k (fun kq v0 v5 v6 w' => ∃ (x0_1 : List (List Bool)) (x5_1 : Int) (x6_1 : Int), v5 = .int .i64 x5_1 ∧ v6 = .int .i64 x6_1 ∧ Aside0 (geyserref03_Gauss.l0 kq x0_1 a1 x5_1 x6_1 = some r) ∧ Aside0 (kq ≤ k) ∧ Aside0 (Kd.V (Kd.slice 4 Kd.bool) 23 w' w.heap.size (fun k_ => (P0_ k_ ∨ w.heap.size ≤ k_)) v0 x0_1) ∧ Aside0 (Below w.heap.size w w'))
  case atStart => exact ⟨(l0), (0), (0), (by first | rfl | (simp; done) | (simp [*]; done)), (by first | rfl | (simp; done) | (simp [*]; done)), H', ⟨Nat.le_refl _⟩, ⟨by (with_reducible repeat (first | apply Kd.V_alloc | apply Kd.V_drewN | apply Kd.V_drew)); exact HO0.out⟩, ⟨by repeat (first | (with_reducible first | exact HB.out | apply below_alloc | apply pw_below_drewN | apply below_drew1) | exact HB.out)⟩⟩
  case round =>
    clear H'
    try clear p2
    obtain ⟨x0_1, x5_1, x6_1, rfl, rfl, HA, HK1, HO_0, HB⟩ := hrel
    cases gk with
    | zero => exact absurd HA.out (by simp [geyserref03_Gauss.l0])
    | succ k1 =>
      have H := HA.out
      clear HA
      simp only [geyserref03_Gauss.l0] at H
      by_cases c3 : x6_1 < a1
      · rw [if_pos c3] at H
        have c3b0 : decide (x6_1 < a1) = true := decide_eq_true c3
        clear c3
        replace H := Option.bind_eq_some_iff.mp H
        obtain ⟨t335, A40, H⟩ := H
        replace H : (if t335 < 0 then (geyserref03_Gauss.l0 k1 x0_1 a1 x5_1 (wrap64 (x6_1 + 1))) else ((geyserref03_swap.f x0_1 x5_1 t335).bind fun t336 => ((geyserref03_clear.f k1 t336 x5_1 x6_1).bind fun t339 => (geyserref03_Gauss.l0 k1 t339 a1 (wrap64 (x5_1 + 1)) (wrap64 (x6_1 + 1)))))) = some r := H
        have A4 := Aside0.mk A40
        clear A40
        by_cases c5 : t335 < 0
        · rw [if_pos c5] at H
          have c5b0 : decide (t335 < 0) = true := decide_eq_true c5
          clear c5
          have H' := Aside0.mk H
          clear H
          obtain ⟨Ao6, co6, eo6⟩ := Kd.V_slice HO_0.out
          subst eo6
          go_wp2_with (first | ((with_reducible refine gate_callee (f := 49) rfl ?_); refine goesL_ (some 16) rfl rfl Tryd.func49 (by kernel_rfl) rfl #[.slice Ao6 x0_1.length co6, .int .i64 x5_1, .int .i64 x6_1] rfl (by (try simp only [List.map_toArray, List.map_cons, List.map_nil]); first | done | rfl | (simp only [List.length_drop, List.length_take]; rfl)) ?_; (with_reducible refine (geyserref03_pivot.calls k1 _ _ x0_1 x5_1 x6_1 t335 _ ?side1 ?side2 A4.out).mono ?_); (case side1 => repeat (first | exact (Kd.V_reads' HO_0.out).2.2 | (with_reducible refine Kd.C_alloc ?_ _) | (with_reducible refine Kd.C_drewN ?_ _) | (with_reducible refine Kd.C_drew ?_))); (case side2 => exact (Kd.V_reads' HO_0.out).2.1); rintro e w' ⟨rfl, ⟨nd, rfl⟩⟩; refine ⟨_, rfl, ?_⟩))
          go_roundg k1
          case measure => have := HK1.out; omega
          case rel => exact ⟨(x0_1), (x5_1), (wrap64 (x6_1 + 1)), (by first | rfl | (simp; done) | (simp [*]; done)), (by first | rfl | (simp; done) | (simp [*]; done)), H', ⟨by have := HK1.out; omega⟩, ⟨by (with_reducible repeat (first | apply Kd.V_alloc | apply Kd.V_drewN | apply Kd.V_drew)); exact HO_0.out⟩, ⟨by repeat (first | (with_reducible first | exact HB.out | apply below_alloc | apply pw_below_drewN | apply below_drew1) | exact HB.out)⟩⟩
        · rw [if_neg c5] at H
          have c5b0 : decide (t335 < 0) = false := decide_eq_false c5
          clear c5
          replace H := Option.bind_eq_some_iff.mp H
          obtain ⟨t336, A70, H⟩ := H
          replace H : ((geyserref03_clear.f k1 t336 x5_1 x6_1).bind fun t339 => (geyserref03_Gauss.l0 k1 t339 a1 (wrap64 (x5_1 + 1)) (wrap64 (x6_1 + 1)))) = some r := H
          have A7 := Aside0.mk A70
          clear A70
          replace H := Option.bind_eq_some_iff.mp H
          obtain ⟨t339, A80, H⟩ := H
          replace H : (geyserref03_Gauss.l0 k1 t339 a1 (wrap64 (x5_1 + 1)) (wrap64 (x6_1 + 1))) = some r := H
          have A8 := Aside0.mk A80
          clear A80
          have H' := Aside0.mk H
          clear H
          obtain ⟨Ao9, co9, eo9⟩ := Kd.V_slice HO_0.out
          subst eo9
          go_wp2_with (first | ((with_reducible refine gate_callee (f := 49) rfl ?_); refine goesL_ (some 16) rfl rfl Tryd.func49 (by kernel_rfl) rfl #[.slice Ao9 x0_1.length co9, .int .i64 x5_1, .int .i64 x6_1] rfl (by (try simp only [List.map_toArray, List.map_cons, List.map_nil]); first | done | rfl | (simp only [List.length_drop, List.length_take]; rfl)) ?_; (with_reducible refine (geyserref03_pivot.calls k1 _ _ x0_1 x5_1 x6_1 t335 _ ?side1 ?side2 A4.out).mono ?_); (case side1 => repeat (first | exact (Kd.V_reads' HO_0.out).2.2 | (with_reducible refine Kd.C_alloc ?_ _) | (with_reducible refine Kd.C_drewN ?_ _) | (with_reducible refine Kd.C_drew ?_))); (case side2 => exact (Kd.V_reads' HO_0.out).2.1); rintro e w' ⟨rfl, ⟨nd, rfl⟩⟩; refine ⟨_, rfl, ?_⟩) | ((with_reducible refine gate_callee (f := 51) rfl ?_); refine goesL_ (some 22) rfl rfl Tryd.func51 (by kernel_rfl) rfl #[.slice Ao9 x0_1.length co9, .int .i64 x5_1, .int .i64 t335] rfl (by (try simp only [List.map_toArray, List.map_cons, List.map_nil]); first | done | rfl | (simp only [List.length_drop, List.length_take]; rfl)) ?_; (with_reducible refine (geyserref03_swap.calls (fun k_ => (P0_ k_ ∨ w.heap.size ≤ k_)) _ _ x0_1 x5_1 t335 t336 _ ?side1 A7.out).mono ?_); (case side1 => exact HO_0.out); rintro e w10 ⟨v337, rfl, ho0, hb⟩; refine ⟨_, rfl, ?_⟩; have n0_ := Aside0.mk (Kd.V_elder' (by (with_reducible repeat (first | apply Kd.V_alloc | apply Kd.V_drewN | apply Kd.V_drew)); exact HO_0.out) (Kd.N_base ho0) hb); have n1_ := Aside0.mk (Kd.N_lower (Kd.N_mono (ok' := fun k_ => (P0_ k_ ∨ w.heap.size ≤ k_)) ho0 (fun k_ hk_ => Or.elim hk_ (fun hs_ => hs_) (fun hn_ => (.inr (Nat.le_trans (below_size (by repeat (first | (with_reducible first | exact HB.out | apply below_alloc | apply pw_below_drewN | apply below_drew1) | exact HB.out))) hn_))))) (below_size (by repeat (first | (with_reducible first | exact HB.out | apply below_alloc | apply pw_below_drewN | apply below_drew1) | exact HB.out)))); have n2_ := Aside0.mk (below_step (by repeat (first | (with_reducible first | exact HB.out | apply below_alloc | apply pw_below_drewN | apply below_drew1) | exact HB.out)) hb); clear HO_0; clear HB; have HO_0 := n0_; have HO338 := n1_; have HB := n2_; clear n0_ n1_ n2_; (try clear hb); (try clear hb2); (try clear hk); (try clear hi); (try clear ho0); obtain ⟨Ao11, co11, eo11⟩ := Kd.N_slice HO338.out; subst eo11) | ((with_reducible refine gate_callee (f := 50) rfl ?_); refine goesL_ (some 25) rfl rfl Tryd.func50 (by kernel_rfl) rfl #[.slice Ao11 t336.length co11, .int .i64 x5_1, .int .i64 x6_1] rfl (by (try simp only [List.map_toArray, List.map_cons, List.map_nil]); first | done | rfl | (simp only [List.length_drop, List.length_take]; rfl)) ?_; (with_reducible refine (geyserref03_clear.calls k1 (fun k_ => (P0_ k_ ∨ w.heap.size ≤ k_)) _ _ t336 x5_1 x6_1 t339 _ ?side1 A8.out).mono ?_); (case side1 => exact Kd.N_V (HO338.out)); rintro e w12 ⟨v340, rfl, ho0, hb⟩; refine ⟨_, rfl, ?_⟩; have n0_ := Aside0.mk (Kd.V_elder' (by (with_reducible repeat (first | apply Kd.V_alloc | apply Kd.V_drewN | apply Kd.V_drew)); exact HO_0.out) (Kd.N_base ho0) hb); have n1_ := Aside0.mk (Kd.N_elder' (by (with_reducible repeat (first | apply Kd.N_alloc | apply Kd.N_drewN | apply Kd.N_drew)); exact HO338.out) (Kd.N_base ho0) hb); have n2_ := Aside0.mk (Kd.N_lower (Kd.N_mono (ok' := fun k_ => (P0_ k_ ∨ w.heap.size ≤ k_)) ho0 (fun k_ hk_ => Or.elim hk_ (fun hs_ => hs_) (fun hn_ => (.inr (Nat.le_trans (below_size (by repeat (first | (with_reducible first | exact HB.out | apply below_alloc | apply pw_below_drewN | apply below_drew1) | exact HB.out))) hn_))))) (below_size (by repeat (first | (with_reducible first | exact HB.out | apply below_alloc | apply pw_below_drewN | apply below_drew1) | exact HB.out)))); have n3_ := Aside0.mk (below_step (by repeat (first | (with_reducible first | exact HB.out | apply below_alloc | apply pw_below_drewN | apply below_drew1) | exact HB.out)) hb); clear HO_0; clear HO338; clear HB; have HO_0 := n0_; have HO338 := n1_; have HO341 := n2_; have HB := n3_; clear n0_ n1_ n2_ n3_; (try clear hb); (try clear hb2); (try clear hk); (try clear hi); (try clear ho0)))
          go_roundg k1
          case measure => have := HK1.out; omega
          case rel => exact ⟨(t339), (wrap64 (x5_1 + 1)), (wrap64 (x6_1 + 1)), (by first | rfl | (simp; done) | (simp [*]; done)), (by first | rfl | (simp; done) | (simp [*]; done)), H', ⟨by have := HK1.out; omega⟩, ⟨Kd.N_V (by (with_reducible repeat (first | apply Kd.N_alloc | apply Kd.N_drewN | apply Kd.N_drew)); exact HO341.out)⟩, ⟨by repeat (first | (with_reducible first | exact HB.out | apply below_alloc | apply pw_below_drewN | apply below_drew1) | exact HB.out)⟩⟩
      · rw [if_neg c3] at H
        have c3b0 : decide (x6_1 < a1) = false := decide_eq_false c3
        clear c3
        by_cases c13 : 0 ≤ x5_1
        · rw [if_pos c13] at H
          have c13b0 := eq_true c13
          have c13b1 : decide (0 ≤ x5_1) = true := decide_eq_true c13
          clear c13
          by_cases c14 : x5_1 ≤ (x0_1.length : Int)
          · rw [if_pos c14] at H
            have c14b0 := eq_true c14
            have c14b1 : decide (x5_1 ≤ (x0_1.length : Int)) = true := decide_eq_true c14
            clear c14
            obtain ⟨y330, hy330⟩ : ∃ y_ : List (List Bool), y_ = (x0_1.take (x5_1 : Int).toNat) := ⟨_, rfl⟩
            replace H : (some y330) = some r := by first | (rw [hy330]; with_reducible exact H) | (have H2_ := (Option.bind_some _ _).symm.trans H; rw [hy330]; with_reducible exact H2_) | (have H2_ := (Option.bind_some _ _).symm.trans H; with_reducible exact H2_) | with_reducible exact H | (rw [hy330]; exact H) | exact H
            have Ny330 := Aside0.mk hy330
            clear hy330
            obtain rfl := Option.some.inj H
            obtain ⟨Ao16, co16, eo16⟩ := Kd.V_slice HO_0.out
            subst eo16
            have q15 : (x5_1 : Int) ≤ ((x0_1.length : Int) : Int) := of_decide_eq_true (by first | (with_reducible assumption) | assumption)
            obtain ⟨i015, hi015, _, hsz15, _⟩ := info_parts info23
            have hroom15 : x0_1.length ≤ co16 := (Kd.V_reads' HO_0.out).2.1
            have hC15 : Kd.F (Kd.slice 4 Kd.bool) _ _ Ao16 x0_1.length x0_1 := (Kd.V_at (base := w.heap.size) HO_0.out).2.2
            have hcut15 := cut_to (P := Tryd.prog) 65 23 .i64 Tryd.underlying65 hi015 Ao16 x0_1.length co16 x5_1 (of_decide_eq_true (by first | (with_reducible assumption) | assumption)) q15 hroom15
            have hr15 := Kd.F_take (m := (x5_1 : Int).toNat) hC15 (by omega)
            have hy15 : y330.length = (x5_1 : Int).toNat := (by rw [Ny330.out, List.length_take]; omega)
            rw [← Ny330.out] at hr15
            rw [← hy15] at hcut15
            have HO334 := Aside0.mk (show Kd.V (Kd.slice 4 Kd.bool) 23 _ w.heap.size _ (.slice Ao16 y330.length co16) y330 from Kd.V_mk (by omega) hr15)
            have HC334 := Aside0.mk (show y330.length ≤ co16 from by omega)
            clear hr15 hC15 hroom15 hi015 hsz15
            have KY15 := Aside0.mk hy15
            clear hy15
            replace q15 := eq_true q15
            go_wp2
            go_ret
            exact ⟨_, by first | rfl | (simp [errW_none, errW_some] <;> rfl) | (simp [*, errW_none, errW_some] <;> rfl), by (with_reducible repeat (first | apply Kd.V_alloc | apply Kd.V_drewN | apply Kd.V_drew)); exact HO334.out, by repeat (first | (with_reducible first | exact HB.out | apply below_alloc | apply pw_below_drewN | apply below_drew1) | exact HB.out)⟩
          · rw [if_neg c14] at H
            exact absurd H (by simp)
        · rw [if_neg c13] at H
          exact absurd H (by simp)

end Go.Proofs.YtgocibnmgfmceaaDoor.P

namespace Go.Proofs.YtgocibnmgfmceaaDoor.P
open Go.RowKit Go.Proofs.YtgocibnmgfmceaaDoorW.PrintWords Go.Proofs.YtgocibnmgfmceaaDoorW.PrintLast Go.Proofs.YtgocibnmgfmceaaDoorW.PrintErr Go.Proofs.YtgocibnmgfmceaaDoorW.PrintMore
attribute [local go_sem] max2_int min2_int max_two min_two max_three min_three max_four min_four run_eql_errOf run_neq_errOf eqGuard_errOf   -- for this text's walks alone
set_option linter.unusedVariables false
set_option linter.unusedSimpArgs false

/-! ### geyserref03_Truths: function 52 -/
def geyserref03_Truths.l0 : Nat → List Int → Int → List Bool → Int → Option (List Bool)
  | 0, _, _, _, _ => none
  | k + 1, x0, x1, x5, x6 => if x6 < x1 then ((geyserref02_Has.f x0 x6).bind fun t345 => (if 0 ≤ x6 then (if x6 < (x5.length : Int) then (geyserref03_Truths.l0 k x0 x1 (x5.set (x6 : Int).toNat t345) (wrap64 (x6 + 1))) else (none)) else (none))) else (some x5)
def geyserref03_Truths.f (k : Nat) (l0 : List Int) (a1 : Int) : Option (List Bool) := if 0 ≤ a1 then (if (a1 : Int).toNat ≤ 281474976710656 then (geyserref03_Truths.l0 k l0 a1 (List.replicate (a1 : Int).toNat false) 0) else (none)) else (none)
theorem geyserref03_Truths.mono_l : ∀ k, (∀ y0 y1 y2 y3, LeO (geyserref03_Truths.l0 k y0 y1 y2 y3) (geyserref03_Truths.l0 (k + 1) y0 y1 y2 y3))
  | 0 => fun _ _ _ _ r h => by simp [geyserref03_Truths.l0] at h
  | k + 1 => by
    have ih0 := geyserref03_Truths.mono_l k
    · intro y0 y1 y2 y3
      unfold geyserref03_Truths.l0
      repeat' first
      | (with_reducible exact ih0 _ _ _ _)
      | (with_reducible exact LeO.refl _)
      | (with_reducible exact LeO.none _)
      | (with_reducible refine LeO.ite ?_ ?_)
      | (with_reducible refine LeO.bind ?_ (fun _ => ?_))
      | exact ih0 _ _ _ _
      | exact LeO.none _
      | refine LeO.ite ?_ ?_
      | refine LeO.bind ?_ (fun _ => ?_)
theorem geyserref03_Truths.mono : ∀ a0 a1 k, LeO (geyserref03_Truths.f k a0 a1) (geyserref03_Truths.f (k + 1) a0 a1) := by
  intro a0 a1 k
  have ih0 := geyserref03_Truths.mono_l k
  unfold geyserref03_Truths.f
  repeat' first
      | (with_reducible exact ih0 _ _ _ _)
      | (with_reducible exact LeO.refl _)
      | (with_reducible exact LeO.none _)
      | (with_reducible refine LeO.ite ?_ ?_)
      | (with_reducible refine LeO.bind ?_ (fun _ => ?_))
      | exact ih0 _ _ _ _
      | exact LeO.none _
      | refine LeO.ite ?_ ?_
      | refine LeO.bind ?_ (fun _ => ?_)
set_option maxHeartbeats 8000000 in
set_option maxRecDepth 100000 in
theorem geyserref03_Truths.calls (k : Nat) (A0 : Option Addr) (c0 : Nat) (l0 : List Int) (a1 : Int) (r : List Bool) (w : World) (hr0 : Kd.C (Kd.int .u64) w A0 l0.length l0) (hc0 : l0.length ≤ c0) (h : geyserref03_Truths.f k l0 a1 = some r) :
    Calls Tryd.prog 52 #[.slice A0 l0.length c0, .int .i64 a1] w fun e w' => ∃ v0_ : Value, e = .returned (v0_) ∧ Kd.R Kd.bool 4 w' w.heap.size (fun _ => True) v0_ r ∧ Below w.heap.size w w' := by
  have HR0 := Aside0.mk hr0
  have HC0 := Aside0.mk hc0
  clear hr0 hc0
  have HB := Aside0.mk (Below.refl w.heap.size w)
  have H : (if 0 ≤ a1 then (if (a1 : Int).toNat ≤ 281474976710656 then (geyserref03_Truths.l0 k l0 a1 (List.replicate (a1 : Int).toNat false) 0) else (none)) else (none)) = some r := h
  clear h
  by_cases c3 : 0 ≤ a1
  · rw [if_pos c3] at H
    have c3b0 := eq_true c3
    have c3b1 : decide (0 ≤ a1) = true := decide_eq_true c3
    clear c3
    by_cases c4 : (a1 : Int).toNat ≤ 281474976710656
    · rw [if_pos c4] at H
      have c4b0 := eq_true c4
      have c4b1 : decide ((a1 : Int).toNat ≤ 281474976710656) = true := decide_eq_true c4
      clear c4
      obtain ⟨y342, hy342⟩ : ∃ y_ : List Bool, y_ = (List.replicate (a1 : Int).toNat false) := ⟨_, rfl⟩
      replace H : (geyserref03_Truths.l0 k l0 a1 y342 0) = some r := by first | (rw [hy342]; with_reducible exact H) | (have H2_ := (Option.bind_some _ _).symm.trans H; rw [hy342]; with_reducible exact H2_) | (have H2_ := (Option.bind_some _ _).symm.trans H; with_reducible exact H2_) | with_reducible exact H | (rw [hy342]; exact H) | exact H
      have Ny342 := Aside0.mk hy342
      clear hy342
      have H' := Aside0.mk H
      clear H
      go_enter Tryd.func52, Tryd.ntmps52
      go_wp2_with (first | ((with_reducible refine gate_dst (N := 8) rfl ?_); refine Kd.R_make Kd.bool _ 4 rfl (N := 8) rfl 23 _ _ rfl a1 rfl rfl Tryd.underlying23 (.bool false) 1 info4 rfl (by decide) (by omega) false (ok := fun _ => True) (okp := fun _ => True) rfl (fun _ hk => hk) trivial (of_decide_eq_true (by first | (with_reducible assumption) | assumption)) (Nat.le_trans (Nat.mul_le_mul_right _ (of_decide_eq_true (by first | (with_reducible assumption) | assumption) : a1.toNat ≤ 281474976710656)) (by omega)) (Below.refl _ _) (Nat.le_refl _) ?_; intro v343 w5 ho6 hb hg_ hnew_; clear hg_ hnew_; (first | rw [← Ny342.out] at ho6 | (simp only [Int.reduceToNat] at ho6; rw [← Ny342.out] at ho6)); have n0_ := Aside0.mk (Kd.R_lower ho6 (below_size (by repeat (first | (with_reducible first | exact HB.out | apply below_alloc | apply pw_below_drewN | apply below_drew1) | exact HB.out)))); have n1_ := Aside0.mk (below_step (by repeat (first | (with_reducible first | exact HB.out | apply below_alloc | apply pw_below_drewN | apply below_drew1) | exact HB.out)) hb); clear HB; have HO344 := n0_; have HB := n1_; clear n0_ n1_; clear hb ho6))
      go_loopg [6] k (fun kq v6 w' => ∃ (x5_1 : List Bool) (x6_1 : Int), v6 = .int .i64 x6_1 ∧ Aside0 (geyserref03_Truths.l0 kq l0 a1 x5_1 x6_1 = some r) ∧ Aside0 (kq ≤ k) ∧ Aside0 (Kd.R Kd.bool 4 w' w.heap.size (fun _ => True) v343 x5_1) ∧ Aside0 (Below w.heap.size w w'))
      case atStart => exact ⟨(y342), (0), (by first | rfl | (simp; done) | (simp [*]; done)), H', ⟨Nat.le_refl _⟩, ⟨by (with_reducible repeat (first | apply Kd.R_alloc | apply Kd.R_drewN | apply Kd.R_drew)); exact HO344.out⟩, ⟨by repeat (first | (with_reducible first | exact HB.out | apply below_alloc | apply pw_below_drewN | apply below_drew1) | exact HB.out)⟩⟩
      case round =>
        clear H'
        try clear p2
        try clear c3
        try clear c3b0
        try clear c3b1
        try clear c4
        try clear c4b0
        try clear c4b1
        try clear c5
        obtain ⟨x5_1, x6_1, rfl, HA, HK1, HO_5, HB⟩ := hrel
        cases gk with
        | zero => exact absurd HA.out (by simp [geyserref03_Truths.l0])
        | succ k1 =>
          have H := HA.out
          clear HA
          simp only [geyserref03_Truths.l0] at H
          by_cases c7 : x6_1 < a1
          · rw [if_pos c7] at H
            have c7b0 : decide (x6_1 < a1) = true := decide_eq_true c7
            clear c7
            replace H := Option.bind_eq_some_iff.mp H
            obtain ⟨t345, A80, H⟩ := H
            replace H : (if 0 ≤ x6_1 then (if x6_1 < (x5_1.length : Int) then (geyserref03_Truths.l0 k1 l0 a1 (x5_1.set (x6_1 : Int).toNat t345) (wrap64 (x6_1 + 1))) else (none)) else (none)) = some r := H
            have A8 := Aside0.mk A80
            clear A80
            by_cases c9 : 0 ≤ x6_1
            · rw [if_pos c9] at H
              have c9b0 : decide (0 ≤ x6_1) = true := decide_eq_true c9
              clear c9
              by_cases c10 : x6_1 < (x5_1.length : Int)
              · rw [if_pos c10] at H
                have c10b0 : decide (x6_1 < (x5_1.length : Int)) = true := decide_eq_true c10
                clear c10
                obtain ⟨y346, hy346⟩ : ∃ y_ : List Bool, y_ = (x5_1.set (x6_1 : Int).toNat t345) := ⟨_, rfl⟩
                replace H : (geyserref03_Truths.l0 k1 l0 a1 y346 (wrap64 (x6_1 + 1))) = some r := by first | (rw [hy346]; with_reducible exact H) | (have H2_ := (Option.bind_some _ _).symm.trans H; rw [hy346]; with_reducible exact H2_) | (have H2_ := (Option.bind_some _ _).symm.trans H; with_reducible exact H2_) | with_reducible exact H | (rw [hy346]; exact H) | exact H
                have Ny346 := Aside0.mk hy346
                clear hy346
                have H' := Aside0.mk H
                clear H
                go_wp2_with (first | ((with_reducible refine gate_callee (f := 36) rfl ?_); refine goesL_ (some 18) rfl rfl Tryd.func36 (by kernel_rfl) rfl #[.slice A0 l0.length c0, .int .i64 x6_1] rfl (by (try simp only [List.map_toArray, List.map_cons, List.map_nil]); first | done | rfl | (simp only [List.length_drop, List.length_take]; rfl)) ?_; (with_reducible refine (geyserref02_Has.calls _ _ l0 x6_1 t345 _ ?side1 ?side2 A8.out).mono ?_); (case side1 => repeat (first | exact (Kd.C_below HR0.out HB.out) | (with_reducible refine Kd.C_alloc ?_ _) | (with_reducible refine Kd.C_drewN ?_ _) | (with_reducible refine Kd.C_drew ?_))); (case side2 => exact HC0.out); rintro e w' ⟨rfl, ⟨nd, rfl⟩⟩; refine ⟨_, rfl, ?_⟩; (try (rw [drewN_self wr]; generalize hq_ : World.drewN wr _ = wr; have n0_ : Aside0 (Kd.R Kd.bool 4 wr w.heap.size (fun _ => True) v343 x5_1) := ⟨by rw [← hq_]; exact (by (with_reducible repeat (first | apply Kd.R_alloc | apply Kd.R_drewN | apply Kd.R_drew)); exact HO_5.out)⟩; have n1_ : Aside0 (Below w.heap.size w wr) := ⟨by rw [← hq_]; exact (by repeat (first | (with_reducible first | exact HB.out | apply below_alloc | apply pw_below_drewN | apply below_drew1) | exact HB.out))⟩; clear HO_5 HB hq_; have HO_5 := n0_; have HB := n1_; clear n0_ n1_)); have p11 : 0 ≤ (x6_1 : Int) := of_decide_eq_true (by first | (with_reducible assumption) | assumption); have q11 : (x6_1 : Int) < ((x5_1.length : Int) : Int) := of_decide_eq_true (by first | (with_reducible assumption) | assumption); obtain ⟨go11, co11, eo11, gb11, gl11, cl11, HG11⟩ := Kd.R_form HO_5.out (by omega); (first | cases eo11 | (injection eo11 with ea_ en_ ec_; (first | subst ea_ | (injection ea_ with ea_; subst ea_)); subst ec_; clear en_)); have GB11 := Aside0.mk gb11; have GG11 := Aside0.mk HG11; clear gb11 gl11 HG11; obtain ⟨hx11_0, hf11_0⟩ := Kd.R_celln false HO_5.out (x6_1 : Int) p11 q11; replace p11 := eq_true p11; replace q11 := eq_true q11; obtain ⟨hy12_, hz12_⟩ := Kd.R_celln false HO_5.out (x6_1 : Int) (of_decide_eq_true (by first | (with_reducible assumption) | assumption)) (of_decide_eq_true (by first | (with_reducible assumption) | assumption)); have HP12 := Kd.R_putg HO_5.out (x6_1 : Int) t345) | ((with_reducible refine gate_store (t := 4) (p := 19) rfl ?_); refine store_event (t := 4) (p := 19) (v := ?vo_w13) (w1 := (wr.setCell ⟨go11, (x6_1 : Int).toNat, none⟩ (.bool t345))) ?hg ?ho ?hn ?hr ?_; (case ho => rfl); (case hg => rfl); (case hn => rfl); (case hr => first | (go_simp; done) | (go_simp; rfl)); intro w13 hw; have hg : wr.grownBy w13 (some go11) := (by rw [hw]; exact HP12.2); have hp_ : Kd.R Kd.bool 4 w13 w.heap.size (fun _ => True) (.slice (some ⟨go11, 0, none⟩) x5_1.length co11) y346 := (by rw [hw, Ny346.out]; exact HP12.1); clear HP12; have n0_ := Aside0.mk (hp_); have n1_ := Aside0.mk ((by rw [hw]; exact below_set (HB.out) GB11.out : Below w.heap.size w w13)); clear HO_5; clear HB; have HO_5 := n0_; have HB := n1_; clear n0_ n1_; clear hg hw hp_))
                go_roundg k1
                case measure => have := HK1.out; omega
                case rel => exact ⟨(y346), (wrap64 (x6_1 + 1)), (by first | rfl | (simp; done) | (simp [*]; done)), H', ⟨by have := HK1.out; omega⟩, ⟨by (with_reducible repeat (first | apply Kd.R_alloc | apply Kd.R_drewN | apply Kd.R_drew)); exact HO_5.out⟩, ⟨by repeat (first | (with_reducible first | exact HB.out | apply below_alloc | apply pw_below_drewN | apply below_drew1) | exact HB.out)⟩⟩
              · rw [if_neg c10] at H
                exact absurd H (by simp)
            · rw [if_neg c9] at H
              exact absurd H (by simp)
          · rw [if_neg c7] at H
            have c7b0 : decide (x6_1 < a1) = false := decide_eq_false c7
            clear c7
            obtain rfl := Option.some.inj H
            go_wp2
            go_ret
            exact ⟨_, by first | rfl | (simp [errW_none, errW_some] <;> rfl) | (simp [*, errW_none, errW_some] <;> rfl), by (with_reducible repeat (first | apply Kd.R_alloc | apply Kd.R_drewN | apply Kd.R_drew)); exact HO_5.out, by repeat (first | (with_reducible first | exact HB.out | apply below_alloc | apply pw_below_drewN | apply below_drew1) | exact HB.out)⟩
    · rw [if_neg c4] at H
      exact absurd H (by simp)
  · rw [if_neg c3] at H
    exact absurd H (by simp)

end Go.Proofs.YtgocibnmgfmceaaDoor.P

namespace Go.Proofs.YtgocibnmgfmceaaDoor.P
open Go.RowKit Go.Proofs.YtgocibnmgfmceaaDoorW.PrintWords Go.Proofs.YtgocibnmgfmceaaDoorW.PrintLast Go.Proofs.YtgocibnmgfmceaaDoorW.PrintErr Go.Proofs.YtgocibnmgfmceaaDoorW.PrintMore
attribute [local go_sem] max2_int min2_int max_two min_two max_three min_three max_four min_four run_eql_errOf run_neq_errOf eqGuard_errOf   -- for this text's walks alone
set_option linter.unusedVariables false
set_option linter.unusedSimpArgs false

/-! ### geyserref03_All: function 35 -/
def geyserref03_All.l0 : Nat → List (List Int) → Int → List (List Bool) → Int → Option ((List (List Bool)))
  | 0, _, _, _, _ => none
  | k + 1, x0, x1, x5, x6 => if x6 < (x0.length : Int) then (if 0 ≤ x6 then ((geyserref03_Truths.f k (rd_Lsu64 x0 x6) x1).bind fun t351 => (if x5.length < 5864062014805 then (geyserref03_All.l0 k x0 x1 (x5 ++ [t351]) (wrap64 (x6 + 1))) else (none))) else (none)) else (some x5)
def geyserref03_All.f (k : Nat) (l0 : List (List Int)) (a1 : Int) : Option ((List (List Bool))) := geyserref03_All.l0 k l0 a1 (([] : List (List Bool))) 0
theorem geyserref03_All.mono_l : ∀ k, (∀ y0 y1 y2 y3, LeO (geyserref03_All.l0 k y0 y1 y2 y3) (geyserref03_All.l0 (k + 1) y0 y1 y2 y3))
  | 0 => fun _ _ _ _ r h => by simp [geyserref03_All.l0] at h
  | k + 1 => by
    have ih0 := geyserref03_All.mono_l k
    · intro y0 y1 y2 y3
      unfold geyserref03_All.l0
      repeat' first
      | (with_reducible exact ih0 _ _ _ _)
      | (with_reducible exact geyserref03_Truths.mono _ _ _)
      | (with_reducible exact LeO.refl _)
      | (with_reducible exact LeO.none _)
      | (with_reducible refine LeO.ite ?_ ?_)
      | (with_reducible refine LeO.bind ?_ (fun _ => ?_))
      | exact ih0 _ _ _ _
      | exact geyserref03_Truths.mono _ _ _
      | exact LeO.none _
      | refine LeO.ite ?_ ?_
      | refine LeO.bind ?_ (fun _ => ?_)
theorem geyserref03_All.mono : ∀ a0 a1 k, LeO (geyserref03_All.f k a0 a1) (geyserref03_All.f (k + 1) a0 a1) := by
  intro a0 a1 k
  have ih0 := geyserref03_All.mono_l k
  unfold geyserref03_All.f
  repeat' first
      | (with_reducible exact ih0 _ _ _ _)
      | (with_reducible exact geyserref03_Truths.mono _ _ _)
      | (with_reducible exact LeO.refl _)
      | (with_reducible exact LeO.none _)
      | (with_reducible refine LeO.ite ?_ ?_)
      | (with_reducible refine LeO.bind ?_ (fun _ => ?_))
      | exact ih0 _ _ _ _
      | exact geyserref03_Truths.mono _ _ _
      | exact LeO.none _
      | refine LeO.ite ?_ ?_
      | refine LeO.bind ?_ (fun _ => ?_)
set_option maxHeartbeats 8000000 in
set_option maxRecDepth 100000 in
theorem geyserref03_All.calls (k : Nat) (A0 : Option Addr) (c0 : Nat) (l0 : List (List Int)) (a1 : Int) (r : List (List Bool)) (w : World) (hr0 : Kd.C (Kd.slice 29 (Kd.int .u64)) w A0 l0.length l0) (hc0 : l0.length ≤ c0) (h : geyserref03_All.f k l0 a1 = some r) :
    Calls Tryd.prog 35 #[.slice A0 l0.length c0, .int .i64 a1] w fun e w' => ∃ v0_ : Value, e = .returned (v0_) ∧ Kd.S (Kd.slice 4 Kd.bool) 23 w' w.heap.size (fun _ => True) v0_ r ∧ Below w.heap.size w w' := by
  have HR0 := Aside0.mk hr0
  have HC0 := Aside0.mk hc0
  clear hr0 hc0
  have HB := Aside0.mk (Below.refl w.heap.size w)
  have H : (geyserref03_All.l0 k l0 a1 (([] : List (List Bool))) 0) = some r := h
  clear h
  obtain ⟨y347, hy347⟩ : ∃ y_ : List (List Bool), y_ = (([] : List (List Bool))) := ⟨_, rfl⟩
  replace H : (geyserref03_All.l0 k l0 a1 y347 0) = some r := by first | (rw [hy347]; with_reducible exact H) | (have H2_ := (Option.bind_some _ _).symm.trans H; rw [hy347]; with_reducible exact H2_) | (have H2_ := (Option.bind_some _ _).symm.trans H; with_reducible exact H2_) | with_reducible exact H | (rw [hy347]; exact H) | exact H
  have Ny347 := Aside0.mk hy347
  clear hy347
  have H' := Aside0.mk H
  clear H
  go_enter Tryd.func35, Tryd.ntmps35
  go_wp2_with (first | ((with_reducible refine gate_dst (N := 7) rfl ?_); refine Kd.S_lit (Kd.slice 4 Kd.bool) _ 23 ?hg (N := 7) ?hd (xs := ([] : List (List Bool))) (inner := []) (ok := fun _ => True) (okp := fun _ => True) ?hr ?hp (fun _ hk => hk) trivial (Below.refl _ _) (Nat.le_refl _) (by simp) ?_; (case hd => rfl); (case hg => rfl); (case hr => first | (go_simp; done) | (go_simp; rfl)); (case hp => exact (Reps.none _ _)); intro v348 w3 ho4 hb hg_ hnew_; clear hg_ hnew_; (first | rw [← Ny347.out] at ho4 | (simp only [Int.reduceToNat] at ho4; rw [← Ny347.out] at ho4)); have n0_ := Aside0.mk (Kd.S_lower ho4 (below_size (by repeat (first | (with_reducible first | exact HB.out | apply below_alloc | apply pw_below_drewN | apply below_drew1) | exact HB.out)))); have n1_ := Aside0.mk (below_step (by repeat (first | (with_reducible first | exact HB.out | apply below_alloc | apply pw_below_drewN | apply below_drew1) | exact HB.out)) hb); clear HB; have HO349 := n0_; have HB := n1_; clear n0_ n1_; clear hb ho4))
  go_loopg [5, 6] k (fun kq v5 v6 w' => ∃ (x5_1 : List (List Bool)) (x6_1 : Int), v6 = .int .i64 x6_1 ∧ Aside0 (geyserref03_All.l0 kq l0 a1 x5_1 x6_1 = some r) ∧ Aside0 (kq ≤ k) ∧ Aside0 (Kd.S (Kd.slice 4 Kd.bool) 23 w' w.heap.size (fun _ => True) v5 x5_1) ∧ Aside0 (Below w.heap.size w w'))
  case atStart => exact ⟨(y347), (0), (by first | rfl | (simp; done) | (simp [*]; done)), H', ⟨Nat.le_refl _⟩, ⟨by (with_reducible repeat (first | apply Kd.S_alloc | apply Kd.S_drewN | apply Kd.S_drew)); exact HO349.out⟩, ⟨by repeat (first | (with_reducible first | exact HB.out | apply below_alloc | apply pw_below_drewN | apply below_drew1) | exact HB.out)⟩⟩
  case round =>
    clear H'
    try clear p2
    try clear c3
    obtain ⟨x5_1, x6_1, rfl, HA, HK1, HO_5, HB⟩ := hrel
    cases gk with
    | zero => exact absurd HA.out (by simp [geyserref03_All.l0])
    | succ k1 =>
      have H := HA.out
      clear HA
      simp only [geyserref03_All.l0] at H
      by_cases c5 : x6_1 < (l0.length : Int)
      · rw [if_pos c5] at H
        have c5b0 : decide (x6_1 < (l0.length : Int)) = true := decide_eq_true c5
        clear c5
        by_cases c6 : 0 ≤ x6_1
        · rw [if_pos c6] at H
          have c6b0 : decide (0 ≤ x6_1) = true := decide_eq_true c6
          clear c6
          replace H := Option.bind_eq_some_iff.mp H
          obtain ⟨t351, A70, H⟩ := H
          replace H : (if x5_1.length < 5864062014805 then (geyserref03_All.l0 k1 l0 a1 (x5_1 ++ [t351]) (wrap64 (x6_1 + 1))) else (none)) = some r := H
          have A7 := Aside0.mk A70
          clear A70
          by_cases c8 : x5_1.length < 5864062014805
          · rw [if_pos c8] at H
            have LMc8 := Aside0.mk c8
            clear c8
            obtain ⟨y354, hy354⟩ : ∃ y_ : List (List Bool), y_ = (x5_1 ++ [t351]) := ⟨_, rfl⟩
            replace H : (geyserref03_All.l0 k1 l0 a1 y354 (wrap64 (x6_1 + 1))) = some r := by first | (rw [hy354]; with_reducible exact H) | (have H2_ := (Option.bind_some _ _).symm.trans H; rw [hy354]; with_reducible exact H2_) | (have H2_ := (Option.bind_some _ _).symm.trans H; with_reducible exact H2_) | with_reducible exact H | (rw [hy354]; exact H) | exact H
            have Ny354 := Aside0.mk hy354
            clear hy354
            have H' := Aside0.mk H
            clear H
            have p350 : 0 ≤ (x6_1 : Int) := of_decide_eq_true (by first | (with_reducible assumption) | assumption)
            have q350 : x6_1 < (l0.length : Int) := of_decide_eq_true (by first | (with_reducible assumption) | assumption)
            obtain ⟨ad350, A350_0, c350_0, e350, hx350_0, hl350_0, hi350_0⟩ := at_Lsu64 HR0.out x6_1 p350 q350
            cases e350
            (first | replace hx350_0 := (HB.out.cell (World.block_lt_of_cell? w _ hx350_0)).trans hx350_0 | skip)
            have HR350_0 := Aside0.mk hi350_0
            have HC350_0 := Aside0.mk hl350_0
            clear hi350_0 hl350_0
            replace p350 := eq_true p350
            replace q350 := eq_true q350
            go_wp2_with (first | ((with_reducible refine gate_callee (f := 52) rfl ?_); refine goesL_ (some 20) rfl rfl Tryd.func52 (by kernel_rfl) rfl #[.slice A350_0 (rd_Lsu64 l0 x6_1).length c350_0, .int .i64 a1] rfl (by (try simp only [List.map_toArray, List.map_cons, List.map_nil]); first | done | rfl | (simp only [List.length_drop, List.length_take]; rfl)) ?_; (with_reducible refine (geyserref03_Truths.calls k1 _ _ (rd_Lsu64 l0 x6_1) a1 t351 _ ?side1 ?side2 A7.out).mono ?_); (case side1 => repeat (first | exact (Kd.C_below HR350_0.out HB.out) | (with_reducible refine Kd.C_alloc ?_ _) | (with_reducible refine Kd.C_drewN ?_ _) | (with_reducible refine Kd.C_drew ?_))); (case side2 => exact HC350_0.out); rintro e w9 ⟨v352, rfl, ho0, hb⟩; refine ⟨_, rfl, ?_⟩; have n0_ := Aside0.mk (Kd.S_elder' (by (with_reducible repeat (first | apply Kd.S_alloc | apply Kd.S_drewN | apply Kd.S_drew)); exact HO_5.out) (Kd.R_base ho0) hb); have n1_ := Aside0.mk (Kd.R_lower ho0 (below_size (by repeat (first | (with_reducible first | exact HB.out | apply below_alloc | apply pw_below_drewN | apply below_drew1) | exact HB.out)))); have n2_ := Aside0.mk (below_step (by repeat (first | (with_reducible first | exact HB.out | apply below_alloc | apply pw_below_drewN | apply below_drew1) | exact HB.out)) hb); clear HO_5; clear HB; have HO_5 := n0_; have HO353 := n1_; have HB := n2_; clear n0_ n1_ n2_; (try clear hb); (try clear hb2); (try clear hk); (try clear hi); (try clear ho0); obtain ⟨Ao11, co11, eo11⟩ := Kd.R_slice HO353.out; subst eo11) | ((with_reducible refine gate_builtin (b := .append) (xs := #[.tmp 14, .tmp 21]) rfl ?_); at_builtin; refine Kd.S_append (Kd.slice 4 Kd.bool) (w0 := w) w.heap.size rfl (.tmp 14) (.tmp 21) 65 23 (.slice none 0 0) 24 rfl Tryd.underlying65 info23 rfl (by decide) (by omega) u5 x5_1 t351 [.slice Ao11 t351.length co11] (fun _ => True) (fun k_ => some k_ = (.slice Ao11 t351.length co11 : Value).ownBlock) rfl rfl ?aP (fun k_ hk_ => ((Kd.R_mono (ok' := fun k_ => ((fun _ => True)) k_ ∧ some k_ ≠ (u5 : Value).ownBlock) (Kd.R_apart' (HO353.out) (Kd.S_typed HO_5.out) (by decide)) (fun k_ hk => ⟨trivial, hk.2⟩))).1 k_ hk_.symm) ?aF ?aO ?aB ?aS ?aL ?_; (case aP => exact Kd.M_row (Kd.R_mono (Kd.R_tight rfl (Kd.R_mono (ok' := fun k_ => ((fun _ => True)) k_ ∧ some k_ ≠ (u5 : Value).ownBlock) (Kd.R_apart' (HO353.out) (Kd.S_typed HO_5.out) (by decide)) (fun k_ hk => ⟨trivial, hk.2⟩))) (fun _ h_ => h_))); (case aB => exact (by repeat (first | (with_reducible first | exact HB.out | apply below_alloc | apply pw_below_drewN | apply below_drew1) | exact HB.out))); (case aF => exact (fun _ _ => trivial)); (case aO => exact (by (with_reducible repeat (first | apply Kd.S_alloc | apply Kd.S_drewN | apply Kd.S_drew)); exact Kd.S_mono HO_5.out (fun k_ hk => ⟨trivial, fun e_ => hk.2 e_⟩))); (case aS => exact (below_size (by repeat (first | (with_reducible first | exact HB.out | apply below_alloc | apply pw_below_drewN | apply below_drew1) | exact HB.out)))); (case aL => have := LMc8.out; omega); intro v355 w10 ho hb hg hat; rw [← Ny354.out] at ho; have n0_ := Aside0.mk (hb); have n1_ := Aside0.mk (ho); clear HB; clear HO_5; clear HO353; have HB := n0_; have HO356 := n1_; clear n0_ n1_; clear ho hb hg hat))
            go_roundg k1
            case measure => have := HK1.out; omega
            case rel => exact ⟨(y354), (wrap64 (x6_1 + 1)), (by first | rfl | (simp; done) | (simp [*]; done)), H', ⟨by have := HK1.out; omega⟩, ⟨by (with_reducible repeat (first | apply Kd.S_alloc | apply Kd.S_drewN | apply Kd.S_drew)); exact HO356.out⟩, ⟨by repeat (first | (with_reducible first | exact HB.out | apply below_alloc | apply pw_below_drewN | apply below_drew1) | exact HB.out)⟩⟩
          · rw [if_neg c8] at H
            exact absurd H (by simp)
        · rw [if_neg c6] at H
          exact absurd H (by simp)
      · rw [if_neg c5] at H
        have c5b0 : decide (x6_1 < (l0.length : Int)) = false := decide_eq_false c5
        clear c5
        obtain rfl := Option.some.inj H
        go_wp2
        go_ret
        exact ⟨_, by first | rfl | (simp [errW_none, errW_some] <;> rfl) | (simp [*, errW_none, errW_some] <;> rfl), by (with_reducible repeat (first | apply Kd.S_alloc | apply Kd.S_drewN | apply Kd.S_drew)); exact HO_5.out, by repeat (first | (with_reducible first | exact HB.out | apply below_alloc | apply pw_below_drewN | apply below_drew1) | exact HB.out)⟩

end Go.Proofs.YtgocibnmgfmceaaDoor.P

namespace Go.Proofs.YtgocibnmgfmceaaDoor.P
open Go.RowKit Go.Proofs.YtgocibnmgfmceaaDoorW.PrintWords Go.Proofs.YtgocibnmgfmceaaDoorW.PrintLast Go.Proofs.YtgocibnmgfmceaaDoorW.PrintErr Go.Proofs.YtgocibnmgfmceaaDoorW.PrintMore
attribute [local go_sem] max2_int min2_int max_two min_two max_three min_three max_four min_four run_eql_errOf run_neq_errOf eqGuard_errOf   -- for this text's walks alone
set_option linter.unusedVariables false
set_option linter.unusedSimpArgs false

/-! ### geyserref03_Rank: function 19 -/
def geyserref03_Rank.f (k : Nat) (l0 : List (List Int)) (a1 : Int) : Option (Int) := (geyserref03_All.f k l0 a1).bind fun t357 => ((geyserref03_Gauss.f k t357 a1).bind fun t360 => (some (t360.length : Int)))
theorem geyserref03_Rank.mono : ∀ a0 a1 k, LeO (geyserref03_Rank.f k a0 a1) (geyserref03_Rank.f (k + 1) a0 a1) := by
  intro a0 a1 k
  unfold geyserref03_Rank.f
  repeat' first
      | (with_reducible exact geyserref03_All.mono _ _ _)
      | (with_reducible exact geyserref03_Gauss.mono _ _ _)
      | (with_reducible exact LeO.refl _)
      | (with_reducible exact LeO.none _)
      | (with_reducible refine LeO.ite ?_ ?_)
      | (with_reducible refine LeO.bind ?_ (fun _ => ?_))
      | exact geyserref03_All.mono _ _ _
      | exact geyserref03_Gauss.mono _ _ _
      | exact LeO.none _
      | refine LeO.ite ?_ ?_
      | refine LeO.bind ?_ (fun _ => ?_)
set_option maxHeartbeats 8000000 in
set_option maxRecDepth 100000 in
theorem geyserref03_Rank.calls (k : Nat) (A0 : Option Addr) (c0 : Nat) (l0 : List (List Int)) (a1 : Int) (r : Int) (w : World) (hr0 : Kd.C (Kd.slice 29 (Kd.int .u64)) w A0 l0.length l0) (hc0 : l0.length ≤ c0) (h : geyserref03_Rank.f k l0 a1 = some r) :
    Calls Tryd.prog 19 #[.slice A0 l0.length c0, .int .i64 a1] w fun e w' => e = .returned (.int .i64 r) ∧ Below w.heap.size w w' := by
  have HR0 := Aside0.mk hr0
  have HC0 := Aside0.mk hc0
  clear hr0 hc0
  have HB := Aside0.mk (Below.refl w.heap.size w)
  have H : ((geyserref03_All.f k l0 a1).bind fun t357 => ((geyserref03_Gauss.f k t357 a1).bind fun t360 => (some (t360.length : Int)))) = some r := h
  clear h
  replace H := Option.bind_eq_some_iff.mp H
  obtain ⟨t357, A30, H⟩ := H
  replace H : ((geyserref03_Gauss.f k t357 a1).bind fun t360 => (some (t360.length : Int))) = some r := H
  have A3 := Aside0.mk A30
  clear A30
  replace H := Option.bind_eq_some_iff.mp H
  obtain ⟨t360, A40, H⟩ := H
  replace H : (some (t360.length : Int)) = some r := H
  have A4 := Aside0.mk A40
  clear A40
  obtain rfl := Option.some.inj H
  go_enter Tryd.func19, Tryd.ntmps19
  go_wp2_with (first | ((with_reducible refine gate_callee (f := 35) rfl ?_); refine goesL_ (some 7) rfl rfl Tryd.func35 (by kernel_rfl) rfl #[.slice A0 l0.length c0, .int .i64 a1] rfl (by (try simp only [List.map_toArray, List.map_cons, List.map_nil]); first | done | rfl | (simp only [List.length_drop, List.length_take]; rfl)) ?_; (with_reducible refine (geyserref03_All.calls k _ _ l0 a1 t357 _ ?side1 ?side2 A3.out).mono ?_); (case side1 => repeat (first | exact HR0.out | (with_reducible refine Kd.C_alloc ?_ _) | (with_reducible refine Kd.C_drewN ?_ _) | (with_reducible refine Kd.C_drew ?_))); (case side2 => exact HC0.out); rintro e w5 ⟨v358, rfl, ho0, hb⟩; refine ⟨_, rfl, ?_⟩; have n0_ := Aside0.mk (Kd.S_lower ho0 (below_size (by repeat (first | (with_reducible first | exact HB.out | apply below_alloc | apply pw_below_drewN | apply below_drew1) | exact HB.out)))); have n1_ := Aside0.mk (below_step (by repeat (first | (with_reducible first | exact HB.out | apply below_alloc | apply pw_below_drewN | apply below_drew1) | exact HB.out)) hb); clear HB; have HO359 := n0_; have HB := n1_; clear n0_ n1_; (try clear hb); (try clear hb2); (try clear hk); (try clear hi); (try clear ho0); obtain ⟨Ao6, co6, eo6⟩ := Kd.S_slice HO359.out; subst eo6) | ((with_reducible refine gate_callee (f := 34) rfl ?_); refine goesL_ (some 9) rfl rfl Tryd.func34 (by kernel_rfl) rfl #[.slice Ao6 t357.length co6, .int .i64 a1] rfl (by (try simp only [List.map_toArray, List.map_cons, List.map_nil]); first | done | rfl | (simp only [List.length_drop, List.length_take]; rfl)) ?_; (with_reducible refine (geyserref03_Gauss.calls k (fun k_ => True) _ _ t357 a1 t360 _ ?side1 A4.out).mono ?_); (case side1 => exact Kd.S_V (HO359.out)); rintro e w7 ⟨v361, rfl, ho0, hb⟩; refine ⟨_, rfl, ?_⟩; have n0_ := Aside0.mk (Kd.S_below (by (with_reducible repeat (first | apply Kd.S_alloc | apply Kd.S_drewN | apply Kd.S_drew)); exact HO359.out) hb); have n1_ := Aside0.mk (Kd.V_lower (Kd.V_mono (ok' := fun k_ => True) ho0 (fun k_ hk_ => trivial)) (below_size (by repeat (first | (with_reducible first | exact HB.out | apply below_alloc | apply pw_below_drewN | apply below_drew1) | exact HB.out)))); have n2_ := Aside0.mk (below_step (by repeat (first | (with_reducible first | exact HB.out | apply below_alloc | apply pw_below_drewN | apply below_drew1) | exact HB.out)) hb); clear HO359; clear HB; have HO359 := n0_; have HO362 := n1_; have HB := n2_; clear n0_ n1_ n2_; (try clear hb); (try clear hb2); (try clear hk); (try clear hi); (try clear ho0); obtain ⟨Ao8, co8, eo8⟩ := Kd.V_slice HO362.out; subst eo8))
  go_ret
  exact ⟨by first | rfl | (simp [errW_none, errW_some] <;> rfl) | (simp [*, errW_none, errW_some] <;> rfl), by repeat (first | (with_reducible first | exact HB.out | apply below_alloc | apply pw_below_drewN | apply below_drew1) | exact HB.out)⟩

end Go.Proofs.YtgocibnmgfmceaaDoor.P

namespace Go.Proofs.YtgocibnmgfmceaaDoor.Pure
open Go.RowKit Go.Proofs.YtgocibnmgfmceaaDoor.P Go.Proofs.YtgocibnmgfmceaaDoorW.PrintWords Go.Proofs.YtgocibnmgfmceaaDoorW.PrintLast Go.Proofs.YtgocibnmgfmceaaDoorW.PrintErr Go.Proofs.YtgocibnmgfmceaaDoorW.PrintMore Go.Proofs.YtgocibnmgfmceaaDoor.Lin
set_option linter.unusedVariables false
set_option linter.unusedSimpArgs false
def bv (t : List Bool) : V := fun c => t.getD c false
def tr (row : List Int) (n : Nat) : List Bool := (List.range' 0 n).map (hasB row)
theorem rdB_mid (A B : List Bool) (b : Bool) : rdOf false (A ++ b :: B) (A.length : Int) = b := by
  unfold rdOf
  rw [Int.toNat_natCast, List.getD_eq_getElem?_getD, List.getElem?_append_right (Nat.le_refl _)]
  simp
theorem setB_mid (A B : List Bool) (b c : Bool) : (A ++ b :: B).set A.length c = A ++ c :: B := by
  rw [List.set_append_right _ _ (Nat.le_refl _), Nat.sub_self]; rfl
theorem truths_l0 (row : List Int) (hl : ∀ x ∈ row, U64 x) (hn : row.length ≤ 1000000) (n : Nat) (hN : n ≤ 1000000) : ∀ (d c : Nat) (A : List Bool), c + d = n → A.length = c →
    Ev (fun k => geyserref03_Truths.l0 k row (n : Int) (A ++ List.replicate d false) (c : Int)) (A ++ (List.range' c d).map (hasB row)) := by
  intro d
  induction d with
  | zero =>
    intro c A hc hA
    refine Ev.step (f := fun _ => some (A ++ [])) (fun k => ?_) (Ev.now _)
    rw [geyserref03_Truths.l0, if_neg (by omega)]
    rfl
  | succ d ih =>
    intro c A hc hA
    have h' := ih (c + 1) (A ++ [hasB row c]) (by omega) (by simp [hA])
    have e1 : A ++ [hasB row c] ++ (List.range' (c + 1) d).map (hasB row) = A ++ (List.range' c (d + 1)).map (hasB row) := by rw [List.range'_succ]; simp
    have e2 : ((c + 1 : Nat) : Int) = wrap64 ((c : Int) + 1) := by rw [w64s (by omega) (by omega)]; rfl
    have e3 : A ++ [hasB row c] ++ List.replicate d false = A ++ hasB row c :: List.replicate d false := by simp
    rw [e1, e2, e3] at h'
    refine Ev.step (fun k => ?_) h'
    have e4 : (A ++ List.replicate (d + 1) false).length = n := by simp; omega
    rw [geyserref03_Truths.l0, if_pos (by omega), refhas_nat row hl hn c]
    simp only [Option.bind_some]
    rw [if_pos (by omega), if_pos (by omega), Int.toNat_natCast, ← hA, List.replicate_succ, setB_mid]
theorem truths_ev (row : List Int) (n : Nat) (hl : ∀ x ∈ row, U64 x) (hn : row.length ≤ 1000000) (hN : n ≤ 1000000) : Ev (fun k => geyserref03_Truths.f k row (n : Int)) (tr row n) := by
  unfold geyserref03_Truths.f
  have h := truths_l0 row hl hn n hN n 0 [] (by omega) rfl
  refine Ev.congr (fun k => ?_) h
  rw [if_pos (by omega), if_pos (by omega), Int.toNat_natCast]
  rfl
theorem tr_len (row : List Int) (n : Nat) : (tr row n).length = n := by simp [tr]
theorem bv_tr (row : List Int) (n : Nat) (h : ∀ c : Nat, n ≤ c → hasB row c = false) : bv (tr row n) = hasB row := by
  funext c
  unfold bv tr
  by_cases hc : c < n
  · rw [List.getD_eq_getElem?_getD, List.getElem?_eq_getElem (by simpa using hc), Option.getD_some, List.getElem_map, List.getElem_range']
    simp
  · rw [List.getD_eq_getElem?_getD, List.getElem?_eq_none (by simpa using hc), h c (by omega)]
    rfl
theorem all_l0 (n : Nat) (hN : n ≤ 1000000) (S : List (List Int)) : ∀ (P : List (List Int)) (acc : List (List Bool)), (P ++ S).length ≤ 1000000 → acc.length = P.length → (∀ r ∈ S, r.length ≤ 1000000 ∧ ∀ x ∈ r, U64 x) →
    Ev (fun k => geyserref03_All.l0 k (P ++ S) (n : Int) acc (P.length : Int)) (acc ++ S.map (tr · n)) := by
  induction S with
  | nil =>
    intro P acc hP _ _
    have e : acc ++ ([] : List (List Int)).map (tr · n) = acc := by simp
    rw [e]
    refine Ev.step (f := fun _ => some acc) (fun k => ?_) (Ev.now _)
    rw [geyserref03_All.l0, if_neg (by simp)]
  | cons s S ih =>
    intro P acc hP ha hS
    have hl : (P ++ s :: S).length = P.length + (S.length + 1) := by simp
    have h' := ih (P ++ [s]) (acc ++ [tr s n]) (by simpa using hP) (by simp [ha]) (fun r hr => hS r (by simp [hr]))
    have e1 : P ++ [s] ++ S = P ++ s :: S := by simp
    have e2 : ((P ++ [s]).length : Int) = wrap64 ((P.length : Int) + 1) := by rw [w64s (by omega) (by omega)]; simp
    have e3 : acc ++ [tr s n] ++ S.map (tr · n) = acc ++ (s :: S).map (tr · n) := by simp
    rw [e1, e2, e3] at h'
    refine Ev.step (f := fun k => (geyserref03_Truths.f k s (n : Int)).bind fun t351 => (if acc.length < 5864062014805 then (geyserref03_All.l0 k (P ++ s :: S) (n : Int) (acc ++ [t351]) (wrap64 ((P.length : Int) + 1))) else (none))) (fun k => ?_) (Ev.bind (truths_ev s n (hS s (by simp)).2 (hS s (by simp)).1 hN) ?_)
    · rw [geyserref03_All.l0, if_pos (by omega), if_pos (by omega), rd_rowW]
    · refine Ev.congr (fun k => ?_) h'
      rw [if_pos (by omega)]
theorem all_ev (n : Nat) (hN : n ≤ 1000000) (rows : List (List Int)) (hn : rows.length ≤ 1000000) (h : ∀ r ∈ rows, r.length ≤ 1000000 ∧ ∀ x ∈ r, U64 x) : Ev (fun k => geyserref03_All.f k rows (n : Int)) (rows.map (tr · n)) := by
  have := all_l0 n hN rows [] [] (by simpa using hn) rfl h
  exact this
/-! ### sum, pivot, swap, clear -/
def sumT (a b : List Bool) : List Bool := List.zipWith (· != ·) a b
theorem sumT_len {a b : List Bool} {n : Nat} (ha : a.length = n) (hb : b.length = n) : (sumT a b).length = n := by unfold sumT; rw [List.length_zipWith, ha, hb, Nat.min_self]
theorem bv_sum {a b : List Bool} (h : a.length = b.length) : bv (sumT a b) = vx (bv a) (bv b) := by
  funext c
  unfold bv sumT Lin.vx
  by_cases hc : c < a.length
  · simp only [List.getD_eq_getElem?_getD, List.getElem?_zipWith]
    rw [List.getElem?_eq_getElem hc, List.getElem?_eq_getElem (by omega)]
    rfl
  · simp only [List.getD_eq_getElem?_getD, List.getElem?_zipWith]
    rw [List.getElem?_eq_none (by omega), List.getElem?_eq_none (by omega)]
    rfl
theorem tsum_l0 (S : List Bool) : ∀ (P Q T X Y : List Bool), P.length = Q.length → X.length = P.length → T.length = S.length → Y.length = S.length → (P ++ S).length < 9223372036854775807 →
    Ev (fun k => geyserref03_sum.l0 k (P ++ S) (Q ++ T) (X ++ Y) (P.length : Int)) (X ++ sumT S T) := by
  induction S with
  | nil =>
    intro P Q T X Y hPQ hX hT hY hP
    obtain rfl : T = [] := List.eq_nil_of_length_eq_zero (by simpa using hT)
    obtain rfl : Y = [] := List.eq_nil_of_length_eq_zero (by simpa using hY)
    refine Ev.step (f := fun _ => some (X ++ [])) (fun k => ?_) (Ev.now _)
    rw [geyserref03_sum.l0, if_neg (by simp)]
  | cons s S ih =>
    intro P Q T X Y hPQ hX hT hY hP
    obtain ⟨t, T, rfl⟩ : ∃ t T', T = t :: T' := by cases T with | nil => simp at hT | cons t T => exact ⟨t, T, rfl⟩
    obtain ⟨y, Y, rfl⟩ : ∃ t T', Y = t :: T' := by cases Y with | nil => simp at hY | cons t T => exact ⟨t, T, rfl⟩
    have h1 : (P ++ s :: S).length = P.length + (S.length + 1) := by simp
    have h2 : (Q ++ t :: T).length = P.length + (S.length + 1) := by simp at hT ⊢; omega
    have h3 : (X ++ y :: Y).length = P.length + (S.length + 1) := by simp at hY ⊢; omega
    have h' := ih (P ++ [s]) (Q ++ [t]) T (X ++ [s != t]) Y (by simp [hPQ]) (by simp [hX]) (by simpa using hT) (by simpa using hY) (by simpa using hP)
    have e1 : P ++ [s] ++ S = P ++ s :: S := by simp
    have e2 : Q ++ [t] ++ T = Q ++ t :: T := by simp
    have e3 : X ++ [s != t] ++ Y = X ++ (s != t) :: Y := by simp
    have e4 : X ++ [s != t] ++ sumT S T = X ++ sumT (s :: S) (t :: T) := by simp [sumT]
    have e5 : ((P ++ [s]).length : Int) = wrap64 ((P.length : Int) + 1) := by rw [w64s (by omega) (by omega)]; simp
    rw [e1, e2, e3, e4, e5] at h'
    refine Ev.step (fun k => ?_) h'
    have r1 : rdOf false (P ++ s :: S) (P.length : Int) = s := rdB_mid P S s
    have r2 : rdOf false (Q ++ t :: T) (P.length : Int) = t := by rw [hPQ]; exact rdB_mid Q T t
    have r3 : (X ++ y :: Y).set (P.length : Int).toNat (s != t) = X ++ (s != t) :: Y := by rw [Int.toNat_natCast, ← hX, setB_mid]
    rw [geyserref03_sum.l0, if_pos (by omega), if_pos (by omega), if_pos (by omega), if_pos (by omega), r1, r2, r3]
theorem tsum_ev (a b : List Bool) (h : a.length = b.length) (ha : a.length ≤ 1000000) : Ev (fun k => geyserref03_sum.f k a b) (sumT a b) := by
  unfold geyserref03_sum.f
  have hx := tsum_l0 a [] [] b [] (List.replicate a.length false) rfl rfl h.symm (by simp) (by simp; omega)
  refine Ev.congr (fun k => ?_) hx
  rw [if_pos (by omega), if_pos (by omega), Int.toNat_natCast]
  rfl
/-- A row of rows. -/
def gr (R : List (List Bool)) (i : Nat) : List Bool := R.getD i []
theorem gr_mem {R : List (List Bool)} {i : Nat} (h : i < R.length) : gr R i ∈ R := by
  unfold gr
  rw [List.getD_eq_getElem?_getD, List.getElem?_eq_getElem h]
  exact List.getElem_mem h
theorem mem_gr {R : List (List Bool)} {x : List Bool} (h : x ∈ R) : ∃ i, i < R.length ∧ gr R i = x := by
  obtain ⟨i, hi, rfl⟩ := List.mem_iff_getElem.1 h
  refine ⟨i, hi, ?_⟩
  unfold gr
  rw [List.getD_eq_getElem?_getD, List.getElem?_eq_getElem hi]
  rfl
theorem rd_gr (R : List (List Bool)) (i : Nat) : rd_Lsbool R (i : Int) = gr R i := by unfold rd_Lsbool gr; rw [Int.toNat_natCast]
theorem rdOf_bv (t : List Bool) (c : Nat) : rdOf false t (c : Int) = bv t c := by unfold rdOf bv; rw [Int.toNat_natCast]
theorem pivot_ev (R : List (List Bool)) (n c : Nat) (hc : c < n) (hR : ∀ x ∈ R, x.length = n) (hm : R.length ≤ 1000000) : ∀ d i : Nat, i + d = R.length →
    ∃ r : Int, Ev (fun k => geyserref03_pivot.l0 k R (c : Int) (i : Int)) r ∧ ((r = -1 ∧ ∀ j, i ≤ j → j < R.length → bv (gr R j) c = false) ∨ ∃ j : Nat, r = j ∧ i ≤ j ∧ j < R.length ∧ bv (gr R j) c = true) := by
  intro d
  induction d with
  | zero =>
    intro i hi
    refine ⟨-1, ?_, .inl ⟨rfl, fun j h1 h2 => by omega⟩⟩
    refine Ev.step (f := fun _ => some (-1)) (fun k => ?_) (Ev.now _)
    rw [geyserref03_pivot.l0, if_neg (by omega)]
  | succ d ih =>
    intro i hi
    have hlen : (gr R i).length = n := hR _ (gr_mem (by omega))
    by_cases hb : bv (gr R i) c = true
    · refine ⟨(i : Int), ?_, .inr ⟨i, rfl, Nat.le_refl _, by omega, hb⟩⟩
      refine Ev.step (f := fun _ => some (i : Int)) (fun k => ?_) (Ev.now _)
      rw [geyserref03_pivot.l0, if_pos (by omega), if_pos (by omega), if_pos (by omega), rd_gr, if_pos (by omega), rdOf_bv, if_pos hb]
    · obtain ⟨r, hr, h⟩ := ih (i + 1) (by omega)
      have e2 : ((i + 1 : Nat) : Int) = wrap64 ((i : Int) + 1) := by rw [w64s (by omega) (by omega)]; rfl
      rw [e2] at hr
      refine ⟨r, ?_, ?_⟩
      · refine Ev.step (fun k => ?_) hr
        rw [geyserref03_pivot.l0, if_pos (by omega), if_pos (by omega), if_pos (by omega), rd_gr, if_pos (by omega), rdOf_bv, if_neg hb]
      · rcases h with ⟨e, h⟩ | ⟨j, e, h1, h2, h3⟩
        · refine .inl ⟨e, fun j h1 h2 => ?_⟩
          by_cases hj : j = i
          · subst hj; simpa using hb
          · exact h j (by omega) h2
        · exact .inr ⟨j, e, by omega, h2, h3⟩
def swapL (R : List (List Bool)) (a b : Nat) : List (List Bool) := (R.set a (gr R b)).set b (gr R a)
theorem swap_eq (R : List (List Bool)) (a b : Nat) (ha : a < R.length) (hb : b < R.length) (hm : R.length ≤ 1000000) : geyserref03_swap.f R (a : Int) (b : Int) = some (swapL R a b) := by
  unfold geyserref03_swap.f
  simp only [Option.bind_some, List.nil_append, List.length_nil, Nat.zero_add]
  rw [if_pos (by omega), if_pos (by omega), if_pos (by omega), if_pos (by omega), if_pos (by omega), if_pos (by omega), if_pos (by omega), rd_gr, rd_gr, Int.toNat_natCast, Int.toNat_natCast]
  rfl
theorem swapL_len (R : List (List Bool)) (a b : Nat) : (swapL R a b).length = R.length := by simp [swapL]
def sg (a b k : Nat) : Nat := if k = b then a else if k = a then b else k
theorem swapL_gr (R : List (List Bool)) (a b : Nat) (ha : a < R.length) (hb : b < R.length) (k : Nat) (hk : k < R.length) : gr (swapL R a b) k = gr R (sg a b k) := by
  unfold swapL sg
  show ((R.set a (gr R b)).set b (gr R a)).getD k [] = _
  rw [List.getD_eq_getElem?_getD, List.getElem?_set]
  by_cases h1 : b = k
  · subst h1
    rw [if_pos rfl, if_pos (by simpa using hb), if_pos rfl]
    rfl
  · rw [if_neg h1, if_neg (fun h => h1 h.symm), List.getElem?_set]
    by_cases h2 : a = k
    · subst h2
      rw [if_pos rfl, if_pos ha, if_pos rfl]
      rfl
    · rw [if_neg h2, if_neg (fun h => h2 h.symm)]
      unfold gr
      rw [List.getD_eq_getElem?_getD]
def clr (R : List (List Bool)) (a c k : Nat) : List Bool := if k = a then gr R k else if bv (gr R k) c = true then sumT (gr R k) (gr R a) else gr R k
def clearL (R : List (List Bool)) (a c : Nat) : List (List Bool) := (List.range' 0 R.length).map (clr R a c)
theorem clear_l0 (R : List (List Bool)) (n a c : Nat) (ha : a < R.length) (hc : c < n) (hR : ∀ x ∈ R, x.length = n) (hn : n ≤ 1000000) (hm : R.length ≤ 1000000) : ∀ (d i : Nat) (acc : List (List Bool)), i + d = R.length → acc.length = i →
    Ev (fun k => geyserref03_clear.l0 k R (a : Int) (c : Int) acc (i : Int)) (acc ++ (List.range' i d).map (clr R a c)) := by
  intro d
  induction d with
  | zero =>
    intro i acc hi hacc
    refine Ev.step (f := fun _ => some (acc ++ [])) (fun k => ?_) (Ev.now _)
    rw [geyserref03_clear.l0, if_neg (by omega), List.append_nil]
  | succ d ih =>
    intro i acc hi hacc
    have h' := ih (i + 1) (acc ++ [clr R a c i]) (by omega) (by simp [hacc])
    have e1 : acc ++ [clr R a c i] ++ (List.range' (i + 1) d).map (clr R a c) = acc ++ (List.range' i (d + 1)).map (clr R a c) := by rw [List.range'_succ]; simp
    have e2 : ((i + 1 : Nat) : Int) = wrap64 ((i : Int) + 1) := by rw [w64s (by omega) (by omega)]; rfl
    rw [e1, e2] at h'
    have hlen : (gr R i).length = n := hR _ (gr_mem (by omega))
    have hlena : (gr R a).length = n := hR _ (gr_mem ha)
    by_cases h1 : i = a
    · have ec : clr R a c i = gr R i := if_pos h1
      rw [ec] at h'
      refine Ev.step (fun k => ?_) h'
      rw [geyserref03_clear.l0, if_pos (by omega), if_pos (by omega), if_pos (by omega), if_pos (by omega), rd_gr]
    · by_cases hb : bv (gr R i) c = true
      · have ec : clr R a c i = sumT (gr R i) (gr R a) := by unfold clr; rw [if_neg h1, if_pos hb]
        rw [ec] at h'
        refine Ev.step (f := fun k => (geyserref03_sum.f k (gr R i) (gr R a)).bind fun t310 => (if acc.length < 5864062014805 then (geyserref03_clear.l0 k R (a : Int) (c : Int) (acc ++ [t310]) (wrap64 ((i : Int) + 1))) else (none))) (fun k => ?_) (Ev.bind (tsum_ev _ _ (by omega) (by omega)) ?_)
        · rw [geyserref03_clear.l0, if_pos (by omega), if_neg (by omega), if_pos (by omega), if_pos (by omega), rd_gr, if_pos (by omega), rdOf_bv, if_pos hb, if_pos (by omega), if_pos (by omega), rd_gr]
        · refine Ev.congr (fun k => ?_) h'
          rw [if_pos (by omega)]
      · have ec : clr R a c i = gr R i := by unfold clr; rw [if_neg h1, if_neg hb]
        rw [ec] at h'
        refine Ev.step (fun k => ?_) h'
        rw [geyserref03_clear.l0, if_pos (by omega), if_neg (by omega), if_pos (by omega), if_pos (by omega), rd_gr, if_pos (by omega), rdOf_bv, if_neg hb, if_pos (by omega)]
theorem clear_ev (R : List (List Bool)) (n a c : Nat) (ha : a < R.length) (hc : c < n) (hR : ∀ x ∈ R, x.length = n) (hn : n ≤ 1000000) (hm : R.length ≤ 1000000) : Ev (fun k => geyserref03_clear.f k R (a : Int) (c : Int)) (clearL R a c) := by
  have := clear_l0 R n a c ha hc hR hn hm R.length 0 [] (by omega) rfl
  exact this
theorem clearL_len (R : List (List Bool)) (a c : Nat) : (clearL R a c).length = R.length := by simp [clearL]
theorem clearL_gr (R : List (List Bool)) (a c k : Nat) (hk : k < R.length) : gr (clearL R a c) k = clr R a c k := by
  show (clearL R a c).getD k [] = _
  rw [List.getD_eq_getElem?_getD, List.getElem?_eq_getElem (by rw [clearL_len]; exact hk), Option.getD_some]
  unfold clearL
  rw [List.getElem_map, List.getElem_range']
  simp
/-! ### Gauss -/
structure GInv (n m : Nat) (R0 R : List (List Bool)) (done c : Nat) (p : Nat → Nat) : Prop where
  len : R.length = m
  le : done ≤ m
  rows : ∀ x ∈ R, x.length = n
  piv : ∀ j, j < done → bv (gr R j) (p j) = true ∧ ∀ i, i < m → i ≠ j → bv (gr R i) (p j) = false
  low : ∀ i, done ≤ i → i < m → ∀ e, e < c → bv (gr R i) e = false
  tos : ∀ x ∈ R, Sp (R0.map bv) (bv x)
  ofs : ∀ x ∈ R0, Sp (R.map bv) (bv x)
theorem GInv.skip {n m : Nat} {R0 R : List (List Bool)} {done c : Nat} {p : Nat → Nat} (h : GInv n m R0 R done c p) (hz : ∀ j, done ≤ j → j < m → bv (gr R j) c = false) : GInv n m R0 R done (c + 1) p :=
  ⟨h.len, h.le, h.rows, h.piv, fun i h1 h2 e he => by
    by_cases c1 : e = c
    · subst c1; exact hz i h1 h2
    · exact h.low i h1 h2 e (by omega), h.tos, h.ofs⟩
theorem bv_vx {a b : List Bool} {n : Nat} (ha : a.length = n) (hb : b.length = n) (e : Nat) : bv (sumT a b) e = (bv a e != bv b e) := by
  rw [bv_sum (by omega)]; rfl
theorem GInv.take {n m : Nat} {R0 R : List (List Bool)} {done c : Nat} {p : Nat → Nat} (h : GInv n m R0 R done c p) (i : Nat) (hi1 : done ≤ i) (hi2 : i < m) (hb : bv (gr R i) c = true) :
    GInv n m R0 (clearL (swapL R done i) done c) (done + 1) (c + 1) (fun j => if j = done then c else p j) := by
  have hlenR := h.len
  have l1 : (swapL R done i).length = m := by rw [swapL_len]; exact h.len
  have hd : done < m := by omega
  have g1 : ∀ k, k < m → gr (swapL R done i) k = gr R (sg done i k) := fun k hk => swapL_gr R done i (by omega) (by omega) k (by omega)
  have sg_lt : ∀ k, k < m → sg done i k < m := by intro k hk; unfold sg; split; omega; split <;> omega
  have sg_hi : ∀ k, done ≤ k → done ≤ sg done i k := by intro k hk; unfold sg; split; omega; split <;> omega
  have sg_lo : ∀ k, k < done → sg done i k = k := by intro k hk; unfold sg; rw [if_neg (by omega), if_neg (by omega)]
  have sg_done : sg done i done = i := by unfold sg; split; omega; rw [if_pos rfl]
  have sg_ne : ∀ j k, j < done → k ≠ j → sg done i k ≠ j := by
    intro j k hj hk
    by_cases hk2 : k < done
    · rw [sg_lo k hk2]; exact hk
    · have := sg_hi k (by omega); omega
  have r1len : ∀ k, k < m → (gr (swapL R done i) k).length = n := fun k hk => by rw [g1 k hk]; exact h.rows _ (gr_mem (by rw [h.len]; exact sg_lt k hk))
  have gd : gr (swapL R done i) done = gr R i := by rw [g1 done hd, sg_done]
  have g2 : ∀ k, k < m → gr (clearL (swapL R done i) done c) k = clr (swapL R done i) done c k := fun k hk => clearL_gr _ _ _ _ (by omega)
  -- columns of what comes out
  have hcol : ∀ k, k < m → k ≠ done → ∀ e, bv (gr (clearL (swapL R done i) done c) k) e = if bv (gr (swapL R done i) k) c = true then (bv (gr (swapL R done i) k) e != bv (gr R i) e) else bv (gr (swapL R done i) k) e := by
    intro k hk hne e
    rw [g2 k hk]
    unfold clr
    rw [if_neg hne]
    split
    · rw [bv_vx (r1len k hk) (r1len done hd), gd]
    · rfl
  have hdone : gr (clearL (swapL R done i) done c) done = gr R i := by rw [g2 done hd]; unfold clr; rw [if_pos rfl, gd]
  have spk : ∀ k, k < m → Sp ((clearL (swapL R done i) done c).map bv) (bv (gr (swapL R done i) k)) := by
    have sd : Sp ((clearL (swapL R done i) done c).map bv) (bv (gr R i)) := by
      rw [← hdone]
      exact Sp.mem (List.mem_map.2 ⟨_, gr_mem (by rw [clearL_len]; omega), rfl⟩)
    intro k hk
    have sk : Sp ((clearL (swapL R done i) done c).map bv) (bv (gr (clearL (swapL R done i) done c) k)) := Sp.mem (List.mem_map.2 ⟨_, gr_mem (by rw [clearL_len]; omega), rfl⟩)
    by_cases hkd : k = done
    · subst hkd; rw [gd]; exact sd
    · rw [g2 k hk] at sk
      unfold clr at sk
      rw [if_neg hkd] at sk
      split at sk
      · rw [bv_sum (by rw [r1len k hk, r1len done hd]), gd] at sk
        have := sk.vx sd
        rwa [vx_cancel] at this
      · exact sk
  refine ⟨by rw [clearL_len, l1], by omega, ?_, ?_, ?_, ?_, ?_⟩
  · intro x hx
    obtain ⟨k, hk, rfl⟩ := mem_gr hx
    rw [clearL_len, l1] at hk
    rw [g2 k hk]
    unfold clr
    split
    · exact r1len k hk
    · split
      · exact sumT_len (r1len k hk) (r1len done hd)
      · exact r1len k hk
  · intro j hj
    by_cases hjd : j = done
    · subst hjd
      rw [if_pos rfl, hdone]
      refine ⟨hb, fun k hk hne => ?_⟩
      rw [hcol k hk hne c]
      by_cases hbit : bv (gr (swapL R j i) k) c = true
      · rw [if_pos hbit, hbit, hb]; rfl
      · rw [if_neg hbit]; simpa using hbit
    · rw [if_neg hjd]
      obtain ⟨p1, p2⟩ := h.piv j (by omega)
      have hz : bv (gr R i) (p j) = false := p2 i hi2 (by omega)
      refine ⟨?_, fun k hk hne => ?_⟩
      · rw [hcol j (by omega) hjd, g1 j (by omega), sg_lo j (by omega), p1, hz]
        split <;> rfl
      · by_cases hkd : k = done
        · subst hkd; rw [hdone]; exact hz
        · have hzk : bv (gr (swapL R done i) k) (p j) = false := by rw [g1 k hk]; exact p2 _ (sg_lt k hk) (sg_ne j k (by omega) hne)
          rw [hcol k hk hkd, hzk, hz]
          split <;> rfl
  · intro k hk1 hk2 e he
    by_cases hec : e = c
    · subst hec
      rw [hcol k hk2 (by omega) e]
      by_cases hbit : bv (gr (swapL R done i) k) e = true
      · rw [if_pos hbit, hbit, hb]; rfl
      · rw [if_neg hbit]; simpa using hbit
    · have z1 : bv (gr (swapL R done i) k) e = false := by rw [g1 k hk2]; exact h.low _ (sg_hi k (by omega)) (sg_lt k hk2) e (by omega)
      have z2 : bv (gr R i) e = false := h.low i hi1 hi2 e (by omega)
      rw [hcol k hk2 (by omega) e, z1, z2]
      split <;> rfl
  · intro x hx
    obtain ⟨k, hk, rfl⟩ := mem_gr hx
    rw [clearL_len, l1] at hk
    have s1 : ∀ k, k < m → Sp (R0.map bv) (bv (gr (swapL R done i) k)) := fun k hk => by rw [g1 k hk]; exact h.tos _ (gr_mem (by rw [h.len]; exact sg_lt k hk))
    rw [g2 k hk]
    unfold clr
    split
    · exact s1 k hk
    · split
      · rw [bv_sum (by rw [r1len k hk, r1len done hd])]; exact (s1 k hk).vx (s1 done hd)
      · exact s1 k hk
  · intro x hx
    refine (h.ofs x hx).trans fun u hu => ?_
    obtain ⟨y, hy, rfl⟩ := List.mem_map.1 hu
    obtain ⟨k, hk, rfl⟩ := mem_gr hy
    rw [h.len] at hk
    have hs := spk (sg done i k) (sg_lt k hk)
    rw [g1 _ (sg_lt k hk)] at hs
    have inv : sg done i (sg done i k) = k := by
      unfold sg
      by_cases a1 : k = i
      · rw [if_pos a1]
        by_cases a2 : done = i
        · rw [if_pos a2]; omega
        · rw [if_neg a2, if_pos rfl]; omega
      · rw [if_neg a1]
        by_cases a2 : k = done
        · rw [if_pos a2, if_pos rfl]; omega
        · rw [if_neg a2, if_neg a1, if_neg a2]
    rwa [inv] at hs
theorem ind_cols : ∀ L : List V, (∀ j, ∀ h : j < L.length, ∃ c, L[j] c = true ∧ ∀ i, ∀ hi : i < L.length, i ≠ j → L[i] c = false) → Ind L
  | [], _ => trivial
  | v :: L, h => by
    refine ⟨fun hs => ?_, ind_cols L fun j hj => ?_⟩
    · obtain ⟨c, h1, h2⟩ := h 0 (by simp)
      have h3 : v c = true := h1
      have h4 := Sp.col (c := c) (fun u hu => by
        obtain ⟨i, hi, rfl⟩ := List.mem_iff_getElem.1 hu
        exact h2 (i + 1) (by simp; omega) (by omega)) hs
      rw [h3] at h4
      cases h4
    · obtain ⟨c, h1, h2⟩ := h (j + 1) (by simp; omega)
      exact ⟨c, h1, fun i hi hne => h2 (i + 1) (by simp; omega) (by omega)⟩
theorem GInv.rk {n m : Nat} {R0 R : List (List Bool)} {done : Nat} {p : Nat → Nat} (h : GInv n m R0 R done n p) : Rk (R0.map bv) done := by
  have hlenR := h.len
  have hle := h.le
  have hlen : ((R.take done).map bv).length = done := by rw [List.length_map, List.length_take]; omega
  have hget : ∀ j, ∀ hj : j < ((R.take done).map bv).length, ((R.take done).map bv)[j] = bv (gr R j) := by
    intro j hj
    rw [List.getElem_map, List.getElem_take]
    unfold gr
    rw [List.getD_eq_getElem?_getD, List.getElem?_eq_getElem (by omega)]
    rfl
  refine ⟨(R.take done).map bv, ind_cols _ fun j hj => ⟨p j, ?_, fun i hi hne => ?_⟩, hlen, fun b hb => ?_, fun x hx => ?_⟩
  · rw [hget j hj]; exact (h.piv j (by omega)).1
  · rw [hget i hi]; exact (h.piv j (by omega)).2 i (by omega) hne
  · obtain ⟨y, hy, rfl⟩ := List.mem_map.1 hb
    exact h.tos y (List.mem_of_mem_take hy)
  · obtain ⟨y, hy, rfl⟩ := List.mem_map.1 hx
    refine (h.ofs y hy).trans fun u hu => ?_
    obtain ⟨z, hz, rfl⟩ := List.mem_map.1 hu
    obtain ⟨k, hk, rfl⟩ := mem_gr hz
    by_cases hkd : k < done
    · have := List.getElem_mem (l := (R.take done).map bv) (n := k) (by omega)
      rw [hget k (by omega)] at this
      exact Sp.mem this
    · have hz0 : bv (gr R k) = v0 := by
        funext e
        by_cases he : e < n
        · exact h.low k (by omega) (by omega) e he
        · have hl := h.rows _ (gr_mem hk)
          unfold bv
          rw [List.getD_eq_getElem?_getD, List.getElem?_eq_none (by omega)]
          rfl
      rw [hz0]; exact Sp.zero
theorem gauss_l0 (n m : Nat) (hn : n ≤ 1000000) (hm : m ≤ 1000000) (R0 : List (List Bool)) : ∀ (d c : Nat) (R : List (List Bool)) (done : Nat) (p : Nat → Nat), c + d = n → GInv n m R0 R done c p →
    ∃ R' done' p', Ev (fun k => geyserref03_Gauss.l0 k R (n : Int) (done : Int) (c : Int)) (R'.take done') ∧ GInv n m R0 R' done' n p' := by
  intro d
  induction d with
  | zero =>
    intro c R done p hc h
    obtain rfl : c = n := by omega
    have hlenR := h.len
    have hle := h.le
    refine ⟨R, done, p, ?_, h⟩
    refine Ev.step (f := fun _ => some (R.take done)) (fun k => ?_) (Ev.now _)
    rw [geyserref03_Gauss.l0, if_neg (by omega), if_pos (by omega), if_pos (by omega), Int.toNat_natCast]
  | succ d ih =>
    intro c R done p hc h
    have hlenR := h.len
    have hle := h.le
    have e2 : ((c + 1 : Nat) : Int) = wrap64 ((c : Int) + 1) := by rw [w64s (by omega) (by omega)]; rfl
    obtain ⟨r, hr, hcase⟩ := pivot_ev R n c (by omega) h.rows (by omega) (R.length - done) done (by omega)
    have hr' : Ev (fun k => geyserref03_pivot.f k R (done : Int) (c : Int)) r := hr
    rcases hcase with ⟨rfl, hz⟩ | ⟨i, rfl, h1, h2, h3⟩
    · obtain ⟨R', done', p', hev, hI⟩ := ih (c + 1) R done p (by omega) (h.skip (fun j a b => hz j a (by omega)))
      rw [e2] at hev
      refine ⟨R', done', p', ?_, hI⟩
      refine Ev.step (f := fun k => (geyserref03_pivot.f k R (done : Int) (c : Int)).bind fun t335 => (if t335 < 0 then (geyserref03_Gauss.l0 k R (n : Int) (done : Int) (wrap64 ((c : Int) + 1))) else ((geyserref03_swap.f R (done : Int) t335).bind fun t336 => ((geyserref03_clear.f k t336 (done : Int) (c : Int)).bind fun t339 => (geyserref03_Gauss.l0 k t339 (n : Int) (wrap64 ((done : Int) + 1)) (wrap64 ((c : Int) + 1))))))) (fun k => ?_) (Ev.bind hr' ?_)
      · rw [geyserref03_Gauss.l0, if_pos (by omega)]
      · refine Ev.congr (fun k => ?_) hev
        rw [if_pos (by decide)]
    · have hI1 := h.take i h1 (by omega) h3
      obtain ⟨R', done', p', hev, hI⟩ := ih (c + 1) _ (done + 1) _ (by omega) hI1
      have e3 : ((done + 1 : Nat) : Int) = wrap64 ((done : Int) + 1) := by rw [w64s (by omega) (by omega)]; rfl
      rw [e2, e3] at hev
      have l1 : (swapL R done i).length = m := by rw [swapL_len]; exact h.len
      have hrows1 : ∀ x ∈ swapL R done i, x.length = n := by
        intro x hx
        obtain ⟨k, hk, rfl⟩ := mem_gr hx
        rw [swapL_gr R done i (by omega) (by omega) k (by omega)]
        refine h.rows _ (gr_mem ?_)
        unfold sg; split; omega; split <;> omega
      have hclr := clear_ev (swapL R done i) n done c (by omega) (by omega) hrows1 hn (by omega)
      refine ⟨R', done', p', ?_, hI⟩
      refine Ev.step (f := fun k => (geyserref03_pivot.f k R (done : Int) (c : Int)).bind fun t335 => (if t335 < 0 then (geyserref03_Gauss.l0 k R (n : Int) (done : Int) (wrap64 ((c : Int) + 1))) else ((geyserref03_swap.f R (done : Int) t335).bind fun t336 => ((geyserref03_clear.f k t336 (done : Int) (c : Int)).bind fun t339 => (geyserref03_Gauss.l0 k t339 (n : Int) (wrap64 ((done : Int) + 1)) (wrap64 ((c : Int) + 1))))))) (fun k => ?_) (Ev.bind hr' ?_)
      · rw [geyserref03_Gauss.l0, if_pos (by omega)]
      · refine Ev.congr (fun k => ?_) (Ev.bind (f := fun k t339 => geyserref03_Gauss.l0 k t339 (n : Int) (wrap64 ((done : Int) + 1)) (wrap64 ((c : Int) + 1))) hclr hev)
        rw [if_neg (by omega), swap_eq R done i (by omega) (by omega) (by omega)]
        rfl
/-! ### Rank -/
/-- Rows that are a matrix of n columns. -/
def Mat (rows : List (List Int)) (n : Nat) : Prop := rows.length ≤ 1000000 ∧ n ≤ 4096 ∧ ∀ r ∈ rows, wokB r n = true ∧ ∀ x ∈ r, U64 x
theorem Mat.row {rows : List (List Int)} {n : Nat} (h : Mat rows n) : ∀ r ∈ rows, r.length = nW n ∧ (∀ a ∈ r, U64 a) ∧ ∀ c : Nat, n ≤ c → hasB r c = false := by
  intro r hr
  obtain ⟨h1, h2⟩ := h.2.2 r hr
  obtain ⟨h3, h4⟩ := (wokB_iff r n (by omega)).1 h1
  exact ⟨h3, h2, fun c hc => h4 c (by omega)⟩
theorem nW_le {n : Nat} (h : n ≤ 4096) : nW (n : Int) ≤ 64 := by unfold nW; rw [Int.toNat_natCast]; omega
theorem gauss_ev (R0 : List (List Bool)) (n : Nat) (hn : n ≤ 1000000) (hm : R0.length ≤ 1000000) (hR : ∀ x ∈ R0, x.length = n) : ∃ R' done' p', Ev (fun k => geyserref03_Gauss.f k R0 (n : Int)) (R'.take done') ∧ GInv n R0.length R0 R' done' n p' := by
  have h0 : GInv n R0.length R0 R0 0 0 (fun _ => 0) := ⟨rfl, Nat.zero_le _, hR, fun j hj => by omega, fun i _ _ e he => by omega, fun x hx => Sp.mem (List.mem_map.2 ⟨x, hx, rfl⟩), fun x hx => Sp.mem (List.mem_map.2 ⟨x, hx, rfl⟩)⟩
  exact gauss_l0 n R0.length hn hm R0 n 0 R0 0 (fun _ => 0) (by omega) h0
theorem rank_ev (rows : List (List Int)) (n : Nat) (h : Mat rows n) : Ev (fun k => geyserref03_Rank.f k rows (n : Int)) ((byOf [] rows).length : Int) := by
  obtain ⟨h1, h2, h3⟩ := h
  have hw := nW_le h2
  have hrow := Mat.row ⟨h1, h2, h3⟩
  have hall := all_ev n (by omega) rows h1 (fun r hr => ⟨by have := (hrow r hr).1; omega, (hrow r hr).2.1⟩)
  obtain ⟨R', done', p', hg, hI⟩ := gauss_ev (rows.map (tr · n)) n (by omega) (by simpa using h1) (fun x hx => by
    obtain ⟨r, _, rfl⟩ := List.mem_map.1 hx
    exact tr_len r n)
  have hrk := hI.rk
  have em : (rows.map (tr · n)).map bv = rows.map hasB := by
    rw [List.map_map]
    refine List.map_congr_left fun r hr => ?_
    exact bv_tr r n (hrow r hr).2.2
  rw [em] at hrk
  have hby := (byOf_rk (nW n) rows (fun r hr => ⟨(hrow r hr).1, (hrow r hr).2.1⟩)).1
  have he := hrk.uniq hby
  have hlt : (R'.take done').length = done' := by rw [List.length_take]; have := hI.len; have := hI.le; omega
  unfold geyserref03_Rank.f
  refine Ev.bind hall ?_
  refine Ev.bind hg ?_
  rw [hlt, he]
  exact Ev.now _
theorem Mat.take {rows : List (List Int)} {n : Nat} (h : Mat rows n) (i : Nat) : Mat (rows.take i) n := ⟨by rw [List.length_take]; have := h.1; omega, h.2.1, fun r hr => h.2.2 r (List.mem_of_mem_take hr)⟩
end Go.Proofs.YtgocibnmgfmceaaDoor.Pure

namespace Go.Proofs.YtgocibnmgfmceaaDoor.P
open Go.RowKit Go.Proofs.YtgocibnmgfmceaaDoorW.PrintWords Go.Proofs.YtgocibnmgfmceaaDoorW.PrintLast Go.Proofs.YtgocibnmgfmceaaDoorW.PrintErr Go.Proofs.YtgocibnmgfmceaaDoorW.PrintMore
attribute [local go_sem] max2_int min2_int max_two min_two max_three min_three max_four min_four run_eql_errOf run_neq_errOf eqGuard_errOf   -- for this text's walks alone
set_option linter.unusedVariables false
set_option linter.unusedSimpArgs false

/-! ### geyserref03_Picks: function 21 -/
def geyserref03_Picks.l0 : Nat → List (List Int) → Int → List Int → Int → Option (List Int)
  | 0, _, _, _, _ => none
  | k + 1, x0, x1, x5, x6 => if x6 < (x0.length : Int) then (if 0 ≤ (wrap64 (x6 + 1)) then (if (wrap64 (x6 + 1)) ≤ (x0.length : Int) then ((geyserref03_Rank.f k (x0.take ((wrap64 (x6 + 1)) : Int).toNat) x1).bind fun t370 => (if 0 ≤ x6 then (if x6 ≤ (x0.length : Int) then ((geyserref03_Rank.f k (x0.take (x6 : Int).toNat) x1).bind fun t375 => (if t370 > t375 then (if x5.length < 17592186044416 then (geyserref03_Picks.l0 k x0 x1 (x5 ++ [x6]) (wrap64 (x6 + 1))) else (none)) else (geyserref03_Picks.l0 k x0 x1 x5 (wrap64 (x6 + 1))))) else (none)) else (none))) else (none)) else (none)) else (some x5)
def geyserref03_Picks.f (k : Nat) (l0 : List (List Int)) (a1 : Int) : Option (List Int) := geyserref03_Picks.l0 k l0 a1 (([] : List Int)) 0
theorem geyserref03_Picks.mono_l : ∀ k, (∀ y0 y1 y2 y3, LeO (geyserref03_Picks.l0 k y0 y1 y2 y3) (geyserref03_Picks.l0 (k + 1) y0 y1 y2 y3))
  | 0 => fun _ _ _ _ r h => by simp [geyserref03_Picks.l0] at h
  | k + 1 => by
    have ih0 := geyserref03_Picks.mono_l k
    · intro y0 y1 y2 y3
      unfold geyserref03_Picks.l0
      repeat' first
      | (with_reducible exact ih0 _ _ _ _)
      | (with_reducible exact geyserref03_Rank.mono _ _ _)
      | (with_reducible exact LeO.refl _)
      | (with_reducible exact LeO.none _)
      | (with_reducible refine LeO.ite ?_ ?_)
      | (with_reducible refine LeO.bind ?_ (fun _ => ?_))
      | exact ih0 _ _ _ _
      | exact geyserref03_Rank.mono _ _ _
      | exact LeO.none _
      | refine LeO.ite ?_ ?_
      | refine LeO.bind ?_ (fun _ => ?_)
theorem geyserref03_Picks.mono : ∀ a0 a1 k, LeO (geyserref03_Picks.f k a0 a1) (geyserref03_Picks.f (k + 1) a0 a1) := by
  intro a0 a1 k
  have ih0 := geyserref03_Picks.mono_l k
  unfold geyserref03_Picks.f
  repeat' first
      | (with_reducible exact ih0 _ _ _ _)
      | (with_reducible exact geyserref03_Rank.mono _ _ _)
      | (with_reducible exact LeO.refl _)
      | (with_reducible exact LeO.none _)
      | (with_reducible refine LeO.ite ?_ ?_)
      | (with_reducible refine LeO.bind ?_ (fun _ => ?_))
      | exact ih0 _ _ _ _
      | exact geyserref03_Rank.mono _ _ _
      | exact LeO.none _
      | refine LeO.ite ?_ ?_
      | refine LeO.bind ?_ (fun _ => ?_)
def geyserref03_Picks.T5 : Bool × List (List Nat × List Nat) := (true, [([], []), ([], []), ([1], [1]), ([0, 2], [0, 2]), ([], []), ([3, 4], [3, 4]), ([], []), ([], []), ([6, 7], [6, 7]), ([], []), ([8, 9, 5], [8, 9]), ([5, 10], [5, 10])])
def geyserref03_Picks.B5 : List Nat := [0, 0, 2, 7, 0, 31, 0, 0, 192, 0, 1023, 2047]
theorem geyserref03_Picks.tab5 : rtab .any (opsOf Tryd.f21 5) = geyserref03_Picks.T5 := by kernel_rfl
theorem geyserref03_Picks.bits5 : waitsOk geyserref03_Picks.T5.2 geyserref03_Picks.B5 = true := by kernel_rfl
set_option maxHeartbeats 8000000 in
set_option maxRecDepth 100000 in
theorem geyserref03_Picks.calls (k : Nat) (A0 : Option Addr) (c0 : Nat) (l0 : List (List Int)) (a1 : Int) (r : List Int) (w : World) (hr0 : Kd.C (Kd.slice 29 (Kd.int .u64)) w A0 l0.length l0) (hc0 : l0.length ≤ c0) (h : geyserref03_Picks.f k l0 a1 = some r) :
    Calls Tryd.prog 21 #[.slice A0 l0.length c0, .int .i64 a1] w fun e w' => ∃ v0_ : Value, e = .returned (v0_) ∧ Kd.R (Kd.int .i64) 3 w' w.heap.size (fun _ => True) v0_ r ∧ Below w.heap.size w w' := by
  have HR0 := Aside0.mk hr0
  have HC0 := Aside0.mk hc0
  clear hr0 hc0
  have HB := Aside0.mk (Below.refl w.heap.size w)
  have H : (geyserref03_Picks.l0 k l0 a1 (([] : List Int)) 0) = some r := h
  clear h
  obtain ⟨y363, hy363⟩ : ∃ y_ : List Int, y_ = (([] : List Int)) := ⟨_, rfl⟩
  replace H : (geyserref03_Picks.l0 k l0 a1 y363 0) = some r := by first | (rw [hy363]; with_reducible exact H) | (have H2_ := (Option.bind_some _ _).symm.trans H; rw [hy363]; with_reducible exact H2_) | (have H2_ := (Option.bind_some _ _).symm.trans H; with_reducible exact H2_) | with_reducible exact H | (rw [hy363]; exact H) | exact H
  have Ny363 := Aside0.mk hy363
  clear hy363
  have H' := Aside0.mk H
  clear H
  go_enter Tryd.func21, Tryd.ntmps21
  go_wp2_with (first | ((with_reducible refine gate_dst (N := 7) rfl ?_); refine Kd.R_lit (Kd.int .i64) _ 3 ?hg (N := 7) ?hd (xs := ([] : List Int)) (inner := []) (ok := fun _ => True) (okp := fun _ => True) ?hr ?hp (fun _ hk => hk) trivial (Below.refl _ _) (Nat.le_refl _) (by simp) ?_; (case hd => rfl); (case hg => rfl); (case hr => first | (go_simp; done) | (go_simp; rfl)); (case hp => exact (Reps.none _ _)); intro v364 w3 ho4 hb hg_ hnew_; clear hg_ hnew_; (first | rw [← Ny363.out] at ho4 | (simp only [Int.reduceToNat] at ho4; rw [← Ny363.out] at ho4)); have n0_ := Aside0.mk (Kd.R_lower ho4 (below_size (by repeat (first | (with_reducible first | exact HB.out | apply below_alloc | apply pw_below_drewN | apply below_drew1) | exact HB.out)))); have n1_ := Aside0.mk (below_step (by repeat (first | (with_reducible first | exact HB.out | apply below_alloc | apply pw_below_drewN | apply below_drew1) | exact HB.out)) hb); clear HB; have HO365 := n0_; have HB := n1_; clear n0_ n1_; clear hb ho4))
  go_loopg [5, 6] k (fun kq v5 v6 w' => ∃ (x5_1 : List Int) (x6_1 : Int), v6 = .int .i64 x6_1 ∧ Aside0 (geyserref03_Picks.l0 kq l0 a1 x5_1 x6_1 = some r) ∧ Aside0 (kq ≤ k) ∧ Aside0 (Kd.R (Kd.int .i64) 3 w' w.heap.size (fun _ => True) v5 x5_1) ∧ Aside0 (Below w.heap.size w w'))
  case atStart => exact ⟨(y363), (0), (by first | rfl | (simp; done) | (simp [*]; done)), H', ⟨Nat.le_refl _⟩, ⟨by (with_reducible repeat (first | apply Kd.R_alloc | apply Kd.R_drewN | apply Kd.R_drew)); exact HO365.out⟩, ⟨by repeat (first | (with_reducible first | exact HB.out | apply below_alloc | apply pw_below_drewN | apply below_drew1) | exact HB.out)⟩⟩
  case round =>
    clear H'
    try clear c2
    try clear p2
    obtain ⟨x5_1, x6_1, rfl, HA, HK1, HO_5, HB⟩ := hrel
    cases gk with
    | zero => exact absurd HA.out (by simp [geyserref03_Picks.l0])
    | succ k1 =>
      have H := HA.out
      clear HA
      simp only [geyserref03_Picks.l0] at H
      by_cases c5 : x6_1 < (l0.length : Int)
      · rw [if_pos c5] at H
        have c5b0 : decide (x6_1 < (l0.length : Int)) = true := decide_eq_true c5
        clear c5
        obtain ⟨ji6, hji6⟩ : ∃ j_ : Int, (wrap64 (x6_1 + 1)) = j_ := ⟨_, rfl⟩
        replace H : (if 0 ≤ (ji6) then (if (ji6) ≤ (l0.length : Int) then ((geyserref03_Rank.f k1 (l0.take ((ji6) : Int).toNat) a1).bind fun t370 => (if 0 ≤ x6_1 then (if x6_1 ≤ (l0.length : Int) then ((geyserref03_Rank.f k1 (l0.take (x6_1 : Int).toNat) a1).bind fun t375 => (if t370 > t375 then (if x5_1.length < 17592186044416 then (geyserref03_Picks.l0 k1 l0 a1 (x5_1 ++ [x6_1]) ji6) else (none)) else (geyserref03_Picks.l0 k1 l0 a1 x5_1 ji6))) else (none)) else (none))) else (none)) else (none)) = some r := by first | (rw [hji6] at H; exact H) | (simp only [hji6] at H ⊢; exact H)
        have hji6w : (IntKind.i64.wrap (x6_1 + 1)) = ji6 := (i64_w _).trans hji6
        by_cases c7 : 0 ≤ (ji6)
        · rw [if_pos c7] at H
          have c7b0 := eq_true c7
          have c7b1 : decide (0 ≤ (ji6)) = true := decide_eq_true c7
          clear c7
          by_cases c8 : (ji6) ≤ (l0.length : Int)
          · rw [if_pos c8] at H
            have c8b0 := eq_true c8
            have c8b1 : decide ((ji6) ≤ (l0.length : Int)) = true := decide_eq_true c8
            clear c8
            obtain ⟨y366, hy366⟩ : ∃ y_ : List (List Int), y_ = (l0.take ((ji6) : Int).toNat) := ⟨_, rfl⟩
            replace H : ((geyserref03_Rank.f k1 y366 a1).bind fun t370 => (if 0 ≤ x6_1 then (if x6_1 ≤ (l0.length : Int) then ((geyserref03_Rank.f k1 (l0.take (x6_1 : Int).toNat) a1).bind fun t375 => (if t370 > t375 then (if x5_1.length < 17592186044416 then (geyserref03_Picks.l0 k1 l0 a1 (x5_1 ++ [x6_1]) ji6) else (none)) else (geyserref03_Picks.l0 k1 l0 a1 x5_1 ji6))) else (none)) else (none))) = some r := by first | (rw [hy366]; with_reducible exact H) | (have H2_ := (Option.bind_some _ _).symm.trans H; rw [hy366]; with_reducible exact H2_) | (have H2_ := (Option.bind_some _ _).symm.trans H; with_reducible exact H2_) | with_reducible exact H | (rw [hy366]; exact H) | exact H
            have Ny366 := Aside0.mk hy366
            clear hy366
            replace H := Option.bind_eq_some_iff.mp H
            obtain ⟨t370, A90, H⟩ := H
            replace H : (if 0 ≤ x6_1 then (if x6_1 ≤ (l0.length : Int) then ((geyserref03_Rank.f k1 (l0.take (x6_1 : Int).toNat) a1).bind fun t375 => (if t370 > t375 then (if x5_1.length < 17592186044416 then (geyserref03_Picks.l0 k1 l0 a1 (x5_1 ++ [x6_1]) ji6) else (none)) else (geyserref03_Picks.l0 k1 l0 a1 x5_1 ji6))) else (none)) else (none)) = some r := H
            have A9 := Aside0.mk A90
            clear A90
            by_cases c10 : 0 ≤ x6_1
            · rw [if_pos c10] at H
              have c10b0 := eq_true c10
              have c10b1 : decide (0 ≤ x6_1) = true := decide_eq_true c10
              clear c10
              by_cases c11 : x6_1 ≤ (l0.length : Int)
              · rw [if_pos c11] at H
                have c11b0 := eq_true c11
                have c11b1 : decide (x6_1 ≤ (l0.length : Int)) = true := decide_eq_true c11
                clear c11
                obtain ⟨y371, hy371⟩ : ∃ y_ : List (List Int), y_ = (l0.take (x6_1 : Int).toNat) := ⟨_, rfl⟩
                replace H : ((geyserref03_Rank.f k1 y371 a1).bind fun t375 => (if t370 > t375 then (if x5_1.length < 17592186044416 then (geyserref03_Picks.l0 k1 l0 a1 (x5_1 ++ [x6_1]) ji6) else (none)) else (geyserref03_Picks.l0 k1 l0 a1 x5_1 ji6))) = some r := by first | (rw [hy371]; with_reducible exact H) | (have H2_ := (Option.bind_some _ _).symm.trans H; rw [hy371]; with_reducible exact H2_) | (have H2_ := (Option.bind_some _ _).symm.trans H; with_reducible exact H2_) | with_reducible exact H | (rw [hy371]; exact H) | exact H
                have Ny371 := Aside0.mk hy371
                clear hy371
                replace H := Option.bind_eq_some_iff.mp H
                obtain ⟨t375, A120, H⟩ := H
                replace H : (if t370 > t375 then (if x5_1.length < 17592186044416 then (geyserref03_Picks.l0 k1 l0 a1 (x5_1 ++ [x6_1]) ji6) else (none)) else (geyserref03_Picks.l0 k1 l0 a1 x5_1 ji6)) = some r := H
                have A12 := Aside0.mk A120
                clear A120
                by_cases c13 : t370 > t375
                · rw [if_pos c13] at H
                  have c13b0 : decide (t375 < t370) = true := decide_eq_true c13
                  clear c13
                  by_cases c14 : x5_1.length < 17592186044416
                  · rw [if_pos c14] at H
                    have LMc14 := Aside0.mk c14
                    clear c14
                    obtain ⟨y376, hy376⟩ : ∃ y_ : List Int, y_ = (x5_1 ++ [x6_1]) := ⟨_, rfl⟩
                    replace H : (geyserref03_Picks.l0 k1 l0 a1 y376 ji6) = some r := by first | (rw [hy376]; with_reducible exact H) | (have H2_ := (Option.bind_some _ _).symm.trans H; rw [hy376]; with_reducible exact H2_) | (have H2_ := (Option.bind_some _ _).symm.trans H; with_reducible exact H2_) | with_reducible exact H | (rw [hy376]; exact H) | exact H
                    have Ny376 := Aside0.mk hy376
                    clear hy376
                    have H' := Aside0.mk H
                    clear H
                    try go_wp2
                    have n0_ := Aside0.mk (Kd.R_drew HO_5.out)
                    have n1_ := Aside0.mk (below_drew1 HB.out)
                    clear HO_5
                    clear HB
                    have HO_5 := n0_
                    have HB := n1_
                    clear n0_ n1_
                    have q16 : ((ji6) : Int) ≤ ((l0.length : Int) : Int) := of_decide_eq_true (by first | (with_reducible assumption) | assumption)
                    obtain ⟨i016, hi016, _, hsz16, _⟩ := info_parts info27
                    have hroom16 : l0.length ≤ c0 := HC0.out
                    have hC16 : Kd.C (Kd.slice 29 (Kd.int .u64)) _ A0 l0.length l0 := HR0.out
                    have hcut16 := cut_to (P := Tryd.prog) 22 27 .i64 Tryd.underlying22 hi016 A0 l0.length c0 (ji6) (of_decide_eq_true (by first | (with_reducible assumption) | assumption)) q16 hroom16
                    have hr16 := Kd.C_take (m := ((ji6) : Int).toNat) hC16 (by omega)
                    have hy16 : y366.length = ((ji6) : Int).toNat := (by rw [Ny366.out, List.length_take]; omega)
                    rw [← Ny366.out] at hr16
                    rw [← hy16] at hcut16
                    have HR369 := Aside0.mk hr16
                    have HC369 := Aside0.mk (show y366.length ≤ c0 from by omega)
                    clear hr16 hC16 hroom16 hi016 hsz16
                    have KY16 := Aside0.mk hy16
                    clear hy16
                    replace q16 := eq_true q16
                    have q17 : (x6_1 : Int) ≤ ((l0.length : Int) : Int) := of_decide_eq_true (by first | (with_reducible assumption) | assumption)
                    obtain ⟨i017, hi017, _, hsz17, _⟩ := info_parts info27
                    have hroom17 : l0.length ≤ c0 := HC0.out
                    have hC17 : Kd.C (Kd.slice 29 (Kd.int .u64)) _ A0 l0.length l0 := HR0.out
                    have hcut17 := cut_to (P := Tryd.prog) 22 27 .i64 Tryd.underlying22 hi017 A0 l0.length c0 x6_1 (of_decide_eq_true (by first | (with_reducible assumption) | assumption)) q17 hroom17
                    have hr17 := Kd.C_take (m := (x6_1 : Int).toNat) hC17 (by omega)
                    have hy17 : y371.length = (x6_1 : Int).toNat := (by rw [Ny371.out, List.length_take]; omega)
                    rw [← Ny371.out] at hr17
                    rw [← hy17] at hcut17
                    have HR374 := Aside0.mk hr17
                    have HC374 := Aside0.mk (show y371.length ≤ c0 from by omega)
                    clear hr17 hC17 hroom17 hi017 hsz17
                    have KY17 := Aside0.mk hy17
                    clear hy17
                    replace q17 := eq_true q17
                    refine start_ (n := 12) (S := fun w' => True) (ds := []) #[false, false, false, false, false, false, false, false, false, false, false, false] (by kernel_rfl) rfl rfl trivial (fun hHeld => ?_); refine with_tabW geyserref03_Picks.tab5 geyserref03_Picks.bits5 (fun HT_ HW_ => ?_)
                    generalize wr.drew = w15 at HO_5 HB HR369 HR374 hHeld ⊢
                    refine pure_ (i := 0) (N := some 14) (v := ?_) (a' := ?_) #[true, false, false, false, false, false, false, false, false, false, false, false] rfl rfl (any_of HT_.out (by kernel_rfl)) (fun _ _ _ h => h) (Or.inl ⟨by rfl, ?_⟩) ?_ ?_
                    rotate_left
                    · intro w'
                      go_simp
                      with_reducible rfl
                    rotate_left
                    · simp only [Act.put, List.setIfInBounds_toArray, List.set_cons_zero, List.set_cons_succ, i64_w, i32_w]
                      rfl
                    refine pure_ (i := 1) (N := some 15) (v := ?_) (a' := ?_) #[true, true, false, false, false, false, false, false, false, false, false, false] rfl rfl (any_of HT_.out (by kernel_rfl)) (fun _ _ _ h => h) (Or.inl ⟨by rfl, ?_⟩) ?_ ?_
                    rotate_left
                    · intro w'
                      go_simp
                      with_reducible rfl
                    rotate_left
                    · simp only [Act.put, List.setIfInBounds_toArray, List.set_cons_zero, List.set_cons_succ, i64_w, i32_w]
                      rfl
                    refine pure_ (i := 2) (N := some 16) (v := ?_) (a' := ?_) #[true, true, true, false, false, false, false, false, false, false, false, false] rfl rfl (any_of HT_.out (by kernel_rfl)) (fun _ _ _ h => h) (Or.inl ⟨by rfl, ?_⟩) ?_ ?_
                    rotate_left
                    · intro w'
                      go_simp
                      with_reducible rfl
                    rotate_left
                    · simp only [Act.put, List.setIfInBounds_toArray, List.set_cons_zero, List.set_cons_succ, i64_w, i32_w]
                      rfl
                    refine pure_ (i := 3) (N := some 17) (v := ?_) (a' := ?_) #[true, true, true, true, false, false, false, false, false, false, false, false] rfl rfl (any_of HT_.out (by kernel_rfl)) (fun _ _ _ h => h) (Or.inl ⟨by rfl, ?_⟩) ?_ ?_
                    rotate_left
                    · intro w'
                      go_simp
                      with_reducible rfl
                    rotate_left
                    · simp only [Act.put, List.setIfInBounds_toArray, List.set_cons_zero, List.set_cons_succ, i64_w, i32_w]
                      rfl
                    refine pure_ (i := 4) (N := some 18) (v := ?_) (a' := ?_) #[true, true, true, true, true, false, false, false, false, false, false, false] rfl rfl (any_of HT_.out (by kernel_rfl)) (fun _ _ _ h => h) (Or.inl ⟨by rfl, ?_⟩) ?_ ?_
                    rotate_left
                    · intro w'
                      go_simp
                      with_reducible rfl
                    rotate_left
                    · simp only [Act.put, List.setIfInBounds_toArray, List.set_cons_zero, List.set_cons_succ, i64_w, i32_w]
                      rfl
                    refine pure_ (i := 6) (N := some 20) (v := ?_) (a' := ?_) #[true, true, true, true, true, false, true, false, false, false, false, false] rfl rfl (any_of HT_.out (by kernel_rfl)) (fun _ _ _ h => h) (Or.inl ⟨by rfl, ?_⟩) ?_ ?_
                    rotate_left
                    · intro w'
                      go_simp
                      with_reducible rfl
                    rotate_left
                    · simp only [Act.put, List.setIfInBounds_toArray, List.set_cons_zero, List.set_cons_succ, i64_w, i32_w]
                      rfl
                    refine pure_ (i := 7) (N := some 21) (v := ?_) (a' := ?_) #[true, true, true, true, true, false, true, true, false, false, false, false] rfl rfl (any_of HT_.out (by kernel_rfl)) (fun _ _ _ h => h) (Or.inl ⟨by rfl, ?_⟩) ?_ ?_
                    rotate_left
                    · intro w'
                      go_simp
                      with_reducible rfl
                    rotate_left
                    · simp only [Act.put, List.setIfInBounds_toArray, List.set_cons_zero, List.set_cons_succ, i64_w, i32_w]
                      rfl
                    refine pure_ (i := 8) (N := some 22) (v := ?_) (a' := ?_) #[true, true, true, true, true, false, true, true, true, false, false, false] rfl rfl (any_of HT_.out (by kernel_rfl)) (fun _ _ _ h => h) (Or.inl ⟨by rfl, ?_⟩) ?_ ?_
                    rotate_left
                    · intro w'
                      go_simp
                      with_reducible rfl
                    rotate_left
                    · simp only [Act.put, List.setIfInBounds_toArray, List.set_cons_zero, List.set_cons_succ, i64_w, i32_w]
                      rfl
                    refine pure_ (i := 9) (N := some 23) (v := ?_) (a' := ?_) #[true, true, true, true, true, false, true, true, true, true, false, false] rfl rfl (any_of HT_.out (by kernel_rfl)) (fun _ _ _ h => h) (Or.inl ⟨by rfl, ?_⟩) ?_ ?_
                    rotate_left
                    · intro w'
                      go_simp
                      with_reducible rfl
                    rotate_left
                    · simp only [Act.put, List.setIfInBounds_toArray, List.set_cons_zero, List.set_cons_succ, i64_w, i32_w]
                      rfl
                    refine one_ (i := 5) (N := some 19) #[true, true, true, true, true, true, true, true, true, true, false, false] rfl rfl (one_of HT_.out (by kernel_rfl)) (by decide) (fun K hK => ?_)
                    refine goes_ Tryd.func19 (by kernel_rfl) rfl #[.slice A0 y366.length c0, .int .i64 a1] (by rfl) rfl rfl (by (try simp only [List.map_toArray, List.map_cons, List.map_nil]); first | done | rfl | (simp only [List.length_drop, List.length_take]; rfl)) ?_
                    with_reducible refine (geyserref03_Rank.calls k1 _ _ y366 a1 t370 _ ?side1 ?side2 A9.out).mono ?_
                    (case side1 => repeat (first | exact (Kd.C_below HR369.out HB.out) | (with_reducible refine Kd.C_alloc ?_ _) | (with_reducible refine Kd.C_drewN ?_ _) | (with_reducible refine Kd.C_drew ?_)))
                    (case side2 => exact HC369.out)
                    rintro e w18 ⟨rfl, hb⟩
                    refine ⟨_, rfl, ?_⟩
                    have n0_ := Aside0.mk (Kd.R_below (by (with_reducible repeat (first | apply Kd.R_alloc | apply Kd.R_drewN | apply Kd.R_drew)); exact HO_5.out) hb)
                    have n1_ := Aside0.mk (below_step (by repeat (first | (with_reducible first | exact HB.out | apply below_alloc | apply pw_below_drewN | apply below_drew1) | exact HB.out)) hb)
                    clear HO_5
                    clear HB
                    have HO_5 := n0_
                    have HB := n1_
                    clear n0_ n1_
                    (try clear hb)
                    (try clear hb2)
                    (try clear hk)
                    (try clear hi)
                    refine hK.out _ _ trivial (fun hHeld => ?_)
                    clear hK K
                    refine norm_ (a' := ?_) ?_ ?_
                    rotate_left
                    · show Act.put _ (some 19) _ = _
                      simp only [Act.put, List.setIfInBounds_toArray, List.set_cons_zero, List.set_cons_succ, i64_w, i32_w]
                      rfl
                    refine one_ (i := 10) (N := some 24) #[true, true, true, true, true, true, true, true, true, true, true, false] rfl rfl (one_of HT_.out (by kernel_rfl)) (by decide) (fun K hK => ?_)
                    refine goes_ Tryd.func19 (by kernel_rfl) rfl #[.slice A0 y371.length c0, .int .i64 a1] (by rfl) rfl rfl (by (try simp only [List.map_toArray, List.map_cons, List.map_nil]); first | done | rfl | (simp only [List.length_drop, List.length_take]; rfl)) ?_
                    with_reducible refine (geyserref03_Rank.calls k1 _ _ y371 a1 t375 _ ?side1 ?side2 A12.out).mono ?_
                    (case side1 => repeat (first | exact (Kd.C_below HR374.out HB.out) | (with_reducible refine Kd.C_alloc ?_ _) | (with_reducible refine Kd.C_drewN ?_ _) | (with_reducible refine Kd.C_drew ?_)))
                    (case side2 => exact HC374.out)
                    rintro e w19 ⟨rfl, hb⟩
                    refine ⟨_, rfl, ?_⟩
                    have n0_ := Aside0.mk (Kd.R_below (by (with_reducible repeat (first | apply Kd.R_alloc | apply Kd.R_drewN | apply Kd.R_drew)); exact HO_5.out) hb)
                    have n1_ := Aside0.mk (below_step (by repeat (first | (with_reducible first | exact HB.out | apply below_alloc | apply pw_below_drewN | apply below_drew1) | exact HB.out)) hb)
                    clear HO_5
                    clear HB
                    have HO_5 := n0_
                    have HB := n1_
                    clear n0_ n1_
                    (try clear hb)
                    (try clear hb2)
                    (try clear hk)
                    (try clear hi)
                    refine hK.out _ _ trivial (fun hHeld => ?_)
                    clear hK K
                    refine norm_ (a' := ?_) ?_ ?_
                    rotate_left
                    · show Act.put _ (some 24) _ = _
                      simp only [Act.put, List.setIfInBounds_toArray, List.set_cons_zero, List.set_cons_succ, i64_w, i32_w]
                      rfl
                    refine pure_ (i := 11) (N := some 25) (v := ?_) (a' := ?_) #[true, true, true, true, true, true, true, true, true, true, true, true] rfl rfl (any_of HT_.out (by kernel_rfl)) (fun _ _ _ h => h) (Or.inl ⟨by rfl, ?_⟩) ?_ ?_
                    rotate_left
                    · intro w'
                      go_simp
                      with_reducible rfl
                    rotate_left
                    · simp only [Act.put, List.setIfInBounds_toArray, List.set_cons_zero, List.set_cons_succ, i64_w, i32_w]
                      rfl
                    refine done_ (done_of HT_.out (by kernel_rfl)) ?_
                    try go_wp2_with (first | ((with_reducible refine gate_builtin (b := .append) (xs := #[.tmp 26, .tmp 28]) rfl ?_); at_builtin; refine Kd.R_append (Kd.int .i64) (w0 := w) w.heap.size rfl (.tmp 26) (.tmp 28) 39 3 (.int .i64 0) 8 rfl Tryd.underlying39 info3 rfl (by decide) (by omega) u5 x5_1 x6_1 [.int .i64 x6_1] (fun _ => True) (fun _ => False) rfl rfl ?aP (fun _ hk => hk.elim) ?aF ?aO ?aB ?aS ?aL ?_; (case aP => exact rfl); (case aB => exact (by repeat (first | (with_reducible first | exact HB.out | apply below_alloc | apply pw_below_drewN | apply below_drew1) | exact HB.out))); (case aF => exact (fun _ _ => trivial)); (case aO => exact (by (with_reducible repeat (first | apply Kd.R_alloc | apply Kd.R_drewN | apply Kd.R_drew)); exact HO_5.out)); (case aS => exact (below_size (by repeat (first | (with_reducible first | exact HB.out | apply below_alloc | apply pw_below_drewN | apply below_drew1) | exact HB.out)))); (case aL => have := LMc14.out; omega); intro v377 w20 ho hb hg hat; rw [← Ny376.out] at ho; have n0_ := Aside0.mk (hb); have n1_ := Aside0.mk (ho); clear HB; clear HO_5; have HB := n0_; have HO378 := n1_; clear n0_ n1_; clear ho hb hg hat))
                    go_roundg k1
                    case measure => have := HK1.out; omega
                    case rel => exact ⟨(y376), (ji6), (by first | rfl | (simp; done) | (simp only [← hji6] <;> (first | rfl | simp)) | (simp [*]; done)), H', ⟨by have := HK1.out; omega⟩, ⟨by (with_reducible repeat (first | apply Kd.R_alloc | apply Kd.R_drewN | apply Kd.R_drew)); exact HO378.out⟩, ⟨by repeat (first | (with_reducible first | exact HB.out | apply below_alloc | apply pw_below_drewN | apply below_drew1) | exact HB.out)⟩⟩
                  · rw [if_neg c14] at H
                    exact absurd H (by simp)
                · rw [if_neg c13] at H
                  have c13b0 : decide (t375 < t370) = false := decide_eq_false c13
                  clear c13
                  have H' := Aside0.mk H
                  clear H
                  try go_wp2
                  have n0_ := Aside0.mk (Kd.R_drew HO_5.out)
                  have n1_ := Aside0.mk (below_drew1 HB.out)
                  clear HO_5
                  clear HB
                  have HO_5 := n0_
                  have HB := n1_
                  clear n0_ n1_
                  have q22 : ((ji6) : Int) ≤ ((l0.length : Int) : Int) := of_decide_eq_true (by first | (with_reducible assumption) | assumption)
                  obtain ⟨i022, hi022, _, hsz22, _⟩ := info_parts info27
                  have hroom22 : l0.length ≤ c0 := HC0.out
                  have hC22 : Kd.C (Kd.slice 29 (Kd.int .u64)) _ A0 l0.length l0 := HR0.out
                  have hcut22 := cut_to (P := Tryd.prog) 22 27 .i64 Tryd.underlying22 hi022 A0 l0.length c0 (ji6) (of_decide_eq_true (by first | (with_reducible assumption) | assumption)) q22 hroom22
                  have hr22 := Kd.C_take (m := ((ji6) : Int).toNat) hC22 (by omega)
                  have hy22 : y366.length = ((ji6) : Int).toNat := (by rw [Ny366.out, List.length_take]; omega)
                  rw [← Ny366.out] at hr22
                  rw [← hy22] at hcut22
                  have HR369 := Aside0.mk hr22
                  have HC369 := Aside0.mk (show y366.length ≤ c0 from by omega)
                  clear hr22 hC22 hroom22 hi022 hsz22
                  have KY22 := Aside0.mk hy22
                  clear hy22
                  replace q22 := eq_true q22
                  have q23 : (x6_1 : Int) ≤ ((l0.length : Int) : Int) := of_decide_eq_true (by first | (with_reducible assumption) | assumption)
                  obtain ⟨i023, hi023, _, hsz23, _⟩ := info_parts info27
                  have hroom23 : l0.length ≤ c0 := HC0.out
                  have hC23 : Kd.C (Kd.slice 29 (Kd.int .u64)) _ A0 l0.length l0 := HR0.out
                  have hcut23 := cut_to (P := Tryd.prog) 22 27 .i64 Tryd.underlying22 hi023 A0 l0.length c0 x6_1 (of_decide_eq_true (by first | (with_reducible assumption) | assumption)) q23 hroom23
                  have hr23 := Kd.C_take (m := (x6_1 : Int).toNat) hC23 (by omega)
                  have hy23 : y371.length = (x6_1 : Int).toNat := (by rw [Ny371.out, List.length_take]; omega)
                  rw [← Ny371.out] at hr23
                  rw [← hy23] at hcut23
                  have HR374 := Aside0.mk hr23
                  have HC374 := Aside0.mk (show y371.length ≤ c0 from by omega)
                  clear hr23 hC23 hroom23 hi023 hsz23
                  have KY23 := Aside0.mk hy23
                  clear hy23
                  replace q23 := eq_true q23
                  refine start_ (n := 12) (S := fun w' => True) (ds := []) #[false, false, false, false, false, false, false, false, false, false, false, false] (by kernel_rfl) rfl rfl trivial (fun hHeld => ?_); refine with_tabW geyserref03_Picks.tab5 geyserref03_Picks.bits5 (fun HT_ HW_ => ?_)
                  generalize wr.drew = w21 at HO_5 HB HR369 HR374 hHeld ⊢
                  refine pure_ (i := 0) (N := some 14) (v := ?_) (a' := ?_) #[true, false, false, false, false, false, false, false, false, false, false, false] rfl rfl (any_of HT_.out (by kernel_rfl)) (fun _ _ _ h => h) (Or.inl ⟨by rfl, ?_⟩) ?_ ?_
                  rotate_left
                  · intro w'
                    go_simp
                    with_reducible rfl
                  rotate_left
                  · simp only [Act.put, List.setIfInBounds_toArray, List.set_cons_zero, List.set_cons_succ, i64_w, i32_w]
                    rfl
                  refine pure_ (i := 1) (N := some 15) (v := ?_) (a' := ?_) #[true, true, false, false, false, false, false, false, false, false, false, false] rfl rfl (any_of HT_.out (by kernel_rfl)) (fun _ _ _ h => h) (Or.inl ⟨by rfl, ?_⟩) ?_ ?_
                  rotate_left
                  · intro w'
                    go_simp
                    with_reducible rfl
                  rotate_left
                  · simp only [Act.put, List.setIfInBounds_toArray, List.set_cons_zero, List.set_cons_succ, i64_w, i32_w]
                    rfl
                  refine pure_ (i := 2) (N := some 16) (v := ?_) (a' := ?_) #[true, true, true, false, false, false, false, false, false, false, false, false] rfl rfl (any_of HT_.out (by kernel_rfl)) (fun _ _ _ h => h) (Or.inl ⟨by rfl, ?_⟩) ?_ ?_
                  rotate_left
                  · intro w'
                    go_simp
                    with_reducible rfl
                  rotate_left
                  · simp only [Act.put, List.setIfInBounds_toArray, List.set_cons_zero, List.set_cons_succ, i64_w, i32_w]
                    rfl
                  refine pure_ (i := 3) (N := some 17) (v := ?_) (a' := ?_) #[true, true, true, true, false, false, false, false, false, false, false, false] rfl rfl (any_of HT_.out (by kernel_rfl)) (fun _ _ _ h => h) (Or.inl ⟨by rfl, ?_⟩) ?_ ?_
                  rotate_left
                  · intro w'
                    go_simp
                    with_reducible rfl
                  rotate_left
                  · simp only [Act.put, List.setIfInBounds_toArray, List.set_cons_zero, List.set_cons_succ, i64_w, i32_w]
                    rfl
                  refine pure_ (i := 4) (N := some 18) (v := ?_) (a' := ?_) #[true, true, true, true, true, false, false, false, false, false, false, false] rfl rfl (any_of HT_.out (by kernel_rfl)) (fun _ _ _ h => h) (Or.inl ⟨by rfl, ?_⟩) ?_ ?_
                  rotate_left
                  · intro w'
                    go_simp
                    with_reducible rfl
                  rotate_left
                  · simp only [Act.put, List.setIfInBounds_toArray, List.set_cons_zero, List.set_cons_succ, i64_w, i32_w]
                    rfl
                  refine pure_ (i := 6) (N := some 20) (v := ?_) (a' := ?_) #[true, true, true, true, true, false, true, false, false, false, false, false] rfl rfl (any_of HT_.out (by kernel_rfl)) (fun _ _ _ h => h) (Or.inl ⟨by rfl, ?_⟩) ?_ ?_
                  rotate_left
                  · intro w'
                    go_simp
                    with_reducible rfl
                  rotate_left
                  · simp only [Act.put, List.setIfInBounds_toArray, List.set_cons_zero, List.set_cons_succ, i64_w, i32_w]
                    rfl
                  refine pure_ (i := 7) (N := some 21) (v := ?_) (a' := ?_) #[true, true, true, true, true, false, true, true, false, false, false, false] rfl rfl (any_of HT_.out (by kernel_rfl)) (fun _ _ _ h => h) (Or.inl ⟨by rfl, ?_⟩) ?_ ?_
                  rotate_left
                  · intro w'
                    go_simp
                    with_reducible rfl
                  rotate_left
                  · simp only [Act.put, List.setIfInBounds_toArray, List.set_cons_zero, List.set_cons_succ, i64_w, i32_w]
                    rfl
                  refine pure_ (i := 8) (N := some 22) (v := ?_) (a' := ?_) #[true, true, true, true, true, false, true, true, true, false, false, false] rfl rfl (any_of HT_.out (by kernel_rfl)) (fun _ _ _ h => h) (Or.inl ⟨by rfl, ?_⟩) ?_ ?_
                  rotate_left
                  · intro w'
                    go_simp
                    with_reducible rfl
                  rotate_left
                  · simp only [Act.put, List.setIfInBounds_toArray, List.set_cons_zero, List.set_cons_succ, i64_w, i32_w]
                    rfl
                  refine pure_ (i := 9) (N := some 23) (v := ?_) (a' := ?_) #[true, true, true, true, true, false, true, true, true, true, false, false] rfl rfl (any_of HT_.out (by kernel_rfl)) (fun _ _ _ h => h) (Or.inl ⟨by rfl, ?_⟩) ?_ ?_
                  rotate_left
                  · intro w'
                    go_simp
                    with_reducible rfl
                  rotate_left
                  · simp only [Act.put, List.setIfInBounds_toArray, List.set_cons_zero, List.set_cons_succ, i64_w, i32_w]
                    rfl
                  refine one_ (i := 5) (N := some 19) #[true, true, true, true, true, true, true, true, true, true, false, false] rfl rfl (one_of HT_.out (by kernel_rfl)) (by decide) (fun K hK => ?_)
                  refine goes_ Tryd.func19 (by kernel_rfl) rfl #[.slice A0 y366.length c0, .int .i64 a1] (by rfl) rfl rfl (by (try simp only [List.map_toArray, List.map_cons, List.map_nil]); first | done | rfl | (simp only [List.length_drop, List.length_take]; rfl)) ?_
                  with_reducible refine (geyserref03_Rank.calls k1 _ _ y366 a1 t370 _ ?side1 ?side2 A9.out).mono ?_
                  (case side1 => repeat (first | exact (Kd.C_below HR369.out HB.out) | (with_reducible refine Kd.C_alloc ?_ _) | (with_reducible refine Kd.C_drewN ?_ _) | (with_reducible refine Kd.C_drew ?_)))
                  (case side2 => exact HC369.out)
                  rintro e w24 ⟨rfl, hb⟩
                  refine ⟨_, rfl, ?_⟩
                  have n0_ := Aside0.mk (Kd.R_below (by (with_reducible repeat (first | apply Kd.R_alloc | apply Kd.R_drewN | apply Kd.R_drew)); exact HO_5.out) hb)
                  have n1_ := Aside0.mk (below_step (by repeat (first | (with_reducible first | exact HB.out | apply below_alloc | apply pw_below_drewN | apply below_drew1) | exact HB.out)) hb)
                  clear HO_5
                  clear HB
                  have HO_5 := n0_
                  have HB := n1_
                  clear n0_ n1_
                  (try clear hb)
                  (try clear hb2)
                  (try clear hk)
                  (try clear hi)
                  refine hK.out _ _ trivial (fun hHeld => ?_)
                  clear hK K
                  refine norm_ (a' := ?_) ?_ ?_
                  rotate_left
                  · show Act.put _ (some 19) _ = _
                    simp only [Act.put, List.setIfInBounds_toArray, List.set_cons_zero, List.set_cons_succ, i64_w, i32_w]
                    rfl
                  refine one_ (i := 10) (N := some 24) #[true, true, true, true, true, true, true, true, true, true, true, false] rfl rfl (one_of HT_.out (by kernel_rfl)) (by decide) (fun K hK => ?_)
                  refine goes_ Tryd.func19 (by kernel_rfl) rfl #[.slice A0 y371.length c0, .int .i64 a1] (by rfl) rfl rfl (by (try simp only [List.map_toArray, List.map_cons, List.map_nil]); first | done | rfl | (simp only [List.length_drop, List.length_take]; rfl)) ?_
                  with_reducible refine (geyserref03_Rank.calls k1 _ _ y371 a1 t375 _ ?side1 ?side2 A12.out).mono ?_
                  (case side1 => repeat (first | exact (Kd.C_below HR374.out HB.out) | (with_reducible refine Kd.C_alloc ?_ _) | (with_reducible refine Kd.C_drewN ?_ _) | (with_reducible refine Kd.C_drew ?_)))
                  (case side2 => exact HC374.out)
                  rintro e w25 ⟨rfl, hb⟩
                  refine ⟨_, rfl, ?_⟩
                  have n0_ := Aside0.mk (Kd.R_below (by (with_reducible repeat (first | apply Kd.R_alloc | apply Kd.R_drewN | apply Kd.R_drew)); exact HO_5.out) hb)
                  have n1_ := Aside0.mk (below_step (by repeat (first | (with_reducible first | exact HB.out | apply below_alloc | apply pw_below_drewN | apply below_drew1) | exact HB.out)) hb)
                  clear HO_5
                  clear HB
                  have HO_5 := n0_
                  have HB := n1_
                  clear n0_ n1_
                  (try clear hb)
                  (try clear hb2)
                  (try clear hk)
                  (try clear hi)
                  refine hK.out _ _ trivial (fun hHeld => ?_)
                  clear hK K
                  refine norm_ (a' := ?_) ?_ ?_
                  rotate_left
                  · show Act.put _ (some 24) _ = _
                    simp only [Act.put, List.setIfInBounds_toArray, List.set_cons_zero, List.set_cons_succ, i64_w, i32_w]
                    rfl
                  refine pure_ (i := 11) (N := some 25) (v := ?_) (a' := ?_) #[true, true, true, true, true, true, true, true, true, true, true, true] rfl rfl (any_of HT_.out (by kernel_rfl)) (fun _ _ _ h => h) (Or.inl ⟨by rfl, ?_⟩) ?_ ?_
                  rotate_left
                  · intro w'
                    go_simp
                    with_reducible rfl
                  rotate_left
                  · simp only [Act.put, List.setIfInBounds_toArray, List.set_cons_zero, List.set_cons_succ, i64_w, i32_w]
                    rfl
                  refine done_ (done_of HT_.out (by kernel_rfl)) ?_
                  try go_wp2
                  go_roundg k1
                  case measure => have := HK1.out; omega
                  case rel => exact ⟨(x5_1), (ji6), (by first | rfl | (simp; done) | (simp only [← hji6] <;> (first | rfl | simp)) | (simp [*]; done)), H', ⟨by have := HK1.out; omega⟩, ⟨by (with_reducible repeat (first | apply Kd.R_alloc | apply Kd.R_drewN | apply Kd.R_drew)); exact HO_5.out⟩, ⟨by repeat (first | (with_reducible first | exact HB.out | apply below_alloc | apply pw_below_drewN | apply below_drew1) | exact HB.out)⟩⟩
              · rw [if_neg c11] at H
                exact absurd H (by simp)
            · rw [if_neg c10] at H
              exact absurd H (by simp)
          · rw [if_neg c8] at H
            exact absurd H (by simp)
        · rw [if_neg c7] at H
          exact absurd H (by simp)
      · rw [if_neg c5] at H
        have c5b0 : decide (x6_1 < (l0.length : Int)) = false := decide_eq_false c5
        clear c5
        obtain rfl := Option.some.inj H
        go_wp2
        go_ret
        exact ⟨_, by first | rfl | (simp [errW_none, errW_some] <;> rfl) | (simp [*, errW_none, errW_some] <;> rfl), by (with_reducible repeat (first | apply Kd.R_alloc | apply Kd.R_drewN | apply Kd.R_drew)); exact HO_5.out, by repeat (first | (with_reducible first | exact HB.out | apply below_alloc | apply pw_below_drewN | apply below_drew1) | exact HB.out)⟩

end Go.Proofs.YtgocibnmgfmceaaDoor.P

namespace Go.Proofs.YtgocibnmgfmceaaDoor.P
open Go.RowKit Go.Proofs.YtgocibnmgfmceaaDoorW.PrintWords Go.Proofs.YtgocibnmgfmceaaDoorW.PrintLast Go.Proofs.YtgocibnmgfmceaaDoorW.PrintErr Go.Proofs.YtgocibnmgfmceaaDoorW.PrintMore
attribute [local go_sem] max2_int min2_int max_two min_two max_three min_three max_four min_four run_eql_errOf run_neq_errOf eqGuard_errOf   -- for this text's walks alone
set_option linter.unusedVariables false
set_option linter.unusedSimpArgs false

/-! ### geyserlaw03_MatrixRanks: function 5 -/
def geyserlaw03_MatrixRanks.j0 : Nat → List (List Int) → Int → Int → List Int → Int → Bool → Option (Bool)
  | 0, _, _, _, _, _, _ => none
  | k + 1, x0, x1, x5, x7, x9, x38 => if x38 = true then (some false) else (if x9 = 0 then ((geyserref03_Rank.f k x0 x1).bind fun t395 => (if x5 = t395 then ((geyserref03_Picks.f k x0 x1).bind fun t396 => ((geyserref02_Same.f k x7 t396).bind fun t399 => (if t399 = true then ((geyserlaw03_awake.f k).bind fun t400 => (some t400)) else (some false)))) else (some false))) else (if x5 = 0 then (if (x7.length : Int) = 0 then ((geyserlaw03_awake.f k).bind fun t394 => (some t394)) else (some false)) else (some false)))
def geyserlaw03_MatrixRanks.f (k : Nat) (l0 : List (List Int)) (a1 : Int) : Option (Bool) := (geyserlaw03_big.f l0 a1).bind fun t379 => (if t379 = true then ((geyserlaw03_awake.f k).bind fun t380 => (some t380)) else ((matrix_Rank.f k l0 a1).bind fun bt381 => ((matrix_Picks.f k l0 a1).bind fun bt385 => ((geyserref03_Check.f k l0 a1).bind fun t391 => ((geyserlaw03_tells.f bt381.2 t391 (⟨#[109, 97, 116, 114, 105, 120, 46, 82, 97, 110, 107]⟩ : ByteArray)).bind fun t392 => (if t392 = true then ((geyserlaw03_tells.f bt385.2 t391 (⟨#[109, 97, 116, 114, 105, 120, 46, 80, 105, 99, 107, 115]⟩ : ByteArray)).bind fun t393 => (geyserlaw03_MatrixRanks.j0 k l0 a1 bt381.1 bt385.1 t391 (!t393))) else (geyserlaw03_MatrixRanks.j0 k l0 a1 bt381.1 bt385.1 t391 true)))))))
theorem geyserlaw03_MatrixRanks.mono_l : ∀ k, (∀ y0 y1 y2 y3 y4 y5, LeO (geyserlaw03_MatrixRanks.j0 k y0 y1 y2 y3 y4 y5) (geyserlaw03_MatrixRanks.j0 (k + 1) y0 y1 y2 y3 y4 y5))
  | 0 => fun _ _ _ _ _ _ r h => by simp [geyserlaw03_MatrixRanks.j0] at h
  | k + 1 => by
    have ih0 := geyserlaw03_MatrixRanks.mono_l k
    · intro y0 y1 y2 y3 y4 y5
      unfold geyserlaw03_MatrixRanks.j0
      repeat' first
      | (with_reducible exact ih0 _ _ _ _ _ _)
      | (with_reducible exact geyserlaw03_awake.mono _)
      | (with_reducible exact geyserref02_Same.mono _ _ _)
      | (with_reducible exact geyserref03_Check.mono _ _ _)
      | (with_reducible exact geyserref03_Picks.mono _ _ _)
      | (with_reducible exact geyserref03_Rank.mono _ _ _)
      | (with_reducible exact matrix_Picks.mono _ _ _)
      | (with_reducible exact matrix_Rank.mono _ _ _)
      | (with_reducible exact LeO.refl _)
      | (with_reducible exact LeO.none _)
      | (with_reducible refine LeO.ite ?_ ?_)
      | (with_reducible refine LeO.bind ?_ (fun _ => ?_))
      | exact ih0 _ _ _ _ _ _
      | exact geyserlaw03_awake.mono _
      | exact geyserref02_Same.mono _ _ _
      | exact geyserref03_Check.mono _ _ _
      | exact geyserref03_Picks.mono _ _ _
      | exact geyserref03_Rank.mono _ _ _
      | exact matrix_Picks.mono _ _ _
      | exact matrix_Rank.mono _ _ _
      | exact LeO.none _
      | refine LeO.ite ?_ ?_
      | refine LeO.bind ?_ (fun _ => ?_)
theorem geyserlaw03_MatrixRanks.mono : ∀ a0 a1 k, LeO (geyserlaw03_MatrixRanks.f k a0 a1) (geyserlaw03_MatrixRanks.f (k + 1) a0 a1) := by
  intro a0 a1 k
  have ih0 := geyserlaw03_MatrixRanks.mono_l k
  unfold geyserlaw03_MatrixRanks.f
  repeat' first
      | (with_reducible exact ih0 _ _ _ _ _ _)
      | (with_reducible exact geyserlaw03_awake.mono _)
      | (with_reducible exact geyserref02_Same.mono _ _ _)
      | (with_reducible exact geyserref03_Check.mono _ _ _)
      | (with_reducible exact geyserref03_Picks.mono _ _ _)
      | (with_reducible exact geyserref03_Rank.mono _ _ _)
      | (with_reducible exact matrix_Picks.mono _ _ _)
      | (with_reducible exact matrix_Rank.mono _ _ _)
      | (with_reducible exact LeO.refl _)
      | (with_reducible exact LeO.none _)
      | (with_reducible refine LeO.ite ?_ ?_)
      | (with_reducible refine LeO.bind ?_ (fun _ => ?_))
      | exact ih0 _ _ _ _ _ _
      | exact geyserlaw03_awake.mono _
      | exact geyserref02_Same.mono _ _ _
      | exact geyserref03_Check.mono _ _ _
      | exact geyserref03_Picks.mono _ _ _
      | exact geyserref03_Rank.mono _ _ _
      | exact matrix_Picks.mono _ _ _
      | exact matrix_Rank.mono _ _ _
      | exact LeO.none _
      | refine LeO.ite ?_ ?_
      | refine LeO.bind ?_ (fun _ => ?_)
set_option maxHeartbeats 8000000 in
set_option maxRecDepth 100000 in
theorem geyserlaw03_MatrixRanks.calls (k : Nat) (A0 : Option Addr) (c0 : Nat) (l0 : List (List Int)) (a1 : Int) (r : Bool) (w : World) (ht : TabIn w) (he : ErrIn w) (hr0 : Kd.C (Kd.slice 29 (Kd.int .u64)) w A0 l0.length l0) (hc0 : l0.length ≤ c0) (h : geyserlaw03_MatrixRanks.f k l0 a1 = some r) :
    Calls Tryd.prog 5 #[.slice A0 l0.length c0, .int .i64 a1] w fun e w' => e = .returned (.bool r) ∧ Below w.heap.size w w' := by
  have HR0 := Aside0.mk hr0
  have HC0 := Aside0.mk hc0
  clear hr0 hc0
  have HB := Aside0.mk (Below.refl w.heap.size w)
  have HT := Aside0.mk ht
  clear ht
  have HEI := Aside0.mk he
  clear he
  have H : ((geyserlaw03_big.f l0 a1).bind fun t379 => (if t379 = true then ((geyserlaw03_awake.f k).bind fun t380 => (some t380)) else ((matrix_Rank.f k l0 a1).bind fun bt381 => ((matrix_Picks.f k l0 a1).bind fun bt385 => ((geyserref03_Check.f k l0 a1).bind fun t391 => ((geyserlaw03_tells.f bt381.2 t391 (⟨#[109, 97, 116, 114, 105, 120, 46, 82, 97, 110, 107]⟩ : ByteArray)).bind fun t392 => (if t392 = true then ((geyserlaw03_tells.f bt385.2 t391 (⟨#[109, 97, 116, 114, 105, 120, 46, 80, 105, 99, 107, 115]⟩ : ByteArray)).bind fun t393 => (geyserlaw03_MatrixRanks.j0 k l0 a1 bt381.1 bt385.1 t391 (!t393))) else (geyserlaw03_MatrixRanks.j0 k l0 a1 bt381.1 bt385.1 t391 true)))))))) = some r := h
  clear h
  replace H := Option.bind_eq_some_iff.mp H
  obtain ⟨t379, A30, H⟩ := H
  replace H : (if t379 = true then ((geyserlaw03_awake.f k).bind fun t380 => (some t380)) else ((matrix_Rank.f k l0 a1).bind fun bt381 => ((matrix_Picks.f k l0 a1).bind fun bt385 => ((geyserref03_Check.f k l0 a1).bind fun t391 => ((geyserlaw03_tells.f bt381.2 t391 (⟨#[109, 97, 116, 114, 105, 120, 46, 82, 97, 110, 107]⟩ : ByteArray)).bind fun t392 => (if t392 = true then ((geyserlaw03_tells.f bt385.2 t391 (⟨#[109, 97, 116, 114, 105, 120, 46, 80, 105, 99, 107, 115]⟩ : ByteArray)).bind fun t393 => (geyserlaw03_MatrixRanks.j0 k l0 a1 bt381.1 bt385.1 t391 (!t393))) else (geyserlaw03_MatrixRanks.j0 k l0 a1 bt381.1 bt385.1 t391 true))))))) = some r := H
  have A3 := Aside0.mk A30
  clear A30
  by_cases c4 : t379 = true
  · subst c4
    have H1 : ((geyserlaw03_awake.f k).bind fun t380 => (some t380)) = some r := by rw [if_pos rfl] at H; exact H
    clear H
    have H := H1
    clear H1
    replace H := Option.bind_eq_some_iff.mp H
    obtain ⟨t380, A50, H⟩ := H
    replace H : (some t380) = some r := H
    have A5 := Aside0.mk A50
    clear A50
    obtain rfl := Option.some.inj H
    go_enter Tryd.func5, Tryd.ntmps5
    go_wp2_with (first | ((with_reducible refine gate_callee (f := 10) rfl ?_); refine goesL_ (some 12) rfl rfl Tryd.func10 (by kernel_rfl) rfl #[.slice A0 l0.length c0, .int .i64 a1] rfl (by (try simp only [List.map_toArray, List.map_cons, List.map_nil]); first | done | rfl | (simp only [List.length_drop, List.length_take]; rfl)) ?_; (with_reducible refine (geyserlaw03_big.calls _ _ l0 a1 true _ ?side1 ?side2 A3.out).mono ?_); (case side1 => repeat (first | exact HR0.out | (with_reducible refine Kd.C_alloc ?_ _) | (with_reducible refine Kd.C_drewN ?_ _) | (with_reducible refine Kd.C_drew ?_))); (case side2 => exact HC0.out); rintro e w' ⟨rfl, ⟨nd, rfl⟩⟩; refine ⟨_, rfl, ?_⟩) | ((with_reducible refine gate_callee (f := 12) rfl ?_); refine goesL_ (some 13) rfl rfl Tryd.func12 (by kernel_rfl) rfl #[] rfl (by (try simp only [List.map_toArray, List.map_cons, List.map_nil]); first | done | rfl | (simp only [List.length_drop, List.length_take]; rfl)) ?_; (with_reducible refine (geyserlaw03_awake.calls k  t380 _ ?side1 A5.out).mono ?_); (case side1 => first | exact HT.out | exact TabIn.below HT.out (by repeat (first | (with_reducible first | exact HB.out | apply below_alloc | apply pw_below_drewN | apply below_drew1) | exact HB.out)) | (repeat (first | apply TabIn.drewN | apply TabIn.drew | exact HT.out))); rintro e w6 ⟨rfl, hb⟩; refine ⟨_, rfl, ?_⟩; have n0_ := Aside0.mk (below_step (by repeat (first | (with_reducible first | exact HB.out | apply below_alloc | apply pw_below_drewN | apply below_drew1) | exact HB.out)) hb); clear HB; have HB := n0_; clear n0_; (try clear hb); (try clear hb2); (try clear hk); (try clear hi)))
    go_ret
    exact ⟨by first | rfl | (simp [errW_none, errW_some] <;> rfl) | (simp [*, errW_none, errW_some] <;> rfl), by repeat (first | (with_reducible first | exact HB.out | apply below_alloc | apply pw_below_drewN | apply below_drew1) | exact HB.out)⟩
  · replace c4 := Bool.eq_false_iff.mpr c4
    subst c4
    have H1 : ((matrix_Rank.f k l0 a1).bind fun bt381 => ((matrix_Picks.f k l0 a1).bind fun bt385 => ((geyserref03_Check.f k l0 a1).bind fun t391 => ((geyserlaw03_tells.f bt381.2 t391 (⟨#[109, 97, 116, 114, 105, 120, 46, 82, 97, 110, 107]⟩ : ByteArray)).bind fun t392 => (if t392 = true then ((geyserlaw03_tells.f bt385.2 t391 (⟨#[109, 97, 116, 114, 105, 120, 46, 80, 105, 99, 107, 115]⟩ : ByteArray)).bind fun t393 => (geyserlaw03_MatrixRanks.j0 k l0 a1 bt381.1 bt385.1 t391 (!t393))) else (geyserlaw03_MatrixRanks.j0 k l0 a1 bt381.1 bt385.1 t391 true)))))) = some r := by rw [if_neg (show ¬ (false = true) by decide)] at H; exact H
    clear H
    have H := H1
    clear H1
    replace H := Option.bind_eq_some_iff.mp H
    obtain ⟨⟨t381, t382⟩, A70, H⟩ := H
    replace H : ((matrix_Picks.f k l0 a1).bind fun bt385 => ((geyserref03_Check.f k l0 a1).bind fun t391 => ((geyserlaw03_tells.f t382 t391 (⟨#[109, 97, 116, 114, 105, 120, 46, 82, 97, 110, 107]⟩ : ByteArray)).bind fun t392 => (if t392 = true then ((geyserlaw03_tells.f bt385.2 t391 (⟨#[109, 97, 116, 114, 105, 120, 46, 80, 105, 99, 107, 115]⟩ : ByteArray)).bind fun t393 => (geyserlaw03_MatrixRanks.j0 k l0 a1 t381 bt385.1 t391 (!t393))) else (geyserlaw03_MatrixRanks.j0 k l0 a1 t381 bt385.1 t391 true))))) = some r := H
    have A7 := Aside0.mk A70
    clear A70
    replace H := Option.bind_eq_some_iff.mp H
    obtain ⟨⟨t385, t386⟩, A80, H⟩ := H
    replace H : ((geyserref03_Check.f k l0 a1).bind fun t391 => ((geyserlaw03_tells.f t382 t391 (⟨#[109, 97, 116, 114, 105, 120, 46, 82, 97, 110, 107]⟩ : ByteArray)).bind fun t392 => (if t392 = true then ((geyserlaw03_tells.f t386 t391 (⟨#[109, 97, 116, 114, 105, 120, 46, 80, 105, 99, 107, 115]⟩ : ByteArray)).bind fun t393 => (geyserlaw03_MatrixRanks.j0 k l0 a1 t381 t385 t391 (!t393))) else (geyserlaw03_MatrixRanks.j0 k l0 a1 t381 t385 t391 true)))) = some r := H
    have A8 := Aside0.mk A80
    clear A80
    replace H := Option.bind_eq_some_iff.mp H
    obtain ⟨t391, A90, H⟩ := H
    replace H : ((geyserlaw03_tells.f t382 t391 (⟨#[109, 97, 116, 114, 105, 120, 46, 82, 97, 110, 107]⟩ : ByteArray)).bind fun t392 => (if t392 = true then ((geyserlaw03_tells.f t386 t391 (⟨#[109, 97, 116, 114, 105, 120, 46, 80, 105, 99, 107, 115]⟩ : ByteArray)).bind fun t393 => (geyserlaw03_MatrixRanks.j0 k l0 a1 t381 t385 t391 (!t393))) else (geyserlaw03_MatrixRanks.j0 k l0 a1 t381 t385 t391 true))) = some r := H
    have A9 := Aside0.mk A90
    clear A90
    have HC10 := Aside0.mk H
    clear H
    go_enter Tryd.func5, Tryd.ntmps5
    go_upto_region 6 with (first | ((with_reducible refine gate_callee (f := 10) rfl ?_); refine goesL_ (some 12) rfl rfl Tryd.func10 (by kernel_rfl) rfl #[.slice A0 l0.length c0, .int .i64 a1] rfl (by (try simp only [List.map_toArray, List.map_cons, List.map_nil]); first | done | rfl | (simp only [List.length_drop, List.length_take]; rfl)) ?_; (with_reducible refine (geyserlaw03_big.calls _ _ l0 a1 false _ ?side1 ?side2 A3.out).mono ?_); (case side1 => repeat (first | exact HR0.out | (with_reducible refine Kd.C_alloc ?_ _) | (with_reducible refine Kd.C_drewN ?_ _) | (with_reducible refine Kd.C_drew ?_))); (case side2 => exact HC0.out); rintro e w' ⟨rfl, ⟨nd, rfl⟩⟩; refine ⟨_, rfl, ?_⟩) | ((with_reducible refine gate_callee (f := 14) rfl ?_); refine goesL_ (some 17) rfl rfl Tryd.func14 (by kernel_rfl) rfl #[.slice A0 l0.length c0, .int .i64 a1] rfl (by (try simp only [List.map_toArray, List.map_cons, List.map_nil]); first | done | rfl | (simp only [List.length_drop, List.length_take]; rfl)) ?_; (with_reducible refine (matrix_Rank.calls k _ _ l0 a1 t381 t382 _ ?side1 ?side2 ?side3 A7.out).mono ?_); (case side1 => first | exact HT.out | exact TabIn.below HT.out (by repeat (first | (with_reducible first | exact HB.out | apply below_alloc | apply pw_below_drewN | apply below_drew1) | exact HB.out)) | (repeat (first | apply TabIn.drewN | apply TabIn.drew | exact HT.out))); (case side2 => repeat (first | exact HR0.out | (with_reducible refine Kd.C_alloc ?_ _) | (with_reducible refine Kd.C_drewN ?_ _) | (with_reducible refine Kd.C_drew ?_))); (case side3 => exact HC0.out); rintro e w11 ⟨v383, rfl, ho0, hb⟩; refine ⟨_, rfl, ?_⟩; have n0_ := Aside0.mk (Kd.R_lower ho0 (below_size (by repeat (first | (with_reducible first | exact HB.out | apply below_alloc | apply pw_below_drewN | apply below_drew1) | exact HB.out)))); have n1_ := Aside0.mk (below_step (by repeat (first | (with_reducible first | exact HB.out | apply below_alloc | apply pw_below_drewN | apply below_drew1) | exact HB.out)) hb); clear HB; have HO384 := n0_; have HB := n1_; clear n0_ n1_; (try clear hb); (try clear hb2); (try clear hk); (try clear hi); (try clear ho0)) | ((with_reducible refine gate_callee (f := 18) rfl ?_); refine goesL_ (some 23) rfl rfl Tryd.func18 (by kernel_rfl) rfl #[.slice A0 l0.length c0, .int .i64 a1] rfl (by (try simp only [List.map_toArray, List.map_cons, List.map_nil]); first | done | rfl | (simp only [List.length_drop, List.length_take]; rfl)) ?_; (with_reducible refine (matrix_Picks.calls k _ _ l0 a1 t385 t386 _ ?side1 ?side2 ?side3 A8.out).mono ?_); (case side1 => first | exact HT.out | exact TabIn.below HT.out (by repeat (first | (with_reducible first | exact HB.out | apply below_alloc | apply pw_below_drewN | apply below_drew1) | exact HB.out)) | (repeat (first | apply TabIn.drewN | apply TabIn.drew | exact HT.out))); (case side2 => repeat (first | exact (Kd.C_below HR0.out HB.out) | (with_reducible refine Kd.C_alloc ?_ _) | (with_reducible refine Kd.C_drewN ?_ _) | (with_reducible refine Kd.C_drew ?_))); (case side3 => exact HC0.out); rintro e w12 ⟨v387, v389, rfl, ho0, ho1, hb⟩; refine ⟨_, rfl, ?_⟩; have n0_ := Aside0.mk (Kd.R_below (by (with_reducible repeat (first | apply Kd.R_alloc | apply Kd.R_drewN | apply Kd.R_drew)); exact HO384.out) hb); have n1_ := Aside0.mk (Kd.R_lower ho0 (below_size (by repeat (first | (with_reducible first | exact HB.out | apply below_alloc | apply pw_below_drewN | apply below_drew1) | exact HB.out)))); have n2_ := Aside0.mk (Kd.R_lower ho1 (below_size (by repeat (first | (with_reducible first | exact HB.out | apply below_alloc | apply pw_below_drewN | apply below_drew1) | exact HB.out)))); have n3_ := Aside0.mk (below_step (by repeat (first | (with_reducible first | exact HB.out | apply below_alloc | apply pw_below_drewN | apply below_drew1) | exact HB.out)) hb); clear HO384; clear HB; have HO384 := n0_; have HO388 := n1_; have HO390 := n2_; have HB := n3_; clear n0_ n1_ n2_ n3_; (try clear hb); (try clear hb2); (try clear hk); (try clear hi); (try clear ho0); (try clear ho1)) | ((with_reducible refine gate_callee (f := 11) rfl ?_); refine goesL_ (some 28) rfl rfl Tryd.func11 (by kernel_rfl) rfl #[.slice A0 l0.length c0, .int .i64 a1] rfl (by (try simp only [List.map_toArray, List.map_cons, List.map_nil]); first | done | rfl | (simp only [List.length_drop, List.length_take]; rfl)) ?_; (with_reducible refine (geyserref03_Check.calls k _ _ l0 a1 t391 _ ?side1 ?side2 A9.out).mono ?_); (case side1 => repeat (first | exact (Kd.C_below HR0.out HB.out) | (with_reducible refine Kd.C_alloc ?_ _) | (with_reducible refine Kd.C_drewN ?_ _) | (with_reducible refine Kd.C_drew ?_))); (case side2 => exact HC0.out); rintro e w' ⟨rfl, ⟨nd, rfl⟩⟩; refine ⟨_, rfl, ?_⟩))
    (try simp only [Act.put, List.setIfInBounds_toArray, List.set_cons_zero, List.set_cons_succ])
    go_cut [38] (fun v38 wc => ∃ (kq : Nat) (x38_9 : Bool), v38 = .bool x38_9 ∧ Aside0 (geyserlaw03_MatrixRanks.j0 kq l0 a1 t381 t385 t391 x38_9 = some r) ∧ Aside0 (kq ≤ k) ∧ Aside0 (Kd.R (Kd.int .i64) 3 wc w.heap.size (fun _ => True) v387 t385) ∧ Aside0 (Below w.heap.size w wc))
    case first =>
      have H := HC10.out
      clear HC10
      replace H := Option.bind_eq_some_iff.mp H
      obtain ⟨t392, A130, H⟩ := H
      replace H : (if t392 = true then ((geyserlaw03_tells.f t386 t391 (⟨#[109, 97, 116, 114, 105, 120, 46, 80, 105, 99, 107, 115]⟩ : ByteArray)).bind fun t393 => (geyserlaw03_MatrixRanks.j0 k l0 a1 t381 t385 t391 (!t393))) else (geyserlaw03_MatrixRanks.j0 k l0 a1 t381 t385 t391 true)) = some r := H
      have A13 := Aside0.mk A130
      clear A130
      by_cases c14 : t392 = true
      · subst c14
        have H1 : ((geyserlaw03_tells.f t386 t391 (⟨#[109, 97, 116, 114, 105, 120, 46, 80, 105, 99, 107, 115]⟩ : ByteArray)).bind fun t393 => (geyserlaw03_MatrixRanks.j0 k l0 a1 t381 t385 t391 (!t393))) = some r := by rw [if_pos rfl] at H; exact H
        clear H
        have H := H1
        clear H1
        replace H := Option.bind_eq_some_iff.mp H
        obtain ⟨t393, A150, H⟩ := H
        replace H : (geyserlaw03_MatrixRanks.j0 k l0 a1 t381 t385 t391 (!t393)) = some r := H
        have A15 := Aside0.mk A150
        clear A150
        have H' := Aside0.mk H
        clear H
        obtain ⟨Ao16, co16, eo16⟩ := Kd.R_slice HO384.out
        subst eo16
        go_wp2_with (first | ((with_reducible refine gate_callee (f := 16) rfl ?_); refine goesL_ (some 31) rfl rfl Tryd.func16 (by kernel_rfl) rfl #[errOf (.slice Ao16 t382.length co16), .int .i64 t391, .string (⟨#[109, 97, 116, 114, 105, 120, 46, 82, 97, 110, 107]⟩ : ByteArray)] rfl (by (try simp only [List.map_toArray, List.map_cons, List.map_nil]); first | done | rfl | (simp only [List.length_drop, List.length_take]; rfl)) ?_; (with_reducible refine (geyserlaw03_tells.calls _ _ t382 t391 (⟨#[109, 97, 116, 114, 105, 120, 46, 82, 97, 110, 107]⟩ : ByteArray) true _ ?side1 ?side2 ?side3 A13.out).mono ?_); (case side1 => first | exact HEI.out | exact ErrIn.below HEI.out (by repeat (first | (with_reducible first | exact HB.out | apply below_alloc | apply pw_below_drewN | apply below_drew1) | exact HB.out)) | (repeat (first | apply ErrIn.drewN | apply ErrIn.drew | exact HEI.out))); (case side2 => repeat (first | exact (Kd.R_reads' HO384.out).2.2 | (with_reducible refine Kd.C_alloc ?_ _) | (with_reducible refine Kd.C_drewN ?_ _) | (with_reducible refine Kd.C_drew ?_))); (case side3 => exact (Kd.R_reads' HO384.out).2.1); rintro e w17 ⟨rfl, hb⟩; refine ⟨_, rfl, ?_⟩; have n0_ := Aside0.mk (Kd.R_below (by (with_reducible repeat (first | apply Kd.R_alloc | apply Kd.R_drewN | apply Kd.R_drew)); exact HO384.out) hb); have n1_ := Aside0.mk (Kd.R_below (by (with_reducible repeat (first | apply Kd.R_alloc | apply Kd.R_drewN | apply Kd.R_drew)); exact HO388.out) hb); have n2_ := Aside0.mk (Kd.R_below (by (with_reducible repeat (first | apply Kd.R_alloc | apply Kd.R_drewN | apply Kd.R_drew)); exact HO390.out) hb); have n3_ := Aside0.mk (below_step (by repeat (first | (with_reducible first | exact HB.out | apply below_alloc | apply pw_below_drewN | apply below_drew1) | exact HB.out)) hb); clear HO384; clear HO388; clear HO390; clear HB; have HO384 := n0_; have HO388 := n1_; have HO390 := n2_; have HB := n3_; clear n0_ n1_ n2_ n3_; (try clear hb); (try clear hb2); (try clear hk); (try clear hi); obtain ⟨Ao18, co18, eo18⟩ := Kd.R_slice HO390.out; subst eo18) | (go_at_call 16; (with_reducible refine (geyserlaw03_tells.calls _ _ t386 t391 (⟨#[109, 97, 116, 114, 105, 120, 46, 80, 105, 99, 107, 115]⟩ : ByteArray) t393 _ ?side1 ?side2 ?side3 A15.out).mono ?_); (case side1 => first | exact HEI.out | exact ErrIn.below HEI.out (by repeat (first | (with_reducible first | exact HB.out | apply below_alloc | apply pw_below_drewN | apply below_drew1) | exact HB.out)) | (repeat (first | apply ErrIn.drewN | apply ErrIn.drew | exact HEI.out))); (case side2 => repeat (first | exact (Kd.R_reads' HO390.out).2.2 | (with_reducible refine Kd.C_alloc ?_ _) | (with_reducible refine Kd.C_drewN ?_ _) | (with_reducible refine Kd.C_drew ?_))); (case side3 => exact (Kd.R_reads' HO390.out).2.1); rintro e w19 ⟨rfl, hb⟩; have n0_ := Aside0.mk (Kd.R_below (by (with_reducible repeat (first | apply Kd.R_alloc | apply Kd.R_drewN | apply Kd.R_drew)); exact HO384.out) hb); have n1_ := Aside0.mk (Kd.R_below (by (with_reducible repeat (first | apply Kd.R_alloc | apply Kd.R_drewN | apply Kd.R_drew)); exact HO388.out) hb); have n2_ := Aside0.mk (Kd.R_below (by (with_reducible repeat (first | apply Kd.R_alloc | apply Kd.R_drewN | apply Kd.R_drew)); exact HO390.out) hb); have n3_ := Aside0.mk (below_step (by repeat (first | (with_reducible first | exact HB.out | apply below_alloc | apply pw_below_drewN | apply below_drew1) | exact HB.out)) hb); clear HO384; clear HO388; clear HO390; clear HB; have HO384 := n0_; have HO388 := n1_; have HO390 := n2_; have HB := n3_; clear n0_ n1_ n2_ n3_; (try clear hb); (try clear hb2); (try clear hk); (try clear hi)))
        go_meet
        case rel => exact ⟨_, (!t393), (by first | rfl | (simp; done) | (simp [*]; done)), H', ⟨by first | omega | exact Nat.le_refl _⟩, ⟨by (with_reducible repeat (first | apply Kd.R_alloc | apply Kd.R_drewN | apply Kd.R_drew)); exact HO388.out⟩, ⟨by repeat (first | (with_reducible first | exact HB.out | apply below_alloc | apply pw_below_drewN | apply below_drew1) | exact HB.out)⟩⟩
      · replace c14 := Bool.eq_false_iff.mpr c14
        subst c14
        have H1 : (geyserlaw03_MatrixRanks.j0 k l0 a1 t381 t385 t391 true) = some r := by rw [if_neg (show ¬ (false = true) by decide)] at H; exact H
        clear H
        have H := H1
        clear H1
        have H' := Aside0.mk H
        clear H
        obtain ⟨Ao20, co20, eo20⟩ := Kd.R_slice HO384.out
        subst eo20
        go_wp2_with (first | ((with_reducible refine gate_callee (f := 16) rfl ?_); refine goesL_ (some 31) rfl rfl Tryd.func16 (by kernel_rfl) rfl #[errOf (.slice Ao20 t382.length co20), .int .i64 t391, .string (⟨#[109, 97, 116, 114, 105, 120, 46, 82, 97, 110, 107]⟩ : ByteArray)] rfl (by (try simp only [List.map_toArray, List.map_cons, List.map_nil]); first | done | rfl | (simp only [List.length_drop, List.length_take]; rfl)) ?_; (with_reducible refine (geyserlaw03_tells.calls _ _ t382 t391 (⟨#[109, 97, 116, 114, 105, 120, 46, 82, 97, 110, 107]⟩ : ByteArray) false _ ?side1 ?side2 ?side3 A13.out).mono ?_); (case side1 => first | exact HEI.out | exact ErrIn.below HEI.out (by repeat (first | (with_reducible first | exact HB.out | apply below_alloc | apply pw_below_drewN | apply below_drew1) | exact HB.out)) | (repeat (first | apply ErrIn.drewN | apply ErrIn.drew | exact HEI.out))); (case side2 => repeat (first | exact (Kd.R_reads' HO384.out).2.2 | (with_reducible refine Kd.C_alloc ?_ _) | (with_reducible refine Kd.C_drewN ?_ _) | (with_reducible refine Kd.C_drew ?_))); (case side3 => exact (Kd.R_reads' HO384.out).2.1); rintro e w21 ⟨rfl, hb⟩; refine ⟨_, rfl, ?_⟩; have n0_ := Aside0.mk (Kd.R_below (by (with_reducible repeat (first | apply Kd.R_alloc | apply Kd.R_drewN | apply Kd.R_drew)); exact HO384.out) hb); have n1_ := Aside0.mk (Kd.R_below (by (with_reducible repeat (first | apply Kd.R_alloc | apply Kd.R_drewN | apply Kd.R_drew)); exact HO388.out) hb); have n2_ := Aside0.mk (Kd.R_below (by (with_reducible repeat (first | apply Kd.R_alloc | apply Kd.R_drewN | apply Kd.R_drew)); exact HO390.out) hb); have n3_ := Aside0.mk (below_step (by repeat (first | (with_reducible first | exact HB.out | apply below_alloc | apply pw_below_drewN | apply below_drew1) | exact HB.out)) hb); clear HO384; clear HO388; clear HO390; clear HB; have HO384 := n0_; have HO388 := n1_; have HO390 := n2_; have HB := n3_; clear n0_ n1_ n2_ n3_; (try clear hb); (try clear hb2); (try clear hk); (try clear hi)))
        go_meet
        case rel => exact ⟨_, (true), (by first | rfl | (simp; done) | (simp [*]; done)), H', ⟨by first | omega | exact Nat.le_refl _⟩, ⟨by (with_reducible repeat (first | apply Kd.R_alloc | apply Kd.R_drewN | apply Kd.R_drew)); exact HO388.out⟩, ⟨by repeat (first | (with_reducible first | exact HB.out | apply below_alloc | apply pw_below_drewN | apply below_drew1) | exact HB.out)⟩⟩
    case rest =>
      clear HC10
      try clear c1
      try clear p2
      try clear c4
      try clear c5
      try clear c10
      try clear c11
      try clear c12
      try clear c14
      try clear c16
      try clear c18
      obtain ⟨kq, x38_9, rfl, HA, HJ9, HO_7, HB⟩ := hcut
      cases kq with
      | zero => exact absurd HA.out (by simp [geyserlaw03_MatrixRanks.j0])
      | succ kj9 =>
        have H := HA.out
        clear HA
        simp only [geyserlaw03_MatrixRanks.j0] at H
        by_cases c22 : x38_9 = true
        · subst c22
          have H1 : (some false) = some r := by rw [if_pos rfl] at H; exact H
          clear H
          have H := H1
          clear H1
          obtain rfl := Option.some.inj H
          go_wp2
          go_ret
          exact ⟨by first | rfl | (simp [errW_none, errW_some] <;> rfl) | (simp [*, errW_none, errW_some] <;> rfl), by repeat (first | (with_reducible first | exact HB.out | apply below_alloc | apply pw_below_drewN | apply below_drew1) | exact HB.out)⟩
        · replace c22 := Bool.eq_false_iff.mpr c22
          subst c22
          have H1 : (if t391 = 0 then ((geyserref03_Rank.f kj9 l0 a1).bind fun t395 => (if t381 = t395 then ((geyserref03_Picks.f kj9 l0 a1).bind fun t396 => ((geyserref02_Same.f kj9 t385 t396).bind fun t399 => (if t399 = true then ((geyserlaw03_awake.f kj9).bind fun t400 => (some t400)) else (some false)))) else (some false))) else (if t381 = 0 then (if (t385.length : Int) = 0 then ((geyserlaw03_awake.f kj9).bind fun t394 => (some t394)) else (some false)) else (some false))) = some r := by rw [if_neg (show ¬ (false = true) by decide)] at H; exact H
          clear H
          have H := H1
          clear H1
          by_cases c23 : t391 = 0
          · rw [if_pos c23] at H
            have c23b0 : (t391 == 0) = true := beq_iff_eq.mpr c23
            have c23b1 : (t391 != 0) = false := bne_eq_false_iff_eq.mpr c23
            clear c23
            replace H := Option.bind_eq_some_iff.mp H
            obtain ⟨t395, A240, H⟩ := H
            replace H : (if t381 = t395 then ((geyserref03_Picks.f kj9 l0 a1).bind fun t396 => ((geyserref02_Same.f kj9 t385 t396).bind fun t399 => (if t399 = true then ((geyserlaw03_awake.f kj9).bind fun t400 => (some t400)) else (some false)))) else (some false)) = some r := H
            have A24 := Aside0.mk A240
            clear A240
            by_cases c25 : t381 = t395
            · rw [if_pos c25] at H
              have c25b0 : (t381 == t395) = true := beq_iff_eq.mpr c25
              have c25b1 : (t381 != t395) = false := bne_eq_false_iff_eq.mpr c25
              clear c25
              replace H := Option.bind_eq_some_iff.mp H
              obtain ⟨t396, A260, H⟩ := H
              replace H : ((geyserref02_Same.f kj9 t385 t396).bind fun t399 => (if t399 = true then ((geyserlaw03_awake.f kj9).bind fun t400 => (some t400)) else (some false))) = some r := H
              have A26 := Aside0.mk A260
              clear A260
              replace H := Option.bind_eq_some_iff.mp H
              obtain ⟨t399, A270, H⟩ := H
              replace H : (if t399 = true then ((geyserlaw03_awake.f kj9).bind fun t400 => (some t400)) else (some false)) = some r := H
              have A27 := Aside0.mk A270
              clear A270
              by_cases c28 : t399 = true
              · subst c28
                have H1 : ((geyserlaw03_awake.f kj9).bind fun t400 => (some t400)) = some r := by rw [if_pos rfl] at H; exact H
                clear H
                have H := H1
                clear H1
                replace H := Option.bind_eq_some_iff.mp H
                obtain ⟨t400, A290, H⟩ := H
                replace H : (some t400) = some r := H
                have A29 := Aside0.mk A290
                clear A290
                obtain rfl := Option.some.inj H
                go_wp2_with (first | ((with_reducible refine gate_callee (f := 19) rfl ?_); refine goesL_ (some 54) rfl rfl Tryd.func19 (by kernel_rfl) rfl #[.slice A0 l0.length c0, .int .i64 a1] rfl (by (try simp only [List.map_toArray, List.map_cons, List.map_nil]); first | done | rfl | (simp only [List.length_drop, List.length_take]; rfl)) ?_; (with_reducible refine (geyserref03_Rank.calls kj9 _ _ l0 a1 t395 _ ?side1 ?side2 A24.out).mono ?_); (case side1 => repeat (first | exact (Kd.C_below HR0.out HB.out) | (with_reducible refine Kd.C_alloc ?_ _) | (with_reducible refine Kd.C_drewN ?_ _) | (with_reducible refine Kd.C_drew ?_))); (case side2 => exact HC0.out); rintro e w30 ⟨rfl, hb⟩; refine ⟨_, rfl, ?_⟩; have n0_ := Aside0.mk (Kd.R_below (by (with_reducible repeat (first | apply Kd.R_alloc | apply Kd.R_drewN | apply Kd.R_drew)); exact HO_7.out) hb); have n1_ := Aside0.mk (below_step (by repeat (first | (with_reducible first | exact HB.out | apply below_alloc | apply pw_below_drewN | apply below_drew1) | exact HB.out)) hb); clear HO_7; clear HB; have HO_7 := n0_; have HB := n1_; clear n0_ n1_; (try clear hb); (try clear hb2); (try clear hk); (try clear hi)) | (go_at_call 21; (with_reducible refine (geyserref03_Picks.calls kj9 _ _ l0 a1 t396 _ ?side1 ?side2 A26.out).mono ?_); (case side1 => repeat (first | exact (Kd.C_below HR0.out HB.out) | (with_reducible refine Kd.C_alloc ?_ _) | (with_reducible refine Kd.C_drewN ?_ _) | (with_reducible refine Kd.C_drew ?_))); (case side2 => exact HC0.out); rintro e w31 ⟨v397, rfl, ho0, hb⟩; have n0_ := Aside0.mk (Kd.R_elder' (by (with_reducible repeat (first | apply Kd.R_alloc | apply Kd.R_drewN | apply Kd.R_drew)); exact HO_7.out) (Kd.R_base ho0) hb); have n1_ := Aside0.mk (Kd.R_lower (Kd.R_new' ho0 (Kd.R_lt (by (with_reducible repeat (first | apply Kd.R_alloc | apply Kd.R_drewN | apply Kd.R_drew)); exact HO_7.out))) (below_size (by repeat (first | (with_reducible first | exact HB.out | apply below_alloc | apply pw_below_drewN | apply below_drew1) | exact HB.out)))); have n2_ := Aside0.mk (below_step (by repeat (first | (with_reducible first | exact HB.out | apply below_alloc | apply pw_below_drewN | apply below_drew1) | exact HB.out)) hb); clear HO_7; clear HB; have HO_7 := n0_; have HO398 := n1_; have HB := n2_; clear n0_ n1_ n2_; (try clear hb); (try clear hb2); (try clear hk); (try clear hi); (try clear ho0); obtain ⟨Ao32, co32, eo32⟩ := Kd.R_slice HO_7.out; subst eo32; obtain ⟨Ao33, co33, eo33⟩ := Kd.R_slice HO398.out; subst eo33) | (go_at_call 20; (with_reducible refine (geyserref02_Same.calls kj9 _ _ t385 _ _ t396 true _ ?side1 ?side2 ?side3 ?side4 A27.out).mono ?_); (case side1 => repeat (first | exact (Kd.R_reads' HO_7.out).2.2 | (with_reducible refine Kd.C_alloc ?_ _) | (with_reducible refine Kd.C_drewN ?_ _) | (with_reducible refine Kd.C_drew ?_))); (case side2 => exact (Kd.R_reads' HO_7.out).2.1); (case side3 => repeat (first | exact (Kd.R_reads' HO398.out).2.2 | (with_reducible refine Kd.C_alloc ?_ _) | (with_reducible refine Kd.C_drewN ?_ _) | (with_reducible refine Kd.C_drew ?_))); (case side4 => exact (Kd.R_reads' HO398.out).2.1); rintro e w' ⟨rfl, ⟨nd, rfl⟩⟩) | (go_at_call 12; (with_reducible refine (geyserlaw03_awake.calls kj9  t400 _ ?side1 A29.out).mono ?_); (case side1 => first | exact HT.out | exact TabIn.below HT.out (by repeat (first | (with_reducible first | exact HB.out | apply below_alloc | apply pw_below_drewN | apply below_drew1) | exact HB.out)) | (repeat (first | apply TabIn.drewN | apply TabIn.drew | exact HT.out))); rintro e w34 ⟨rfl, hb⟩; have n0_ := Aside0.mk (Kd.R_below (by (with_reducible repeat (first | apply Kd.R_alloc | apply Kd.R_drewN | apply Kd.R_drew)); exact HO_7.out) hb); have n1_ := Aside0.mk (Kd.R_below (by (with_reducible repeat (first | apply Kd.R_alloc | apply Kd.R_drewN | apply Kd.R_drew)); exact HO398.out) hb); have n2_ := Aside0.mk (below_step (by repeat (first | (with_reducible first | exact HB.out | apply below_alloc | apply pw_below_drewN | apply below_drew1) | exact HB.out)) hb); clear HO_7; clear HO398; clear HB; have HO_7 := n0_; have HO398 := n1_; have HB := n2_; clear n0_ n1_ n2_; (try clear hb); (try clear hb2); (try clear hk); (try clear hi)))
                go_ret
                exact ⟨by first | rfl | (simp [errW_none, errW_some] <;> rfl) | (simp [*, errW_none, errW_some] <;> rfl), by repeat (first | (with_reducible first | exact HB.out | apply below_alloc | apply pw_below_drewN | apply below_drew1) | exact HB.out)⟩
              · replace c28 := Bool.eq_false_iff.mpr c28
                subst c28
                have H1 : (some false) = some r := by rw [if_neg (show ¬ (false = true) by decide)] at H; exact H
                clear H
                have H := H1
                clear H1
                obtain rfl := Option.some.inj H
                go_wp2_with (first | ((with_reducible refine gate_callee (f := 19) rfl ?_); refine goesL_ (some 54) rfl rfl Tryd.func19 (by kernel_rfl) rfl #[.slice A0 l0.length c0, .int .i64 a1] rfl (by (try simp only [List.map_toArray, List.map_cons, List.map_nil]); first | done | rfl | (simp only [List.length_drop, List.length_take]; rfl)) ?_; (with_reducible refine (geyserref03_Rank.calls kj9 _ _ l0 a1 t395 _ ?side1 ?side2 A24.out).mono ?_); (case side1 => repeat (first | exact (Kd.C_below HR0.out HB.out) | (with_reducible refine Kd.C_alloc ?_ _) | (with_reducible refine Kd.C_drewN ?_ _) | (with_reducible refine Kd.C_drew ?_))); (case side2 => exact HC0.out); rintro e w35 ⟨rfl, hb⟩; refine ⟨_, rfl, ?_⟩; have n0_ := Aside0.mk (Kd.R_below (by (with_reducible repeat (first | apply Kd.R_alloc | apply Kd.R_drewN | apply Kd.R_drew)); exact HO_7.out) hb); have n1_ := Aside0.mk (below_step (by repeat (first | (with_reducible first | exact HB.out | apply below_alloc | apply pw_below_drewN | apply below_drew1) | exact HB.out)) hb); clear HO_7; clear HB; have HO_7 := n0_; have HB := n1_; clear n0_ n1_; (try clear hb); (try clear hb2); (try clear hk); (try clear hi)) | (go_at_call 21; (with_reducible refine (geyserref03_Picks.calls kj9 _ _ l0 a1 t396 _ ?side1 ?side2 A26.out).mono ?_); (case side1 => repeat (first | exact (Kd.C_below HR0.out HB.out) | (with_reducible refine Kd.C_alloc ?_ _) | (with_reducible refine Kd.C_drewN ?_ _) | (with_reducible refine Kd.C_drew ?_))); (case side2 => exact HC0.out); rintro e w36 ⟨v397, rfl, ho0, hb⟩; have n0_ := Aside0.mk (Kd.R_elder' (by (with_reducible repeat (first | apply Kd.R_alloc | apply Kd.R_drewN | apply Kd.R_drew)); exact HO_7.out) (Kd.R_base ho0) hb); have n1_ := Aside0.mk (Kd.R_lower (Kd.R_new' ho0 (Kd.R_lt (by (with_reducible repeat (first | apply Kd.R_alloc | apply Kd.R_drewN | apply Kd.R_drew)); exact HO_7.out))) (below_size (by repeat (first | (with_reducible first | exact HB.out | apply below_alloc | apply pw_below_drewN | apply below_drew1) | exact HB.out)))); have n2_ := Aside0.mk (below_step (by repeat (first | (with_reducible first | exact HB.out | apply below_alloc | apply pw_below_drewN | apply below_drew1) | exact HB.out)) hb); clear HO_7; clear HB; have HO_7 := n0_; have HO398 := n1_; have HB := n2_; clear n0_ n1_ n2_; (try clear hb); (try clear hb2); (try clear hk); (try clear hi); (try clear ho0); obtain ⟨Ao37, co37, eo37⟩ := Kd.R_slice HO_7.out; subst eo37; obtain ⟨Ao38, co38, eo38⟩ := Kd.R_slice HO398.out; subst eo38) | (go_at_call 20; (with_reducible refine (geyserref02_Same.calls kj9 _ _ t385 _ _ t396 false _ ?side1 ?side2 ?side3 ?side4 A27.out).mono ?_); (case side1 => repeat (first | exact (Kd.R_reads' HO_7.out).2.2 | (with_reducible refine Kd.C_alloc ?_ _) | (with_reducible refine Kd.C_drewN ?_ _) | (with_reducible refine Kd.C_drew ?_))); (case side2 => exact (Kd.R_reads' HO_7.out).2.1); (case side3 => repeat (first | exact (Kd.R_reads' HO398.out).2.2 | (with_reducible refine Kd.C_alloc ?_ _) | (with_reducible refine Kd.C_drewN ?_ _) | (with_reducible refine Kd.C_drew ?_))); (case side4 => exact (Kd.R_reads' HO398.out).2.1); rintro e w' ⟨rfl, ⟨nd, rfl⟩⟩))
                go_ret
                exact ⟨by first | rfl | (simp [errW_none, errW_some] <;> rfl) | (simp [*, errW_none, errW_some] <;> rfl), by repeat (first | (with_reducible first | exact HB.out | apply below_alloc | apply pw_below_drewN | apply below_drew1) | exact HB.out)⟩
            · rw [if_neg c25] at H
              have c25b0 : (t381 == t395) = false := beq_eq_false_iff_ne.mpr c25
              have c25b1 : (t381 != t395) = true := bne_iff_ne.mpr c25
              obtain rfl := Option.some.inj H
              go_wp2_with (first | ((with_reducible refine gate_callee (f := 19) rfl ?_); refine goesL_ (some 54) rfl rfl Tryd.func19 (by kernel_rfl) rfl #[.slice A0 l0.length c0, .int .i64 a1] rfl (by (try simp only [List.map_toArray, List.map_cons, List.map_nil]); first | done | rfl | (simp only [List.length_drop, List.length_take]; rfl)) ?_; (with_reducible refine (geyserref03_Rank.calls kj9 _ _ l0 a1 t395 _ ?side1 ?side2 A24.out).mono ?_); (case side1 => repeat (first | exact (Kd.C_below HR0.out HB.out) | (with_reducible refine Kd.C_alloc ?_ _) | (with_reducible refine Kd.C_drewN ?_ _) | (with_reducible refine Kd.C_drew ?_))); (case side2 => exact HC0.out); rintro e w39 ⟨rfl, hb⟩; refine ⟨_, rfl, ?_⟩; have n0_ := Aside0.mk (Kd.R_below (by (with_reducible repeat (first | apply Kd.R_alloc | apply Kd.R_drewN | apply Kd.R_drew)); exact HO_7.out) hb); have n1_ := Aside0.mk (below_step (by repeat (first | (with_reducible first | exact HB.out | apply below_alloc | apply pw_below_drewN | apply below_drew1) | exact HB.out)) hb); clear HO_7; clear HB; have HO_7 := n0_; have HB := n1_; clear n0_ n1_; (try clear hb); (try clear hb2); (try clear hk); (try clear hi)))
              go_ret
              exact ⟨by first | rfl | (simp [errW_none, errW_some] <;> rfl) | (simp [*, errW_none, errW_some] <;> rfl), by repeat (first | (with_reducible first | exact HB.out | apply below_alloc | apply pw_below_drewN | apply below_drew1) | exact HB.out)⟩
          · rw [if_neg c23] at H
            have c23b0 : (t391 == 0) = false := beq_eq_false_iff_ne.mpr c23
            have c23b1 : (t391 != 0) = true := bne_iff_ne.mpr c23
            by_cases c40 : t381 = 0
            · rw [if_pos c40] at H
              have c40b0 : (t381 == 0) = true := beq_iff_eq.mpr c40
              have c40b1 : (t381 != 0) = false := bne_eq_false_iff_eq.mpr c40
              clear c40
              by_cases c41 : (t385.length : Int) = 0
              · rw [if_pos c41] at H
                have c41b0 : ((t385.length : Int) == 0) = true := beq_iff_eq.mpr c41
                have c41b1 : ((t385.length : Int) != 0) = false := bne_eq_false_iff_eq.mpr c41
                clear c41
                replace H := Option.bind_eq_some_iff.mp H
                obtain ⟨t394, A420, H⟩ := H
                replace H : (some t394) = some r := H
                have A42 := Aside0.mk A420
                clear A420
                obtain rfl := Option.some.inj H
                obtain ⟨Ao43, co43, eo43⟩ := Kd.R_slice HO_7.out
                subst eo43
                go_wp2_with (first | (go_at_call 12; (with_reducible refine (geyserlaw03_awake.calls kj9  t394 _ ?side1 A42.out).mono ?_); (case side1 => first | exact HT.out | exact TabIn.below HT.out (by repeat (first | (with_reducible first | exact HB.out | apply below_alloc | apply pw_below_drewN | apply below_drew1) | exact HB.out)) | (repeat (first | apply TabIn.drewN | apply TabIn.drew | exact HT.out))); rintro e w44 ⟨rfl, hb⟩; have n0_ := Aside0.mk (Kd.R_below (by (with_reducible repeat (first | apply Kd.R_alloc | apply Kd.R_drewN | apply Kd.R_drew)); exact HO_7.out) hb); have n1_ := Aside0.mk (below_step (by repeat (first | (with_reducible first | exact HB.out | apply below_alloc | apply pw_below_drewN | apply below_drew1) | exact HB.out)) hb); clear HO_7; clear HB; have HO_7 := n0_; have HB := n1_; clear n0_ n1_; (try clear hb); (try clear hb2); (try clear hk); (try clear hi)))
                go_ret
                exact ⟨by first | rfl | (simp [errW_none, errW_some] <;> rfl) | (simp [*, errW_none, errW_some] <;> rfl), by repeat (first | (with_reducible first | exact HB.out | apply below_alloc | apply pw_below_drewN | apply below_drew1) | exact HB.out)⟩
              · rw [if_neg c41] at H
                have c41b0 : ((t385.length : Int) == 0) = false := beq_eq_false_iff_ne.mpr c41
                have c41b1 : ((t385.length : Int) != 0) = true := bne_iff_ne.mpr c41
                have c41b2 : ¬ (t385 = []) := fun h_ => c41 (by rw [h_]; rfl)
                obtain rfl := Option.some.inj H
                obtain ⟨Ao45, co45, eo45⟩ := Kd.R_slice HO_7.out
                subst eo45
                go_wp2
                go_ret
                exact ⟨by first | rfl | (simp [errW_none, errW_some] <;> rfl) | (simp [*, errW_none, errW_some] <;> rfl), by repeat (first | (with_reducible first | exact HB.out | apply below_alloc | apply pw_below_drewN | apply below_drew1) | exact HB.out)⟩
            · rw [if_neg c40] at H
              have c40b0 : (t381 == 0) = false := beq_eq_false_iff_ne.mpr c40
              have c40b1 : (t381 != 0) = true := bne_iff_ne.mpr c40
              obtain rfl := Option.some.inj H
              go_wp2
              go_ret
              exact ⟨by first | rfl | (simp [errW_none, errW_some] <;> rfl) | (simp [*, errW_none, errW_some] <;> rfl), by repeat (first | (with_reducible first | exact HB.out | apply below_alloc | apply pw_below_drewN | apply below_drew1) | exact HB.out)⟩

end Go.Proofs.YtgocibnmgfmceaaDoor.P

namespace Go.Proofs.YtgocibnmgfmceaaDoor.Pure
open Go.RowKit Go.Proofs.YtgocibnmgfmceaaDoor.P Go.Proofs.YtgocibnmgfmceaaDoorW.PrintWords Go.Proofs.YtgocibnmgfmceaaDoorW.PrintLast Go.Proofs.YtgocibnmgfmceaaDoorW.PrintErr Go.Proofs.YtgocibnmgfmceaaDoorW.PrintMore Go.Proofs.YtgocibnmgfmceaaDoor.Lin
set_option linter.unusedVariables false
set_option linter.unusedSimpArgs false
def rankName : ByteArray := ⟨#[109, 97, 116, 114, 105, 120, 46, 82, 97, 110, 107]⟩
def picksName : ByteArray := ⟨#[109, 97, 116, 114, 105, 120, 46, 80, 105, 99, 107, 115]⟩
theorem Mat.of_chk {rows : List (List Int)} {n : Int} (h : chk3 rows n = 0) (hu : ∀ r ∈ rows, ∀ x ∈ r, U64 x) : Mat rows n.toNat ∧ 0 ≤ n := by
  obtain ⟨h0, h1, h2, h3⟩ := chk3_zero h
  refine ⟨⟨by omega, by omega, fun r hr => ⟨?_, hu r hr⟩⟩, h0⟩
  rw [Int.toNat_of_nonneg h0]
  exact h3 r hr
theorem reduceM_ev (rows : List (List Int)) (n : Nat) (h : Mat rows n) : Ev (fun k => matrix_reduce.f k rows) (byOf [] rows, atOf [] 0 rows) :=
  reduce_ev (nW n) (by have := nW_le h.2.1; omega) rows h.1 (fun r hr => ⟨(h.row r hr).1, (h.row r hr).2.1⟩)
def mrankR (rows : List (List Int)) (n : Int) : Int × List FE := if chk3 rows n = 0 then (((byOf [] rows).length : Int), []) else (0, [⟨rankName, false, chk3 rows n⟩])
def mpicksR (rows : List (List Int)) (n : Int) : List Int × List FE := if chk3 rows n = 0 then (atOf [] 0 rows, []) else ([], [⟨picksName, false, chk3 rows n⟩])
theorem mrank_ev (rows : List (List Int)) (n : Int) (hr : rows.length < 9223372036854775807) (hu : ∀ r ∈ rows, ∀ x ∈ r, U64 x) : Ev (fun k => matrix_Rank.f k rows n) (mrankR rows n) := by
  unfold matrix_Rank.f mrankR
  refine Ev.bind (mcheck_ev rows n hr hu) ?_
  unfold mcheckR
  by_cases h : chk3 rows n = 0
  · simp only [if_pos h]
    obtain ⟨hm, _⟩ := Mat.of_chk h hu
    refine Ev.congr (fun k => ?_) (Ev.bind (f := fun _ t => some (((t.1.length : Int), ([] : List FE)) : Int × List FE)) (reduceM_ev rows n.toNat hm) (Ev.now _))
    rw [if_pos (by simp)]
  · simp only [if_neg h]
    refine Ev.congr (fun k => ?_) (Ev.now _)
    rw [if_neg (by simp)]
    rfl
theorem mpicks_ev (rows : List (List Int)) (n : Int) (hr : rows.length < 9223372036854775807) (hu : ∀ r ∈ rows, ∀ x ∈ r, U64 x) : Ev (fun k => matrix_Picks.f k rows n) (mpicksR rows n) := by
  unfold matrix_Picks.f mpicksR
  refine Ev.bind (mcheck_ev rows n hr hu) ?_
  unfold mcheckR
  by_cases h : chk3 rows n = 0
  · simp only [if_pos h]
    obtain ⟨hm, _⟩ := Mat.of_chk h hu
    refine Ev.congr (fun k => ?_) (Ev.bind (f := fun _ t => some ((t.2, ([] : List FE)) : List Int × List FE)) (reduceM_ev rows n.toNat hm) (Ev.now _))
    rw [if_pos (by simp)]
  · simp only [if_neg h]
    refine Ev.congr (fun k => ?_) (Ev.now _)
    rw [if_neg (by simp)]
    rfl
theorem byOf_snoc (by_ rows : List (List Int)) (r : List Int) : byOf by_ (rows ++ [r]) = stepW (byOf by_ rows) r := by unfold byOf; rw [List.foldl_append]; rfl
theorem atOf_le : ∀ (S by_ : List (List Int)) (i : Nat), (atOf by_ i S).length ≤ S.length
  | [], _, _ => Nat.le_refl _
  | s :: S, by_, i => by
    rw [atOf]
    split
    · have := atOf_le S (stepW by_ s) (i + 1); simp only [List.length_cons]; omega
    · have := atOf_le S (stepW by_ s) (i + 1); simp only [List.length_cons]; omega
theorem stepW_lt (by_ : List (List Int)) (r : List Int) : (stepW by_ r).length > by_.length ↔ ¬ fstI (lessW r by_) < 0 := by
  unfold stepW
  by_cases h : fstI (lessW r by_) < 0
  · rw [if_pos h]; simp [h]
  · rw [if_neg h]; simp [h]
theorem rpicks_l0 (rows : List (List Int)) (n : Nat) (hm : Mat rows n) : ∀ (d i : Nat) (acc : List Int), i + d = rows.length → acc.length ≤ i →
    Ev (fun k => geyserref03_Picks.l0 k rows (n : Int) acc (i : Int)) (acc ++ atOf (byOf [] (rows.take i)) i (rows.drop i)) := by
  have hlen := hm.1
  intro d
  induction d with
  | zero =>
    intro i acc hi hacc
    have e : rows.drop i = [] := List.drop_eq_nil_of_le (by omega)
    rw [e, show atOf (byOf [] (rows.take i)) i [] = [] from rfl, List.append_nil]
    refine Ev.step (f := fun _ => some acc) (fun k => ?_) (Ev.now _)
    rw [geyserref03_Picks.l0, if_neg (by omega)]
  | succ d ih =>
    intro i acc hi hacc
    have hlt : i < rows.length := by omega
    have ed : rows.drop i = rows[i] :: rows.drop (i + 1) := List.drop_eq_getElem_cons hlt
    have et : rows.take (i + 1) = rows.take i ++ [rows[i]] := List.take_succ_eq_append_getElem hlt
    have e2 : wrap64 ((i : Int) + 1) = ((i + 1 : Nat) : Int) := by rw [w64s (by omega) (by omega)]; rfl
    have h1 := rank_ev (rows.take (i + 1)) n (hm.take (i + 1))
    have h0 := rank_ev (rows.take i) n (hm.take i)
    have eb : byOf [] (rows.take (i + 1)) = stepW (byOf [] (rows.take i)) rows[i] := by rw [et, byOf_snoc]
    have hiff := stepW_lt (byOf [] (rows.take i)) rows[i]
    rw [← eb] at hiff
    rw [ed, atOf, ← eb]
    have hroom : acc.length < 17592186044416 := by omega
    refine Ev.step (f := fun k => (geyserref03_Rank.f k (rows.take (i + 1)) (n : Int)).bind fun t370 => ((geyserref03_Rank.f k (rows.take i) (n : Int)).bind fun t375 => (if t370 > t375 then (if acc.length < 17592186044416 then (geyserref03_Picks.l0 k rows (n : Int) (acc ++ [(i : Int)]) ((i + 1 : Nat) : Int)) else (none)) else (geyserref03_Picks.l0 k rows (n : Int) acc ((i + 1 : Nat) : Int))))) (fun k => ?_) (Ev.bind h1 (Ev.bind h0 ?_))
    · rw [geyserref03_Picks.l0, if_pos (by omega), e2, if_pos (by omega), if_pos (by omega), Int.toNat_natCast]
      simp only [if_pos (show (0 : Int) ≤ (i : Int) by omega), if_pos (show (i : Int) ≤ (rows.length : Int) by omega), Int.toNat_natCast]
    · by_cases hx : fstI (lessW rows[i] (byOf [] (rows.take i))) < 0
      · have hng : ¬ (byOf [] (rows.take (i + 1))).length > (byOf [] (rows.take i)).length := fun h => hiff.1 h hx
        rw [if_pos hx]
        refine Ev.congr (fun k => ?_) (ih (i + 1) acc (by omega) (by omega))
        rw [if_neg (by omega)]
      · have hg := hiff.2 hx
        have h' := ih (i + 1) (acc ++ [(i : Int)]) (by omega) (by simp; omega)
        rw [List.append_assoc] at h'
        rw [if_neg hx]
        refine Ev.congr (fun k => ?_) h'
        rw [if_pos (by omega), if_pos hroom]
theorem rpicks_ev (rows : List (List Int)) (n : Nat) (hm : Mat rows n) : Ev (fun k => geyserref03_Picks.f k rows (n : Int)) (atOf [] 0 rows) := by
  have h := rpicks_l0 rows n hm rows.length 0 [] (by omega) (by simp)
  rw [List.nil_append, List.drop_zero, List.take_zero] at h
  exact h
theorem samem_l0 (S : List Int) : ∀ P : List Int, (P ++ S).length < 9223372036854775807 → Ev (fun k => geyserref02_Same.l0 k (P ++ S) (P ++ S) (P.length : Int)) true := by
  induction S with
  | nil =>
    intro P hP
    refine Ev.step (f := fun _ => some true) (fun k => ?_) (Ev.now _)
    rw [geyserref02_Same.l0, if_neg (by simp)]
  | cons c S ih =>
    intro P hP
    have hlen : (P ++ c :: S).length = P.length + (S.length + 1) := by simp
    have h' := ih (P ++ [c]) (by simpa using hP)
    have e1 : P ++ [c] ++ S = P ++ c :: S := by simp
    have e2 : ((P ++ [c]).length : Int) = wrap64 ((P.length : Int) + 1) := by rw [w64s (by omega) (by omega)]; simp
    rw [e1, e2] at h'
    refine Ev.step (fun k => ?_) h'
    rw [geyserref02_Same.l0, if_pos (by omega), if_pos (by omega), if_pos (by omega), if_pos rfl]
theorem samem_ev (a : List Int) (h : a.length < 9223372036854775807) : Ev (fun k => geyserref02_Same.f k a a) true := by
  unfold geyserref02_Same.f
  simp only [if_true]
  exact samem_l0 a [] (by simpa using h)
theorem ranks_tells (rows : List (List Int)) (n : Int) : geyserlaw03_tells.f (mrankR rows n).2 (chk3 rows n) rankName = some true ∧ geyserlaw03_tells.f (mpicksR rows n).2 (chk3 rows n) picksName = some true := by
  unfold mrankR mpicksR
  by_cases h : chk3 rows n = 0
  · rw [if_pos h, if_pos h, h]; exact ⟨rfl, rfl⟩
  · rw [if_neg h, if_neg h]; exact ⟨tells03_deep _ _ h, tells03_deep _ _ h⟩
theorem ranks_j0 (rows : List (List Int)) (n : Int) (hu : ∀ r ∈ rows, ∀ x ∈ r, U64 x) : Ev (fun k => geyserlaw03_MatrixRanks.j0 k rows n (mrankR rows n).1 (mpicksR rows n).1 (chk3 rows n) false) true := by
  unfold mrankR mpicksR
  by_cases h : chk3 rows n = 0
  · rw [if_pos h, if_pos h, h]
    obtain ⟨hm, h0⟩ := Mat.of_chk h hu
    have hr := rank_ev rows n.toNat hm
    have hp := rpicks_ev rows n.toNat hm
    rw [Int.toNat_of_nonneg h0] at hr hp
    have hle := atOf_le rows [] 0
    have hml := hm.1
    refine Ev.step (f := fun k => (geyserref03_Rank.f k rows n).bind fun t395 => (if ((byOf [] rows).length : Int) = t395 then ((geyserref03_Picks.f k rows n).bind fun t396 => ((geyserref02_Same.f k (atOf [] 0 rows) t396).bind fun t399 => (if t399 = true then ((geyserlaw03_awake.f k).bind fun t400 => (some t400)) else (some false)))) else (some false))) (fun k => ?_) (Ev.bind hr ?_)
    · rw [geyserlaw03_MatrixRanks.j0, if_neg (by decide), if_pos rfl]
    · simp only [if_true]
      refine Ev.bind hp (Ev.bind (samem_ev _ (by omega)) ?_)
      simp only [if_true]
      exact Ev.bind awake03_ev (Ev.now _)
  · rw [if_neg h, if_neg h]
    refine Ev.step (f := fun k => (geyserlaw03_awake.f k).bind fun t => some t) (fun k => ?_) (Ev.bind awake03_ev (Ev.now _))
    rw [geyserlaw03_MatrixRanks.j0, if_neg (by decide), if_neg h, if_pos rfl, if_pos (by simp)]
theorem MatrixRanks (rows : List (List Int)) (n : Int) (hr : rows.length < 9223372036854775807) (hu : ∀ r ∈ rows, ∀ x ∈ r, U64 x) : ∃ k, geyserlaw03_MatrixRanks.f k rows n = some true := by
  refine Ev.rounds (g := fun k => geyserlaw03_MatrixRanks.f k rows n) ?_
  unfold geyserlaw03_MatrixRanks.f
  obtain ⟨b, hb, _⟩ := big_some rows n
  simp only [hb, Option.bind_some]
  cases b
  · simp only [Bool.false_eq_true, if_false]
    refine Ev.bind (mrank_ev rows n hr hu) ?_
    refine Ev.bind (mpicks_ev rows n hr hu) ?_
    refine Ev.bind (rcheck3_ev rows n hr hu) ?_
    rw [show (⟨#[109, 97, 116, 114, 105, 120, 46, 82, 97, 110, 107]⟩ : ByteArray) = rankName from rfl, show (⟨#[109, 97, 116, 114, 105, 120, 46, 80, 105, 99, 107, 115]⟩ : ByteArray) = picksName from rfl]
    simp only [(ranks_tells rows n).1, (ranks_tells rows n).2, Option.bind_some, if_true, Bool.not_true]
    exact ranks_j0 rows n hu
  · simp only [if_true]
    exact Ev.bind awake03_ev (Ev.now _)
end Go.Proofs.YtgocibnmgfmceaaDoor.Pure

namespace Go.Proofs.YtgocibnmgfmceaaDoor.P
open Go.RowKit Go.Proofs.YtgocibnmgfmceaaDoorW.PrintWords Go.Proofs.YtgocibnmgfmceaaDoorW.PrintLast Go.Proofs.YtgocibnmgfmceaaDoorW.PrintErr Go.Proofs.YtgocibnmgfmceaaDoorW.PrintMore
attribute [local go_sem] max2_int min2_int max_two min_two max_three min_three max_four min_four run_eql_errOf run_neq_errOf eqGuard_errOf   -- for this text's walks alone
set_option linter.unusedVariables false
set_option linter.unusedSimpArgs false

/-! ### matrix_Spans: function 15 -/
def matrix_Spans.f (k : Nat) (l0 : List (List Int)) (a1 : Int) (l2 : List Int) : Option (Bool × List FE) := (matrix_Check.f k l0 a1).bind fun t222 => (if (t222.length : Int) = 0 then ((matrix_whole.f l2 a1).bind fun t228 => (if t228 = true then ((matrix_reduce.f k l0).bind fun bt229 => ((matrix_less.f k l2 bt229.1).bind fun t235 => ((packed_First.f k t235).bind fun t238 => (some (decide (t238 < 0), ([] : List FE)))))) else ((fault_New.f (⟨#[109, 97, 116, 114, 105, 120, 46, 83, 112, 97, 110, 115]⟩ : ByteArray) 2).bind fun t239 => (some (false, t239))))) else ((fault_Wrap.f (⟨#[109, 97, 116, 114, 105, 120, 46, 83, 112, 97, 110, 115]⟩ : ByteArray) t222).bind fun t225 => (some (false, t225))))
theorem matrix_Spans.mono : ∀ a0 a1 a2 k, LeO (matrix_Spans.f k a0 a1 a2) (matrix_Spans.f (k + 1) a0 a1 a2) := by
  intro a0 a1 a2 k
  unfold matrix_Spans.f
  repeat' first
      | (with_reducible exact matrix_Check.mono _ _ _)
      | (with_reducible exact matrix_less.mono _ _ _)
      | (with_reducible exact matrix_reduce.mono _ _)
      | (with_reducible exact packed_First.mono _ _)
      | (with_reducible exact LeO.refl _)
      | (with_reducible exact LeO.none _)
      | (with_reducible refine LeO.ite ?_ ?_)
      | (with_reducible refine LeO.bind ?_ (fun _ => ?_))
      | exact matrix_Check.mono _ _ _
      | exact matrix_less.mono _ _ _
      | exact matrix_reduce.mono _ _
      | exact packed_First.mono _ _
      | exact LeO.none _
      | refine LeO.ite ?_ ?_
      | refine LeO.bind ?_ (fun _ => ?_)
set_option maxHeartbeats 8000000 in
set_option maxRecDepth 100000 in
theorem matrix_Spans.calls (k : Nat) (A0 : Option Addr) (c0 : Nat) (l0 : List (List Int)) (a1 : Int) (A2 : Option Addr) (c2 : Nat) (l2 : List Int) (r1 : Bool) (r2 : List FE) (w : World) (ht : TabIn w) (hr0 : Kd.C (Kd.slice 29 (Kd.int .u64)) w A0 l0.length l0) (hc0 : l0.length ≤ c0) (hr2 : Kd.C (Kd.int .u64) w A2 l2.length l2) (hc2 : l2.length ≤ c2) (h : matrix_Spans.f k l0 a1 l2 = some (r1, r2)) :
    Calls Tryd.prog 15 #[.slice A0 l0.length c0, .int .i64 a1, .slice A2 l2.length c2] w fun e w' => ∃ v1_ : Value, e = .returned (.tuple #[.bool r1, (errOf v1_)]) ∧ Kd.R kF 64 w' w.heap.size (fun _ => True) v1_ r2 ∧ Below w.heap.size w w' := by
  have HR0 := Aside0.mk hr0
  have HC0 := Aside0.mk hc0
  clear hr0 hc0
  have HR2 := Aside0.mk hr2
  have HC2 := Aside0.mk hc2
  clear hr2 hc2
  have HB := Aside0.mk (Below.refl w.heap.size w)
  have HT := Aside0.mk ht
  clear ht
  have H : ((matrix_Check.f k l0 a1).bind fun t222 => (if (t222.length : Int) = 0 then ((matrix_whole.f l2 a1).bind fun t228 => (if t228 = true then ((matrix_reduce.f k l0).bind fun bt229 => ((matrix_less.f k l2 bt229.1).bind fun t235 => ((packed_First.f k t235).bind fun t238 => (some (decide (t238 < 0), ([] : List FE)))))) else ((fault_New.f (⟨#[109, 97, 116, 114, 105, 120, 46, 83, 112, 97, 110, 115]⟩ : ByteArray) 2).bind fun t239 => (some (false, t239))))) else ((fault_Wrap.f (⟨#[109, 97, 116, 114, 105, 120, 46, 83, 112, 97, 110, 115]⟩ : ByteArray) t222).bind fun t225 => (some (false, t225))))) = some (r1, r2) := h
  clear h
  replace H := Option.bind_eq_some_iff.mp H
  obtain ⟨t222, A40, H⟩ := H
  replace H : (if (t222.length : Int) = 0 then ((matrix_whole.f l2 a1).bind fun t228 => (if t228 = true then ((matrix_reduce.f k l0).bind fun bt229 => ((matrix_less.f k l2 bt229.1).bind fun t235 => ((packed_First.f k t235).bind fun t238 => (some (decide (t238 < 0), ([] : List FE)))))) else ((fault_New.f (⟨#[109, 97, 116, 114, 105, 120, 46, 83, 112, 97, 110, 115]⟩ : ByteArray) 2).bind fun t239 => (some (false, t239))))) else ((fault_Wrap.f (⟨#[109, 97, 116, 114, 105, 120, 46, 83, 112, 97, 110, 115]⟩ : ByteArray) t222).bind fun t225 => (some (false, t225)))) = some (r1, r2) := H
  have A4 := Aside0.mk A40
  clear A40
  by_cases c5 : (t222.length : Int) = 0
  · rw [if_pos c5] at H
    have c5b0 : ((t222.length : Int) == 0) = true := beq_iff_eq.mpr c5
    have c5b1 : ((t222.length : Int) != 0) = false := bne_eq_false_iff_eq.mpr c5
    clear c5
    replace H := Option.bind_eq_some_iff.mp H
    obtain ⟨t228, A60, H⟩ := H
    replace H : (if t228 = true then ((matrix_reduce.f k l0).bind fun bt229 => ((matrix_less.f k l2 bt229.1).bind fun t235 => ((packed_First.f k t235).bind fun t238 => (some (decide (t238 < 0), ([] : List FE)))))) else ((fault_New.f (⟨#[109, 97, 116, 114, 105, 120, 46, 83, 112, 97, 110, 115]⟩ : ByteArray) 2).bind fun t239 => (some (false, t239)))) = some (r1, r2) := H
    have A6 := Aside0.mk A60
    clear A60
    by_cases c7 : t228 = true
    · subst c7
      have H1 : ((matrix_reduce.f k l0).bind fun bt229 => ((matrix_less.f k l2 bt229.1).bind fun t235 => ((packed_First.f k t235).bind fun t238 => (some (decide (t238 < 0), ([] : List FE)))))) = some (r1, r2) := by rw [if_pos rfl] at H; exact H
      clear H
      have H := H1
      clear H1
      replace H := Option.bind_eq_some_iff.mp H
      obtain ⟨⟨t229, t230⟩, A80, H⟩ := H
      replace H : ((matrix_less.f k l2 t229).bind fun t235 => ((packed_First.f k t235).bind fun t238 => (some (decide (t238 < 0), ([] : List FE))))) = some (r1, r2) := H
      have A8 := Aside0.mk A80
      clear A80
      replace H := Option.bind_eq_some_iff.mp H
      obtain ⟨t235, A90, H⟩ := H
      replace H : ((packed_First.f k t235).bind fun t238 => (some (decide (t238 < 0), ([] : List FE)))) = some (r1, r2) := H
      have A9 := Aside0.mk A90
      clear A90
      replace H := Option.bind_eq_some_iff.mp H
      obtain ⟨t238, A100, H⟩ := H
      replace H : (some (decide (t238 < 0), ([] : List FE))) = some (r1, r2) := H
      have A10 := Aside0.mk A100
      clear A100
      simp only [Option.some.injEq, Prod.mk.injEq] at H
      obtain ⟨rfl, rfl⟩ := H
      go_enter Tryd.func15, Tryd.ntmps15
      go_wp2_with (first | ((with_reducible refine gate_callee (f := 17) rfl ?_); refine goesL_ (some 13) rfl rfl Tryd.func17 (by kernel_rfl) rfl #[.slice A0 l0.length c0, .int .i64 a1] rfl (by (try simp only [List.map_toArray, List.map_cons, List.map_nil]); first | done | rfl | (simp only [List.length_drop, List.length_take]; rfl)) ?_; (with_reducible refine (matrix_Check.calls k _ _ l0 a1 t222 _ ?side1 ?side2 A4.out).mono ?_); (case side1 => repeat (first | exact HR0.out | (with_reducible refine Kd.C_alloc ?_ _) | (with_reducible refine Kd.C_drewN ?_ _) | (with_reducible refine Kd.C_drew ?_))); (case side2 => exact HC0.out); rintro e w11 ⟨v223, rfl, ho0, hb⟩; refine ⟨_, rfl, ?_⟩; have n0_ := Aside0.mk (Kd.R_lower ho0 (below_size (by repeat (first | (with_reducible first | exact HB.out | apply below_alloc | apply pw_below_drewN | apply below_drew1) | exact HB.out)))); have n1_ := Aside0.mk (below_step (by repeat (first | (with_reducible first | exact HB.out | apply below_alloc | apply pw_below_drewN | apply below_drew1) | exact HB.out)) hb); clear HB; have HO224 := n0_; have HB := n1_; clear n0_ n1_; (try clear hb); (try clear hb2); (try clear hk); (try clear hi); (try clear ho0); obtain ⟨Ao12, co12, eo12⟩ := Kd.R_slice HO224.out; subst eo12) | ((with_reducible refine gate_callee (f := 29) rfl ?_); refine goesL_ (some 20) rfl rfl Tryd.func29 (by kernel_rfl) rfl #[.slice A2 l2.length c2, .int .i64 a1] rfl (by (try simp only [List.map_toArray, List.map_cons, List.map_nil]); first | done | rfl | (simp only [List.length_drop, List.length_take]; rfl)) ?_; (with_reducible refine (matrix_whole.calls _ _ l2 a1 true _ ?side1 ?side2 A6.out).mono ?_); (case side1 => repeat (first | exact (Kd.C_below HR2.out HB.out) | (with_reducible refine Kd.C_alloc ?_ _) | (with_reducible refine Kd.C_drewN ?_ _) | (with_reducible refine Kd.C_drew ?_))); (case side2 => exact HC2.out); rintro e w' ⟨rfl, ⟨nd, rfl⟩⟩; refine ⟨_, rfl, ?_⟩) | ((with_reducible refine gate_callee (f := 28) rfl ?_); refine goesL_ (some 25) rfl rfl Tryd.func28 (by kernel_rfl) rfl #[.slice A0 l0.length c0] rfl (by (try simp only [List.map_toArray, List.map_cons, List.map_nil]); first | done | rfl | (simp only [List.length_drop, List.length_take]; rfl)) ?_; (with_reducible refine (matrix_reduce.calls k _ _ l0 t229 t230 _ ?side1 ?side2 ?side3 A8.out).mono ?_); (case side1 => first | exact HT.out | exact TabIn.below HT.out (by repeat (first | (with_reducible first | exact HB.out | apply below_alloc | apply pw_below_drewN | apply below_drew1) | exact HB.out)) | (repeat (first | apply TabIn.drewN | apply TabIn.drew | exact HT.out))); (case side2 => repeat (first | exact (Kd.C_below HR0.out (by repeat (first | (with_reducible first | exact HB.out | apply below_alloc | apply pw_below_drewN | apply below_drew1) | exact HB.out))) | (with_reducible refine Kd.C_alloc ?_ _) | (with_reducible refine Kd.C_drewN ?_ _) | (with_reducible refine Kd.C_drew ?_))); (case side3 => exact HC0.out); rintro e w13 ⟨v231, v233, rfl, ho0, ho1, hb⟩; refine ⟨_, rfl, ?_⟩; have n0_ := Aside0.mk (Kd.R_below (by (with_reducible repeat (first | apply Kd.R_alloc | apply Kd.R_drewN | apply Kd.R_drew)); exact HO224.out) hb); have n1_ := Aside0.mk (Kd.S_lower ho0 (below_size (by repeat (first | (with_reducible first | exact HB.out | apply below_alloc | apply pw_below_drewN | apply below_drew1) | exact HB.out)))); have n2_ := Aside0.mk (Kd.R_lower ho1 (below_size (by repeat (first | (with_reducible first | exact HB.out | apply below_alloc | apply pw_below_drewN | apply below_drew1) | exact HB.out)))); have n3_ := Aside0.mk (below_step (by repeat (first | (with_reducible first | exact HB.out | apply below_alloc | apply pw_below_drewN | apply below_drew1) | exact HB.out)) hb); clear HO224; clear HB; have HO224 := n0_; have HO232 := n1_; have HO234 := n2_; have HB := n3_; clear n0_ n1_ n2_ n3_; (try clear hb); (try clear hb2); (try clear hk); (try clear hi); (try clear ho0); (try clear ho1); obtain ⟨Ao14, co14, eo14⟩ := Kd.S_slice HO232.out; subst eo14) | ((with_reducible refine gate_callee (f := 32) rfl ?_); refine goesL_ (some 30) rfl rfl Tryd.func32 (by kernel_rfl) rfl #[.slice A2 l2.length c2, .slice Ao14 t229.length co14] rfl (by (try simp only [List.map_toArray, List.map_cons, List.map_nil]); first | done | rfl | (simp only [List.length_drop, List.length_take]; rfl)) ?_; (with_reducible refine (matrix_less.calls k _ _ l2 _ _ t229 t235 _ ?side1 ?side2 ?side3 ?side4 ?side5 A9.out).mono ?_); (case side1 => first | exact HT.out | exact TabIn.below HT.out (by repeat (first | (with_reducible first | exact HB.out | apply below_alloc | apply pw_below_drewN | apply below_drew1) | exact HB.out)) | (repeat (first | apply TabIn.drewN | apply TabIn.drew | exact HT.out))); (case side2 => repeat (first | exact (Kd.C_below HR2.out HB.out) | (with_reducible refine Kd.C_alloc ?_ _) | (with_reducible refine Kd.C_drewN ?_ _) | (with_reducible refine Kd.C_drew ?_))); (case side3 => exact HC2.out); (case side4 => repeat (first | exact (Kd.S_reads' HO232.out).2.2 | (with_reducible refine Kd.C_alloc ?_ _) | (with_reducible refine Kd.C_drewN ?_ _) | (with_reducible refine Kd.C_drew ?_))); (case side5 => exact (Kd.S_reads' HO232.out).2.1); rintro e w15 ⟨v236, rfl, ho0, hb⟩; refine ⟨_, rfl, ?_⟩; have n0_ := Aside0.mk (Kd.R_below (by (with_reducible repeat (first | apply Kd.R_alloc | apply Kd.R_drewN | apply Kd.R_drew)); exact HO224.out) hb); have n1_ := Aside0.mk (Kd.S_elder' (by (with_reducible repeat (first | apply Kd.S_alloc | apply Kd.S_drewN | apply Kd.S_drew)); exact HO232.out) (Kd.R_base ho0) hb); have n2_ := Aside0.mk (Kd.R_below (by (with_reducible repeat (first | apply Kd.R_alloc | apply Kd.R_drewN | apply Kd.R_drew)); exact HO234.out) hb); have n3_ := Aside0.mk (Kd.R_lower ho0 (below_size (by repeat (first | (with_reducible first | exact HB.out | apply below_alloc | apply pw_below_drewN | apply below_drew1) | exact HB.out)))); have n4_ := Aside0.mk (below_step (by repeat (first | (with_reducible first | exact HB.out | apply below_alloc | apply pw_below_drewN | apply below_drew1) | exact HB.out)) hb); clear HO224; clear HO232; clear HO234; clear HB; have HO224 := n0_; have HO232 := n1_; have HO234 := n2_; have HO237 := n3_; have HB := n4_; clear n0_ n1_ n2_ n3_ n4_; (try clear hb); (try clear hb2); (try clear hk); (try clear hi); (try clear ho0); obtain ⟨Ao16, co16, eo16⟩ := Kd.R_slice HO237.out; subst eo16) | ((with_reducible refine gate_callee (f := 31) rfl ?_); refine goesL_ (some 31) rfl rfl Tryd.func31 (by kernel_rfl) rfl #[.slice Ao16 t235.length co16] rfl (by (try simp only [List.map_toArray, List.map_cons, List.map_nil]); first | done | rfl | (simp only [List.length_drop, List.length_take]; rfl)) ?_; (with_reducible refine (packed_First.calls k _ _ t235 t238 _ ?side1 ?side2 ?side3 A10.out).mono ?_); (case side1 => first | exact HT.out | exact TabIn.below HT.out (by repeat (first | (with_reducible first | exact HB.out | apply below_alloc | apply pw_below_drewN | apply below_drew1) | exact HB.out)) | (repeat (first | apply TabIn.drewN | apply TabIn.drew | exact HT.out))); (case side2 => repeat (first | exact (Kd.R_reads' HO237.out).2.2 | (with_reducible refine Kd.C_alloc ?_ _) | (with_reducible refine Kd.C_drewN ?_ _) | (with_reducible refine Kd.C_drew ?_))); (case side3 => exact (Kd.R_reads' HO237.out).2.1); rintro e w' ⟨rfl, ⟨nd, rfl⟩⟩; refine ⟨_, rfl, ?_⟩))
      go_ret2
      exact ⟨(.slice none 0 0), by first | rfl | (simp [errW_none, errW_some] <;> rfl) | (simp [*, errW_none, errW_some] <;> rfl), by first | exact Kd.R_nil _ _ _ _ _ | exact Kd.N_nil _ _ _ _ _ | exact Kd.V_nil _ _ _ _ _ | exact Kd.Q_nil _ _ _ _ _ | exact Kd.S_nil _ _ _ _ _, by repeat (first | (with_reducible first | exact HB.out | apply below_alloc | apply pw_below_drewN | apply below_drew1) | exact HB.out)⟩
    · replace c7 := Bool.eq_false_iff.mpr c7
      subst c7
      have H1 : ((fault_New.f (⟨#[109, 97, 116, 114, 105, 120, 46, 83, 112, 97, 110, 115]⟩ : ByteArray) 2).bind fun t239 => (some (false, t239))) = some (r1, r2) := by rw [if_neg (show ¬ (false = true) by decide)] at H; exact H
      clear H
      have H := H1
      clear H1
      replace H := Option.bind_eq_some_iff.mp H
      obtain ⟨t239, A170, H⟩ := H
      replace H : (some (false, t239)) = some (r1, r2) := H
      have A17 := Aside0.mk A170
      clear A170
      simp only [Option.some.injEq, Prod.mk.injEq] at H
      obtain ⟨rfl, rfl⟩ := H
      go_enter Tryd.func15, Tryd.ntmps15
      go_wp2_with (first | ((with_reducible refine gate_callee (f := 17) rfl ?_); refine goesL_ (some 13) rfl rfl Tryd.func17 (by kernel_rfl) rfl #[.slice A0 l0.length c0, .int .i64 a1] rfl (by (try simp only [List.map_toArray, List.map_cons, List.map_nil]); first | done | rfl | (simp only [List.length_drop, List.length_take]; rfl)) ?_; (with_reducible refine (matrix_Check.calls k _ _ l0 a1 t222 _ ?side1 ?side2 A4.out).mono ?_); (case side1 => repeat (first | exact HR0.out | (with_reducible refine Kd.C_alloc ?_ _) | (with_reducible refine Kd.C_drewN ?_ _) | (with_reducible refine Kd.C_drew ?_))); (case side2 => exact HC0.out); rintro e w18 ⟨v223, rfl, ho0, hb⟩; refine ⟨_, rfl, ?_⟩; have n0_ := Aside0.mk (Kd.R_lower ho0 (below_size (by repeat (first | (with_reducible first | exact HB.out | apply below_alloc | apply pw_below_drewN | apply below_drew1) | exact HB.out)))); have n1_ := Aside0.mk (below_step (by repeat (first | (with_reducible first | exact HB.out | apply below_alloc | apply pw_below_drewN | apply below_drew1) | exact HB.out)) hb); clear HB; have HO224 := n0_; have HB := n1_; clear n0_ n1_; (try clear hb); (try clear hb2); (try clear hk); (try clear hi); (try clear ho0); obtain ⟨Ao19, co19, eo19⟩ := Kd.R_slice HO224.out; subst eo19) | ((with_reducible refine gate_callee (f := 29) rfl ?_); refine goesL_ (some 20) rfl rfl Tryd.func29 (by kernel_rfl) rfl #[.slice A2 l2.length c2, .int .i64 a1] rfl (by (try simp only [List.map_toArray, List.map_cons, List.map_nil]); first | done | rfl | (simp only [List.length_drop, List.length_take]; rfl)) ?_; (with_reducible refine (matrix_whole.calls _ _ l2 a1 false _ ?side1 ?side2 A6.out).mono ?_); (case side1 => repeat (first | exact (Kd.C_below HR2.out HB.out) | (with_reducible refine Kd.C_alloc ?_ _) | (with_reducible refine Kd.C_drewN ?_ _) | (with_reducible refine Kd.C_drew ?_))); (case side2 => exact HC2.out); rintro e w' ⟨rfl, ⟨nd, rfl⟩⟩; refine ⟨_, rfl, ?_⟩) | ((with_reducible refine gate_callee (f := 30) rfl ?_); refine goesL_ (some 22) rfl rfl Tryd.func30 (by kernel_rfl) rfl #[.string (⟨#[109, 97, 116, 114, 105, 120, 46, 83, 112, 97, 110, 115]⟩ : ByteArray), .int .i64 2] rfl (by (try simp only [List.map_toArray, List.map_cons, List.map_nil]); first | done | rfl | (simp only [List.length_drop, List.length_take]; rfl)) ?_; (with_reducible refine (fault_New.calls (⟨#[109, 97, 116, 114, 105, 120, 46, 83, 112, 97, 110, 115]⟩ : ByteArray) 2 t239 _ A17.out).mono ?_); rintro e w20 ⟨v240, rfl, ho0, hb⟩; refine ⟨_, rfl, ?_⟩; have n0_ := Aside0.mk (Kd.R_below (by (with_reducible repeat (first | apply Kd.R_alloc | apply Kd.R_drewN | apply Kd.R_drew)); exact HO224.out) hb); have n1_ := Aside0.mk (Kd.R_lower ho0 (below_size (by repeat (first | (with_reducible first | exact HB.out | apply below_alloc | apply pw_below_drewN | apply below_drew1) | exact HB.out)))); have n2_ := Aside0.mk (below_step (by repeat (first | (with_reducible first | exact HB.out | apply below_alloc | apply pw_below_drewN | apply below_drew1) | exact HB.out)) hb); clear HO224; clear HB; have HO224 := n0_; have HO241 := n1_; have HB := n2_; clear n0_ n1_ n2_; (try clear hb); (try clear hb2); (try clear hk); (try clear hi); (try clear ho0)))
      go_ret2
      exact ⟨_, by first | rfl | (simp [errW_none, errW_some] <;> rfl) | (simp [*, errW_none, errW_some] <;> rfl), by (with_reducible repeat (first | apply Kd.R_alloc | apply Kd.R_drewN | apply Kd.R_drew)); exact HO241.out, by repeat (first | (with_reducible first | exact HB.out | apply below_alloc | apply pw_below_drewN | apply below_drew1) | exact HB.out)⟩
  · rw [if_neg c5] at H
    have c5b0 : ((t222.length : Int) == 0) = false := beq_eq_false_iff_ne.mpr c5
    have c5b1 : ((t222.length : Int) != 0) = true := bne_iff_ne.mpr c5
    have c5b2 : ¬ (t222 = []) := fun h_ => c5 (by rw [h_]; rfl)
    replace H := Option.bind_eq_some_iff.mp H
    obtain ⟨t225, A210, H⟩ := H
    replace H : (some (false, t225)) = some (r1, r2) := H
    have A21 := Aside0.mk A210
    clear A210
    simp only [Option.some.injEq, Prod.mk.injEq] at H
    obtain ⟨rfl, rfl⟩ := H
    go_enter Tryd.func15, Tryd.ntmps15
    go_wp2_with (first | ((with_reducible refine gate_callee (f := 17) rfl ?_); refine goesL_ (some 13) rfl rfl Tryd.func17 (by kernel_rfl) rfl #[.slice A0 l0.length c0, .int .i64 a1] rfl (by (try simp only [List.map_toArray, List.map_cons, List.map_nil]); first | done | rfl | (simp only [List.length_drop, List.length_take]; rfl)) ?_; (with_reducible refine (matrix_Check.calls k _ _ l0 a1 t222 _ ?side1 ?side2 A4.out).mono ?_); (case side1 => repeat (first | exact HR0.out | (with_reducible refine Kd.C_alloc ?_ _) | (with_reducible refine Kd.C_drewN ?_ _) | (with_reducible refine Kd.C_drew ?_))); (case side2 => exact HC0.out); rintro e w22 ⟨v223, rfl, ho0, hb⟩; refine ⟨_, rfl, ?_⟩; have n0_ := Aside0.mk (Kd.R_lower ho0 (below_size (by repeat (first | (with_reducible first | exact HB.out | apply below_alloc | apply pw_below_drewN | apply below_drew1) | exact HB.out)))); have n1_ := Aside0.mk (below_step (by repeat (first | (with_reducible first | exact HB.out | apply below_alloc | apply pw_below_drewN | apply below_drew1) | exact HB.out)) hb); clear HB; have HO224 := n0_; have HB := n1_; clear n0_ n1_; (try clear hb); (try clear hb2); (try clear hk); (try clear hi); (try clear ho0); obtain ⟨Ao23, co23, eo23⟩ := Kd.R_slice HO224.out; subst eo23) | ((with_reducible refine gate_callee (f := 27) rfl ?_); refine goesL_ (some 17) rfl rfl Tryd.func27 (by kernel_rfl) rfl #[.string (⟨#[109, 97, 116, 114, 105, 120, 46, 83, 112, 97, 110, 115]⟩ : ByteArray), errOf (.slice Ao23 t222.length co23)] rfl (by (try simp only [List.map_toArray, List.map_cons, List.map_nil]); first | done | rfl | (simp only [List.length_drop, List.length_take]; rfl)) ?_; (with_reducible refine (fault_Wrap.calls (⟨#[109, 97, 116, 114, 105, 120, 46, 83, 112, 97, 110, 115]⟩ : ByteArray) (fun k_ => some k_ = (.slice Ao23 t222.length co23 : Value).ownBlock) (.slice Ao23 t222.length co23) t222 t225 w _ ?side1 ?side2 A21.out).mono ?_); (case side1 => repeat (first | (with_reducible first | exact HB.out | apply below_alloc | apply pw_below_drewN | apply below_drew1) | exact HB.out)); (case side2 => exact Kd.R_tight rfl (kF0_of HO224.out)); rintro e w24 ⟨v226, rfl, ho0, hb, hkp⟩; refine ⟨_, rfl, ?_⟩; have n0_ := Aside0.mk (Kd.R_mono (ok' := fun k_ => True) ho0 (fun k_ hk_ => trivial)); have n1_ := Aside0.mk (hb); clear HB; clear HO224; have HO227 := n0_; have HB := n1_; clear n0_ n1_; (try clear hb); (try clear hkp); (try clear ho0)))
    go_ret2
    exact ⟨_, by first | rfl | (simp [errW_none, errW_some] <;> rfl) | (simp [*, errW_none, errW_some] <;> rfl), by (with_reducible repeat (first | apply Kd.R_alloc | apply Kd.R_drewN | apply Kd.R_drew)); exact HO227.out, by repeat (first | (with_reducible first | exact HB.out | apply below_alloc | apply pw_below_drewN | apply below_drew1) | exact HB.out)⟩

end Go.Proofs.YtgocibnmgfmceaaDoor.P

namespace Go.Proofs.YtgocibnmgfmceaaDoor.P
open Go.RowKit Go.Proofs.YtgocibnmgfmceaaDoorW.PrintWords Go.Proofs.YtgocibnmgfmceaaDoorW.PrintLast Go.Proofs.YtgocibnmgfmceaaDoorW.PrintErr Go.Proofs.YtgocibnmgfmceaaDoorW.PrintMore
attribute [local go_sem] max2_int min2_int max_two min_two max_three min_three max_four min_four run_eql_errOf run_neq_errOf eqGuard_errOf   -- for this text's walks alone
set_option linter.unusedVariables false
set_option linter.unusedSimpArgs false

/-! ### geyserref03_Spans: function 23 -/
def geyserref03_Spans.f (k : Nat) (l0 : List (List Int)) (a1 : Int) (l2 : List Int) : Option (Bool) := (some (([] : List (List Int)) : List (List Int))).bind fun y401 => (if y401.length + l0.length < 5864062014805 then ((some (y401 ++ l0 : List (List Int))).bind fun y404 => (if y404.length < 5864062014805 then ((geyserref03_Rank.f k (y404 ++ [l2]) a1).bind fun t410 => ((geyserref03_Rank.f k l0 a1).bind fun t411 => (some (t410 == t411)))) else (none))) else (none))
theorem geyserref03_Spans.mono : ∀ a0 a1 a2 k, LeO (geyserref03_Spans.f k a0 a1 a2) (geyserref03_Spans.f (k + 1) a0 a1 a2) := by
  intro a0 a1 a2 k
  unfold geyserref03_Spans.f
  repeat' first
      | (with_reducible exact geyserref03_Rank.mono _ _ _)
      | (with_reducible exact LeO.refl _)
      | (with_reducible exact LeO.none _)
      | (with_reducible refine LeO.ite ?_ ?_)
      | (with_reducible refine LeO.bind ?_ (fun _ => ?_))
      | exact geyserref03_Rank.mono _ _ _
      | exact LeO.none _
      | refine LeO.ite ?_ ?_
      | refine LeO.bind ?_ (fun _ => ?_)
set_option maxHeartbeats 8000000 in
set_option maxRecDepth 100000 in
theorem geyserref03_Spans.calls (k : Nat) (P0_ : Nat → Prop) (A0 : Option Addr) (c0 : Nat) (l0 : List (List Int)) (a1 : Int) (P2_ : Nat → Prop) (A2 : Option Addr) (c2 : Nat) (l2 : List Int) (r : Bool) (w : World) (hs0 : Kd.V (Kd.slice 29 (Kd.int .u64)) 27 w w.heap.size (fun k_ => P0_ k_) (.slice A0 l0.length c0) l0) (hs2 : Kd.V (Kd.int .u64) 29 w w.heap.size (fun k_ => P2_ k_) (.slice A2 l2.length c2) l2) (h : geyserref03_Spans.f k l0 a1 l2 = some r) :
    Calls Tryd.prog 23 #[.slice A0 l0.length c0, .int .i64 a1, .slice A2 l2.length c2] w fun e w' => e = .returned (.bool r) ∧ Below w.heap.size w w' := by
  have HO0 := Aside0.mk (show Kd.V (Kd.slice 29 (Kd.int .u64)) 27 w w.heap.size (fun k_ => ((P0_ k_ ∨ P2_ k_) ∨ w.heap.size ≤ k_)) (.slice A0 l0.length c0) l0 from Kd.V_mono hs0 (fun k_ hk => .inl (.inl hk)))
  have HO2 := Aside0.mk (show Kd.V (Kd.int .u64) 29 w w.heap.size (fun k_ => ((P0_ k_ ∨ P2_ k_) ∨ w.heap.size ≤ k_)) (.slice A2 l2.length c2) l2 from Kd.V_mono hs2 (fun k_ hk => .inl (.inr hk)))
  have HB := Aside0.mk (Below.refl w.heap.size w)
  have H : ((some (([] : List (List Int)) : List (List Int))).bind fun y401 => (if y401.length + l0.length < 5864062014805 then ((some (y401 ++ l0 : List (List Int))).bind fun y404 => (if y404.length < 5864062014805 then ((geyserref03_Rank.f k (y404 ++ [l2]) a1).bind fun t410 => ((geyserref03_Rank.f k l0 a1).bind fun t411 => (some (t410 == t411)))) else (none))) else (none))) = some r := h
  clear h
  obtain ⟨y401, hy401⟩ : ∃ y_ : List (List Int), y_ = (([] : List (List Int))) := ⟨_, rfl⟩
  replace H : (if y401.length + l0.length < 5864062014805 then ((some (y401 ++ l0 : List (List Int))).bind fun y404 => (if y404.length < 5864062014805 then ((geyserref03_Rank.f k (y404 ++ [l2]) a1).bind fun t410 => ((geyserref03_Rank.f k l0 a1).bind fun t411 => (some (t410 == t411)))) else (none))) else (none)) = some r := by first | (rw [hy401]; with_reducible exact H) | (have H2_ := (Option.bind_some _ _).symm.trans H; rw [hy401]; with_reducible exact H2_) | (have H2_ := (Option.bind_some _ _).symm.trans H; with_reducible exact H2_) | with_reducible exact H | (rw [hy401]; exact H) | exact H
  have Ny401 := Aside0.mk hy401
  clear hy401
  by_cases c4 : y401.length + l0.length < 5864062014805
  · rw [if_pos c4] at H
    have LMc4 := Aside0.mk c4
    clear c4
    obtain ⟨y404, hy404⟩ : ∃ y_ : List (List Int), y_ = (y401 ++ l0) := ⟨_, rfl⟩
    replace H : (if y404.length < 5864062014805 then ((geyserref03_Rank.f k (y404 ++ [l2]) a1).bind fun t410 => ((geyserref03_Rank.f k l0 a1).bind fun t411 => (some (t410 == t411)))) else (none)) = some r := by first | (rw [hy404]; with_reducible exact H) | (have H2_ := (Option.bind_some _ _).symm.trans H; rw [hy404]; with_reducible exact H2_) | (have H2_ := (Option.bind_some _ _).symm.trans H; with_reducible exact H2_) | with_reducible exact H | (rw [hy404]; exact H) | exact H
    have Ny404 := Aside0.mk hy404
    clear hy404
    by_cases c5 : y404.length < 5864062014805
    · rw [if_pos c5] at H
      have LMc5 := Aside0.mk c5
      clear c5
      obtain ⟨y407, hy407⟩ : ∃ y_ : List (List Int), y_ = (y404 ++ [l2]) := ⟨_, rfl⟩
      replace H : ((geyserref03_Rank.f k y407 a1).bind fun t410 => ((geyserref03_Rank.f k l0 a1).bind fun t411 => (some (t410 == t411)))) = some r := by first | (rw [hy407]; with_reducible exact H) | (have H2_ := (Option.bind_some _ _).symm.trans H; rw [hy407]; with_reducible exact H2_) | (have H2_ := (Option.bind_some _ _).symm.trans H; with_reducible exact H2_) | with_reducible exact H | (rw [hy407]; exact H) | exact H
      have Ny407 := Aside0.mk hy407
      clear hy407
      replace H := Option.bind_eq_some_iff.mp H
      obtain ⟨t410, A60, H⟩ := H
      replace H : ((geyserref03_Rank.f k l0 a1).bind fun t411 => (some (t410 == t411))) = some r := H
      have A6 := Aside0.mk A60
      clear A60
      replace H := Option.bind_eq_some_iff.mp H
      obtain ⟨t411, A70, H⟩ := H
      replace H : (some (t410 == t411)) = some r := H
      have A7 := Aside0.mk A70
      clear A70
      obtain rfl := Option.some.inj H
      go_enter Tryd.func23, Tryd.ntmps23
      go_wp2_with (first | ((with_reducible refine gate_dst (N := 8) rfl ?_); refine Kd.N_lit (Kd.slice 29 (Kd.int .u64)) _ 27 ?hg (N' := 8) ?hd (xs := ([] : List (List Int))) (inner := []) (ok := (fun k_ => ((P0_ k_ ∨ P2_ k_) ∨ w.heap.size ≤ k_))) (okp := (fun k_ => ((P0_ k_ ∨ P2_ k_) ∨ w.heap.size ≤ k_))) ?hr ?hp (fun _ hk => hk) ((show ∀ k_, w.heap.size ≤ k_ → (fun k_ => ((P0_ k_ ∨ P2_ k_) ∨ w.heap.size ≤ k_)) k_ from fun k_ hk => (.inr (Nat.le_trans (below_size (by repeat (first | (with_reducible first | exact HB.out | apply below_alloc | apply pw_below_drewN | apply below_drew1) | exact HB.out))) hk))) _ (Nat.le_refl _)) (Below.refl _ _) (Nat.le_refl _) (by simp) ?_; (case hd => rfl); (case hg => rfl); (case hr => first | (go_simp; done) | (go_simp; rfl)); (case hp => exact (Reps.none _ _)); intro v402 w8 ho9 hb hg_ hnew_; clear hg_ hnew_; (first | rw [← Ny401.out] at ho9 | (simp only [Int.reduceToNat] at ho9; rw [← Ny401.out] at ho9)); have n0_ := Aside0.mk (Kd.V_elder' (by (with_reducible repeat (first | apply Kd.V_alloc | apply Kd.V_drewN | apply Kd.V_drew)); exact HO0.out) (Kd.N_base ho9) hb); have n1_ := Aside0.mk (Kd.V_elder' (by (with_reducible repeat (first | apply Kd.V_alloc | apply Kd.V_drewN | apply Kd.V_drew)); exact HO2.out) (Kd.N_base ho9) hb); have n2_ := Aside0.mk (Kd.N_lower ho9 (below_size (by repeat (first | (with_reducible first | exact HB.out | apply below_alloc | apply pw_below_drewN | apply below_drew1) | exact HB.out)))); have n3_ := Aside0.mk (below_step (by repeat (first | (with_reducible first | exact HB.out | apply below_alloc | apply pw_below_drewN | apply below_drew1) | exact HB.out)) hb); clear HO0; clear HO2; clear HB; have HO0 := n0_; have HO2 := n1_; have HO403 := n2_; have HB := n3_; clear n0_ n1_ n2_ n3_; clear hb ho9) | ((with_reducible refine gate_builtin (b := .append) (xs := #[.tmp 8, .tmp 9]) rfl ?_); at_builtin; refine Kd.N_append_rows (Kd.slice 29 (Kd.int .u64)) (w0 := w) w.heap.size rfl (.tmp 8) (.tmp 9) 22 27 (.slice none 0 0) 24 rfl Tryd.underlying22 info27 rfl (by decide) (by omega) v402 y401 l0 _ _ _ (fun k_ => ((P0_ k_ ∨ P2_ k_) ∨ w.heap.size ≤ k_)) (fun k_ => ((fun k_ => ((P0_ k_ ∨ P2_ k_) ∨ w.heap.size ≤ k_))) k_ ∧ some k_ ≠ (v402 : Value).ownBlock) rfl rfl ?aO ?aR (fun _ hk => hk) ?aF ?aB ?aS ?aL ?_; (case aR => exact (by skip; exact Kd.V_F (Kd.V_mono (ok' := (fun k_ => ((fun k_ => ((P0_ k_ ∨ P2_ k_) ∨ w.heap.size ≤ k_))) k_ ∧ some k_ ≠ (v402 : Value).ownBlock)) (HO0.out) (fun k_ hk => ⟨hk.1, hk.2⟩)))); (case aB => exact (by repeat (first | (with_reducible first | exact HB.out | apply below_alloc | apply pw_below_drewN | apply below_drew1) | exact HB.out))); (case aF => exact (fun k_ hk => (.inr (Nat.le_trans (below_size (by repeat (first | (with_reducible first | exact HB.out | apply below_alloc | apply pw_below_drewN | apply below_drew1) | exact HB.out))) hk)))); (case aO => exact (by (with_reducible repeat (first | apply Kd.N_alloc | apply Kd.N_drewN | apply Kd.N_drew)); exact HO403.out)); (case aS => exact (below_size (by repeat (first | (with_reducible first | exact HB.out | apply below_alloc | apply pw_below_drewN | apply below_drew1) | exact HB.out)))); (case aL => have := LMc4.out; omega); intro v405 w10 ho hb hg hat; rw [← Ny404.out] at ho; have n0_ := Aside0.mk (Kd.V_afterv (ok := (fun k_ => ((P0_ k_ ∨ P2_ k_) ∨ w.heap.size ≤ k_))) (by (with_reducible repeat (first | apply Kd.V_alloc | apply Kd.V_drewN | apply Kd.V_drew)); exact HO0.out) hg hat); have n1_ := Aside0.mk (Kd.V_afterv (ok := (fun k_ => ((P0_ k_ ∨ P2_ k_) ∨ w.heap.size ≤ k_))) (by (with_reducible repeat (first | apply Kd.V_alloc | apply Kd.V_drewN | apply Kd.V_drew)); exact HO2.out) hg hat); have n2_ := Aside0.mk (hb); have n3_ := Aside0.mk (ho); clear HO0; clear HO2; clear HB; clear HO403; have HO0 := n0_; have HO2 := n1_; have HB := n2_; have HO406 := n3_; clear n0_ n1_ n2_ n3_; clear ho hb hg hat) | ((with_reducible refine gate_builtin (b := .append) (xs := #[.tmp 11, .tmp 13]) rfl ?_); at_builtin; refine Kd.N_append (Kd.slice 29 (Kd.int .u64)) (w0 := w) w.heap.size rfl (.tmp 11) (.tmp 13) 22 27 (.slice none 0 0) 24 rfl Tryd.underlying22 info27 rfl (by decide) (by omega) v405 y404 l2 [.slice A2 l2.length c2] (fun k_ => ((P0_ k_ ∨ P2_ k_) ∨ w.heap.size ≤ k_)) (fun k_ => ((fun k_ => ((P0_ k_ ∨ P2_ k_) ∨ w.heap.size ≤ k_))) k_ ∧ some k_ ≠ (v405 : Value).ownBlock) rfl rfl ?aP (fun _ hk => hk) ?aF ?aO ?aB ?aS ?aL ?_; (case aP => exact (Kd.FK_slice_mk (Kd.V_reads' (Kd.V_mono (ok' := (fun k_ => ((fun k_ => ((P0_ k_ ∨ P2_ k_) ∨ w.heap.size ≤ k_))) k_ ∧ some k_ ≠ (v405 : Value).ownBlock)) (HO2.out) (fun k_ hk => ⟨hk.1, hk.2⟩))).2.1 (Kd.V_F (Kd.V_mono (ok' := (fun k_ => ((fun k_ => ((P0_ k_ ∨ P2_ k_) ∨ w.heap.size ≤ k_))) k_ ∧ some k_ ≠ (v405 : Value).ownBlock)) (HO2.out) (fun k_ hk => ⟨hk.1, hk.2⟩))))); (case aB => exact (by repeat (first | (with_reducible first | exact HB.out | apply below_alloc | apply pw_below_drewN | apply below_drew1) | exact HB.out))); (case aF => exact (fun k_ hk => (.inr (Nat.le_trans (below_size (by repeat (first | (with_reducible first | exact HB.out | apply below_alloc | apply pw_below_drewN | apply below_drew1) | exact HB.out))) hk)))); (case aO => exact (by (with_reducible repeat (first | apply Kd.N_alloc | apply Kd.N_drewN | apply Kd.N_drew)); exact HO406.out)); (case aS => exact (below_size (by repeat (first | (with_reducible first | exact HB.out | apply below_alloc | apply pw_below_drewN | apply below_drew1) | exact HB.out)))); (case aL => have := LMc5.out; omega); intro v408 w11 ho hb hg hat; rw [← Ny407.out] at ho; have n0_ := Aside0.mk (Kd.V_afterv (ok := (fun k_ => ((P0_ k_ ∨ P2_ k_) ∨ w.heap.size ≤ k_))) (by (with_reducible repeat (first | apply Kd.V_alloc | apply Kd.V_drewN | apply Kd.V_drew)); exact HO0.out) hg hat); have n1_ := Aside0.mk (Kd.V_afterv (ok := (fun k_ => ((P0_ k_ ∨ P2_ k_) ∨ w.heap.size ≤ k_))) (by (with_reducible repeat (first | apply Kd.V_alloc | apply Kd.V_drewN | apply Kd.V_drew)); exact HO2.out) hg hat); have n2_ := Aside0.mk (hb); have n3_ := Aside0.mk (ho); clear HO0; clear HO2; clear HB; clear HO406; have HO0 := n0_; have HO2 := n1_; have HB := n2_; have HO409 := n3_; clear n0_ n1_ n2_ n3_; clear ho hb hg hat; obtain ⟨Ao12, co12, eo12⟩ := Kd.N_slice HO409.out; subst eo12) | ((with_reducible refine gate_callee (f := 19) rfl ?_); refine goesL_ (some 16) rfl rfl Tryd.func19 (by kernel_rfl) rfl #[.slice Ao12 y407.length co12, .int .i64 a1] rfl (by (try simp only [List.map_toArray, List.map_cons, List.map_nil]); first | done | rfl | (simp only [List.length_drop, List.length_take]; rfl)) ?_; (with_reducible refine (geyserref03_Rank.calls k _ _ y407 a1 t410 _ ?side1 ?side2 A6.out).mono ?_); (case side1 => repeat (first | exact (Kd.N_reads' HO409.out).2.2 | (with_reducible refine Kd.C_alloc ?_ _) | (with_reducible refine Kd.C_drewN ?_ _) | (with_reducible refine Kd.C_drew ?_))); (case side2 => exact (Kd.N_reads' HO409.out).2.1); rintro e w13 ⟨rfl, hb⟩; refine ⟨_, rfl, ?_⟩; have n0_ := Aside0.mk (Kd.V_below (by (with_reducible repeat (first | apply Kd.V_alloc | apply Kd.V_drewN | apply Kd.V_drew)); exact HO0.out) hb); have n1_ := Aside0.mk (Kd.V_below (by (with_reducible repeat (first | apply Kd.V_alloc | apply Kd.V_drewN | apply Kd.V_drew)); exact HO2.out) hb); have n2_ := Aside0.mk (Kd.N_below (by (with_reducible repeat (first | apply Kd.N_alloc | apply Kd.N_drewN | apply Kd.N_drew)); exact HO409.out) hb); have n3_ := Aside0.mk (below_step (by repeat (first | (with_reducible first | exact HB.out | apply below_alloc | apply pw_below_drewN | apply below_drew1) | exact HB.out)) hb); clear HO0; clear HO2; clear HO409; clear HB; have HO0 := n0_; have HO2 := n1_; have HO409 := n2_; have HB := n3_; clear n0_ n1_ n2_ n3_; (try clear hb); (try clear hb2); (try clear hk); (try clear hi)) | ((with_reducible refine gate_callee (f := 19) rfl ?_); refine goesL_ (some 19) rfl rfl Tryd.func19 (by kernel_rfl) rfl #[.slice A0 l0.length c0, .int .i64 a1] rfl (by (try simp only [List.map_toArray, List.map_cons, List.map_nil]); first | done | rfl | (simp only [List.length_drop, List.length_take]; rfl)) ?_; (with_reducible refine (geyserref03_Rank.calls k _ _ l0 a1 t411 _ ?side1 ?side2 A7.out).mono ?_); (case side1 => repeat (first | exact (Kd.V_reads' HO0.out).2.2 | (with_reducible refine Kd.C_alloc ?_ _) | (with_reducible refine Kd.C_drewN ?_ _) | (with_reducible refine Kd.C_drew ?_))); (case side2 => exact (Kd.V_reads' HO0.out).2.1); rintro e w14 ⟨rfl, hb⟩; refine ⟨_, rfl, ?_⟩; have n0_ := Aside0.mk (Kd.V_below (by (with_reducible repeat (first | apply Kd.V_alloc | apply Kd.V_drewN | apply Kd.V_drew)); exact HO0.out) hb); have n1_ := Aside0.mk (Kd.V_below (by (with_reducible repeat (first | apply Kd.V_alloc | apply Kd.V_drewN | apply Kd.V_drew)); exact HO2.out) hb); have n2_ := Aside0.mk (Kd.N_below (by (with_reducible repeat (first | apply Kd.N_alloc | apply Kd.N_drewN | apply Kd.N_drew)); exact HO409.out) hb); have n3_ := Aside0.mk (below_step (by repeat (first | (with_reducible first | exact HB.out | apply below_alloc | apply pw_below_drewN | apply below_drew1) | exact HB.out)) hb); clear HO0; clear HO2; clear HO409; clear HB; have HO0 := n0_; have HO2 := n1_; have HO409 := n2_; have HB := n3_; clear n0_ n1_ n2_ n3_; (try clear hb); (try clear hb2); (try clear hk); (try clear hi)))
      go_ret
      exact ⟨by first | rfl | (simp [errW_none, errW_some] <;> rfl) | (simp [*, errW_none, errW_some] <;> rfl), by repeat (first | (with_reducible first | exact HB.out | apply below_alloc | apply pw_below_drewN | apply below_drew1) | exact HB.out)⟩
    · rw [if_neg c5] at H
      exact absurd H (by simp)
  · rw [if_neg c4] at H
    exact absurd H (by simp)

end Go.Proofs.YtgocibnmgfmceaaDoor.P
