-- joined by join.py: ElimMAdd Px14 Px22 Px23 ElimMValue Px24 ElimMWhole Px26 Px27 PureAwake05 ElimMRank Px25 Px38
import Derived.RegionTactic
import Derived.BigRegion
import Derived.Deep.RegionLaw
import Derived.Test.YtjmgkknbgffbjaaDoorMElimNil2
namespace Go.Proofs.YtjmgkknbgffbjaaDoor.P
open Go.RowKit Go.Proofs.YtjmgkknbgffbjaaDoorW.PrintWords Go.Proofs.YtjmgkknbgffbjaaDoorW.PrintLast Go.Proofs.YtjmgkknbgffbjaaDoorW.PrintErr Go.Proofs.YtjmgkknbgffbjaaDoorW.PrintMore
attribute [local go_sem] max2_int min2_int max_two min_two max_three min_three max_four min_four run_eql_errOf run_neq_errOf eqGuard_errOf run_eql_ptrOf run_neq_ptrOf eqGuard_ptrOf   -- for this text's walks alone
set_option linter.unusedVariables false
set_option linter.unusedSimpArgs false
theorem infoEq : (Tryd.prog.info? 77).map (fun i => (i.zero, i.size, i.bytes)) = some (some (.agg #[(.slice none 0 0), (.slice none 0 0)]), 2, 48) := by kernel_rfl
def elimM_Add.g (k : Nat) (x : S74) (l1 l2 : List Int) : Option (Int × List FE × List S74) :=
  if x.f4 = true then some (0, [⟨(⟨#[101, 108, 105, 109, 46, 65, 100, 100]⟩ : ByteArray), true, 7⟩], [x])
  else (elimM_fits.f [x] l1).bind fun t => if t = true ∧ (l2.length : Int) = x.f1 then
      ((elimM_down.f k [x] l1 l2).bind fun z => if 0 ≤ z.2.2 then
          (if z.2.2 < (x.f3.length : Int) ∧ x.f2.length < 2932031007402 then some (1, [], [⟨x.f0, x.f1, x.f2 ++ [⟨z.1, z.2.1⟩], x.f3.set z.2.2.toNat (x.f2.length : Int), false⟩]) else none)
        else (symbol_Zero.f k z.2.1).bind fun b => if b = true then some (2, [], [x]) else some (3, [], [⟨x.f0, x.f1, x.f2, x.f3, true⟩]))
    else some (0, [⟨(⟨#[101, 108, 105, 109, 46, 65, 100, 100]⟩ : ByteArray), true, 2⟩], [x])
def elimM_Add.f (k : Nat) (l0 : List S74) (l1 l2 : List Int) : Option (Int × List FE × List S74) :=
  match l0 with
  | [] => some (0, [⟨(⟨#[101, 108, 105, 109, 46, 65, 100, 100]⟩ : ByteArray), true, 7⟩], [])
  | [x] => elimM_Add.g k x l1 l2
  | _ :: _ :: _ => none
theorem elimM_Add.mono : ∀ a0 a1 a2 k, LeO (elimM_Add.f k a0 a1 a2) (elimM_Add.f (k + 1) a0 a1 a2) := by
  intro a0 a1 a2 k
  unfold elimM_Add.f
  match a0 with
  | [] => exact LeO.refl _
  | [x] =>
    show LeO (elimM_Add.g k x a1 a2) (elimM_Add.g (k + 1) x a1 a2)
    unfold elimM_Add.g
    refine LeO.ite (LeO.refl _) (LeO.bind (LeO.refl _) fun t => LeO.ite (LeO.bind (elimM_down.mono _ _ _ _) fun z => LeO.ite (LeO.refl _) (LeO.bind (symbol_Zero.mono _ _) fun b => LeO.refl _)) (LeO.refl _))
  | _ :: _ :: _ => exact LeO.refl _
structure AddIn (w0 w : World) (ok_ : Nat → Prop) (g cap : Nat) (cs : Array Value) (x : S74) (vk va : Value) (A1 : Option Addr) (c1 : Nat) (l1 : List Int) (A2 : Option Addr) (c2 : Nat) (l2 : List Int) : Prop where
  tab : TabIn w
  below : Below w0.heap.size w0 w
  sys : SysO w w0.heap.size ok_ g cap cs x vk va
  r1 : Kd.C (Kd.int .u64) w A1 l1.length l1
  k1 : l1.length ≤ c1
  r2 : Kd.C (Kd.int .u8) w A2 l2.length l2
  k2 : l2.length ≤ c2
def AddOut (w0 w : World) (ok_ : Nat → Prop) (g cap : Nat) (r1 : Int) (r2 : List FE) (r3 : List S74) (e : Ending) (w' : World) : Prop :=
  ∃ v1_ : Value, e = .returned (.tuple #[.int .i64 r1, (errOf v1_)]) ∧ Kd.R kF 95 w' w.heap.size (fun _ => True) v1_ r2 ∧ Kd.R k74 74 w' w0.heap.size (fun k_ => (ok_ k_ ∨ w.heap.size ≤ k_)) (.slice (some ⟨g, 0, none⟩) 1 cap) r3 ∧ Below w0.heap.size w0 w' ∧ SKept w w' ok_
theorem AddIn.same {w0 w w' : World} {ok_ : Nat → Prop} {g cap : Nat} {cs : Array Value} {x : S74} {vk va : Value} {A1 : Option Addr} {c1 : Nat} {l1 : List Int} {A2 : Option Addr} {c2 : Nat} {l2 : List Int} {v1_ : Value} {r1 : Int} {r2 : List FE}
    (h : AddIn w0 w ok_ g cap cs x vk va A1 c1 l1 A2 c2 l2) (hb : Below w.heap.size w w') (hf : Kd.R kF 95 w' w.heap.size (fun _ => True) v1_ r2) : AddOut w0 w ok_ g cap r1 r2 [x] (.returned (.tuple #[.int .i64 r1, (errOf v1_)])) w' :=
  ⟨v1_, rfl, hf, Kd.R_mono (h.sys.below hb).row (fun _ hk => .inl hk), below_step h.below hb, hb.size, fun k hk _ => hb.block k hk⟩
set_option maxRecDepth 100000
set_option maxHeartbeats 4000000
section
variable {w0 w : World} {ok_ : Nat → Prop} {g cap : Nat} {cs : Array Value} {x : S74} {vk va : Value} {A1 : Option Addr} {c1 : Nat} {l1 : List Int} {A2 : Option Addr} {c2 : Nat} {l2 : List Int}
theorem elimM_Add.clashed (hi : AddIn w0 w ok_ g cap cs x vk va A1 c1 l1 A2 c2 l2) (h4 : x.f4 = true) : Calls Tryd.prog 11 #[.pointer (some ⟨g, 0, none⟩), .slice A1 l1.length c1, .slice A2 l2.length c2] w (AddOut w0 w ok_ g cap 0 [⟨(⟨#[101, 108, 105, 109, 46, 65, 100, 100]⟩ : ByteArray), true, 7⟩] [x]) := by
  have HI := Aside0.mk hi
  have HB := Aside0.mk (Below.refl w.heap.size w)
  have hc4 := hi.sys.cell 4 _ (by decide) rfl
  rw [h4] at hc4
  clear hi h4
  go_enter Tryd.func11, Tryd.ntmps11
  go_wp2_with ((with_reducible refine gate_callee (f := 28) rfl ?_); refine goesL_ _ rfl rfl Tryd.func28 (by kernel_rfl) rfl #[.string (⟨#[101, 108, 105, 109, 46, 65, 100, 100]⟩ : ByteArray), .int .i64 7] rfl (by (try simp only [List.map_toArray, List.map_cons, List.map_nil]); first | done | rfl) ?_; (with_reducible refine (fault_New.calls (⟨#[101, 108, 105, 109, 46, 65, 100, 100]⟩ : ByteArray) 7 [⟨(⟨#[101, 108, 105, 109, 46, 65, 100, 100]⟩ : ByteArray), true, 7⟩] _ rfl).mono ?_); rintro e w17 ⟨v236, rfl, ho0, hb⟩; refine ⟨_, rfl, ?_⟩; have n0_ := Aside0.mk (below_size (PB HB)); have n1_ := Aside0.mk (below_step (PB HB) hb); clear HB; have HO1 := Aside0.mk ho0; have HSZ := n0_; have HB := n1_; clear n0_ n1_ ho0 hb)
  go_ret2
  exact HI.out.same HB.out (Kd.R_lower HO1.out HSZ.out)
theorem elimM_Add.form0 (hi : AddIn w0 w ok_ g cap cs x vk va A1 c1 l1 A2 c2 l2) (h4 : x.f4 = false) (hf : elimM_fits.f [x] l1 = some false) : Calls Tryd.prog 11 #[.pointer (some ⟨g, 0, none⟩), .slice A1 l1.length c1, .slice A2 l2.length c2] w (AddOut w0 w ok_ g cap 0 [⟨(⟨#[101, 108, 105, 109, 46, 65, 100, 100]⟩ : ByteArray), true, 2⟩] [x]) := by
  have HI := Aside0.mk hi
  have HS := Aside0.mk hi.sys
  have HR1 := Aside0.mk hi.r1
  have HC1 := Aside0.mk hi.k1
  have HF := Aside0.mk hf
  have HB := Aside0.mk (Below.refl w.heap.size w)
  have hc4 := hi.sys.cell 4 _ (by decide) rfl
  rw [h4] at hc4
  clear hi h4 hf
  go_enter Tryd.func11, Tryd.ntmps11
  go_wp2_with (first | ((with_reducible refine gate_callee (f := 29) rfl ?_); refine goesL_ _ rfl rfl Tryd.func29 (by kernel_rfl) rfl #[.pointer (some ⟨g, 0, none⟩), .slice A1 l1.length c1] rfl (by (try simp only [List.map_toArray, List.map_cons, List.map_nil]); first | done | rfl) ?_; (refine (elimM_fits.calls ⟨g, 0, none⟩ [x] A1 c1 l1 false _ (SysO.reads (SysO.below HS.out (PB HB))) (Kd.C_below HR1.out (PB HB)) HC1.out HF.out).mono ?_); rintro e w18 ⟨rfl, hb⟩; refine ⟨_, rfl, ?_⟩; have n1_ := Aside0.mk (below_step (PB HB) hb); clear HB hb; have HB := n1_; clear n1_; have hd0 := (SysO.below HS.out HB.out).cell 0 _ (by decide) rfl; have hd1 := (SysO.below HS.out HB.out).cell 1 _ (by decide) rfl; have hd4 := (SysO.below HS.out HB.out).cell 4 _ (by decide) rfl) | ((with_reducible refine gate_callee (f := 28) rfl ?_); refine goesL_ _ rfl rfl Tryd.func28 (by kernel_rfl) rfl #[.string (⟨#[101, 108, 105, 109, 46, 65, 100, 100]⟩ : ByteArray), .int .i64 2] rfl (by (try simp only [List.map_toArray, List.map_cons, List.map_nil]); first | done | rfl) ?_; (with_reducible refine (fault_New.calls (⟨#[101, 108, 105, 109, 46, 65, 100, 100]⟩ : ByteArray) 2 [⟨(⟨#[101, 108, 105, 109, 46, 65, 100, 100]⟩ : ByteArray), true, 2⟩] _ rfl).mono ?_); rintro e w17 ⟨v236, rfl, ho0, hb⟩; refine ⟨_, rfl, ?_⟩; have n0_ := Aside0.mk (below_size (PB HB)); have n1_ := Aside0.mk (below_step (PB HB) hb); clear HB; have HO1 := Aside0.mk ho0; have HSZ := n0_; have HB := n1_; clear n0_ n1_ ho0 hb))
  go_ret2
  exact HI.out.same HB.out (Kd.R_lower HO1.out HSZ.out)
theorem elimM_Add.form1 (hi : AddIn w0 w ok_ g cap cs x vk va A1 c1 l1 A2 c2 l2) (h4 : x.f4 = false) (hf : elimM_fits.f [x] l1 = some true) (hl : ¬ (l2.length : Int) = x.f1) : Calls Tryd.prog 11 #[.pointer (some ⟨g, 0, none⟩), .slice A1 l1.length c1, .slice A2 l2.length c2] w (AddOut w0 w ok_ g cap 0 [⟨(⟨#[101, 108, 105, 109, 46, 65, 100, 100]⟩ : ByteArray), true, 2⟩] [x]) := by
  have HI := Aside0.mk hi
  have HS := Aside0.mk hi.sys
  have HR1 := Aside0.mk hi.r1
  have HC1 := Aside0.mk hi.k1
  have HF := Aside0.mk hf
  have HB := Aside0.mk (Below.refl w.heap.size w)
  have hc4 := hi.sys.cell 4 _ (by decide) rfl
  rw [h4] at hc4
  have hl0 : ((l2.length : Int) != x.f1) = true := by simpa using hl
  have hl1 : ((l2.length : Int) == x.f1) = false := by simpa using hl
  clear hi h4 hf hl
  go_enter Tryd.func11, Tryd.ntmps11
  go_wp2_with (first | ((with_reducible refine gate_callee (f := 29) rfl ?_); refine goesL_ _ rfl rfl Tryd.func29 (by kernel_rfl) rfl #[.pointer (some ⟨g, 0, none⟩), .slice A1 l1.length c1] rfl (by (try simp only [List.map_toArray, List.map_cons, List.map_nil]); first | done | rfl) ?_; (refine (elimM_fits.calls ⟨g, 0, none⟩ [x] A1 c1 l1 true _ (SysO.reads (SysO.below HS.out (PB HB))) (Kd.C_below HR1.out (PB HB)) HC1.out HF.out).mono ?_); rintro e w18 ⟨rfl, hb⟩; refine ⟨_, rfl, ?_⟩; have n1_ := Aside0.mk (below_step (PB HB) hb); clear HB hb; have HB := n1_; clear n1_; have hd0 := (SysO.below HS.out HB.out).cell 0 _ (by decide) rfl; have hd1 := (SysO.below HS.out HB.out).cell 1 _ (by decide) rfl; have hd4 := (SysO.below HS.out HB.out).cell 4 _ (by decide) rfl) | ((with_reducible refine gate_callee (f := 28) rfl ?_); refine goesL_ _ rfl rfl Tryd.func28 (by kernel_rfl) rfl #[.string (⟨#[101, 108, 105, 109, 46, 65, 100, 100]⟩ : ByteArray), .int .i64 2] rfl (by (try simp only [List.map_toArray, List.map_cons, List.map_nil]); first | done | rfl) ?_; (with_reducible refine (fault_New.calls (⟨#[101, 108, 105, 109, 46, 65, 100, 100]⟩ : ByteArray) 2 [⟨(⟨#[101, 108, 105, 109, 46, 65, 100, 100]⟩ : ByteArray), true, 2⟩] _ rfl).mono ?_); rintro e w17 ⟨v236, rfl, ho0, hb⟩; refine ⟨_, rfl, ?_⟩; have n0_ := Aside0.mk (below_size (PB HB)); have n1_ := Aside0.mk (below_step (PB HB) hb); clear HB; have HO1 := Aside0.mk ho0; have HSZ := n0_; have HB := n1_; clear n0_ n1_ ho0 hb))
  go_ret2
  exact HI.out.same HB.out (Kd.R_lower HO1.out HSZ.out)
theorem elimM_Add.known (k : Nat) (z1 z2 : List Int) (z3 : Int) (hi : AddIn w0 w ok_ g cap cs x vk va A1 c1 l1 A2 c2 l2) (h4 : x.f4 = false) (hf : elimM_fits.f [x] l1 = some true) (hl : (l2.length : Int) = x.f1) (hd : elimM_down.f k [x] l1 l2 = some (z1, z2, z3)) (h3 : ¬ 0 ≤ z3) (hz : symbol_Zero.f k z2 = some true) : Calls Tryd.prog 11 #[.pointer (some ⟨g, 0, none⟩), .slice A1 l1.length c1, .slice A2 l2.length c2] w (AddOut w0 w ok_ g cap 2 [] [x]) := by
  have HI := Aside0.mk hi
  have HS := Aside0.mk hi.sys
  have HR1 := Aside0.mk hi.r1
  have HC1 := Aside0.mk hi.k1
  have HR2 := Aside0.mk hi.r2
  have HC2 := Aside0.mk hi.k2
  have HF := Aside0.mk hf
  have HD := Aside0.mk hd
  have HZ := Aside0.mk hz
  have HB := Aside0.mk (Below.refl w.heap.size w)
  have hc4 := hi.sys.cell 4 _ (by decide) rfl
  rw [h4] at hc4
  have hl0 : ((l2.length : Int) != x.f1) = false := by simpa using hl
  have hl1 : ((l2.length : Int) == x.f1) = true := by simpa using hl
  have h30 : decide (0 ≤ z3) = false := decide_eq_false h3
  clear hi h4 hf hl hd hz h3
  go_enter Tryd.func11, Tryd.ntmps11
  go_wp2_with (first | ((with_reducible refine gate_callee (f := 29) rfl ?_); refine goesL_ _ rfl rfl Tryd.func29 (by kernel_rfl) rfl #[.pointer (some ⟨g, 0, none⟩), .slice A1 l1.length c1] rfl (by (try simp only [List.map_toArray, List.map_cons, List.map_nil]); first | done | rfl) ?_; (refine (elimM_fits.calls ⟨g, 0, none⟩ [x] A1 c1 l1 true _ (SysO.reads (SysO.below HS.out (PB HB))) (Kd.C_below HR1.out (PB HB)) HC1.out HF.out).mono ?_); rintro e w18 ⟨rfl, hb⟩; refine ⟨_, rfl, ?_⟩; have n1_ := Aside0.mk (below_step (PB HB) hb); clear HB hb; have HB := n1_; clear n1_; have hd0 := (SysO.below HS.out HB.out).cell 0 _ (by decide) rfl; have hd1 := (SysO.below HS.out HB.out).cell 1 _ (by decide) rfl; have hd4 := (SysO.below HS.out HB.out).cell 4 _ (by decide) rfl) | ((with_reducible refine gate_callee (f := 30) rfl ?_); refine goesL_ _ rfl rfl Tryd.func30 (by kernel_rfl) rfl #[.pointer (some ⟨g, 0, none⟩), .agg #[.slice A1 l1.length c1, .slice A2 l2.length c2]] rfl (by (try simp only [List.map_toArray, List.map_cons, List.map_nil]); first | done | rfl) ?_; (refine (elimM_down.calls k ⟨g, 0, none⟩ [x] A1 c1 l1 A2 c2 l2 z1 z2 z3 _ (TabIn.below HI.out.tab (PB HB)) (SysO.reads (SysO.below HS.out (PB HB))) (Kd.C_below HR1.out (PB HB)) HC1.out (Kd.C_below HR2.out (PB HB)) HC2.out HD.out).mono ?_); rintro e w19 ⟨v0, v1, rfl, ho0, ho1, hb⟩; refine ⟨_, rfl, ?_⟩; have n0_ := Aside0.mk (Kd.R_lower ho0 (below_size (PB HB))); have n1_ := Aside0.mk (Kd.R_lower ho1 (below_size (PB HB))); have n2_ := Aside0.mk (below_step (PB HB) hb); clear HB hb ho0 ho1; have HV0 := n0_; have HV1 := n1_; have HB := n2_; clear n0_ n1_ n2_) | ((with_reducible refine gate_dst (N := 8) rfl ?_); refine box_event ?hg (N := 8) ?hd (cs := #[.slice none 0 0, .slice none 0 0]) (t := 77) ?hr ?_; (case hd => rfl); (case hg => rfl); (case hr => first | (go_simp; done) | (go_simp; rfl)); intro gb hg w20 hbox hb; have n0_ := Aside0.mk (Kd.R_below (PR HV0) hb); have n1_ := Aside0.mk (Kd.R_below (PR HV1) hb); have n2_ := Aside0.mk (below_step (PB HB) hb); have n3_ := Aside0.mk hbox; have n4_ := Aside0.mk ((by rw [hg]; exact (below_size (PB HB))) : w.heap.size ≤ gb); clear HV0 HV1 HB hb hbox hg; have HV0 := n0_; have HV1 := n1_; have HB := n2_; have BK := n3_; have GE := n4_; clear n0_ n1_ n2_ n3_ n4_; obtain ⟨Ao, co, eo⟩ := Kd.R_slice HV0.out; subst eo; obtain ⟨Ap, cp, ep⟩ := Kd.R_slice HV1.out; subst ep; have hb0 : w20.cell? ⟨gb, 0, none⟩ = some (.slice none 0 0) := (blk_cell BK.out 0).trans rfl; have hb1 : w20.cell? ⟨gb, 1, none⟩ = some (.slice none 0 0) := (blk_cell BK.out 1).trans rfl; have hz0 := blk_frozen BK.out 0; have hz1 := blk_frozen BK.out 1) | ((with_reducible refine gate_callee (f := 31) rfl ?_); refine goesL_ _ rfl rfl Tryd.func31 (by kernel_rfl) rfl #[.slice Ap z2.length cp] rfl (by (try simp only [List.map_toArray, List.map_cons, List.map_nil]); first | done | rfl) ?_; have hrz := (Kd.R_mono (Kd.R_far (p := ⟨gb, 1, none⟩) (Kd.R_far (p := ⟨gb, 0, none⟩) (Kd.R_types HV1.out BK.out (by decide)) (fun _ hk => hk.2) (.slice Ao z1.length co)) (fun _ hk => hk.2) (.slice Ap z2.length cp)) (fun _ h_ => h_.1)); (refine (symbol_Zero.calls k Ap cp z2 true _ (Kd.R_reads' hrz).2.2 (Kd.R_reads' hrz).2.1 HZ.out).mono ?_); rintro e w21 ⟨rfl, hb⟩; refine ⟨_, rfl, ?_⟩; obtain ⟨nz, rfl⟩ := hb.out; have hd4 := (SysO.below HS.out (show Below w.heap.size w _ from (by repeat (first | (with_reducible first | exact HB.out | apply below_alloc | apply pw_below_drewN | apply below_drew1 | refine below_set ?_ GE.out) | exact HB.out)))).cell 4 _ (by decide) rfl; have hf4 := blk_frozen (SysO.below HS.out (show Below w.heap.size w _ from (by repeat (first | (with_reducible first | exact HB.out | apply below_alloc | apply pw_below_drewN | apply below_drew1 | refine below_set ?_ GE.out) | exact HB.out)))).blk 4; clear hrz hb))
  go_ret2
  exact HI.out.same (v1_ := .slice none 0 0) (by repeat (first | (with_reducible first | exact HB.out | apply below_alloc | apply pw_below_drewN | apply below_drew1 | refine below_set ?_ GE.out) | exact HB.out)) (fault_none _ _ _)
theorem elimM_Add.clash (k : Nat) (z1 z2 : List Int) (z3 : Int) (hi : AddIn w0 w ok_ g cap cs x vk va A1 c1 l1 A2 c2 l2) (h4 : x.f4 = false) (hf : elimM_fits.f [x] l1 = some true) (hl : (l2.length : Int) = x.f1) (hd : elimM_down.f k [x] l1 l2 = some (z1, z2, z3)) (h3 : ¬ 0 ≤ z3) (hz : symbol_Zero.f k z2 = some false) : Calls Tryd.prog 11 #[.pointer (some ⟨g, 0, none⟩), .slice A1 l1.length c1, .slice A2 l2.length c2] w (AddOut w0 w ok_ g cap 3 [] [⟨x.f0, x.f1, x.f2, x.f3, true⟩]) := by
  have HI := Aside0.mk hi
  have HS := Aside0.mk hi.sys
  have HR1 := Aside0.mk hi.r1
  have HC1 := Aside0.mk hi.k1
  have HR2 := Aside0.mk hi.r2
  have HC2 := Aside0.mk hi.k2
  have HF := Aside0.mk hf
  have HD := Aside0.mk hd
  have HZ := Aside0.mk hz
  have HB := Aside0.mk (Below.refl w.heap.size w)
  have hc4 := hi.sys.cell 4 _ (by decide) rfl
  rw [h4] at hc4
  have hl0 : ((l2.length : Int) != x.f1) = false := by simpa using hl
  have hl1 : ((l2.length : Int) == x.f1) = true := by simpa using hl
  have h30 : decide (0 ≤ z3) = false := decide_eq_false h3
  clear hi h4 hf hl hd hz h3
  go_enter Tryd.func11, Tryd.ntmps11
  go_wp2_with (first | ((with_reducible refine gate_callee (f := 29) rfl ?_); refine goesL_ _ rfl rfl Tryd.func29 (by kernel_rfl) rfl #[.pointer (some ⟨g, 0, none⟩), .slice A1 l1.length c1] rfl (by (try simp only [List.map_toArray, List.map_cons, List.map_nil]); first | done | rfl) ?_; (refine (elimM_fits.calls ⟨g, 0, none⟩ [x] A1 c1 l1 true _ (SysO.reads (SysO.below HS.out (PB HB))) (Kd.C_below HR1.out (PB HB)) HC1.out HF.out).mono ?_); rintro e w18 ⟨rfl, hb⟩; refine ⟨_, rfl, ?_⟩; have n1_ := Aside0.mk (below_step (PB HB) hb); clear HB hb; have HB := n1_; clear n1_; have hd0 := (SysO.below HS.out HB.out).cell 0 _ (by decide) rfl; have hd1 := (SysO.below HS.out HB.out).cell 1 _ (by decide) rfl; have hd4 := (SysO.below HS.out HB.out).cell 4 _ (by decide) rfl) | ((with_reducible refine gate_callee (f := 30) rfl ?_); refine goesL_ _ rfl rfl Tryd.func30 (by kernel_rfl) rfl #[.pointer (some ⟨g, 0, none⟩), .agg #[.slice A1 l1.length c1, .slice A2 l2.length c2]] rfl (by (try simp only [List.map_toArray, List.map_cons, List.map_nil]); first | done | rfl) ?_; (refine (elimM_down.calls k ⟨g, 0, none⟩ [x] A1 c1 l1 A2 c2 l2 z1 z2 z3 _ (TabIn.below HI.out.tab (PB HB)) (SysO.reads (SysO.below HS.out (PB HB))) (Kd.C_below HR1.out (PB HB)) HC1.out (Kd.C_below HR2.out (PB HB)) HC2.out HD.out).mono ?_); rintro e w19 ⟨v0, v1, rfl, ho0, ho1, hb⟩; refine ⟨_, rfl, ?_⟩; have n0_ := Aside0.mk (Kd.R_lower ho0 (below_size (PB HB))); have n1_ := Aside0.mk (Kd.R_lower ho1 (below_size (PB HB))); have n2_ := Aside0.mk (below_step (PB HB) hb); clear HB hb ho0 ho1; have HV0 := n0_; have HV1 := n1_; have HB := n2_; clear n0_ n1_ n2_) | ((with_reducible refine gate_dst (N := 8) rfl ?_); refine box_event ?hg (N := 8) ?hd (cs := #[.slice none 0 0, .slice none 0 0]) (t := 77) ?hr ?_; (case hd => rfl); (case hg => rfl); (case hr => first | (go_simp; done) | (go_simp; rfl)); intro gb hg w20 hbox hb; have n0_ := Aside0.mk (Kd.R_below (PR HV0) hb); have n1_ := Aside0.mk (Kd.R_below (PR HV1) hb); have n2_ := Aside0.mk (below_step (PB HB) hb); have n3_ := Aside0.mk hbox; have n4_ := Aside0.mk ((by rw [hg]; exact (below_size (PB HB))) : w.heap.size ≤ gb); clear HV0 HV1 HB hb hbox hg; have HV0 := n0_; have HV1 := n1_; have HB := n2_; have BK := n3_; have GE := n4_; clear n0_ n1_ n2_ n3_ n4_; obtain ⟨Ao, co, eo⟩ := Kd.R_slice HV0.out; subst eo; obtain ⟨Ap, cp, ep⟩ := Kd.R_slice HV1.out; subst ep; have hb0 : w20.cell? ⟨gb, 0, none⟩ = some (.slice none 0 0) := (blk_cell BK.out 0).trans rfl; have hb1 : w20.cell? ⟨gb, 1, none⟩ = some (.slice none 0 0) := (blk_cell BK.out 1).trans rfl; have hz0 := blk_frozen BK.out 0; have hz1 := blk_frozen BK.out 1) | ((with_reducible refine gate_callee (f := 31) rfl ?_); refine goesL_ _ rfl rfl Tryd.func31 (by kernel_rfl) rfl #[.slice Ap z2.length cp] rfl (by (try simp only [List.map_toArray, List.map_cons, List.map_nil]); first | done | rfl) ?_; have hrz := (Kd.R_mono (Kd.R_far (p := ⟨gb, 1, none⟩) (Kd.R_far (p := ⟨gb, 0, none⟩) (Kd.R_types HV1.out BK.out (by decide)) (fun _ hk => hk.2) (.slice Ao z1.length co)) (fun _ hk => hk.2) (.slice Ap z2.length cp)) (fun _ h_ => h_.1)); (refine (symbol_Zero.calls k Ap cp z2 false _ (Kd.R_reads' hrz).2.2 (Kd.R_reads' hrz).2.1 HZ.out).mono ?_); rintro e w21 ⟨rfl, hb⟩; refine ⟨_, rfl, ?_⟩; obtain ⟨nz, rfl⟩ := hb.out; have hd4 := (SysO.below HS.out (show Below w.heap.size w _ from (by repeat (first | (with_reducible first | exact HB.out | apply below_alloc | apply pw_below_drewN | apply below_drew1 | refine below_set ?_ GE.out) | exact HB.out)))).cell 4 _ (by decide) rfl; have hf4 := blk_frozen (SysO.below HS.out (show Below w.heap.size w _ from (by repeat (first | (with_reducible first | exact HB.out | apply below_alloc | apply pw_below_drewN | apply below_drew1 | refine below_set ?_ GE.out) | exact HB.out)))).blk 4; clear hrz hb))
  go_ret2
  have hW : Below w.heap.size w (((w20.setCell ⟨gb, 0, none⟩ (.slice Ao z1.length co)).setCell ⟨gb, 1, none⟩ (.slice Ap z2.length cp)).drewN nz) := (by repeat (first | (with_reducible first | exact HB.out | apply below_alloc | apply pw_below_drewN | apply below_drew1 | refine below_set ?_ GE.out) | exact HB.out))
  have hO := (SysO.below HS.out hW)
  exact ⟨.slice none 0 0, rfl, fault_none _ _ _, Kd.R_mono (SysO.clash hO).row (fun _ hk => .inl hk), (below_step HI.out.below hW).setCell hO.ge _, SKept.set (SKept.of_below hW _) (fun _ => ⟨hO.okg, _, _, HS.out.blk, .inl rfl⟩) 4 _⟩
theorem elimM_Add.fresh (k : Nat) (z1 z2 : List Int) (z3 : Int) (hi : AddIn w0 w ok_ g cap cs x vk va A1 c1 l1 A2 c2 l2) (h4 : x.f4 = false) (hf : elimM_fits.f [x] l1 = some true) (hl : (l2.length : Int) = x.f1) (hd : elimM_down.f k [x] l1 l2 = some (z1, z2, z3)) (h3 : 0 ≤ z3) (h5 : z3 < (x.f3.length : Int)) (hL : x.f2.length < 2932031007402) : Calls Tryd.prog 11 #[.pointer (some ⟨g, 0, none⟩), .slice A1 l1.length c1, .slice A2 l2.length c2] w (AddOut w0 w ok_ g cap 1 [] [⟨x.f0, x.f1, x.f2 ++ [⟨z1, z2⟩], x.f3.set z3.toNat (x.f2.length : Int), false⟩]) := by
  have HI := Aside0.mk hi
  have HS := Aside0.mk hi.sys
  have HR1 := Aside0.mk hi.r1
  have HC1 := Aside0.mk hi.k1
  have HR2 := Aside0.mk hi.r2
  have HC2 := Aside0.mk hi.k2
  have HF := Aside0.mk hf
  have HD := Aside0.mk hd
  have HB := Aside0.mk (Below.refl w.heap.size w)
  have hc4 := hi.sys.cell 4 _ (by decide) rfl
  rw [h4] at hc4
  have hl0 : ((l2.length : Int) != x.f1) = false := by simpa using hl
  have hl1 : ((l2.length : Int) == x.f1) = true := by simpa using hl
  have h30 : decide (0 ≤ z3) = true := decide_eq_true h3
  have H3 := Aside0.mk h3
  have H5 := Aside0.mk h5
  have HL := Aside0.mk hL
  have H4 := Aside0.mk h4
  clear hi h4 hf hl hd h3 h5 hL
  go_enter Tryd.func11, Tryd.ntmps11
  go_wp2_with (first | ((with_reducible refine gate_callee (f := 29) rfl ?_); refine goesL_ _ rfl rfl Tryd.func29 (by kernel_rfl) rfl #[.pointer (some ⟨g, 0, none⟩), .slice A1 l1.length c1] rfl (by (try simp only [List.map_toArray, List.map_cons, List.map_nil]); first | done | rfl) ?_; (refine (elimM_fits.calls ⟨g, 0, none⟩ [x] A1 c1 l1 true _ (SysO.reads (SysO.below HS.out (PB HB))) (Kd.C_below HR1.out (PB HB)) HC1.out HF.out).mono ?_); rintro e w18 ⟨rfl, hb⟩; refine ⟨_, rfl, ?_⟩; have n1_ := Aside0.mk (below_step (PB HB) hb); clear HB hb; have HB := n1_; clear n1_; have hd0 := (SysO.below HS.out HB.out).cell 0 _ (by decide) rfl; have hd1 := (SysO.below HS.out HB.out).cell 1 _ (by decide) rfl; have hd4 := (SysO.below HS.out HB.out).cell 4 _ (by decide) rfl) | ((with_reducible refine gate_callee (f := 30) rfl ?_); refine goesL_ _ rfl rfl Tryd.func30 (by kernel_rfl) rfl #[.pointer (some ⟨g, 0, none⟩), .agg #[.slice A1 l1.length c1, .slice A2 l2.length c2]] rfl (by (try simp only [List.map_toArray, List.map_cons, List.map_nil]); first | done | rfl) ?_; (refine (elimM_down.calls k ⟨g, 0, none⟩ [x] A1 c1 l1 A2 c2 l2 z1 z2 z3 _ (TabIn.below HI.out.tab (PB HB)) (SysO.reads (SysO.below HS.out (PB HB))) (Kd.C_below HR1.out (PB HB)) HC1.out (Kd.C_below HR2.out (PB HB)) HC2.out HD.out).mono ?_); rintro e w19 ⟨v0, v1, rfl, ho0, ho1, hb⟩; refine ⟨_, rfl, ?_⟩; have n0_ := Aside0.mk (Kd.R_lower ho0 (below_size (PB HB))); have n1_ := Aside0.mk (Kd.R_lower ho1 (below_size (PB HB))); have n2_ := Aside0.mk (below_step (PB HB) hb); clear HB hb ho0 ho1; have HV0 := n0_; have HV1 := n1_; have HB := n2_; clear n0_ n1_ n2_) | ((with_reducible refine gate_dst (N := 8) rfl ?_); refine box_event ?hg (N := 8) ?hd (cs := #[.slice none 0 0, .slice none 0 0]) (t := 77) ?hr ?_; (case hd => rfl); (case hg => rfl); (case hr => first | (go_simp; done) | (go_simp; rfl)); intro gb hg w20 hbox hb; have n0_ := Aside0.mk (Kd.R_below (PR HV0) hb); have n1_ := Aside0.mk (Kd.R_below (PR HV1) hb); have n2_ := Aside0.mk (below_step (PB HB) hb); have n3_ := Aside0.mk hbox; have n4_ := Aside0.mk ((by rw [hg]; exact (below_size (PB HB))) : w.heap.size ≤ gb); clear HV0 HV1 HB hb hbox hg; have HV0 := n0_; have HV1 := n1_; have HB := n2_; have BK := n3_; have GE := n4_; clear n0_ n1_ n2_ n3_ n4_; obtain ⟨Ao, co, eo⟩ := Kd.R_slice HV0.out; subst eo; obtain ⟨Ap, cp, ep⟩ := Kd.R_slice HV1.out; subst ep; have hb0 : w20.cell? ⟨gb, 0, none⟩ = some (.slice none 0 0) := (blk_cell BK.out 0).trans rfl; have hb1 : w20.cell? ⟨gb, 1, none⟩ = some (.slice none 0 0) := (blk_cell BK.out 1).trans rfl; have hz0 := blk_frozen BK.out 0; have hz1 := blk_frozen BK.out 1))
  obtain ⟨w4, hw4⟩ : ∃ w4, w4 = (w20.setCell ⟨gb, 0, none⟩ (.slice Ao z1.length co)).setCell ⟨gb, 1, none⟩ (.slice Ap z2.length cp) := ⟨_, rfl⟩
  rw [← hw4]
  have hB4 : Below w.heap.size w w4 := by rw [hw4]; exact (by repeat (first | (with_reducible first | exact HB.out | apply below_alloc | apply pw_below_drewN | apply below_drew1 | refine below_set ?_ GE.out) | exact HB.out))
  have hV0 : Kd.R (Kd.int .u64) 35 w4 w.heap.size (fun _ => True) (.slice Ao z1.length co) z1 := by rw [hw4]; exact (Kd.R_mono (Kd.R_far (p := ⟨gb, 1, none⟩) (Kd.R_far (p := ⟨gb, 0, none⟩) (Kd.R_types HV0.out BK.out (by decide)) (fun _ hk => hk.2) (.slice Ao z1.length co)) (fun _ hk => hk.2) (.slice Ap z2.length cp)) (fun _ h_ => h_.1))
  have hV1 : Kd.R (Kd.int .u8) 5 w4 w.heap.size (fun _ => True) (.slice Ap z2.length cp) z2 := by rw [hw4]; exact (Kd.R_mono (Kd.R_far (p := ⟨gb, 1, none⟩) (Kd.R_far (p := ⟨gb, 0, none⟩) (Kd.R_types HV1.out BK.out (by decide)) (fun _ hk => hk.2) (.slice Ao z1.length co)) (fun _ hk => hk.2) (.slice Ap z2.length cp)) (fun _ h_ => h_.1))
  have hK4 : w4.heap[gb]? = some (.cells #[.slice Ao z1.length co, .slice Ap z2.length cp] 77 (0, 0)) := by
    rw [hw4]; exact blk_put (cs := #[.slice Ao z1.length co, .slice none 0 0]) (blk_put (cs := #[.slice none 0 0, .slice none 0 0]) BK.out 0 _ rfl) 1 _ rfl
  have hgb : g ≠ gb := fun e => by have h1 := blk_lt HS.out.blk; have h2 := GE.out; omega
  clear hw4 hb0 hb1 hz0 hz1 HB HV0 HV1 BK
  have HB := Aside0.mk hB4
  have HV0 := Aside0.mk hV0
  have HV1 := Aside0.mk hV1
  have BK := Aside0.mk hK4
  clear hB4 hV0 hV1 hK4 hd0 hd1 hd4
  have HO := Aside0.mk (SysO.below HS.out HB.out)
  obtain ⟨ga, ca, ea, gea, lta, cla, HGa⟩ := Kd.R_form HO.out.at_ (by have := H3.out; have := H5.out; omega)
  obtain ⟨Ak, ck, ek⟩ := Kd.R_slice HO.out.kept
  subst ea
  subst ek
  have HGA := Aside0.mk HGa
  have GEA := Aside0.mk gea
  clear gea lta HGa
  have hd2 := HO.out.cell 2 _ (by decide) rfl
  have hd3 := HO.out.cell 3 _ (by decide) rfl
  obtain ⟨hx0, hf0⟩ := Kd.R_celln 0 HO.out.at_ z3 H3.out H5.out
  have p3 : (0 ≤ z3) = True := eq_true H3.out
  have q3 : (z3 < (x.f3.length : Int)) = True := eq_true H5.out
  go_region
  obtain ⟨w5, hw5⟩ : ∃ w5, w5 = (w4.setCell ⟨ga, z3.toNat, none⟩ (.int .i64 (x.f2.length : Int))).drew := ⟨_, rfl⟩
  rw [← hw5]
  have hga : g ≠ ga := blk_ne HO.out.blk HGA.out (by decide)
  have hgba : gb ≠ ga := blk_ne BK.out HGA.out (by decide)
  have hO5 : SysO w5 w0.heap.size ok_ g cap cs ⟨x.f0, x.f1, x.f2, x.f3.set z3.toNat (x.f2.length : Int), x.f4⟩ (.slice Ak x.f2.length ck) (.slice (some ⟨ga, 0, none⟩) x.f3.length ca) := by
    rw [hw5]
    exact ⟨blk_drew (blk_far (p := ⟨ga, _, none⟩) HO.out.blk hga _), HO.out.five, HO.out.ge, HO.out.okg, HO.out.c1, HO.out.cm, HO.out.cs5, Kd.R_drew (Kd.R_set HO.out.kept HGA.out (by decide) _ _), Kd.R_drew (Kd.R_putg HO.out.at_ z3 (x.f2.length : Int)).1⟩
  have hV5 : Kd.R (Kd.int .u64) 35 w5 w.heap.size (fun _ => True) (.slice Ao z1.length co) z1 := by rw [hw5]; exact Kd.R_drew (Kd.R_set HV0.out HGA.out (by decide) _ _)
  have hV6 : Kd.R (Kd.int .u8) 5 w5 w.heap.size (fun _ => True) (.slice Ap z2.length cp) z2 := by rw [hw5]; exact Kd.R_drew (Kd.R_set HV1.out HGA.out (by decide) _ _)
  have hK5 : w5.heap[gb]? = some (.cells #[.slice Ao z1.length co, .slice Ap z2.length cp] 77 (0, 0)) := by rw [hw5]; exact blk_drew (blk_far (p := ⟨ga, _, none⟩) BK.out hgba _)
  have hB5 : Below w0.heap.size w0 w5 := by rw [hw5]; exact below_drew ((below_step HI.out.below HB.out).setCell GEA.out _)
  have hS5 : SKept w w5 ok_ := by
    rw [hw5]
    refine SKept.drew (SKept.set (SKept.of_below HB.out _) (fun hlt => ⟨(HO.out.at_.1 ga rfl).1, _, _, (HB.out.block ga hlt).symm.trans HGA.out, .inr (.inr rfl)⟩) _ _)
  have hsz : w.heap.size ≤ w5.heap.size := hS5.1
  clear hw5 hd2 hd3 hx0 hf0 HO HGA GEA HB HV0 HV1 BK p3 q3
  have HO := Aside0.mk hO5
  have HV0 := Aside0.mk hV5
  have HV1 := Aside0.mk hV6
  have BK := Aside0.mk hK5
  have HB := Aside0.mk hB5
  have HSK := Aside0.mk hS5
  have HSZ := Aside0.mk hsz
  have hd2 := HO.out.cell 2 _ (by decide) rfl
  have hf2 := blk_frozen HO.out.blk 2
  have hd2a : (w5.alloc (.cells #[.slice Ao z1.length co, .slice Ap z2.length cp] 77)).cell? ⟨g, 2, none⟩ = some (.slice Ak x.f2.length ck) := (World.cell?_alloc_lt _ _ _ (World.block_lt_of_cell? _ _ hd2)).trans hd2
  have hb0 : w5.cell? ⟨gb, 0, none⟩ = some (.slice Ao z1.length co) := (blk_cell BK.out 0).trans rfl
  have hb1 : w5.cell? ⟨gb, 1, none⟩ = some (.slice Ap z2.length cp) := (blk_cell BK.out 1).trans rfl
  clear hO5 hV5 hV6 hK5 hB5 hS5 hsz hga hgba
  have hk5 : Kd.R k77 77 w5.drew w0.heap.size (fun k_ => (ok_ k_ ∨ w.heap.size ≤ k_) ∧ k_ ≠ g) (.slice Ak x.f2.length ck) x.f2 := Kd.R_drew (Kd.R_mono HO.out.kept (fun _ hk => ⟨.inl hk.1, hk.2⟩))
  have hp5 : k77.M w5.drew w0.heap.size (fun k_ => w.heap.size ≤ k_) ⟨z1, z2⟩ [.slice Ao z1.length co, .slice Ap z2.length cp] :=
    k77_mkM _ _ _ _ (Kd.R_mono (Kd.R_lower (Kd.R_drew (Kd.R_bound HV0.out)) HI.out.below.size) (fun _ hk => hk.2.1)) (Kd.R_mono (Kd.R_lower (Kd.R_drew (Kd.R_bound HV1.out)) HI.out.below.size) (fun _ hk => hk.2.1))
  have hkl : ∀ k_, (Value.slice Ak x.f2.length ck).ownBlock = some k_ → k_ < w.heap.size := fun k_ e => Kd.R_lt HS.out.kept k_ e
  have hgl : g < w.heap.size := blk_lt HS.out.blk
  have HK5 := Aside0.mk hk5
  have HP5 := Aside0.mk hp5
  have HKL := Aside0.mk hkl
  have HGL := Aside0.mk hgl
  obtain ⟨L2, hL2⟩ : ∃ L2 : List S77, L2 = x.f2 ++ [⟨z1, z2⟩] := ⟨_, rfl⟩
  have HL2 := Aside0.mk hL2
  clear hk5 hp5 hkl hgl hL2
  go_wp2
  go_region_law (refine Kd.R_append_step k77 (w0 := w0) (W := w5.drew) w0.heap.size (by rfl) (.tmp 59) (.tmp 61) 72 77 (.agg #[.slice none 0 0, .slice none 0 0]) 48 (by rfl) Tryd.underlying72 infoEq (by rfl) (by decide) (by omega) (.slice Ak x.f2.length ck) x.f2 ⟨z1, z2⟩ [.slice Ao z1.length co, .slice Ap z2.length cp] (fun k_ => (ok_ k_ ∨ w.heap.size ≤ k_) ∧ k_ ≠ g) (fun k_ => w.heap.size ≤ k_) (by rfl) (by rfl) HP5.out (fun k_ hk => ⟨⟨.inr hk, fun e => by have := HGL.out; omega⟩, fun e => by have := HKL.out k_ e.symm; omega⟩) (fun k_ hk => ⟨.inr (Nat.le_trans HSZ.out hk), fun e => by have := HGL.out; have := HSZ.out; have : w5.heap.size ≤ k_ := hk; omega⟩) HK5.out (below_drew HB.out) HB.out.size (by have := HL.out; omega) ?_; intro vk2 w6 hO6 hB6 hg6 hat6; rw [← HL2.out] at hO6; obtain ⟨A6, c6, e6⟩ := Kd.R_slice hO6; subst e6; have hne6 : some g ≠ (Value.slice Ak x.f2.length ck).ownBlock := (Kd.R_away HK5.out (fun _ hk => hk.2)); have hblk6 := blk_grown (blk_drew HO.out.blk) hg6 hne6; have hd6 : w6.cell? ⟨g, 2, none⟩ = some (.slice Ak x.f2.length ck) := (blk_cell hblk6 2).trans ((blk_cell HO.out.blk 2).symm.trans (HO.out.cell 2 _ (by decide) rfl)); have hf6 := blk_frozen hblk6 2; have HO6 := Aside0.mk hO6; have HB6 := Aside0.mk hB6; have HG6 := Aside0.mk hg6; have HBL6 := Aside0.mk hblk6; clear hO6 hB6 hg6 hat6 hblk6 hne6)
  all_goals
    go_wp2
    go_ret2
    have hE : (⟨x.f0, x.f1, x.f2 ++ [⟨z1, z2⟩], x.f3.set z3.toNat (x.f2.length : Int), false⟩ : S74) = ⟨x.f0, x.f1, L2, x.f3.set z3.toNat (x.f2.length : Int), x.f4⟩ := by rw [HL2.out, H4.out]
    rw [hE]
    have hA6 := Kd.R_over (Kd.R_drew HO.out.at_) HK5.out (by decide) HG6.out
    have hS : SysO (w6.setCell ⟨g, 2, none⟩ (.slice A6 L2.length c6)) w0.heap.size (fun k_ => ok_ k_ ∨ w.heap.size ≤ k_) g cap (cs.setIfInBounds 2 (.slice A6 L2.length c6)) ⟨x.f0, x.f1, L2, x.f3.set z3.toNat (x.f2.length : Int), x.f4⟩ (.slice A6 L2.length c6) (.slice (some ⟨ga, 0, none⟩) x.f3.length ca) :=
      ⟨blk_put HBL6.out 2 _ rfl, five_set HO.out.five 2 _, HO.out.ge, .inl HO.out.okg, HO.out.c1, HO.out.cm, by rw [Array.size_setIfInBounds]; exact HO.out.cs5, Kd.R_far (p := ⟨g, 2, none⟩) HO6.out (fun _ hk => hk.2) _, Kd.R_far (p := ⟨g, 2, none⟩) (Kd.R_mono hA6 (fun _ hk => ⟨.inl hk.1, hk.2⟩)) (fun _ hk => hk.2) _⟩
    exact ⟨.slice none 0 0, rfl, fault_none _ _ _, hS.row, HB6.out.setCell HO.out.ge _, SKept.set (SKept.grown (SKept.drew HSK.out) HG6.out (fun k_ e_ _ => ⟨(HS.out.kept.1 k_ e_).1, by obtain ⟨cells, hc⟩ := Kd.R_typed HS.out.kept k_ e_; exact ⟨_, cells, hc, .inr (.inl rfl)⟩⟩)) (fun _ => ⟨HS.out.okg, _, _, HS.out.blk, .inl rfl⟩) 2 _⟩
theorem elimM_Add.all (k : Nat) (r1 : Int) (r2 : List FE) (r3 : List S74) (hi : AddIn w0 w ok_ g cap cs x vk va A1 c1 l1 A2 c2 l2) (h : elimM_Add.g k x l1 l2 = some (r1, r2, r3)) : Calls Tryd.prog 11 #[.pointer (some ⟨g, 0, none⟩), .slice A1 l1.length c1, .slice A2 l2.length c2] w (AddOut w0 w ok_ g cap r1 r2 r3) := by
  unfold elimM_Add.g at h
  by_cases h4 : x.f4 = true
  · rw [if_pos h4] at h
    simp only [Option.some.injEq, Prod.mk.injEq] at h
    obtain ⟨rfl, rfl, rfl⟩ := h
    exact elimM_Add.clashed hi h4
  · rw [if_neg h4] at h
    have h4' : x.f4 = false := by simpa using h4
    obtain ⟨t, ht, h⟩ := Option.bind_eq_some_iff.mp h
    cases t with
    | false =>
      rw [if_neg (fun e => by cases e.1)] at h
      simp only [Option.some.injEq, Prod.mk.injEq] at h
      obtain ⟨rfl, rfl, rfl⟩ := h
      exact elimM_Add.form0 hi h4' ht
    | true =>
      by_cases hl : (l2.length : Int) = x.f1
      · rw [if_pos ⟨rfl, hl⟩] at h
        obtain ⟨⟨z1, z2, z3⟩, hd, h⟩ := Option.bind_eq_some_iff.mp h
        by_cases h3 : 0 ≤ z3
        · rw [if_pos h3] at h
          by_cases h5 : z3 < (x.f3.length : Int) ∧ x.f2.length < 2932031007402
          · rw [if_pos h5] at h
            simp only [Option.some.injEq, Prod.mk.injEq] at h
            obtain ⟨rfl, rfl, rfl⟩ := h
            exact elimM_Add.fresh k z1 z2 z3 hi h4' ht hl hd h3 h5.1 h5.2
          · rw [if_neg h5] at h
            cases h
        · rw [if_neg h3] at h
          obtain ⟨b, hb, h⟩ := Option.bind_eq_some_iff.mp h
          cases b with
          | true =>
            rw [if_pos rfl] at h
            simp only [Option.some.injEq, Prod.mk.injEq] at h
            obtain ⟨rfl, rfl, rfl⟩ := h
            exact elimM_Add.known k z1 z2 z3 hi h4' ht hl hd h3 hb
          | false =>
            rw [if_neg (by decide)] at h
            simp only [Option.some.injEq, Prod.mk.injEq] at h
            obtain ⟨rfl, rfl, rfl⟩ := h
            exact elimM_Add.clash k z1 z2 z3 hi h4' ht hl hd h3 hb
      · rw [if_neg (fun e => hl e.2)] at h
        simp only [Option.some.injEq, Prod.mk.injEq] at h
        obtain ⟨rfl, rfl, rfl⟩ := h
        exact elimM_Add.form1 hi h4' ht hl
end
def elim_System_Add.f (k : Nat) (l0 : List S74) (l1 : List Int) (l2 : List Int) : Option (Int × List FE × List S74) := elimM_Add.f k l0 l1 l2
theorem elim_System_Add.mono : ∀ a0 a1 a2 k, LeO (elim_System_Add.f k a0 a1 a2) (elim_System_Add.f (k + 1) a0 a1 a2) := fun a0 a1 a2 k => elimM_Add.mono a0 a1 a2 k
theorem elim_System_Add.calls (k : Nat) (ok_ : Nat → Prop) (u9000_ : Value) (l0 : List S74) (A1 : Option Addr) (c1 : Nat) (l1 : List Int) (A2 : Option Addr) (c2 : Nat) (l2 : List Int) (r1 : Int) (r2 : List FE) (r3 : List S74) (w0 w : World) (ht : TabIn w) (hB : Below w0.heap.size w0 w) (ho0 : Kd.R k74 74 w w0.heap.size ok_ u9000_ l0) (hr1 : Kd.C (Kd.int .u64) w A1 l1.length l1) (hc1 : l1.length ≤ c1) (hr2 : Kd.C (Kd.int .u8) w A2 l2.length l2) (hc2 : l2.length ≤ c2) (h : elim_System_Add.f k l0 l1 l2 = some (r1, r2, r3)) :
  Calls Tryd.prog 11 #[ptrOf u9000_, .slice A1 l1.length c1, .slice A2 l2.length c2] w fun e w' => ∃ v1_ : Value, e = .returned (.tuple #[.int .i64 r1, (errOf v1_)]) ∧ Kd.R kF 95 w' w.heap.size (fun _ => True) v1_ r2 ∧ Kd.R k74 74 w' w0.heap.size (fun k_ => (ok_ k_ ∨ w.heap.size ≤ k_)) u9000_ r3 ∧ Below w0.heap.size w0 w' ∧ SKept w w' ok_ := by
 match l0, ho0, h with
 | [], ho0, h =>
  have h1 : elimM_Add.f k [] l1 l2 = some (r1, r2, r3) := h
  simp only [elimM_Add.f, Option.some.injEq, Prod.mk.injEq] at h1
  obtain ⟨rfl, rfl, rfl⟩ := h1
  obtain ⟨A, c, rfl⟩ := Kd.R_slice ho0
  refine (elim_Add.nil w _ _).mono fun e w' hx => ?_
  obtain ⟨v1_, he, hf, hb⟩ := hx
  exact ⟨v1_, he, hf, Kd.R_mono (Kd.R_below ho0 hb) (fun _ hk => .inl hk), below_step hB hb, SKept.of_below hb _⟩
 | [x], ho0, h =>
  obtain ⟨g, cap, cs, vk, va, rfl, hs⟩ := sys_open ho0
  rw [ptrOf_pos _ _ _ (by decide)]
  exact elimM_Add.all k r1 r2 r3 ⟨ht, hB, hs, hr1, hc1, hr2, hc2⟩ h
 | _ :: _ :: _, _, h => exact absurd (show (none : Option (Int × List FE × List S74)) = some (r1, r2, r3) from h) (by simp)
def packed_check.l0 : Nat → Int → List Int → Int → Int → Option (Int)
 | 0, _, _, _, _ => none
 | k + 1, x1, x13, x14, x15 => if x15 < x14 then (if 0 ≤ x15 then (if x15 < (x13.length : Int) then (if (rd x13 x15) < 0 then (some 1) else (if (rd x13 x15) ≥ x1 then (some 1) else (packed_check.l0 k x1 x13 x14 (wrap64 (x15 + 1))))) else (none)) else (none)) else (some 0)
def packed_check.f (k : Nat) (l0 : List Int) (a1 : Int) : Option (Int) := if a1 < 0 then (some 1) else (if a1 > 4096 then (some 1) else (packed_check.l0 k a1 l0 (l0.length : Int) 0))
theorem packed_check.mono_l : ∀ k, (∀ y0 y1 y2 y3, LeO (packed_check.l0 k y0 y1 y2 y3) (packed_check.l0 (k + 1) y0 y1 y2 y3))
 | 0 => fun _ _ _ _ r h => by simp [packed_check.l0] at h
 | k + 1 => by
  have ih0 := packed_check.mono_l k
  ·intro y0 y1 y2 y3
   unfold packed_check.l0
   repeat' first
   | (with_reducible exact ih0 _ _ _ _)
   | (with_reducible exact LeO.refl _)
   | (with_reducible exact LeO.none _)
   | (with_reducible refine LeO.ite ?_ ?_)
   | (with_reducible refine LeO.bind ?_ (fun _ => ?_))
   | exact ih0 _ _ _ _
   | exact LeO.none _
   | refine LeO.ite ?_ ?_
   | refine LeO.bind ?_ (fun _ => ?_)
theorem packed_check.mono : ∀ a0 a1 k, LeO (packed_check.f k a0 a1) (packed_check.f (k + 1) a0 a1) := by
 intro a0 a1 k
 have ih0 := packed_check.mono_l k
 unfold packed_check.f
 repeat' first
   | (with_reducible exact ih0 _ _ _ _)
   | (with_reducible exact LeO.refl _)
   | (with_reducible exact LeO.none _)
   | (with_reducible refine LeO.ite ?_ ?_)
   | (with_reducible refine LeO.bind ?_ (fun _ => ?_))
   | exact ih0 _ _ _ _
   | exact LeO.none _
   | refine LeO.ite ?_ ?_
   | refine LeO.bind ?_ (fun _ => ?_)
set_option maxHeartbeats 8000000 in
set_option maxRecDepth 100000 in
theorem packed_check.calls (k : Nat) (A0 : Option Addr) (c0 : Nat) (l0 : List Int) (a1 : Int) (r : Int) (w : World) (hr0 : Kd.C (Kd.int .i64) w A0 l0.length l0) (hc0 : l0.length ≤ c0) (h : packed_check.f k l0 a1 = some r) :
  Calls Tryd.prog 53 #[.slice A0 l0.length c0, .int .i64 a1] w fun e w' => e = .returned (.int .i64 r) ∧ Drawn0 w w' := by
 have HR0 := Aside0.mk hr0
 have HC0 := Aside0.mk hc0
 clear hr0 hc0
 have H : (if a1 < 0 then (some 1) else (if a1 > 4096 then (some 1) else (packed_check.l0 k a1 l0 (l0.length : Int) 0))) = some r := h
 clear h
 by_cases c3 : a1 < 0
 ·rw [if_pos c3] at H
  have c3b0 : decide (a1 < 0) = true := decide_eq_true c3
  clear c3
  obtain rfl := Option.some.inj H
  go_enter Tryd.func53, Tryd.ntmps53
  go_wp2
  go_ret
  exact ⟨by first | rfl | (simp; done) | (simp [*]; done), by repeat (first | exact Drawn0.refl _ | apply Drawn0.step)⟩
 ·rw [if_neg c3] at H
  have c3b0 : decide (a1 < 0) = false := decide_eq_false c3
  clear c3
  by_cases c4 : a1 > 4096
  ·rw [if_pos c4] at H
   have c4b0 : decide (4096 < a1) = true := decide_eq_true c4
   clear c4
   obtain rfl := Option.some.inj H
   go_enter Tryd.func53, Tryd.ntmps53
   go_wp2
   go_ret
   exact ⟨by first | rfl | (simp; done) | (simp [*]; done), by repeat (first | exact Drawn0.refl _ | apply Drawn0.step)⟩
  ·rw [if_neg c4] at H
   have c4b0 : decide (4096 < a1) = false := decide_eq_false c4
   clear c4
   have H' := Aside0.mk H
   clear H
   go_enter Tryd.func53, Tryd.ntmps53
   go_wp2
   go_loopg [15] k (fun kq v15 w' => ∃ (x15_1 : Int), v15 = .int .i64 x15_1 ∧ Aside0 (packed_check.l0 kq a1 l0 (l0.length : Int) x15_1 = some r) ∧ Aside0 (kq ≤ k) ∧ Drawn0 w w')
   case atStart => exact ⟨(0), (by first | rfl | (simp; done) | (simp [*]; done)), H', ⟨Nat.le_refl _⟩, by repeat (first | exact Drawn0.refl _ | apply Drawn0.step)⟩
   case round =>
    clear H'
    try clear p2
    try clear c3
    try clear c3b0
    try clear c4
    try clear c4b0
    obtain ⟨x15_1, rfl, HA, HK1, ⟨m1, rfl⟩⟩ := hrel
    cases gk with
    | zero => exact absurd HA.out (by simp [packed_check.l0])
    | succ k1 =>
     have H := HA.out
     clear HA
     simp only [packed_check.l0] at H
     by_cases c5 : x15_1 < (l0.length : Int)
     ·rw [if_pos c5] at H
      have c5b0 : decide (x15_1 < (l0.length : Int)) = true := decide_eq_true c5
      clear c5
      by_cases c6 : 0 ≤ x15_1
      ·rw [if_pos c6] at H
       have c6b0 : decide (0 ≤ x15_1) = true := decide_eq_true c6
       clear c6
       by_cases c7 : x15_1 < (l0.length : Int)
       ·rw [if_pos c7] at H
        have c7b0 : decide (x15_1 < (l0.length : Int)) = true := decide_eq_true c7
        clear c7
        by_cases c8 : (rd l0 x15_1) < 0
        ·rw [if_pos c8] at H
         have c8b0 : decide ((rd l0 x15_1) < 0) = true := decide_eq_true c8
         clear c8
         obtain rfl := Option.some.inj H
         have p231 : 0 ≤ (x15_1 : Int) := of_decide_eq_true (by first | (with_reducible assumption) | assumption)
         have q231 : x15_1 < (l0.length : Int) := of_decide_eq_true (by first | (with_reducible assumption) | assumption)
         obtain ⟨ad231, e231, hx231_0⟩ := Kd.at_int HR0.out x15_1 p231 q231
         cases e231
         replace p231 := eq_true p231
         replace q231 := eq_true q231
         go_wp2
         go_ret
         exact ⟨by first | rfl | (simp; done) | (simp [*]; done), by repeat (first | exact Drawn0.refl _ | apply Drawn0.step)⟩
        ·rw [if_neg c8] at H
         have c8b0 : decide ((rd l0 x15_1) < 0) = false := decide_eq_false c8
         clear c8
         by_cases c9 : (rd l0 x15_1) ≥ a1
         ·rw [if_pos c9] at H
          have c9b0 : decide (a1 ≤ (rd l0 x15_1)) = true := decide_eq_true c9
          clear c9
          obtain rfl := Option.some.inj H
          have p231 : 0 ≤ (x15_1 : Int) := of_decide_eq_true (by first | (with_reducible assumption) | assumption)
          have q231 : x15_1 < (l0.length : Int) := of_decide_eq_true (by first | (with_reducible assumption) | assumption)
          obtain ⟨ad231, e231, hx231_0⟩ := Kd.at_int HR0.out x15_1 p231 q231
          cases e231
          replace p231 := eq_true p231
          replace q231 := eq_true q231
          go_wp2
          go_ret
          exact ⟨by first | rfl | (simp; done) | (simp [*]; done), by repeat (first | exact Drawn0.refl _ | apply Drawn0.step)⟩
         ·rw [if_neg c9] at H
          have c9b0 : decide (a1 ≤ (rd l0 x15_1)) = false := decide_eq_false c9
          clear c9
          have H' := Aside0.mk H
          clear H
          have p231 : 0 ≤ (x15_1 : Int) := of_decide_eq_true (by first | (with_reducible assumption) | assumption)
          have q231 : x15_1 < (l0.length : Int) := of_decide_eq_true (by first | (with_reducible assumption) | assumption)
          obtain ⟨ad231, e231, hx231_0⟩ := Kd.at_int HR0.out x15_1 p231 q231
          cases e231
          replace p231 := eq_true p231
          replace q231 := eq_true q231
          go_wp2
          go_roundg k1
          case measure => have := HK1.out; omega
          case rel => exact ⟨(wrap64 (x15_1 + 1)), (by first | rfl | (simp; done) | (simp [*]; done)), H', ⟨by have := HK1.out; omega⟩, by repeat (first | exact Drawn0.refl _ | apply Drawn0.step)⟩
       ·rw [if_neg c7] at H
        exact absurd H (by simp)
      ·rw [if_neg c6] at H
       exact absurd H (by simp)
     ·rw [if_neg c5] at H
      have c5b0 : decide (x15_1 < (l0.length : Int)) = false := decide_eq_false c5
      clear c5
      obtain rfl := Option.some.inj H
      go_wp2
      go_ret
      exact ⟨by first | rfl | (simp; done) | (simp [*]; done), by repeat (first | exact Drawn0.refl _ | apply Drawn0.step)⟩
def packed_Pack.l0 : Nat → List Int → List Int → Int → Int → Option (List Int × List FE)
 | 0, _, _, _, _ => none
 | k + 1, x7, x20, x21, x22 => if x22 < x21 then (if 0 ≤ x22 then (if x22 < (x20.length : Int) then ((packed_Has.f x7 (rd x20 x22)).bind fun t241 => (if t241 = true then ((fault_New.f (⟨#[112, 97, 99, 107, 101, 100, 46, 80, 97, 99, 107]⟩ : ByteArray) 2).bind fun t242 => (some (([] : List Int), t242))) else (if 0 ≤ (wrap64 (Int.tdiv (rd x20 x22) 64)) then (if (wrap64 (Int.tdiv (rd x20 x22) 64)) < (x7.length : Int) then (if 0 ≤ (Int.tmod (rd x20 x22) 64) then (packed_Pack.l0 k (x7.set ((wrap64 (Int.tdiv (rd x20 x22) 64)) : Int).toNat (Go.bits .or .u64 (rd x7 (wrap64 (Int.tdiv (rd x20 x22) 64))) (shl .u64 1 (Int.tmod (rd x20 x22) 64)))) x20 x21 (wrap64 (x22 + 1))) else (none)) else (none)) else (none)))) else (none)) else (none)) else (some (x7, ([] : List FE)))
def packed_Pack.f (k : Nat) (l0 : List Int) (a1 : Int) : Option (List Int × List FE) := (packed_check.f k l0 a1).bind fun t232 => (if t232 = 0 then ((packed_Size.f a1).bind fun t236 => (if 0 ≤ t236 then (if (t236 : Int).toNat ≤ 35184372088832 then (packed_Pack.l0 k (List.replicate (t236 : Int).toNat 0) l0 (l0.length : Int) 0) else (none)) else (none))) else ((fault_New.f (⟨#[112, 97, 99, 107, 101, 100, 46, 80, 97, 99, 107]⟩ : ByteArray) t232).bind fun t233 => (some (([] : List Int), t233))))
theorem packed_Pack.mono_l : ∀ k, (∀ y0 y1 y2 y3, LeO (packed_Pack.l0 k y0 y1 y2 y3) (packed_Pack.l0 (k + 1) y0 y1 y2 y3))
 | 0 => fun _ _ _ _ r h => by simp [packed_Pack.l0] at h
 | k + 1 => by
  have ih0 := packed_Pack.mono_l k
  ·intro y0 y1 y2 y3
   unfold packed_Pack.l0
   repeat' first
   | (with_reducible exact ih0 _ _ _ _)
   | (with_reducible exact packed_check.mono _ _ _)
   | (with_reducible exact LeO.refl _)
   | (with_reducible exact LeO.none _)
   | (with_reducible refine LeO.ite ?_ ?_)
   | (with_reducible refine LeO.bind ?_ (fun _ => ?_))
   | exact ih0 _ _ _ _
   | exact packed_check.mono _ _ _
   | exact LeO.none _
   | refine LeO.ite ?_ ?_
   | refine LeO.bind ?_ (fun _ => ?_)
theorem packed_Pack.mono : ∀ a0 a1 k, LeO (packed_Pack.f k a0 a1) (packed_Pack.f (k + 1) a0 a1) := by
 intro a0 a1 k
 have ih0 := packed_Pack.mono_l k
 unfold packed_Pack.f
 repeat' first
   | (with_reducible exact ih0 _ _ _ _)
   | (with_reducible exact packed_check.mono _ _ _)
   | (with_reducible exact LeO.refl _)
   | (with_reducible exact LeO.none _)
   | (with_reducible refine LeO.ite ?_ ?_)
   | (with_reducible refine LeO.bind ?_ (fun _ => ?_))
   | exact ih0 _ _ _ _
   | exact packed_check.mono _ _ _
   | exact LeO.none _
   | refine LeO.ite ?_ ?_
   | refine LeO.bind ?_ (fun _ => ?_)
def packed_Pack.T10 : Bool × List (List Nat × List Nat) := (true, [([], []), ([], []), ([1], [1]), ([0, 2], [0, 2]), ([3], [3]), ([], []), ([5], [5]), ([6], [6]), ([4, 7], [4, 7]), ([0, 2, 0, 1, 2, 3, 4, 5, 6, 7, 8], [0, 2]), ([9, 8, 0, 1, 2, 3, 4, 5, 6, 7, 8], [8, 9])])
def packed_Pack.B10 : List Nat := [0, 0, 2, 7, 15, 0, 32, 96, 255, 511, 1023]
theorem packed_Pack.tab10 : rtab .any (opsOf Tryd.f35 10) = packed_Pack.T10 := by kernel_rfl
theorem packed_Pack.bits10 : waitsOk packed_Pack.T10.2 packed_Pack.B10 = true := by kernel_rfl
set_option maxHeartbeats 8000000 in
set_option maxRecDepth 100000 in
theorem packed_Pack.calls (k : Nat) (A0 : Option Addr) (c0 : Nat) (l0 : List Int) (a1 : Int) (r1 : List Int) (r2 : List FE) (w : World) (hr0 : Kd.C (Kd.int .i64) w A0 l0.length l0) (hc0 : l0.length ≤ c0) (h : packed_Pack.f k l0 a1 = some (r1, r2)) :
  Calls Tryd.prog 35 #[.slice A0 l0.length c0, .int .i64 a1] w fun e w' => ∃ v0_ v1_ : Value, e = .returned (.tuple #[v0_, (errOf v1_)]) ∧ Kd.R (Kd.int .u64) 35 w' w.heap.size (fun _ => True) v0_ r1 ∧ Kd.R kF 95 w' w.heap.size (fun _ => True) v1_ r2 ∧ Below w.heap.size w w' := by
 have HR0 := Aside0.mk hr0
 have HC0 := Aside0.mk hc0
 clear hr0 hc0
 have HB := Aside0.mk (Below.refl w.heap.size w)
 have H : ((packed_check.f k l0 a1).bind fun t232 => (if t232 = 0 then ((packed_Size.f a1).bind fun t236 => (if 0 ≤ t236 then (if (t236 : Int).toNat ≤ 35184372088832 then (packed_Pack.l0 k (List.replicate (t236 : Int).toNat 0) l0 (l0.length : Int) 0) else (none)) else (none))) else ((fault_New.f (⟨#[112, 97, 99, 107, 101, 100, 46, 80, 97, 99, 107]⟩ : ByteArray) t232).bind fun t233 => (some (([] : List Int), t233))))) = some (r1, r2) := h
 clear h
 replace H := Option.bind_eq_some_iff.mp H
 obtain ⟨t232, A30, H⟩ := H
 replace H : (if t232 = 0 then ((packed_Size.f a1).bind fun t236 => (if 0 ≤ t236 then (if (t236 : Int).toNat ≤ 35184372088832 then (packed_Pack.l0 k (List.replicate (t236 : Int).toNat 0) l0 (l0.length : Int) 0) else (none)) else (none))) else ((fault_New.f (⟨#[112, 97, 99, 107, 101, 100, 46, 80, 97, 99, 107]⟩ : ByteArray) t232).bind fun t233 => (some (([] : List Int), t233)))) = some (r1, r2) := H
 have A3 := Aside0.mk A30
 clear A30
 by_cases c4 : t232 = 0
 ·rw [if_pos c4] at H
  have c4b0 : (t232 == 0) = true := beq_iff_eq.mpr c4
  have c4b1 : (t232 != 0) = false := bne_eq_false_iff_eq.mpr c4
  clear c4
  replace H := Option.bind_eq_some_iff.mp H
  obtain ⟨t236, A50, H⟩ := H
  replace H : (if 0 ≤ t236 then (if (t236 : Int).toNat ≤ 35184372088832 then (packed_Pack.l0 k (List.replicate (t236 : Int).toNat 0) l0 (l0.length : Int) 0) else (none)) else (none)) = some (r1, r2) := H
  have A5 := Aside0.mk A50
  clear A50
  by_cases c6 : 0 ≤ t236
  ·rw [if_pos c6] at H
   have c6b0 := eq_true c6
   have c6b1 : decide (0 ≤ t236) = true := decide_eq_true c6
   clear c6
   by_cases c7 : (t236 : Int).toNat ≤ 35184372088832
   ·rw [if_pos c7] at H
    have c7b0 := eq_true c7
    have c7b1 : decide ((t236 : Int).toNat ≤ 35184372088832) = true := decide_eq_true c7
    clear c7
    obtain ⟨y237, hy237⟩ : ∃ y_ : List Int, y_ = (List.replicate (t236 : Int).toNat 0) := ⟨_, rfl⟩
    replace H : (packed_Pack.l0 k y237 l0 (l0.length : Int) 0) = some (r1, r2) := by first | (rw [hy237]; with_reducible exact H) | (have H2_ := (Option.bind_some _ _).symm.trans H; rw [hy237]; with_reducible exact H2_) | (have H2_ := (Option.bind_some _ _).symm.trans H; with_reducible exact H2_) | with_reducible exact H | (rw [hy237]; exact H) | exact H
    have Ny237 := Aside0.mk hy237
    clear hy237
    have H' := Aside0.mk H
    clear H
    go_enter Tryd.func35, Tryd.ntmps35
    go_wp2_with (first | ((with_reducible refine gate_callee (f := 53) rfl ?_); refine goesL_ (some 12) rfl rfl Tryd.func53 (by kernel_rfl) rfl #[.slice A0 l0.length c0, .int .i64 a1] rfl (by (try simp only [List.map_toArray, List.map_cons, List.map_nil]); first | done | rfl | (simp only [List.length_drop, List.length_take]; rfl)) ?_; (with_reducible refine (packed_check.calls k _ _ l0 a1 t232 _ ?side1 ?side2 A3.out).mono ?_); (case side1 => repeat (first | exact HR0.out | (with_reducible refine Kd.C_alloc ?_ _) | (with_reducible refine Kd.C_drewN ?_ _) | (with_reducible refine Kd.C_drew ?_))); (case side2 => exact HC0.out); rintro e w' ⟨rfl, ⟨nd, rfl⟩⟩; refine ⟨_, rfl, ?_⟩) | ((with_reducible refine gate_callee (f := 46) rfl ?_); refine goesL_ (some 18) rfl rfl Tryd.func46 (by kernel_rfl) rfl #[.int .i64 a1] rfl (by (try simp only [List.map_toArray, List.map_cons, List.map_nil]); first | done | rfl | (simp only [List.length_drop, List.length_take]; rfl)) ?_; (with_reducible refine (packed_Size.calls a1 t236 _ A5.out).mono ?_); rintro e w' ⟨rfl, ⟨nd, rfl⟩⟩; refine ⟨_, rfl, ?_⟩) | ((with_reducible refine gate_dst (N := 19) rfl ?_); refine Kd.R_make (Kd.int .u64) _ 35 rfl (N := 19) rfl 23 _ _ rfl t236 rfl rfl Tryd.underlying23 (.int .u64 0) 8 info35 rfl (by decide) (by omega) 0 (ok := fun _ => True) (okp := fun _ => True) rfl (fun _ hk => hk) trivial (of_decide_eq_true (by first | (with_reducible assumption) | assumption)) (Nat.le_trans (Nat.mul_le_mul_right _ (of_decide_eq_true (by first | (with_reducible assumption) | assumption) : t236.toNat ≤ 35184372088832)) (by omega)) (Below.refl _ _) (Nat.le_refl _) ?_; intro v238 w8 ho9 hb hg_ hnew_; clear hg_ hnew_; (first | rw [← Ny237.out] at ho9 | (simp only [Int.reduceToNat] at ho9; rw [← Ny237.out] at ho9)); have n0_ := Aside0.mk (Kd.R_lower ho9 (below_size (PB HB))); have n1_ := Aside0.mk (below_step (PB HB) hb); clear HB; have HO239 := n0_; have HB := n1_; clear n0_ n1_; clear hb ho9))
    go_loopg [22] k (fun kq v22 w' => ∃ (x7_1 : List Int) (x22_1 : Int), v22 = .int .i64 x22_1 ∧ Aside0 (packed_Pack.l0 kq x7_1 l0 (l0.length : Int) x22_1 = some (r1, r2)) ∧ Aside0 (kq ≤ k) ∧ Aside0 (Kd.R (Kd.int .u64) 35 w' w.heap.size (fun _ => True) v238 x7_1) ∧ Aside0 (Below w.heap.size w w'))
    case atStart => exact ⟨(y237), (0), (by first | rfl | (simp; done) | (simp [*]; done)), H', ⟨Nat.le_refl _⟩, ⟨PR HO239⟩, ⟨PB HB⟩⟩
    case round =>
     clear H'
     try clear p2
     try clear c3
     try clear c4
     try clear c4b0
     try clear c4b1
     try clear c5
     try clear c6
     try clear c6b0
     try clear c6b1
     try clear c7
     try clear c7b0
     try clear c7b1
     obtain ⟨x7_1, x22_1, rfl, HA, HK1, HO_7, HB⟩ := hrel
     cases gk with
     | zero => exact absurd HA.out (by simp [packed_Pack.l0])
     | succ k1 =>
      have H := HA.out
      clear HA
      simp only [packed_Pack.l0] at H
      by_cases c10 : x22_1 < (l0.length : Int)
      ·rw [if_pos c10] at H
       have c10b0 : decide (x22_1 < (l0.length : Int)) = true := decide_eq_true c10
       clear c10
       by_cases c11 : 0 ≤ x22_1
       ·rw [if_pos c11] at H
        have c11b0 : decide (0 ≤ x22_1) = true := decide_eq_true c11
        clear c11
        by_cases c12 : x22_1 < (l0.length : Int)
        ·rw [if_pos c12] at H
         have c12b0 : decide (x22_1 < (l0.length : Int)) = true := decide_eq_true c12
         clear c12
         replace H := Option.bind_eq_some_iff.mp H
         obtain ⟨t241, A130, H⟩ := H
         replace H : (if t241 = true then ((fault_New.f (⟨#[112, 97, 99, 107, 101, 100, 46, 80, 97, 99, 107]⟩ : ByteArray) 2).bind fun t242 => (some (([] : List Int), t242))) else (if 0 ≤ (wrap64 (Int.tdiv (rd l0 x22_1) 64)) then (if (wrap64 (Int.tdiv (rd l0 x22_1) 64)) < (x7_1.length : Int) then (if 0 ≤ (Int.tmod (rd l0 x22_1) 64) then (packed_Pack.l0 k1 (x7_1.set ((wrap64 (Int.tdiv (rd l0 x22_1) 64)) : Int).toNat (Go.bits .or .u64 (rd x7_1 (wrap64 (Int.tdiv (rd l0 x22_1) 64))) (shl .u64 1 (Int.tmod (rd l0 x22_1) 64)))) l0 (l0.length : Int) (wrap64 (x22_1 + 1))) else (none)) else (none)) else (none))) = some (r1, r2) := H
         have A13 := Aside0.mk A130
         clear A130
         by_cases c14 : t241 = true
         ·subst c14
          have H1 : ((fault_New.f (⟨#[112, 97, 99, 107, 101, 100, 46, 80, 97, 99, 107]⟩ : ByteArray) 2).bind fun t242 => (some (([] : List Int), t242))) = some (r1, r2) := by rw [if_pos rfl] at H; exact H
          clear H
          have H := H1
          clear H1
          replace H := Option.bind_eq_some_iff.mp H
          obtain ⟨t242, A150, H⟩ := H
          replace H : (some (([] : List Int), t242)) = some (r1, r2) := H
          have A15 := Aside0.mk A150
          clear A150
          simp only [Option.some.injEq, Prod.mk.injEq] at H
          obtain ⟨rfl, rfl⟩ := H
          have p240 : 0 ≤ (x22_1 : Int) := of_decide_eq_true (by first | (with_reducible assumption) | assumption)
          have q240 : x22_1 < (l0.length : Int) := of_decide_eq_true (by first | (with_reducible assumption) | assumption)
          obtain ⟨ad240, e240, hx240_0⟩ := Kd.at_int HR0.out x22_1 p240 q240
          cases e240
          (first | replace hx240_0 := (HB.out.cell (World.block_lt_of_cell? w _ hx240_0)).trans hx240_0 | skip)
          replace p240 := eq_true p240
          replace q240 := eq_true q240
          obtain ⟨Ao16, co16, eo16⟩ := Kd.R_slice HO_7.out
          subst eo16
          go_wp2_with (first | ((with_reducible refine gate_callee (f := 48) rfl ?_); refine goesL_ (some 28) rfl rfl Tryd.func48 (by kernel_rfl) rfl #[.slice Ao16 x7_1.length co16, .int .i64 (rd l0 x22_1)] rfl (by (try simp only [List.map_toArray, List.map_cons, List.map_nil]); first | done | rfl | (simp only [List.length_drop, List.length_take]; rfl)) ?_; (with_reducible refine (packed_Has.calls _ _ x7_1 (rd l0 x22_1) true _ ?side1 ?side2 A13.out).mono ?_); (case side1 => repeat (first | exact (Kd.R_reads' HO_7.out).2.2 | (with_reducible refine Kd.C_alloc ?_ _) | (with_reducible refine Kd.C_drewN ?_ _) | (with_reducible refine Kd.C_drew ?_))); (case side2 => exact (Kd.R_reads' HO_7.out).2.1); rintro e w' ⟨rfl, ⟨nd, rfl⟩⟩; refine ⟨_, rfl, ?_⟩) | ((with_reducible refine gate_callee (f := 28) rfl ?_); refine goesL_ (some 29) rfl rfl Tryd.func28 (by kernel_rfl) rfl #[.string (⟨#[112, 97, 99, 107, 101, 100, 46, 80, 97, 99, 107]⟩ : ByteArray), .int .i64 2] rfl (by (try simp only [List.map_toArray, List.map_cons, List.map_nil]); first | done | rfl | (simp only [List.length_drop, List.length_take]; rfl)) ?_; (with_reducible refine (fault_New.calls (⟨#[112, 97, 99, 107, 101, 100, 46, 80, 97, 99, 107]⟩ : ByteArray) 2 t242 _ A15.out).mono ?_); rintro e w17 ⟨v243, rfl, ho0, hb⟩; refine ⟨_, rfl, ?_⟩; have n0_ := Aside0.mk (Kd.R_below (PR HO_7) hb); have n1_ := Aside0.mk (Kd.R_lower ho0 (below_size (PB HB))); have n2_ := Aside0.mk (below_step (PB HB) hb); clear HO_7; clear HB; have HO_7 := n0_; have HO244 := n1_; have HB := n2_; clear n0_ n1_ n2_; (try clear hb); (try clear hb2); (try clear hk); (try clear hi); (try clear ho0)))
          go_ret2
          exact ⟨_, _, by first | rfl | (simp [errW_none, errW_some] <;> rfl) | (simp [*, errW_none, errW_some] <;> rfl), by first | exact Kd.R_nil _ _ _ _ _ | exact Kd.N_nil _ _ _ _ _ | exact Kd.V_nil _ _ _ _ _ | exact Kd.Q_nil _ _ _ _ _ | exact Kd.S_nil _ _ _ _ _, PR HO244, PB HB⟩
         ·replace c14 := Bool.eq_false_iff.mpr c14
          subst c14
          have H1 : (if 0 ≤ (wrap64 (Int.tdiv (rd l0 x22_1) 64)) then (if (wrap64 (Int.tdiv (rd l0 x22_1) 64)) < (x7_1.length : Int) then (if 0 ≤ (Int.tmod (rd l0 x22_1) 64) then (packed_Pack.l0 k1 (x7_1.set ((wrap64 (Int.tdiv (rd l0 x22_1) 64)) : Int).toNat (Go.bits .or .u64 (rd x7_1 (wrap64 (Int.tdiv (rd l0 x22_1) 64))) (shl .u64 1 (Int.tmod (rd l0 x22_1) 64)))) l0 (l0.length : Int) (wrap64 (x22_1 + 1))) else (none)) else (none)) else (none)) = some (r1, r2) := by rw [if_neg (show ¬ (false = true) by decide)] at H; exact H
          clear H
          have H := H1
          clear H1
          obtain ⟨ji18, hji18⟩ : ∃ j_ : Int, (wrap64 (Int.tdiv (rd l0 x22_1) 64)) = j_ := ⟨_, rfl⟩
          replace H : (if 0 ≤ (ji18) then (if (ji18) < (x7_1.length : Int) then (if 0 ≤ (Int.tmod (rd l0 x22_1) 64) then (packed_Pack.l0 k1 (x7_1.set ((ji18) : Int).toNat (Go.bits .or .u64 (rd x7_1 (ji18)) (shl .u64 1 (Int.tmod (rd l0 x22_1) 64)))) l0 (l0.length : Int) (wrap64 (x22_1 + 1))) else (none)) else (none)) else (none)) = some (r1, r2) := by first | (rw [hji18] at H; exact H) | (simp only [hji18] at H ⊢; exact H)
          (try rw [hji18] at A13)
          have hji18w : (IntKind.i64.wrap (Int.tdiv (rd l0 x22_1) 64)) = ji18 := (i64_w _).trans hji18
          by_cases c19 : 0 ≤ (ji18)
          ·rw [if_pos c19] at H
           have c19b0 : decide (0 ≤ (ji18)) = true := decide_eq_true c19
           clear c19
           by_cases c20 : (ji18) < (x7_1.length : Int)
           ·rw [if_pos c20] at H
            have c20b0 : decide ((ji18) < (x7_1.length : Int)) = true := decide_eq_true c20
            clear c20
            obtain ⟨ji21, hji21⟩ : ∃ j_ : Int, (Int.tmod (rd l0 x22_1) 64) = j_ := ⟨_, rfl⟩
            replace H : (if 0 ≤ (ji21) then (packed_Pack.l0 k1 (x7_1.set ((ji18) : Int).toNat (Go.bits .or .u64 (rd x7_1 (ji18)) (shl .u64 1 (ji21)))) l0 (l0.length : Int) (wrap64 (x22_1 + 1))) else (none)) = some (r1, r2) := by first | (rw [hji21] at H; exact H) | (simp only [hji21] at H ⊢; exact H)
            (try rw [hji21] at A13)
            by_cases c22 : 0 ≤ (ji21)
            ·rw [if_pos c22] at H
             have c22b0 := eq_true c22
             have c22b1 : decide (0 ≤ (ji21)) = true := decide_eq_true c22
             clear c22
             obtain ⟨ji23, hji23⟩ : ∃ j_ : Int, (shl .u64 1 (ji21)) = j_ := ⟨_, rfl⟩
             replace H : (packed_Pack.l0 k1 (x7_1.set ((ji18) : Int).toNat (Go.bits .or .u64 (rd x7_1 (ji18)) (ji23))) l0 (l0.length : Int) (wrap64 (x22_1 + 1))) = some (r1, r2) := by first | (rw [hji23] at H; exact H) | (simp only [hji23] at H ⊢; exact H)
             (try rw [hji23] at A13)
             have hji23_ : (IntKind.u64.wrap (1 * 2 ^ min (ji21).toNat 64)) = ji23 := hji23
             have hji23z : (ji21) ≤ 64 → (IntKind.u64.wrap (1 * 2 ^ (ji21).toNat)) = ji23 := shl_small hji23
             have hji23u : (IntKind.u64.wrap (2 ^ min (ji21).toNat 64)) = ji23 := by have h_ := hji23_; rw [Int.one_mul] at h_; exact h_
             have hji23v : (ji21) ≤ 64 → (IntKind.u64.wrap (2 ^ (ji21).toNat)) = ji23 := fun hle_ => by have h_ := hji23z hle_; rw [Int.one_mul] at h_; exact h_
             obtain ⟨y246, hy246⟩ : ∃ y_ : List Int, y_ = (x7_1.set ((ji18) : Int).toNat (Go.bits .or .u64 (rd x7_1 (ji18)) (ji23))) := ⟨_, rfl⟩
             replace H : (packed_Pack.l0 k1 y246 l0 (l0.length : Int) (wrap64 (x22_1 + 1))) = some (r1, r2) := by first | (rw [hy246]; with_reducible exact H) | (have H2_ := (Option.bind_some _ _).symm.trans H; rw [hy246]; with_reducible exact H2_) | (have H2_ := (Option.bind_some _ _).symm.trans H; with_reducible exact H2_) | with_reducible exact H | (rw [hy246]; exact H) | exact H
             have Ny246 := Aside0.mk hy246
             clear hy246
             have H' := Aside0.mk H
             clear H
             have p240 : 0 ≤ (x22_1 : Int) := of_decide_eq_true (by first | (with_reducible assumption) | assumption)
             have q240 : x22_1 < (l0.length : Int) := of_decide_eq_true (by first | (with_reducible assumption) | assumption)
             obtain ⟨ad240, e240, hx240_0⟩ := Kd.at_int HR0.out x22_1 p240 q240
             cases e240
             (first | replace hx240_0 := (HB.out.cell (World.block_lt_of_cell? w _ hx240_0)).trans hx240_0 | skip)
             replace p240 := eq_true p240
             replace q240 := eq_true q240
             obtain ⟨Ao25, co25, eo25⟩ := Kd.R_slice HO_7.out
             subst eo25
             try go_wp2_with (first | ((with_reducible refine gate_callee (f := 48) rfl ?_); refine goesL_ (some 28) rfl rfl Tryd.func48 (by kernel_rfl) rfl #[.slice Ao25 x7_1.length co25, .int .i64 (rd l0 x22_1)] rfl (by (try simp only [List.map_toArray, List.map_cons, List.map_nil]); first | done | rfl | (simp only [List.length_drop, List.length_take]; rfl)) ?_; (with_reducible refine (packed_Has.calls _ _ x7_1 (rd l0 x22_1) false _ ?side1 ?side2 A13.out).mono ?_); (case side1 => repeat (first | exact (Kd.R_reads' HO_7.out).2.2 | (with_reducible refine Kd.C_alloc ?_ _) | (with_reducible refine Kd.C_drewN ?_ _) | (with_reducible refine Kd.C_drew ?_))); (case side2 => exact (Kd.R_reads' HO_7.out).2.1); rintro e w' ⟨rfl, ⟨nd, rfl⟩⟩; refine ⟨_, rfl, ?_⟩; (try (rw [drewN_self wr]; generalize hq_ : World.drewN wr _ = wr; have n0_ : Aside0 (Kd.R (Kd.int .u64) 35 wr w.heap.size (fun _ => True) (.slice Ao25 x7_1.length co25) x7_1) := ⟨by rw [← hq_]; exact (PR HO_7)⟩; have n1_ : Aside0 (Below w.heap.size w wr) := ⟨by rw [← hq_]; exact (PB HB)⟩; clear HO_7 HB hq_; have HO_7 := n0_; have HB := n1_; clear n0_ n1_))))
             have n0_ := Aside0.mk (Kd.R_drew HO_7.out)
             have n1_ := Aside0.mk (below_drew1 HB.out)
             clear HO_7
             clear HB
             have HO_7 := n0_
             have HB := n1_
             clear n0_ n1_
             have p245 : 0 ≤ ((ji18) : Int) := of_decide_eq_true (by first | (with_reducible assumption) | assumption)
             have q245 : (ji18) < (x7_1.length : Int) := of_decide_eq_true (by first | (with_reducible assumption) | assumption)
             obtain ⟨ad245, e245, hx245_0⟩ := Kd.at_int (Kd.R_reads' HO_7.out).2.2 (ji18) p245 q245
             cases e245
             replace p245 := eq_true p245
             replace q245 := eq_true q245
             have p24 : 0 ≤ ((ji18) : Int) := of_decide_eq_true (by first | (with_reducible assumption) | assumption)
             have q24 : ((ji18) : Int) < ((x7_1.length : Int) : Int) := of_decide_eq_true (by first | (with_reducible assumption) | assumption)
             obtain ⟨go24, co24, eo24, gb24, gl24, cl24, HG24⟩ := Kd.R_form HO_7.out (by omega)
             (first | cases eo24 | (injection eo24 with ea_ en_ ec_; (first | subst ea_ | (injection ea_ with ea_; subst ea_)); subst ec_; clear en_))
             have GB24 := Aside0.mk gb24
             have GG24 := Aside0.mk HG24
             clear gb24 gl24 HG24
             (first | simp only [add_plain] at hx245_0 | skip)
             obtain ⟨hx24_0, hf24_0⟩ := Kd.R_celln 0 HO_7.out ((ji18) : Int) p24 q24
             replace p24 := eq_true p24
             replace q24 := eq_true q24
             have HP27 := Kd.R_putn HO_7.out ((ji18) : Int) (Go.bits .or .u64 (rd x7_1 (ji18)) (ji23))
             rw [← Ny246.out] at HP27
             have HQ27 := Aside0.mk HP27
             clear HP27
             refine start_ (n := 11) (S := fun w' => w'.cell? ⟨go24, ((ji18)).toNat, none⟩ = some (.int .u64 (rd x7_1 (ji18)))) (ds := [10]) #[false, false, false, false, false, false, false, false, false, false, false] (by kernel_rfl) rfl rfl (hx245_0) (fun hHeld => ?_); refine with_tabW packed_Pack.tab10 packed_Pack.bits10 (fun HT_ HW_ => ?_)
             generalize wr.drew = w26 at HO_7 HB GG24 HQ27 hf24_0 hx245_0 hx24_0 hHeld ⊢
             refine pure_ (i := 0) (N := some 30) (v := ?_) (a' := ?_) #[true, false, false, false, false, false, false, false, false, false, false] rfl rfl (any_of HT_.out (by kernel_rfl)) (fun _ _ _ h => h) (Or.inl ⟨by rfl, ?_⟩) ?_ ?_
             rotate_left
             ·intro w'
              go_simp
              with_reducible rfl
             rotate_left
             ·simp only [Act.put, List.setIfInBounds_toArray, List.set_cons_zero, List.set_cons_succ, i64_w, i32_w]
              rfl
             refine pure_ (i := 1) (N := some 31) (v := ?_) (a' := ?_) #[true, true, false, false, false, false, false, false, false, false, false] rfl rfl (any_of HT_.out (by kernel_rfl)) (fun _ _ _ h => h) (Or.inl ⟨by rfl, ?_⟩) ?_ ?_
             rotate_left
             ·intro w'
              go_simp
              with_reducible rfl
             rotate_left
             ·simp only [Act.put, List.setIfInBounds_toArray, List.set_cons_zero, List.set_cons_succ, i64_w, i32_w]
              rfl
             refine pure_ (i := 2) (N := some 32) (v := ?_) (a' := ?_) #[true, true, true, false, false, false, false, false, false, false, false] rfl rfl (any_of HT_.out (by kernel_rfl)) (fun _ _ _ h => h) (Or.inl ⟨by rfl, ?_⟩) ?_ ?_
             rotate_left
             ·intro w'
              go_simp
              with_reducible rfl
             rotate_left
             ·simp only [Act.put, List.setIfInBounds_toArray, List.set_cons_zero, List.set_cons_succ, i64_w, i32_w]
              rfl
             refine pure_ (i := 3) (N := some 33) (v := ?_) (a' := ?_) #[true, true, true, true, false, false, false, false, false, false, false] rfl rfl (any_of HT_.out (by kernel_rfl)) (fun _ _ _ h => h) (Or.inl ⟨by rfl, ?_⟩) ?_ ?_
             rotate_left
             ·intro w'
              go_simp
              with_reducible rfl
             rotate_left
             ·simp only [Act.put, List.setIfInBounds_toArray, List.set_cons_zero, List.set_cons_succ, i64_w, i32_w]
              rfl
             refine pure_ (i := 5) (N := some 35) (v := ?_) (a' := ?_) #[true, true, true, true, false, true, false, false, false, false, false] rfl rfl (any_of HT_.out (by kernel_rfl)) (fun _ _ _ h => h) (Or.inl ⟨by rfl, ?_⟩) ?_ ?_
             rotate_left
             ·intro w'
              go_simp
              with_reducible rfl
             rotate_left
             ·simp only [Act.put, List.setIfInBounds_toArray, List.set_cons_zero, List.set_cons_succ, i64_w, i32_w]
              rfl
             refine pure_ (i := 6) (N := some 36) (v := ?_) (a' := ?_) #[true, true, true, true, false, true, true, false, false, false, false] rfl rfl (any_of HT_.out (by kernel_rfl)) (fun _ _ _ h => h) (Or.inl ⟨by rfl, ?_⟩) ?_ ?_
             rotate_left
             ·intro w'
              go_simp
              with_reducible rfl
             rotate_left
             ·simp only [Act.put, List.setIfInBounds_toArray, List.set_cons_zero, List.set_cons_succ, i64_w, i32_w]
              rfl
             refine pure_ (i := 7) (N := some 37) (v := ?_) (a' := ?_) #[true, true, true, true, false, true, true, true, false, false, false] rfl rfl (any_of HT_.out (by kernel_rfl)) (fun _ _ _ h => h) (Or.inl ⟨by rfl, ?_⟩) ?_ ?_
             rotate_left
             ·intro w'
              go_simp
              with_reducible rfl
             rotate_left
             ·simp only [Act.put, List.setIfInBounds_toArray, List.set_cons_zero, List.set_cons_succ, i64_w, i32_w]
              rfl
             refine take_ (i := 4) (N := some 34) (v := ?_) (a' := ?_) #[true, true, true, true, true, true, true, true, false, false, false] rfl rfl (take_ofW HT_.out HW_.out (by kernel_rfl)) (fun _ _ _ h => h) (Or.inl ⟨by rfl, ?_⟩) hHeld ?_ ?_
             rotate_left
             ·intro w' s0
              go_simp
              with_reducible rfl
             rotate_left
             ·simp only [Act.put, List.setIfInBounds_toArray, List.set_cons_zero, List.set_cons_succ, i64_w, i32_w]
              rfl
             refine pure_ (i := 8) (N := some 38) (v := ?_) (a' := ?_) #[true, true, true, true, true, true, true, true, true, false, false] rfl rfl (any_of HT_.out (by kernel_rfl)) (fun _ _ _ h => h) (Or.inl ⟨by rfl, ?_⟩) ?_ ?_
             rotate_left
             ·intro w'
              go_simp
              with_reducible rfl
             rotate_left
             ·simp only [Act.put, List.setIfInBounds_toArray, List.set_cons_zero, List.set_cons_succ, i64_w, i32_w]
              rfl
             refine pure_ (i := 9) (N := some 39) (v := ?_) (a' := ?_) #[true, true, true, true, true, true, true, true, true, true, false] rfl rfl (any_of HT_.out (by kernel_rfl)) (fun _ _ _ h => h) (Or.inl ⟨by rfl, ?_⟩) ?_ ?_
             rotate_left
             ·intro w'
              go_simp
              with_reducible rfl
             rotate_left
             ·simp only [Act.put, List.setIfInBounds_toArray, List.set_cons_zero, List.set_cons_succ, i64_w, i32_w]
              rfl
             refine last_ (i := 10) (N := none) #[true, true, true, true, true, true, true, true, true, true, true] rfl rfl (one_of HT_.out (by kernel_rfl)) (by decide) (fun K hK => ?_)
             refine skip_ (w1 := ?_) (by rfl) rfl ?_ ?_
             rotate_left
             ·go_simp
              rfl
             refine hK.out _ _ ?_
             clear hK K
             refine done_ (done_of HT_.out (by kernel_rfl)) ?_
             try go_wp2
             go_roundg k1
             case measure => have := HK1.out; omega
             case rel => exact ⟨(y246), (wrap64 (x22_1 + 1)), (by first | rfl | (simp; done) | (simp [*]; done)), H', ⟨by have := HK1.out; omega⟩, ⟨PR HQ27⟩, ⟨by repeat (first | (with_reducible first | exact HB.out | apply below_alloc | apply pw_below_drewN | apply below_drew1 | refine below_set ?_ GB24.out) | exact HB.out)⟩⟩
            ·rw [if_neg c22] at H
             exact absurd H (by simp)
           ·rw [if_neg c20] at H
            exact absurd H (by simp)
          ·rw [if_neg c19] at H
           exact absurd H (by simp)
        ·rw [if_neg c12] at H
         exact absurd H (by simp)
       ·rw [if_neg c11] at H
        exact absurd H (by simp)
      ·rw [if_neg c10] at H
       have c10b0 : decide (x22_1 < (l0.length : Int)) = false := decide_eq_false c10
       clear c10
       simp only [Option.some.injEq, Prod.mk.injEq] at H
       obtain ⟨rfl, rfl⟩ := H
       go_wp2
       go_ret2
       exact ⟨_, (.slice none 0 0), by first | rfl | (simp [errW_none, errW_some] <;> rfl) | (simp [*, errW_none, errW_some] <;> rfl), PR HO_7, by first | exact Kd.R_nil _ _ _ _ _ | exact Kd.N_nil _ _ _ _ _ | exact Kd.V_nil _ _ _ _ _ | exact Kd.Q_nil _ _ _ _ _ | exact Kd.S_nil _ _ _ _ _, PB HB⟩
   ·rw [if_neg c7] at H
    exact absurd H (by simp)
  ·rw [if_neg c6] at H
   exact absurd H (by simp)
 ·rw [if_neg c4] at H
  have c4b0 : (t232 == 0) = false := beq_eq_false_iff_ne.mpr c4
  have c4b1 : (t232 != 0) = true := bne_iff_ne.mpr c4
  replace H := Option.bind_eq_some_iff.mp H
  obtain ⟨t233, A280, H⟩ := H
  replace H : (some (([] : List Int), t233)) = some (r1, r2) := H
  have A28 := Aside0.mk A280
  clear A280
  simp only [Option.some.injEq, Prod.mk.injEq] at H
  obtain ⟨rfl, rfl⟩ := H
  go_enter Tryd.func35, Tryd.ntmps35
  go_wp2_with (first | ((with_reducible refine gate_callee (f := 53) rfl ?_); refine goesL_ (some 12) rfl rfl Tryd.func53 (by kernel_rfl) rfl #[.slice A0 l0.length c0, .int .i64 a1] rfl (by (try simp only [List.map_toArray, List.map_cons, List.map_nil]); first | done | rfl | (simp only [List.length_drop, List.length_take]; rfl)) ?_; (with_reducible refine (packed_check.calls k _ _ l0 a1 t232 _ ?side1 ?side2 A3.out).mono ?_); (case side1 => repeat (first | exact HR0.out | (with_reducible refine Kd.C_alloc ?_ _) | (with_reducible refine Kd.C_drewN ?_ _) | (with_reducible refine Kd.C_drew ?_))); (case side2 => exact HC0.out); rintro e w' ⟨rfl, ⟨nd, rfl⟩⟩; refine ⟨_, rfl, ?_⟩) | ((with_reducible refine gate_callee (f := 28) rfl ?_); refine goesL_ (some 16) rfl rfl Tryd.func28 (by kernel_rfl) rfl #[.string (⟨#[112, 97, 99, 107, 101, 100, 46, 80, 97, 99, 107]⟩ : ByteArray), .int .i64 t232] rfl (by (try simp only [List.map_toArray, List.map_cons, List.map_nil]); first | done | rfl | (simp only [List.length_drop, List.length_take]; rfl)) ?_; (with_reducible refine (fault_New.calls (⟨#[112, 97, 99, 107, 101, 100, 46, 80, 97, 99, 107]⟩ : ByteArray) t232 t233 _ A28.out).mono ?_); rintro e w29 ⟨v234, rfl, ho0, hb⟩; refine ⟨_, rfl, ?_⟩; have n0_ := Aside0.mk (Kd.R_lower ho0 (below_size (PB HB))); have n1_ := Aside0.mk (below_step (PB HB) hb); clear HB; have HO235 := n0_; have HB := n1_; clear n0_ n1_; (try clear hb); (try clear hb2); (try clear hk); (try clear hi); (try clear ho0)))
  go_ret2
  exact ⟨_, _, by first | rfl | (simp [errW_none, errW_some] <;> rfl) | (simp [*, errW_none, errW_some] <;> rfl), by first | exact Kd.R_nil _ _ _ _ _ | exact Kd.N_nil _ _ _ _ _ | exact Kd.V_nil _ _ _ _ _ | exact Kd.Q_nil _ _ _ _ _ | exact Kd.S_nil _ _ _ _ _, PR HO235, PB HB⟩
end Go.Proofs.YtjmgkknbgffbjaaDoor.P
namespace Go.Proofs.YtjmgkknbgffbjaaDoor.P
open Go.RowKit Go.Proofs.YtjmgkknbgffbjaaDoorW.PrintWords Go.Proofs.YtjmgkknbgffbjaaDoorW.PrintLast Go.Proofs.YtjmgkknbgffbjaaDoorW.PrintErr Go.Proofs.YtjmgkknbgffbjaaDoorW.PrintMore
attribute [local go_sem] max2_int min2_int max_two min_two max_three min_three max_four min_four run_eql_errOf run_neq_errOf eqGuard_errOf   -- for this text's walks alone
set_option linter.unusedVariables false
set_option linter.unusedSimpArgs false
def elimM_Value.j0 : Nat → List (S74) → Int → Bool → Option (List Int × List FE)
 | 0, _, _, _ => none
 | k + 1, x0, x1, x29 => if x29 = true then ((fault_New.f (⟨#[101, 108, 105, 109, 46, 86, 97, 108, 117, 101]⟩ : ByteArray) 1).bind fun t279 => (some (([] : List Int), t279))) else (if 0 < (x0.length : Int) then ((packed_Pack.f k (([x1] : List Int)) ((rd_T74 x0 0).f0)).bind fun bt286 => (if 0 ≤ ((rd_T74 x0 0).f1) then (if ((rd_T74 x0 0).f1 : Int).toNat ≤ 281474976710656 then ((elimM_down.f k x0 bt286.1 (List.replicate ((rd_T74 x0 0).f1 : Int).toNat 0)).bind fun bt296 => (if bt296.2.2 ≥ 0 then ((fault_New.f (⟨#[101, 108, 105, 109, 46, 86, 97, 108, 117, 101]⟩ : ByteArray) 4).bind fun t304 => (some (([] : List Int), t304))) else (some ((copyL (List.replicate ((rd_T74 x0 0).f1 : Int).toNat 0) bt296.2.1), ([] : List FE))))) else (none)) else (none))) else (none))
def elimM_Value.f (k : Nat) (l0 : List (S74)) (a1 : Int) : Option (List Int × List FE) := if 0 < (l0.length : Int) then (if (rd_T74 l0 0).f4 = true then ((fault_New.f (⟨#[101, 108, 105, 109, 46, 86, 97, 108, 117, 101]⟩ : ByteArray) 7).bind fun t275 => (some (([] : List Int), t275))) else (if a1 < 0 then (elimM_Value.j0 k l0 a1 true) else (elimM_Value.j0 k l0 a1 (decide (a1 ≥ ((rd_T74 l0 0).f0)))))) else (none)
theorem elimM_Value.mono_l : ∀ k, (∀ y0 y1 y2, LeO (elimM_Value.j0 k y0 y1 y2) (elimM_Value.j0 (k + 1) y0 y1 y2))
 | 0 => fun _ _ _ r h => by simp [elimM_Value.j0] at h
 | k + 1 => by
  have ih0 := elimM_Value.mono_l k
  ·intro y0 y1 y2
   unfold elimM_Value.j0
   repeat' first
   | (with_reducible exact ih0 _ _ _)
   | (with_reducible exact elimM_down.mono _ _ _ _)
   | (with_reducible exact packed_Pack.mono _ _ _)
   | (with_reducible exact LeO.refl _)
   | (with_reducible exact LeO.none _)
   | (with_reducible refine LeO.ite ?_ ?_)
   | (with_reducible refine LeO.bind ?_ (fun _ => ?_))
   | exact ih0 _ _ _
   | exact elimM_down.mono _ _ _ _
   | exact packed_Pack.mono _ _ _
   | exact LeO.none _
   | refine LeO.ite ?_ ?_
   | refine LeO.bind ?_ (fun _ => ?_)
theorem elimM_Value.mono : ∀ a0 a1 k, LeO (elimM_Value.f k a0 a1) (elimM_Value.f (k + 1) a0 a1) := by
 intro a0 a1 k
 have ih0 := elimM_Value.mono_l k
 unfold elimM_Value.f
 repeat' first
   | (with_reducible exact ih0 _ _ _)
   | (with_reducible exact elimM_down.mono _ _ _ _)
   | (with_reducible exact packed_Pack.mono _ _ _)
   | (with_reducible exact LeO.refl _)
   | (with_reducible exact LeO.none _)
   | (with_reducible refine LeO.ite ?_ ?_)
   | (with_reducible refine LeO.bind ?_ (fun _ => ?_))
   | exact ih0 _ _ _
   | exact elimM_down.mono _ _ _ _
   | exact packed_Pack.mono _ _ _
   | exact LeO.none _
   | refine LeO.ite ?_ ?_
   | refine LeO.bind ?_ (fun _ => ?_)
set_option maxHeartbeats 8000000 in
set_option maxRecDepth 100000 in
theorem elimM_Value.calls (k : Nat) (ad900 : Addr) (l0 : List (S74)) (a1 : Int) (r1 : List Int) (r2 : List FE) (w : World) (ht : TabIn w) (hr0 : Kd.C k74 w (some ad900) l0.length l0) (h : elimM_Value.f k l0 a1 = some (r1, r2)) :
  Calls Tryd.prog 13 #[.pointer (some ad900), .int .i64 a1] w fun e w' => ∃ v0_ v1_ : Value, e = .returned (.tuple #[v0_, (errOf v1_)]) ∧ Kd.R (Kd.int .u8) 5 w' w.heap.size (fun _ => True) v0_ r1 ∧ Kd.R kF 95 w' w.heap.size (fun _ => True) v1_ r2 ∧ Below w.heap.size w w' := by
 have hu77 := Tryd.underlying77
 have HR0 := Aside0.mk hr0
 clear hr0
 have HB := Aside0.mk (Below.refl w.heap.size w)
 have HT := Aside0.mk ht
 clear ht
 have H : (if 0 < (l0.length : Int) then (if (rd_T74 l0 0).f4 = true then ((fault_New.f (⟨#[101, 108, 105, 109, 46, 86, 97, 108, 117, 101]⟩ : ByteArray) 7).bind fun t275 => (some (([] : List Int), t275))) else (if a1 < 0 then (elimM_Value.j0 k l0 a1 true) else (elimM_Value.j0 k l0 a1 (decide (a1 ≥ ((rd_T74 l0 0).f0)))))) else (none)) = some (r1, r2) := h
 clear h
 by_cases c3 : 0 < (l0.length : Int)
 ·rw [if_pos c3] at H
  have c3b0 : decide (0 < (l0.length : Int)) = true := decide_eq_true c3
  have c3b1 : decide (0 < l0.length) = true := decide_eq_true (by omega)
  clear c3
  obtain ⟨bq4, hbq4⟩ : ∃ b_ : Bool, b_ = ((rd_T74 l0 0).f4) := ⟨_, rfl⟩
  replace H : (if bq4 = true then ((fault_New.f (⟨#[101, 108, 105, 109, 46, 86, 97, 108, 117, 101]⟩ : ByteArray) 7).bind fun t275 => (some (([] : List Int), t275))) else (if a1 < 0 then (elimM_Value.j0 k l0 a1 true) else (elimM_Value.j0 k l0 a1 (decide (a1 ≥ ((rd_T74 l0 0).f0)))))) = some (r1, r2) := by rw [← hbq4] at H; exact H
  have Nbq4 := Aside0.mk hbq4
  clear hbq4
  by_cases c5 : bq4 = true
  ·subst c5
   have H1 : ((fault_New.f (⟨#[101, 108, 105, 109, 46, 86, 97, 108, 117, 101]⟩ : ByteArray) 7).bind fun t275 => (some (([] : List Int), t275))) = some (r1, r2) := by rw [if_pos rfl] at H; exact H
   clear H
   have H := H1
   clear H1
   replace H := Option.bind_eq_some_iff.mp H
   obtain ⟨t275, A60, H⟩ := H
   replace H : (some (([] : List Int), t275)) = some (r1, r2) := H
   have A6 := Aside0.mk A60
   clear A60
   simp only [Option.some.injEq, Prod.mk.injEq] at H
   obtain ⟨rfl, rfl⟩ := H
   have p274 : 0 ≤ (0 : Int) := (by omega)
   have q274 : 0 < (l0.length : Int) := of_decide_eq_true (by first | (with_reducible assumption) | assumption)
   obtain ⟨ad274, A274_2, c274_2, A274_3, c274_3, e274, hx274_0, hx274_1, hx274_2, hx274_3, hx274_4, hl274_2, hi274_2, hl274_3, hi274_3⟩ := at_T74 HR0.out 0 p274 q274
   (try rw [← Nbq4.out] at hx274_4)
   obtain rfl : ad900 = ad274 := (by injection e274)
   have qi274 : (0 < l0.length) = True := eq_true (by omega)
   (try rw [show ((0 : Int)).toNat = 0 from rfl] at hx274_0)
   (try rw [show 0 * 5 = 0 from rfl] at hx274_0)
   (try rw [Addr.add_zero'] at hx274_0)
   (try rw [show ((0 : Int)).toNat = 0 from rfl] at hx274_1)
   (try rw [show 0 * 5 = 0 from rfl] at hx274_1)
   (try rw [Addr.add_zero'] at hx274_1)
   (try rw [show ((0 : Int)).toNat = 0 from rfl] at hx274_2)
   (try rw [show 0 * 5 = 0 from rfl] at hx274_2)
   (try rw [Addr.add_zero'] at hx274_2)
   (try rw [show ((0 : Int)).toNat = 0 from rfl] at hx274_3)
   (try rw [show 0 * 5 = 0 from rfl] at hx274_3)
   (try rw [Addr.add_zero'] at hx274_3)
   (try rw [show ((0 : Int)).toNat = 0 from rfl] at hx274_4)
   (try rw [show 0 * 5 = 0 from rfl] at hx274_4)
   (try rw [Addr.add_zero'] at hx274_4)
   have HR274_2 := Aside0.mk hi274_2
   have HC274_2 := Aside0.mk hl274_2
   clear hi274_2 hl274_2
   have HR274_3 := Aside0.mk hi274_3
   have HC274_3 := Aside0.mk hl274_3
   clear hi274_3 hl274_3
   replace p274 := eq_true p274
   replace q274 := eq_true q274
   go_enter Tryd.func13, Tryd.ntmps13
   go_wp2_with (first | ((with_reducible refine gate_callee (f := 28) rfl ?_); refine goesL_ (some 19) rfl rfl Tryd.func28 (by kernel_rfl) rfl #[.string (⟨#[101, 108, 105, 109, 46, 86, 97, 108, 117, 101]⟩ : ByteArray), .int .i64 7] rfl (by (try simp only [List.map_toArray, List.map_cons, List.map_nil]); first | done | rfl | (simp only [List.length_drop, List.length_take]; rfl)) ?_; (with_reducible refine (fault_New.calls (⟨#[101, 108, 105, 109, 46, 86, 97, 108, 117, 101]⟩ : ByteArray) 7 t275 _ A6.out).mono ?_); rintro e w7 ⟨v276, rfl, ho0, hb⟩; refine ⟨_, rfl, ?_⟩; have n0_ := Aside0.mk (Kd.R_lower ho0 (below_size (PB HB))); have n1_ := Aside0.mk (below_step (PB HB) hb); clear HB; have HO277 := n0_; have HB := n1_; clear n0_ n1_; (try clear hb); (try clear hb2); (try clear hk); (try clear hi); (try clear ho0)))
   go_ret2
   exact ⟨_, _, by first | rfl | (simp [errW_none, errW_some] <;> rfl) | (simp [*, errW_none, errW_some] <;> rfl), by first | exact Kd.R_nil _ _ _ _ _ | exact Kd.N_nil _ _ _ _ _ | exact Kd.V_nil _ _ _ _ _ | exact Kd.Q_nil _ _ _ _ _ | exact Kd.S_nil _ _ _ _ _, PR HO277, PB HB⟩
  ·replace c5 := Bool.eq_false_iff.mpr c5
   subst c5
   have H1 : (if a1 < 0 then (elimM_Value.j0 k l0 a1 true) else (elimM_Value.j0 k l0 a1 (decide (a1 ≥ ((rd_T74 l0 0).f0))))) = some (r1, r2) := by rw [if_neg (show ¬ (false = true) by decide)] at H; exact H
   clear H
   have H := H1
   clear H1
   have HC8 := Aside0.mk H
   clear H
   have p274 : 0 ≤ (0 : Int) := (by omega)
   have q274 : 0 < (l0.length : Int) := of_decide_eq_true (by first | (with_reducible assumption) | assumption)
   obtain ⟨ad274, A274_2, c274_2, A274_3, c274_3, e274, hx274_0, hx274_1, hx274_2, hx274_3, hx274_4, hl274_2, hi274_2, hl274_3, hi274_3⟩ := at_T74 HR0.out 0 p274 q274
   (try rw [← Nbq4.out] at hx274_4)
   obtain rfl : ad900 = ad274 := (by injection e274)
   have qi274 : (0 < l0.length) = True := eq_true (by omega)
   (try rw [show ((0 : Int)).toNat = 0 from rfl] at hx274_0)
   (try rw [show 0 * 5 = 0 from rfl] at hx274_0)
   (try rw [Addr.add_zero'] at hx274_0)
   (try rw [show ((0 : Int)).toNat = 0 from rfl] at hx274_1)
   (try rw [show 0 * 5 = 0 from rfl] at hx274_1)
   (try rw [Addr.add_zero'] at hx274_1)
   (try rw [show ((0 : Int)).toNat = 0 from rfl] at hx274_2)
   (try rw [show 0 * 5 = 0 from rfl] at hx274_2)
   (try rw [Addr.add_zero'] at hx274_2)
   (try rw [show ((0 : Int)).toNat = 0 from rfl] at hx274_3)
   (try rw [show 0 * 5 = 0 from rfl] at hx274_3)
   (try rw [Addr.add_zero'] at hx274_3)
   (try rw [show ((0 : Int)).toNat = 0 from rfl] at hx274_4)
   (try rw [show 0 * 5 = 0 from rfl] at hx274_4)
   (try rw [Addr.add_zero'] at hx274_4)
   have HR274_2 := Aside0.mk hi274_2
   have HC274_2 := Aside0.mk hl274_2
   clear hi274_2 hl274_2
   have HR274_3 := Aside0.mk hi274_3
   have HC274_3 := Aside0.mk hl274_3
   clear hi274_3 hl274_3
   replace p274 := eq_true p274
   replace q274 := eq_true q274
   go_enter Tryd.func13, Tryd.ntmps13
   go_upto_region 3 with (fail)
   go_cut [29] (fun v29 wc => ∃ (kq : Nat) (x29_7 : Bool), v29 = .bool x29_7 ∧ Aside0 (elimM_Value.j0 kq l0 a1 x29_7 = some (r1, r2)) ∧ Aside0 (kq ≤ k) ∧ Aside0 (Below w.heap.size w wc))
   case first =>
    have H := HC8.out
    clear HC8
    by_cases c9 : a1 < 0
    ·rw [if_pos c9] at H
     have c9b0 : decide (a1 < 0) = true := decide_eq_true c9
     clear c9
     (first | rw [c9b0] | rw [c9b1] | (simp only [i64_w, i32_w]; rw [c9b0]) | skip)
     have H' := Aside0.mk H
     clear H
     go_wp2
     go_meet
     case rel => exact ⟨_, (true), (by first | rfl | (simp; done) | (simp [*]; done)), H', ⟨by first | omega | exact Nat.le_refl _⟩, ⟨PB HB⟩⟩
    ·rw [if_neg c9] at H
     have c9b0 : decide (a1 < 0) = false := decide_eq_false c9
     clear c9
     (first | rw [c9b0] | rw [c9b1] | (simp only [i64_w, i32_w]; rw [c9b0]) | skip)
     have H' := Aside0.mk H
     clear H
     have p278 : 0 ≤ (0 : Int) := (by omega)
     have q278 : 0 < (l0.length : Int) := of_decide_eq_true (by first | (with_reducible assumption) | assumption)
     obtain ⟨ad278, A278_2, c278_2, A278_3, c278_3, e278, hx278_0, hx278_1, hx278_2, hx278_3, hx278_4, hl278_2, hi278_2, hl278_3, hi278_3⟩ := at_T74 HR0.out 0 p278 q278
     (try rw [← Nbq4.out] at hx278_4)
     obtain rfl : ad900 = ad278 := (by injection e278)
     have qi278 : (0 < l0.length) = True := eq_true (by omega)
     (try rw [show ((0 : Int)).toNat = 0 from rfl] at hx278_0)
     (try rw [show 0 * 5 = 0 from rfl] at hx278_0)
     (try rw [Addr.add_zero'] at hx278_0)
     (try rw [show ((0 : Int)).toNat = 0 from rfl] at hx278_1)
     (try rw [show 0 * 5 = 0 from rfl] at hx278_1)
     (try rw [Addr.add_zero'] at hx278_1)
     (try rw [show ((0 : Int)).toNat = 0 from rfl] at hx278_2)
     (try rw [show 0 * 5 = 0 from rfl] at hx278_2)
     (try rw [Addr.add_zero'] at hx278_2)
     (try rw [show ((0 : Int)).toNat = 0 from rfl] at hx278_3)
     (try rw [show 0 * 5 = 0 from rfl] at hx278_3)
     (try rw [Addr.add_zero'] at hx278_3)
     (try rw [show ((0 : Int)).toNat = 0 from rfl] at hx278_4)
     (try rw [show 0 * 5 = 0 from rfl] at hx278_4)
     (try rw [Addr.add_zero'] at hx278_4)
     (first | replace hx278_0 := (HB.out.cell (World.block_lt_of_cell? w _ hx278_0)).trans hx278_0 | skip)
     (first | replace hx278_1 := (HB.out.cell (World.block_lt_of_cell? w _ hx278_1)).trans hx278_1 | skip)
     (first | replace hx278_2 := (HB.out.cell (World.block_lt_of_cell? w _ hx278_2)).trans hx278_2 | skip)
     (first | replace hx278_3 := (HB.out.cell (World.block_lt_of_cell? w _ hx278_3)).trans hx278_3 | skip)
     (first | replace hx278_4 := (HB.out.cell (World.block_lt_of_cell? w _ hx278_4)).trans hx278_4 | skip)
     have HR278_2 := Aside0.mk hi278_2
     have HC278_2 := Aside0.mk hl278_2
     clear hi278_2 hl278_2
     have HR278_3 := Aside0.mk hi278_3
     have HC278_3 := Aside0.mk hl278_3
     clear hi278_3 hl278_3
     replace p278 := eq_true p278
     replace q278 := eq_true q278
     go_wp2
     go_meet
     case rel => exact ⟨_, (decide (a1 ≥ ((rd_T74 l0 0).f0))), (by first | rfl | (simp; done) | (simp [*]; done)), H', ⟨by first | omega | exact Nat.le_refl _⟩, ⟨PB HB⟩⟩
   case rest =>
    clear HC8
    try clear c1
    try clear c2
    try clear p2
    try clear q2
    try clear hx2
    try clear qi2
    try clear c3
    try clear c3b0
    try clear c3b1
    try clear q4
    try clear c5
    try clear c9
    try clear c9b0
    try clear c9b1
    try clear hx274_0
    try clear hx274_1
    try clear hx274_2
    try clear hx274_3
    try clear hx274_4
    try clear hx278_0
    try clear hx278_1
    try clear hx278_2
    try clear hx278_3
    try clear hx278_4
    try clear p274
    try clear p278
    try clear q274
    try clear q278
    obtain ⟨kq, x29_7, rfl, HA, HJ7, HB⟩ := hcut
    cases kq with
    | zero => exact absurd HA.out (by simp [elimM_Value.j0])
    | succ kj7 =>
     have H := HA.out
     clear HA
     simp only [elimM_Value.j0] at H
     by_cases c10 : x29_7 = true
     ·subst c10
      have H1 : ((fault_New.f (⟨#[101, 108, 105, 109, 46, 86, 97, 108, 117, 101]⟩ : ByteArray) 1).bind fun t279 => (some (([] : List Int), t279))) = some (r1, r2) := by rw [if_pos rfl] at H; exact H
      clear H
      have H := H1
      clear H1
      replace H := Option.bind_eq_some_iff.mp H
      obtain ⟨t279, A110, H⟩ := H
      replace H : (some (([] : List Int), t279)) = some (r1, r2) := H
      have A11 := Aside0.mk A110
      clear A110
      simp only [Option.some.injEq, Prod.mk.injEq] at H
      obtain ⟨rfl, rfl⟩ := H
      go_wp2_with (first | ((with_reducible refine gate_callee (f := 28) rfl ?_); refine goesL_ (some 30) rfl rfl Tryd.func28 (by kernel_rfl) rfl #[.string (⟨#[101, 108, 105, 109, 46, 86, 97, 108, 117, 101]⟩ : ByteArray), .int .i64 1] rfl (by (try simp only [List.map_toArray, List.map_cons, List.map_nil]); first | done | rfl | (simp only [List.length_drop, List.length_take]; rfl)) ?_; (with_reducible refine (fault_New.calls (⟨#[101, 108, 105, 109, 46, 86, 97, 108, 117, 101]⟩ : ByteArray) 1 t279 _ A11.out).mono ?_); rintro e w12 ⟨v280, rfl, ho0, hb⟩; refine ⟨_, rfl, ?_⟩; have n0_ := Aside0.mk (Kd.R_lower ho0 (below_size (PB HB))); have n1_ := Aside0.mk (below_step (PB HB) hb); clear HB; have HO281 := n0_; have HB := n1_; clear n0_ n1_; (try clear hb); (try clear hb2); (try clear hk); (try clear hi); (try clear ho0)))
      go_ret2
      exact ⟨_, _, by first | rfl | (simp [errW_none, errW_some] <;> rfl) | (simp [*, errW_none, errW_some] <;> rfl), by first | exact Kd.R_nil _ _ _ _ _ | exact Kd.N_nil _ _ _ _ _ | exact Kd.V_nil _ _ _ _ _ | exact Kd.Q_nil _ _ _ _ _ | exact Kd.S_nil _ _ _ _ _, PR HO281, PB HB⟩
     ·replace c10 := Bool.eq_false_iff.mpr c10
      subst c10
      have H1 : (if 0 < (l0.length : Int) then ((packed_Pack.f kj7 (([a1] : List Int)) ((rd_T74 l0 0).f0)).bind fun bt286 => (if 0 ≤ ((rd_T74 l0 0).f1) then (if ((rd_T74 l0 0).f1 : Int).toNat ≤ 281474976710656 then ((elimM_down.f kj7 l0 bt286.1 (List.replicate ((rd_T74 l0 0).f1 : Int).toNat 0)).bind fun bt296 => (if bt296.2.2 ≥ 0 then ((fault_New.f (⟨#[101, 108, 105, 109, 46, 86, 97, 108, 117, 101]⟩ : ByteArray) 4).bind fun t304 => (some (([] : List Int), t304))) else (some ((copyL (List.replicate ((rd_T74 l0 0).f1 : Int).toNat 0) bt296.2.1), ([] : List FE))))) else (none)) else (none))) else (none)) = some (r1, r2) := by rw [if_neg (show ¬ (false = true) by decide)] at H; exact H
      clear H
      have H := H1
      clear H1
      obtain ⟨y282, hy282⟩ : ∃ y_ : List Int, y_ = (([a1] : List Int)) := ⟨_, rfl⟩
      replace H : (if 0 < (l0.length : Int) then ((packed_Pack.f kj7 y282 ((rd_T74 l0 0).f0)).bind fun bt286 => (if 0 ≤ ((rd_T74 l0 0).f1) then (if ((rd_T74 l0 0).f1 : Int).toNat ≤ 281474976710656 then ((elimM_down.f kj7 l0 bt286.1 (List.replicate ((rd_T74 l0 0).f1 : Int).toNat 0)).bind fun bt296 => (if bt296.2.2 ≥ 0 then ((fault_New.f (⟨#[101, 108, 105, 109, 46, 86, 97, 108, 117, 101]⟩ : ByteArray) 4).bind fun t304 => (some (([] : List Int), t304))) else (some ((copyL (List.replicate ((rd_T74 l0 0).f1 : Int).toNat 0) bt296.2.1), ([] : List FE))))) else (none)) else (none))) else (none)) = some (r1, r2) := by first | (rw [hy282]; with_reducible exact H) | (have H2_ := (Option.bind_some _ _).symm.trans H; rw [hy282]; with_reducible exact H2_) | (have H2_ := (Option.bind_some _ _).symm.trans H; with_reducible exact H2_) | with_reducible exact H | (rw [hy282]; exact H) | exact H
      have Ny282 := Aside0.mk hy282
      clear hy282
      by_cases c13 : 0 < (l0.length : Int)
      ·rw [if_pos c13] at H
       have c13b0 : decide (0 < (l0.length : Int)) = true := decide_eq_true c13
       have c13b1 : decide (0 < l0.length) = true := decide_eq_true (by omega)
       clear c13
       replace H := Option.bind_eq_some_iff.mp H
       obtain ⟨⟨t286, t287⟩, A140, H⟩ := H
       replace H : (if 0 ≤ ((rd_T74 l0 0).f1) then (if ((rd_T74 l0 0).f1 : Int).toNat ≤ 281474976710656 then ((elimM_down.f kj7 l0 t286 (List.replicate ((rd_T74 l0 0).f1 : Int).toNat 0)).bind fun bt296 => (if bt296.2.2 ≥ 0 then ((fault_New.f (⟨#[101, 108, 105, 109, 46, 86, 97, 108, 117, 101]⟩ : ByteArray) 4).bind fun t304 => (some (([] : List Int), t304))) else (some ((copyL (List.replicate ((rd_T74 l0 0).f1 : Int).toNat 0) bt296.2.1), ([] : List FE))))) else (none)) else (none)) = some (r1, r2) := H
       have A14 := Aside0.mk A140
       clear A140
       by_cases c15 : 0 ≤ ((rd_T74 l0 0).f1)
       ·rw [if_pos c15] at H
        have c15b0 := eq_true c15
        have c15b1 : decide (0 ≤ ((rd_T74 l0 0).f1)) = true := decide_eq_true c15
        clear c15
        by_cases c16 : ((rd_T74 l0 0).f1 : Int).toNat ≤ 281474976710656
        ·rw [if_pos c16] at H
         have c16b0 := eq_true c16
         have c16b1 : decide (((rd_T74 l0 0).f1 : Int).toNat ≤ 281474976710656) = true := decide_eq_true c16
         clear c16
         obtain ⟨y293, hy293⟩ : ∃ y_ : List Int, y_ = (List.replicate ((rd_T74 l0 0).f1 : Int).toNat 0) := ⟨_, rfl⟩
         replace H : ((elimM_down.f kj7 l0 t286 y293).bind fun bt296 => (if bt296.2.2 ≥ 0 then ((fault_New.f (⟨#[101, 108, 105, 109, 46, 86, 97, 108, 117, 101]⟩ : ByteArray) 4).bind fun t304 => (some (([] : List Int), t304))) else (some ((copyL (List.replicate ((rd_T74 l0 0).f1 : Int).toNat 0) bt296.2.1), ([] : List FE))))) = some (r1, r2) := by first | (rw [hy293]; with_reducible exact H) | (have H2_ := (Option.bind_some _ _).symm.trans H; rw [hy293]; with_reducible exact H2_) | (have H2_ := (Option.bind_some _ _).symm.trans H; with_reducible exact H2_) | with_reducible exact H | (rw [hy293]; exact H) | exact H
         have Ny293 := Aside0.mk hy293
         clear hy293
         replace H := Option.bind_eq_some_iff.mp H
         obtain ⟨⟨t296, t299, t302⟩, A170, H⟩ := H
         replace H : (if t302 ≥ 0 then ((fault_New.f (⟨#[101, 108, 105, 109, 46, 86, 97, 108, 117, 101]⟩ : ByteArray) 4).bind fun t304 => (some (([] : List Int), t304))) else (some ((copyL (List.replicate ((rd_T74 l0 0).f1 : Int).toNat 0) t299), ([] : List FE)))) = some (r1, r2) := H
         have A17 := Aside0.mk A170
         clear A170
         by_cases c18 : t302 ≥ 0
         ·rw [if_pos c18] at H
          have c18b0 : decide (0 ≤ t302) = true := decide_eq_true c18
          clear c18
          replace H := Option.bind_eq_some_iff.mp H
          obtain ⟨t304, A190, H⟩ := H
          replace H : (some (([] : List Int), t304)) = some (r1, r2) := H
          have A19 := Aside0.mk A190
          clear A190
          simp only [Option.some.injEq, Prod.mk.injEq] at H
          obtain ⟨rfl, rfl⟩ := H
          go_wp2_with (first | ((with_reducible refine gate_dst (N := 33) rfl ?_); refine Kd.R_lit (Kd.int .i64) _ 3 ?hg (N := 33) ?hd (xs := ([a1] : List Int)) (inner := [.int .i64 a1]) (ok := fun _ => True) (okp := fun _ => True) ?hr ?hp (fun _ hk => hk) trivial (Below.refl _ _) (Nat.le_refl _) (by simp) ?_; (case hd => rfl); (case hg => rfl); (case hr => first | (go_simp; done) | (go_simp; rfl)); (case hp => exact (Reps.one (show Kd.M (Kd.int .i64) _ _ _ a1 [.int .i64 a1] from rfl) (Reps.none _ _))); intro v283 w20 ho21 hb hg_ hnew_; clear hg_ hnew_; (first | rw [← Ny282.out] at ho21 | (simp only [Int.reduceToNat] at ho21; rw [← Ny282.out] at ho21)); have n0_ := Aside0.mk (Kd.R_lower ho21 (below_size (PB HB))); have n1_ := Aside0.mk (below_step (PB HB) hb); clear HB; have HO284 := n0_; have HB := n1_; clear n0_ n1_; clear hb ho21; have p285 : 0 ≤ (0 : Int) := (by omega); have q285 : 0 < (l0.length : Int) := of_decide_eq_true (by first | (with_reducible assumption) | assumption); obtain ⟨ad285, A285_2, c285_2, A285_3, c285_3, e285, hx285_0, hx285_1, hx285_2, hx285_3, hx285_4, hl285_2, hi285_2, hl285_3, hi285_3⟩ := at_T74 HR0.out 0 p285 q285; (try rw [← Nbq4.out] at hx285_4); obtain rfl : ad900 = ad285 := (by injection e285); have qi285 : (0 < l0.length) = True := eq_true (by omega); (try rw [show ((0 : Int)).toNat = 0 from rfl] at hx285_0); (try rw [show 0 * 5 = 0 from rfl] at hx285_0); (try rw [Addr.add_zero'] at hx285_0); (try rw [show ((0 : Int)).toNat = 0 from rfl] at hx285_1); (try rw [show 0 * 5 = 0 from rfl] at hx285_1); (try rw [Addr.add_zero'] at hx285_1); (try rw [show ((0 : Int)).toNat = 0 from rfl] at hx285_2); (try rw [show 0 * 5 = 0 from rfl] at hx285_2); (try rw [Addr.add_zero'] at hx285_2); (try rw [show ((0 : Int)).toNat = 0 from rfl] at hx285_3); (try rw [show 0 * 5 = 0 from rfl] at hx285_3); (try rw [Addr.add_zero'] at hx285_3); (try rw [show ((0 : Int)).toNat = 0 from rfl] at hx285_4); (try rw [show 0 * 5 = 0 from rfl] at hx285_4); (try rw [Addr.add_zero'] at hx285_4); (first | replace hx285_0 := (HB.out.cell (World.block_lt_of_cell? w _ hx285_0)).trans hx285_0 | skip); (first | replace hx285_1 := (HB.out.cell (World.block_lt_of_cell? w _ hx285_1)).trans hx285_1 | skip); (first | replace hx285_2 := (HB.out.cell (World.block_lt_of_cell? w _ hx285_2)).trans hx285_2 | skip); (first | replace hx285_3 := (HB.out.cell (World.block_lt_of_cell? w _ hx285_3)).trans hx285_3 | skip); (first | replace hx285_4 := (HB.out.cell (World.block_lt_of_cell? w _ hx285_4)).trans hx285_4 | skip); have HR285_2 := Aside0.mk hi285_2; have HC285_2 := Aside0.mk hl285_2; clear hi285_2 hl285_2; have HR285_3 := Aside0.mk hi285_3; have HC285_3 := Aside0.mk hl285_3; clear hi285_3 hl285_3; replace p285 := eq_true p285; replace q285 := eq_true q285; obtain ⟨Ao22, co22, eo22⟩ := Kd.R_slice HO284.out; subst eo22) | ((with_reducible refine gate_callee (f := 35) rfl ?_); refine goesL_ (some 38) rfl rfl Tryd.func35 (by kernel_rfl) rfl #[.slice Ao22 y282.length co22, .int .i64 ((rd_T74 l0 0).f0)] rfl (by (try simp only [List.map_toArray, List.map_cons, List.map_nil]); first | done | rfl | (simp only [List.length_drop, List.length_take]; rfl)) ?_; (with_reducible refine (packed_Pack.calls kj7 _ _ y282 ((rd_T74 l0 0).f0) t286 t287 _ ?side1 ?side2 A14.out).mono ?_); (case side1 => repeat (first | exact (Kd.R_reads' HO284.out).2.2 | (with_reducible refine Kd.C_alloc ?_ _) | (with_reducible refine Kd.C_drewN ?_ _) | (with_reducible refine Kd.C_drew ?_))); (case side2 => exact (Kd.R_reads' HO284.out).2.1); rintro e w23 ⟨v288, v290, rfl, ho0, ho1, hb⟩; refine ⟨_, rfl, ?_⟩; have n0_ := Aside0.mk (Kd.R_below (PR HO284) hb); have n1_ := Aside0.mk (Kd.R_lower ho0 (below_size (PB HB))); have n2_ := Aside0.mk (Kd.R_lower ho1 (below_size (PB HB))); have n3_ := Aside0.mk (below_step (PB HB) hb); clear HO284; clear HB; have HO284 := n0_; have HO289 := n1_; have HO291 := n2_; have HB := n3_; clear n0_ n1_ n2_ n3_; (try clear hb); (try clear hb2); (try clear hk); (try clear hi); (try clear ho0); (try clear ho1); have p292 : 0 ≤ (0 : Int) := (by omega); have q292 : 0 < (l0.length : Int) := of_decide_eq_true (by first | (with_reducible assumption) | assumption); obtain ⟨ad292, A292_2, c292_2, A292_3, c292_3, e292, hx292_0, hx292_1, hx292_2, hx292_3, hx292_4, hl292_2, hi292_2, hl292_3, hi292_3⟩ := at_T74 HR0.out 0 p292 q292; (try rw [← Nbq4.out] at hx292_4); obtain rfl : ad900 = ad292 := (by injection e292); have qi292 : (0 < l0.length) = True := eq_true (by omega); (try rw [show ((0 : Int)).toNat = 0 from rfl] at hx292_0); (try rw [show 0 * 5 = 0 from rfl] at hx292_0); (try rw [Addr.add_zero'] at hx292_0); (try rw [show ((0 : Int)).toNat = 0 from rfl] at hx292_1); (try rw [show 0 * 5 = 0 from rfl] at hx292_1); (try rw [Addr.add_zero'] at hx292_1); (try rw [show ((0 : Int)).toNat = 0 from rfl] at hx292_2); (try rw [show 0 * 5 = 0 from rfl] at hx292_2); (try rw [Addr.add_zero'] at hx292_2); (try rw [show ((0 : Int)).toNat = 0 from rfl] at hx292_3); (try rw [show 0 * 5 = 0 from rfl] at hx292_3); (try rw [Addr.add_zero'] at hx292_3); (try rw [show ((0 : Int)).toNat = 0 from rfl] at hx292_4); (try rw [show 0 * 5 = 0 from rfl] at hx292_4); (try rw [Addr.add_zero'] at hx292_4); (first | replace hx292_0 := (HB.out.cell (World.block_lt_of_cell? w _ hx292_0)).trans hx292_0 | skip); (first | replace hx292_1 := (HB.out.cell (World.block_lt_of_cell? w _ hx292_1)).trans hx292_1 | skip); (first | replace hx292_2 := (HB.out.cell (World.block_lt_of_cell? w _ hx292_2)).trans hx292_2 | skip); (first | replace hx292_3 := (HB.out.cell (World.block_lt_of_cell? w _ hx292_3)).trans hx292_3 | skip); (first | replace hx292_4 := (HB.out.cell (World.block_lt_of_cell? w _ hx292_4)).trans hx292_4 | skip); have HR292_2 := Aside0.mk hi292_2; have HC292_2 := Aside0.mk hl292_2; clear hi292_2 hl292_2; have HR292_3 := Aside0.mk hi292_3; have HC292_3 := Aside0.mk hl292_3; clear hi292_3 hl292_3; replace p292 := eq_true p292; replace q292 := eq_true q292) | ((with_reducible refine gate_dst (N := 48) rfl ?_); refine Kd.R_make (Kd.int .u8) _ 5 rfl (N := 48) rfl 36 _ _ rfl ((rd_T74 l0 0).f1) rfl rfl Tryd.underlying36 (.int .u8 0) 1 info5 rfl (by decide) (by omega) 0 (ok := fun _ => True) (okp := fun _ => True) rfl (fun _ hk => hk) trivial (of_decide_eq_true (by first | (with_reducible assumption) | assumption)) (Nat.le_trans (Nat.mul_le_mul_right _ (of_decide_eq_true (by first | (with_reducible assumption) | assumption) : ((rd_T74 l0 0).f1).toNat ≤ 281474976710656)) (by omega)) (Below.refl _ _) (Nat.le_refl _) ?_; intro v294 w24 ho25 hb hg_ hnew_; clear hg_ hnew_; (first | rw [← Ny293.out] at ho25 | (simp only [Int.reduceToNat] at ho25; rw [← Ny293.out] at ho25)); have n0_ := Aside0.mk (Kd.R_below (PR HO284) hb); have n1_ := Aside0.mk (Kd.R_below (PR HO289) hb); have n2_ := Aside0.mk (Kd.R_below (PR HO291) hb); have n3_ := Aside0.mk (Kd.R_lower ho25 (below_size (PB HB))); have n4_ := Aside0.mk (below_step (PB HB) hb); clear HO284; clear HO289; clear HO291; clear HB; have HO284 := n0_; have HO289 := n1_; have HO291 := n2_; have HO295 := n3_; have HB := n4_; clear n0_ n1_ n2_ n3_ n4_; clear hb ho25; obtain ⟨Ao26, co26, eo26⟩ := Kd.R_slice HO295.out; subst eo26; obtain ⟨Ao27, co27, eo27⟩ := Kd.R_slice HO289.out; subst eo27) | ((with_reducible refine gate_callee (f := 30) rfl ?_); refine goesL_ (some 50) rfl rfl Tryd.func30 (by kernel_rfl) rfl #[.pointer (some ad900), .agg #[.slice Ao27 t286.length co27, .slice Ao26 y293.length co26]] rfl (by (try simp only [List.map_toArray, List.map_cons, List.map_nil]); first | done | rfl | (simp only [List.length_drop, List.length_take]; rfl)) ?_; (with_reducible refine (elimM_down.calls kj7 _ l0 _ _ t286 _ _ y293 t296 t299 t302 _ ?side1 ?side2 ?side3 ?side4 ?side5 ?side6 A17.out).mono ?_); (case side1 => first | exact HT.out | exact TabIn.below HT.out (PB HB) | (repeat (first | apply TabIn.drewN | apply TabIn.drew | exact HT.out))); (case side2 => repeat (first | exact (Kd.C_below HR0.out HB.out) | (with_reducible refine Kd.C_alloc ?_ _) | (with_reducible refine Kd.C_drewN ?_ _) | (with_reducible refine Kd.C_drew ?_))); (case side3 => repeat (first | exact (Kd.R_reads' HO289.out).2.2 | (with_reducible refine Kd.C_alloc ?_ _) | (with_reducible refine Kd.C_drewN ?_ _) | (with_reducible refine Kd.C_drew ?_))); (case side4 => exact (Kd.R_reads' HO289.out).2.1); (case side5 => repeat (first | exact (Kd.R_reads' HO295.out).2.2 | (with_reducible refine Kd.C_alloc ?_ _) | (with_reducible refine Kd.C_drewN ?_ _) | (with_reducible refine Kd.C_drew ?_))); (case side6 => exact (Kd.R_reads' HO295.out).2.1); rintro e w28 ⟨v297, v300, rfl, ho0, ho1, hb⟩; refine ⟨_, rfl, ?_⟩; have n0_ := Aside0.mk (Kd.R_below (PR HO284) hb); have n1_ := Aside0.mk (Kd.R_elder' (PR HO289) (Kd.R_base ho0) hb); have n2_ := Aside0.mk (Kd.R_below (PR HO291) hb); have n3_ := Aside0.mk (Kd.R_elder' (PR HO295) (Kd.R_base ho1) hb); have n4_ := Aside0.mk (Kd.R_lower (Kd.R_new' ho0 (Kd.R_lt (PR HO289))) (below_size (PB HB))); have n5_ := Aside0.mk (Kd.R_lower (Kd.R_new' ho1 (Kd.R_lt (PR HO295))) (below_size (PB HB))); have n6_ := Aside0.mk (below_step (PB HB) hb); clear HO284; clear HO289; clear HO291; clear HO295; clear HB; have HO284 := n0_; have HO289 := n1_; have HO291 := n2_; have HO295 := n3_; have HO298 := n4_; have HO301 := n5_; have HB := n6_; clear n0_ n1_ n2_ n3_ n4_ n5_ n6_; (try clear hb); (try clear hb2); (try clear hk); (try clear hi); (try clear ho0); (try clear ho1)) | ((with_reducible refine gate_dst (N := 8) rfl ?_); refine box_event ?hg (N := 8) ?hd (cs := #[.slice none 0 0, .slice none 0 0]) (t := 77) ?hr ?_; (case hd => rfl); (case hg => rfl); (case hr => first | (go_simp; done) | (go_simp; rfl)); intro gb303 hg w29 hbox hb; have n0_ := Aside0.mk (Kd.R_below (PR HO284) hb); have n1_ := Aside0.mk (Kd.R_below (PR HO289) hb); have n2_ := Aside0.mk (Kd.R_below (PR HO291) hb); have n3_ := Aside0.mk (Kd.R_below (PR HO295) hb); have n4_ := Aside0.mk (Kd.R_below (PR HO298) hb); have n5_ := Aside0.mk (Kd.R_below (PR HO301) hb); have n6_ := Aside0.mk (below_step (PB HB) hb); have n7_ := Aside0.mk (hbox); have n8_ := Aside0.mk ((by rw [hg]; exact (below_size (PB HB)) : w.heap.size ≤ gb303)); have n9_ := Aside0.mk ((by rw [hg]; exact (below_size (PB HB)) : w.heap.size ≤ gb303)); clear HO284; clear HO289; clear HO291; clear HO295; clear HO298; clear HO301; clear HB; have HO284 := n0_; have HO289 := n1_; have HO291 := n2_; have HO295 := n3_; have HO298 := n4_; have HO301 := n5_; have HB := n6_; have BK303 := n7_; have GW303 := n8_; have GE303 := n9_; clear n0_ n1_ n2_ n3_ n4_ n5_ n6_ n7_ n8_ n9_; clear hb hbox hg; obtain ⟨Ao30, co30, eo30⟩ := Kd.R_slice HO298.out; subst eo30; have hcz31_0 : w29.cell? ⟨gb303, 0, none⟩ = some (.slice none 0 0) := (blk_cell BK303.out 0).trans rfl; have hcz31_1 : w29.cell? ⟨gb303, 1, none⟩ = some (.slice none 0 0) := (blk_cell BK303.out 1).trans rfl; have hfz31_0 := blk_frozen BK303.out 0; have hfz31_1 := blk_frozen BK303.out 1; obtain ⟨Ao32, co32, eo32⟩ := Kd.R_slice HO301.out; subst eo32) | ((with_reducible refine gate_callee (f := 28) rfl ?_); refine goesL_ (some 55) rfl rfl Tryd.func28 (by kernel_rfl) rfl #[.string (⟨#[101, 108, 105, 109, 46, 86, 97, 108, 117, 101]⟩ : ByteArray), .int .i64 4] rfl (by (try simp only [List.map_toArray, List.map_cons, List.map_nil]); first | done | rfl | (simp only [List.length_drop, List.length_take]; rfl)) ?_; (with_reducible refine (fault_New.calls (⟨#[101, 108, 105, 109, 46, 86, 97, 108, 117, 101]⟩ : ByteArray) 4 t304 _ A19.out).mono ?_); rintro e w33 ⟨v305, rfl, ho0, hb⟩; refine ⟨_, rfl, ?_⟩; have n0_ := Aside0.mk (Kd.R_below (by (with_reducible repeat (first | apply Kd.R_alloc | apply Kd.R_drewN | apply Kd.R_drew)); exact (Kd.R_mono (Kd.R_far (p := ⟨gb303, 1, none⟩) (Kd.R_far (p := ⟨gb303, 0, none⟩) (Kd.R_types HO284.out BK303.out (by decide)) (fun _ hk => hk.2) (.slice Ao30 t296.length co30)) (fun _ hk => hk.2) (.slice Ao32 t299.length co32)) (fun _ h_ => h_.1))) hb); have n1_ := Aside0.mk (Kd.R_below (by (with_reducible repeat (first | apply Kd.R_alloc | apply Kd.R_drewN | apply Kd.R_drew)); exact (Kd.R_mono (Kd.R_far (p := ⟨gb303, 1, none⟩) (Kd.R_far (p := ⟨gb303, 0, none⟩) (Kd.R_types HO289.out BK303.out (by decide)) (fun _ hk => hk.2) (.slice Ao30 t296.length co30)) (fun _ hk => hk.2) (.slice Ao32 t299.length co32)) (fun _ h_ => h_.1))) hb); have n2_ := Aside0.mk (Kd.R_below (by (with_reducible repeat (first | apply Kd.R_alloc | apply Kd.R_drewN | apply Kd.R_drew)); exact (Kd.R_mono (Kd.R_far (p := ⟨gb303, 1, none⟩) (Kd.R_far (p := ⟨gb303, 0, none⟩) (Kd.R_types HO291.out BK303.out (by decide)) (fun _ hk => hk.2) (.slice Ao30 t296.length co30)) (fun _ hk => hk.2) (.slice Ao32 t299.length co32)) (fun _ h_ => h_.1))) hb); have n3_ := Aside0.mk (Kd.R_below (by (with_reducible repeat (first | apply Kd.R_alloc | apply Kd.R_drewN | apply Kd.R_drew)); exact (Kd.R_mono (Kd.R_far (p := ⟨gb303, 1, none⟩) (Kd.R_far (p := ⟨gb303, 0, none⟩) (Kd.R_types HO295.out BK303.out (by decide)) (fun _ hk => hk.2) (.slice Ao30 t296.length co30)) (fun _ hk => hk.2) (.slice Ao32 t299.length co32)) (fun _ h_ => h_.1))) hb); have n4_ := Aside0.mk (Kd.R_below (by (with_reducible repeat (first | apply Kd.R_alloc | apply Kd.R_drewN | apply Kd.R_drew)); exact (Kd.R_mono (Kd.R_far (p := ⟨gb303, 1, none⟩) (Kd.R_far (p := ⟨gb303, 0, none⟩) (Kd.R_types HO298.out BK303.out (by decide)) (fun _ hk => hk.2) (.slice Ao30 t296.length co30)) (fun _ hk => hk.2) (.slice Ao32 t299.length co32)) (fun _ h_ => h_.1))) hb); have n5_ := Aside0.mk (Kd.R_below (by (with_reducible repeat (first | apply Kd.R_alloc | apply Kd.R_drewN | apply Kd.R_drew)); exact (Kd.R_mono (Kd.R_far (p := ⟨gb303, 1, none⟩) (Kd.R_far (p := ⟨gb303, 0, none⟩) (Kd.R_types HO301.out BK303.out (by decide)) (fun _ hk => hk.2) (.slice Ao30 t296.length co30)) (fun _ hk => hk.2) (.slice Ao32 t299.length co32)) (fun _ h_ => h_.1))) hb); have n6_ := Aside0.mk (Kd.R_lower ho0 (below_size (by repeat (first | (with_reducible first | exact HB.out | apply below_alloc | apply pw_below_drewN | apply below_drew1 | refine below_set ?_ GE303.out) | exact HB.out)))); have n7_ := Aside0.mk (blk_below (g := gb303) (o := .cells #[.slice Ao30 t296.length co30, .slice Ao32 t299.length co32] 77 (0, 0)) (by (with_reducible repeat (first | refine blk_drewN ?_ _ | refine blk_drew ?_ | refine blk_alloc ?_ _)); refine blk_put (cs := #[.slice Ao30 t296.length co30, .slice none 0 0]) ?_ 1 _ rfl; (with_reducible repeat (first | refine blk_drewN ?_ _ | refine blk_drew ?_ | refine blk_alloc ?_ _)); refine blk_put (cs := #[.slice none 0 0, .slice none 0 0]) ?_ 0 _ rfl; exact PK BK303) hb); have n8_ := Aside0.mk (below_step (by repeat (first | (with_reducible first | exact HB.out | apply below_alloc | apply pw_below_drewN | apply below_drew1 | refine below_set ?_ GE303.out) | exact HB.out)) hb); clear HO284; clear HO289; clear HO291; clear HO295; clear HO298; clear HO301; clear BK303; clear HB; have HO284 := n0_; have HO289 := n1_; have HO291 := n2_; have HO295 := n3_; have HO298 := n4_; have HO301 := n5_; have HO306 := n6_; have BK303 := n7_; have HB := n8_; clear n0_ n1_ n2_ n3_ n4_ n5_ n6_ n7_ n8_; (try clear hb); (try clear hb2); (try clear hk); (try clear hi); (try clear ho0)))
          go_ret2
          exact ⟨_, _, by first | rfl | (simp [errW_none, errW_some] <;> rfl) | (simp [*, errW_none, errW_some] <;> rfl), by first | exact Kd.R_nil _ _ _ _ _ | exact Kd.N_nil _ _ _ _ _ | exact Kd.V_nil _ _ _ _ _ | exact Kd.Q_nil _ _ _ _ _ | exact Kd.S_nil _ _ _ _ _, PR HO306, by repeat (first | (with_reducible first | exact HB.out | apply below_alloc | apply pw_below_drewN | apply below_drew1 | refine below_set ?_ GE303.out) | exact HB.out)⟩
         ·rw [if_neg c18] at H
          have c18b0 : decide (0 ≤ t302) = false := decide_eq_false c18
          clear c18
          obtain ⟨y308, hy308⟩ : ∃ y_ : List Int, y_ = (List.replicate ((rd_T74 l0 0).f1 : Int).toNat 0) := ⟨_, rfl⟩
          replace H : (some ((copyL y308 t299), ([] : List FE))) = some (r1, r2) := by first | (rw [hy308]; with_reducible exact H) | (have H2_ := (Option.bind_some _ _).symm.trans H; rw [hy308]; with_reducible exact H2_) | (have H2_ := (Option.bind_some _ _).symm.trans H; with_reducible exact H2_) | with_reducible exact H | (rw [hy308]; exact H) | exact H
          have Ny308 := Aside0.mk hy308
          clear hy308
          obtain ⟨y311, hy311⟩ : ∃ y_ : List Int, y_ = (copyL y308 t299) := ⟨_, rfl⟩
          replace H : (some (y311, ([] : List FE))) = some (r1, r2) := by first | (rw [hy311]; with_reducible exact H) | (have H2_ := (Option.bind_some _ _).symm.trans H; rw [hy311]; with_reducible exact H2_) | (have H2_ := (Option.bind_some _ _).symm.trans H; with_reducible exact H2_) | with_reducible exact H | (rw [hy311]; exact H) | exact H
          have Ny311 := Aside0.mk hy311
          clear hy311
          simp only [Option.some.injEq, Prod.mk.injEq] at H
          obtain ⟨rfl, rfl⟩ := H
          go_wp2_with (first | ((with_reducible refine gate_dst (N := 33) rfl ?_); refine Kd.R_lit (Kd.int .i64) _ 3 ?hg (N := 33) ?hd (xs := ([a1] : List Int)) (inner := [.int .i64 a1]) (ok := fun _ => True) (okp := fun _ => True) ?hr ?hp (fun _ hk => hk) trivial (Below.refl _ _) (Nat.le_refl _) (by simp) ?_; (case hd => rfl); (case hg => rfl); (case hr => first | (go_simp; done) | (go_simp; rfl)); (case hp => exact (Reps.one (show Kd.M (Kd.int .i64) _ _ _ a1 [.int .i64 a1] from rfl) (Reps.none _ _))); intro v283 w34 ho35 hb hg_ hnew_; clear hg_ hnew_; (first | rw [← Ny282.out] at ho35 | (simp only [Int.reduceToNat] at ho35; rw [← Ny282.out] at ho35)); have n0_ := Aside0.mk (Kd.R_lower ho35 (below_size (PB HB))); have n1_ := Aside0.mk (below_step (PB HB) hb); clear HB; have HO284 := n0_; have HB := n1_; clear n0_ n1_; clear hb ho35; have p285 : 0 ≤ (0 : Int) := (by omega); have q285 : 0 < (l0.length : Int) := of_decide_eq_true (by first | (with_reducible assumption) | assumption); obtain ⟨ad285, A285_2, c285_2, A285_3, c285_3, e285, hx285_0, hx285_1, hx285_2, hx285_3, hx285_4, hl285_2, hi285_2, hl285_3, hi285_3⟩ := at_T74 HR0.out 0 p285 q285; (try rw [← Nbq4.out] at hx285_4); obtain rfl : ad900 = ad285 := (by injection e285); have qi285 : (0 < l0.length) = True := eq_true (by omega); (try rw [show ((0 : Int)).toNat = 0 from rfl] at hx285_0); (try rw [show 0 * 5 = 0 from rfl] at hx285_0); (try rw [Addr.add_zero'] at hx285_0); (try rw [show ((0 : Int)).toNat = 0 from rfl] at hx285_1); (try rw [show 0 * 5 = 0 from rfl] at hx285_1); (try rw [Addr.add_zero'] at hx285_1); (try rw [show ((0 : Int)).toNat = 0 from rfl] at hx285_2); (try rw [show 0 * 5 = 0 from rfl] at hx285_2); (try rw [Addr.add_zero'] at hx285_2); (try rw [show ((0 : Int)).toNat = 0 from rfl] at hx285_3); (try rw [show 0 * 5 = 0 from rfl] at hx285_3); (try rw [Addr.add_zero'] at hx285_3); (try rw [show ((0 : Int)).toNat = 0 from rfl] at hx285_4); (try rw [show 0 * 5 = 0 from rfl] at hx285_4); (try rw [Addr.add_zero'] at hx285_4); (first | replace hx285_0 := (HB.out.cell (World.block_lt_of_cell? w _ hx285_0)).trans hx285_0 | skip); (first | replace hx285_1 := (HB.out.cell (World.block_lt_of_cell? w _ hx285_1)).trans hx285_1 | skip); (first | replace hx285_2 := (HB.out.cell (World.block_lt_of_cell? w _ hx285_2)).trans hx285_2 | skip); (first | replace hx285_3 := (HB.out.cell (World.block_lt_of_cell? w _ hx285_3)).trans hx285_3 | skip); (first | replace hx285_4 := (HB.out.cell (World.block_lt_of_cell? w _ hx285_4)).trans hx285_4 | skip); have HR285_2 := Aside0.mk hi285_2; have HC285_2 := Aside0.mk hl285_2; clear hi285_2 hl285_2; have HR285_3 := Aside0.mk hi285_3; have HC285_3 := Aside0.mk hl285_3; clear hi285_3 hl285_3; replace p285 := eq_true p285; replace q285 := eq_true q285; obtain ⟨Ao36, co36, eo36⟩ := Kd.R_slice HO284.out; subst eo36) | ((with_reducible refine gate_callee (f := 35) rfl ?_); refine goesL_ (some 38) rfl rfl Tryd.func35 (by kernel_rfl) rfl #[.slice Ao36 y282.length co36, .int .i64 ((rd_T74 l0 0).f0)] rfl (by (try simp only [List.map_toArray, List.map_cons, List.map_nil]); first | done | rfl | (simp only [List.length_drop, List.length_take]; rfl)) ?_; (with_reducible refine (packed_Pack.calls kj7 _ _ y282 ((rd_T74 l0 0).f0) t286 t287 _ ?side1 ?side2 A14.out).mono ?_); (case side1 => repeat (first | exact (Kd.R_reads' HO284.out).2.2 | (with_reducible refine Kd.C_alloc ?_ _) | (with_reducible refine Kd.C_drewN ?_ _) | (with_reducible refine Kd.C_drew ?_))); (case side2 => exact (Kd.R_reads' HO284.out).2.1); rintro e w37 ⟨v288, v290, rfl, ho0, ho1, hb⟩; refine ⟨_, rfl, ?_⟩; have n0_ := Aside0.mk (Kd.R_below (PR HO284) hb); have n1_ := Aside0.mk (Kd.R_lower ho0 (below_size (PB HB))); have n2_ := Aside0.mk (Kd.R_lower ho1 (below_size (PB HB))); have n3_ := Aside0.mk (below_step (PB HB) hb); clear HO284; clear HB; have HO284 := n0_; have HO289 := n1_; have HO291 := n2_; have HB := n3_; clear n0_ n1_ n2_ n3_; (try clear hb); (try clear hb2); (try clear hk); (try clear hi); (try clear ho0); (try clear ho1); have p292 : 0 ≤ (0 : Int) := (by omega); have q292 : 0 < (l0.length : Int) := of_decide_eq_true (by first | (with_reducible assumption) | assumption); obtain ⟨ad292, A292_2, c292_2, A292_3, c292_3, e292, hx292_0, hx292_1, hx292_2, hx292_3, hx292_4, hl292_2, hi292_2, hl292_3, hi292_3⟩ := at_T74 HR0.out 0 p292 q292; (try rw [← Nbq4.out] at hx292_4); obtain rfl : ad900 = ad292 := (by injection e292); have qi292 : (0 < l0.length) = True := eq_true (by omega); (try rw [show ((0 : Int)).toNat = 0 from rfl] at hx292_0); (try rw [show 0 * 5 = 0 from rfl] at hx292_0); (try rw [Addr.add_zero'] at hx292_0); (try rw [show ((0 : Int)).toNat = 0 from rfl] at hx292_1); (try rw [show 0 * 5 = 0 from rfl] at hx292_1); (try rw [Addr.add_zero'] at hx292_1); (try rw [show ((0 : Int)).toNat = 0 from rfl] at hx292_2); (try rw [show 0 * 5 = 0 from rfl] at hx292_2); (try rw [Addr.add_zero'] at hx292_2); (try rw [show ((0 : Int)).toNat = 0 from rfl] at hx292_3); (try rw [show 0 * 5 = 0 from rfl] at hx292_3); (try rw [Addr.add_zero'] at hx292_3); (try rw [show ((0 : Int)).toNat = 0 from rfl] at hx292_4); (try rw [show 0 * 5 = 0 from rfl] at hx292_4); (try rw [Addr.add_zero'] at hx292_4); (first | replace hx292_0 := (HB.out.cell (World.block_lt_of_cell? w _ hx292_0)).trans hx292_0 | skip); (first | replace hx292_1 := (HB.out.cell (World.block_lt_of_cell? w _ hx292_1)).trans hx292_1 | skip); (first | replace hx292_2 := (HB.out.cell (World.block_lt_of_cell? w _ hx292_2)).trans hx292_2 | skip); (first | replace hx292_3 := (HB.out.cell (World.block_lt_of_cell? w _ hx292_3)).trans hx292_3 | skip); (first | replace hx292_4 := (HB.out.cell (World.block_lt_of_cell? w _ hx292_4)).trans hx292_4 | skip); have HR292_2 := Aside0.mk hi292_2; have HC292_2 := Aside0.mk hl292_2; clear hi292_2 hl292_2; have HR292_3 := Aside0.mk hi292_3; have HC292_3 := Aside0.mk hl292_3; clear hi292_3 hl292_3; replace p292 := eq_true p292; replace q292 := eq_true q292) | ((with_reducible refine gate_dst (N := 48) rfl ?_); refine Kd.R_make (Kd.int .u8) _ 5 rfl (N := 48) rfl 36 _ _ rfl ((rd_T74 l0 0).f1) rfl rfl Tryd.underlying36 (.int .u8 0) 1 info5 rfl (by decide) (by omega) 0 (ok := fun _ => True) (okp := fun _ => True) rfl (fun _ hk => hk) trivial (of_decide_eq_true (by first | (with_reducible assumption) | assumption)) (Nat.le_trans (Nat.mul_le_mul_right _ (of_decide_eq_true (by first | (with_reducible assumption) | assumption) : ((rd_T74 l0 0).f1).toNat ≤ 281474976710656)) (by omega)) (Below.refl _ _) (Nat.le_refl _) ?_; intro v294 w38 ho39 hb hg_ hnew_; clear hg_ hnew_; (first | rw [← Ny293.out] at ho39 | (simp only [Int.reduceToNat] at ho39; rw [← Ny293.out] at ho39)); have n0_ := Aside0.mk (Kd.R_below (PR HO284) hb); have n1_ := Aside0.mk (Kd.R_below (PR HO289) hb); have n2_ := Aside0.mk (Kd.R_below (PR HO291) hb); have n3_ := Aside0.mk (Kd.R_lower ho39 (below_size (PB HB))); have n4_ := Aside0.mk (below_step (PB HB) hb); clear HO284; clear HO289; clear HO291; clear HB; have HO284 := n0_; have HO289 := n1_; have HO291 := n2_; have HO295 := n3_; have HB := n4_; clear n0_ n1_ n2_ n3_ n4_; clear hb ho39; obtain ⟨Ao40, co40, eo40⟩ := Kd.R_slice HO295.out; subst eo40; obtain ⟨Ao41, co41, eo41⟩ := Kd.R_slice HO289.out; subst eo41) | ((with_reducible refine gate_callee (f := 30) rfl ?_); refine goesL_ (some 50) rfl rfl Tryd.func30 (by kernel_rfl) rfl #[.pointer (some ad900), .agg #[.slice Ao41 t286.length co41, .slice Ao40 y293.length co40]] rfl (by (try simp only [List.map_toArray, List.map_cons, List.map_nil]); first | done | rfl | (simp only [List.length_drop, List.length_take]; rfl)) ?_; (with_reducible refine (elimM_down.calls kj7 _ l0 _ _ t286 _ _ y293 t296 t299 t302 _ ?side1 ?side2 ?side3 ?side4 ?side5 ?side6 A17.out).mono ?_); (case side1 => first | exact HT.out | exact TabIn.below HT.out (PB HB) | (repeat (first | apply TabIn.drewN | apply TabIn.drew | exact HT.out))); (case side2 => repeat (first | exact (Kd.C_below HR0.out HB.out) | (with_reducible refine Kd.C_alloc ?_ _) | (with_reducible refine Kd.C_drewN ?_ _) | (with_reducible refine Kd.C_drew ?_))); (case side3 => repeat (first | exact (Kd.R_reads' HO289.out).2.2 | (with_reducible refine Kd.C_alloc ?_ _) | (with_reducible refine Kd.C_drewN ?_ _) | (with_reducible refine Kd.C_drew ?_))); (case side4 => exact (Kd.R_reads' HO289.out).2.1); (case side5 => repeat (first | exact (Kd.R_reads' HO295.out).2.2 | (with_reducible refine Kd.C_alloc ?_ _) | (with_reducible refine Kd.C_drewN ?_ _) | (with_reducible refine Kd.C_drew ?_))); (case side6 => exact (Kd.R_reads' HO295.out).2.1); rintro e w42 ⟨v297, v300, rfl, ho0, ho1, hb⟩; refine ⟨_, rfl, ?_⟩; have n0_ := Aside0.mk (Kd.R_below (PR HO284) hb); have n1_ := Aside0.mk (Kd.R_elder' (PR HO289) (Kd.R_base ho0) hb); have n2_ := Aside0.mk (Kd.R_below (PR HO291) hb); have n3_ := Aside0.mk (Kd.R_elder' (PR HO295) (Kd.R_base ho1) hb); have n4_ := Aside0.mk (Kd.R_lower (Kd.R_new' ho0 (Kd.R_lt (PR HO289))) (below_size (PB HB))); have n5_ := Aside0.mk (Kd.R_lower (Kd.R_new' ho1 (Kd.R_lt (PR HO295))) (below_size (PB HB))); have n6_ := Aside0.mk (below_step (PB HB) hb); clear HO284; clear HO289; clear HO291; clear HO295; clear HB; have HO284 := n0_; have HO289 := n1_; have HO291 := n2_; have HO295 := n3_; have HO298 := n4_; have HO301 := n5_; have HB := n6_; clear n0_ n1_ n2_ n3_ n4_ n5_ n6_; (try clear hb); (try clear hb2); (try clear hk); (try clear hi); (try clear ho0); (try clear ho1)) | ((with_reducible refine gate_dst (N := 8) rfl ?_); refine box_event ?hg (N := 8) ?hd (cs := #[.slice none 0 0, .slice none 0 0]) (t := 77) ?hr ?_; (case hd => rfl); (case hg => rfl); (case hr => first | (go_simp; done) | (go_simp; rfl)); intro gb303 hg w43 hbox hb; have n0_ := Aside0.mk (Kd.R_below (PR HO284) hb); have n1_ := Aside0.mk (Kd.R_below (PR HO289) hb); have n2_ := Aside0.mk (Kd.R_below (PR HO291) hb); have n3_ := Aside0.mk (Kd.R_below (PR HO295) hb); have n4_ := Aside0.mk (Kd.R_below (PR HO298) hb); have n5_ := Aside0.mk (Kd.R_below (PR HO301) hb); have n6_ := Aside0.mk (below_step (PB HB) hb); have n7_ := Aside0.mk (hbox); have n8_ := Aside0.mk ((by rw [hg]; exact (below_size (PB HB)) : w.heap.size ≤ gb303)); have n9_ := Aside0.mk ((by rw [hg]; exact (below_size (PB HB)) : w.heap.size ≤ gb303)); clear HO284; clear HO289; clear HO291; clear HO295; clear HO298; clear HO301; clear HB; have HO284 := n0_; have HO289 := n1_; have HO291 := n2_; have HO295 := n3_; have HO298 := n4_; have HO301 := n5_; have HB := n6_; have BK303 := n7_; have GW303 := n8_; have GE303 := n9_; clear n0_ n1_ n2_ n3_ n4_ n5_ n6_ n7_ n8_ n9_; clear hb hbox hg; obtain ⟨Ao44, co44, eo44⟩ := Kd.R_slice HO298.out; subst eo44; have hcz45_0 : w43.cell? ⟨gb303, 0, none⟩ = some (.slice none 0 0) := (blk_cell BK303.out 0).trans rfl; have hcz45_1 : w43.cell? ⟨gb303, 1, none⟩ = some (.slice none 0 0) := (blk_cell BK303.out 1).trans rfl; have hfz45_0 := blk_frozen BK303.out 0; have hfz45_1 := blk_frozen BK303.out 1; obtain ⟨Ao46, co46, eo46⟩ := Kd.R_slice HO301.out; subst eo46; have p307 : 0 ≤ (0 : Int) := (by omega); have q307 : 0 < (l0.length : Int) := of_decide_eq_true (by first | (with_reducible assumption) | assumption); obtain ⟨ad307, A307_2, c307_2, A307_3, c307_3, e307, hx307_0, hx307_1, hx307_2, hx307_3, hx307_4, hl307_2, hi307_2, hl307_3, hi307_3⟩ := at_T74 HR0.out 0 p307 q307; (try rw [← Nbq4.out] at hx307_4); obtain rfl : ad900 = ad307 := (by injection e307); have qi307 : (0 < l0.length) = True := eq_true (by omega); (try rw [show ((0 : Int)).toNat = 0 from rfl] at hx307_0); (try rw [show 0 * 5 = 0 from rfl] at hx307_0); (try rw [Addr.add_zero'] at hx307_0); (try rw [show ((0 : Int)).toNat = 0 from rfl] at hx307_1); (try rw [show 0 * 5 = 0 from rfl] at hx307_1); (try rw [Addr.add_zero'] at hx307_1); (try rw [show ((0 : Int)).toNat = 0 from rfl] at hx307_2); (try rw [show 0 * 5 = 0 from rfl] at hx307_2); (try rw [Addr.add_zero'] at hx307_2); (try rw [show ((0 : Int)).toNat = 0 from rfl] at hx307_3); (try rw [show 0 * 5 = 0 from rfl] at hx307_3); (try rw [Addr.add_zero'] at hx307_3); (try rw [show ((0 : Int)).toNat = 0 from rfl] at hx307_4); (try rw [show 0 * 5 = 0 from rfl] at hx307_4); (try rw [Addr.add_zero'] at hx307_4); have hn307_0 : ad900.block ≠ gb303 := Nat.ne_of_lt (Nat.lt_of_lt_of_le (by have := World.block_lt_of_cell? _ _ hx307_0; first | rwa [add_block] at this | exact this) GW303.out); have hn307_1 : ad900.block ≠ gb303 := Nat.ne_of_lt (Nat.lt_of_lt_of_le (by have := World.block_lt_of_cell? _ _ hx307_0; first | rwa [add_block] at this | exact this) GW303.out); (first | replace hx307_0 := (HB.out.cell (World.block_lt_of_cell? w _ hx307_0)).trans hx307_0 | skip); (first | replace hx307_1 := (HB.out.cell (World.block_lt_of_cell? w _ hx307_1)).trans hx307_1 | skip); (first | replace hx307_2 := (HB.out.cell (World.block_lt_of_cell? w _ hx307_2)).trans hx307_2 | skip); (first | replace hx307_3 := (HB.out.cell (World.block_lt_of_cell? w _ hx307_3)).trans hx307_3 | skip); (first | replace hx307_4 := (HB.out.cell (World.block_lt_of_cell? w _ hx307_4)).trans hx307_4 | skip); have HR307_2 := Aside0.mk hi307_2; have HC307_2 := Aside0.mk hl307_2; clear hi307_2 hl307_2; have HR307_3 := Aside0.mk hi307_3; have HC307_3 := Aside0.mk hl307_3; clear hi307_3 hl307_3; replace hx307_0 := (cell_far (p := ⟨gb303, 0, none⟩) (by first | (rw [add_block]; exact hn307_0) | (show (Addr.add _ _).block ≠ _; rw [add_block]; exact hn307_0) | exact hn307_0) (.slice Ao44 t296.length co44)).trans hx307_0; replace hx307_1 := (cell_far (p := ⟨gb303, 0, none⟩) (by first | (rw [add_block]; exact hn307_0) | (show (Addr.add _ _).block ≠ _; rw [add_block]; exact hn307_0) | exact hn307_0) (.slice Ao44 t296.length co44)).trans hx307_1; replace hx307_2 := (cell_far (p := ⟨gb303, 0, none⟩) (by first | (rw [add_block]; exact hn307_0) | (show (Addr.add _ _).block ≠ _; rw [add_block]; exact hn307_0) | exact hn307_0) (.slice Ao44 t296.length co44)).trans hx307_2; replace hx307_3 := (cell_far (p := ⟨gb303, 0, none⟩) (by first | (rw [add_block]; exact hn307_0) | (show (Addr.add _ _).block ≠ _; rw [add_block]; exact hn307_0) | exact hn307_0) (.slice Ao44 t296.length co44)).trans hx307_3; replace hx307_4 := (cell_far (p := ⟨gb303, 0, none⟩) (by first | (rw [add_block]; exact hn307_0) | (show (Addr.add _ _).block ≠ _; rw [add_block]; exact hn307_0) | exact hn307_0) (.slice Ao44 t296.length co44)).trans hx307_4; replace hx307_0 := (cell_far (p := ⟨gb303, 1, none⟩) (by first | (rw [add_block]; exact hn307_1) | (show (Addr.add _ _).block ≠ _; rw [add_block]; exact hn307_1) | exact hn307_1) (.slice Ao46 t299.length co46)).trans hx307_0; replace hx307_1 := (cell_far (p := ⟨gb303, 1, none⟩) (by first | (rw [add_block]; exact hn307_1) | (show (Addr.add _ _).block ≠ _; rw [add_block]; exact hn307_1) | exact hn307_1) (.slice Ao46 t299.length co46)).trans hx307_1; replace hx307_2 := (cell_far (p := ⟨gb303, 1, none⟩) (by first | (rw [add_block]; exact hn307_1) | (show (Addr.add _ _).block ≠ _; rw [add_block]; exact hn307_1) | exact hn307_1) (.slice Ao46 t299.length co46)).trans hx307_2; replace hx307_3 := (cell_far (p := ⟨gb303, 1, none⟩) (by first | (rw [add_block]; exact hn307_1) | (show (Addr.add _ _).block ≠ _; rw [add_block]; exact hn307_1) | exact hn307_1) (.slice Ao46 t299.length co46)).trans hx307_3; replace hx307_4 := (cell_far (p := ⟨gb303, 1, none⟩) (by first | (rw [add_block]; exact hn307_1) | (show (Addr.add _ _).block ≠ _; rw [add_block]; exact hn307_1) | exact hn307_1) (.slice Ao46 t299.length co46)).trans hx307_4; clear hn307_0; clear hn307_1; replace p307 := eq_true p307; replace q307 := eq_true q307) | ((with_reducible refine gate_dst (N := 60) rfl ?_); refine Kd.R_make (Kd.int .u8) _ 5 rfl (N := 60) rfl 36 _ _ rfl ((rd_T74 l0 0).f1) rfl rfl Tryd.underlying36 (.int .u8 0) 1 info5 rfl (by decide) (by omega) 0 (ok := fun _ => True) (okp := fun _ => True) rfl (fun _ hk => hk) trivial (of_decide_eq_true (by first | (with_reducible assumption) | assumption)) (Nat.le_trans (Nat.mul_le_mul_right _ (of_decide_eq_true (by first | (with_reducible assumption) | assumption) : ((rd_T74 l0 0).f1).toNat ≤ 281474976710656)) (by omega)) (Below.refl _ _) (Nat.le_refl _) ?_; intro v309 w47 ho48 hb hg_ hnew_; clear hg_ hnew_; (first | rw [← Ny308.out] at ho48 | (simp only [Int.reduceToNat] at ho48; rw [← Ny308.out] at ho48)); have n0_ := Aside0.mk (Kd.R_below (by (with_reducible repeat (first | apply Kd.R_alloc | apply Kd.R_drewN | apply Kd.R_drew)); exact (Kd.R_mono (Kd.R_far (p := ⟨gb303, 1, none⟩) (Kd.R_far (p := ⟨gb303, 0, none⟩) (Kd.R_types HO284.out BK303.out (by decide)) (fun _ hk => hk.2) (.slice Ao44 t296.length co44)) (fun _ hk => hk.2) (.slice Ao46 t299.length co46)) (fun _ h_ => h_.1))) hb); have n1_ := Aside0.mk (Kd.R_below (by (with_reducible repeat (first | apply Kd.R_alloc | apply Kd.R_drewN | apply Kd.R_drew)); exact (Kd.R_mono (Kd.R_far (p := ⟨gb303, 1, none⟩) (Kd.R_far (p := ⟨gb303, 0, none⟩) (Kd.R_types HO289.out BK303.out (by decide)) (fun _ hk => hk.2) (.slice Ao44 t296.length co44)) (fun _ hk => hk.2) (.slice Ao46 t299.length co46)) (fun _ h_ => h_.1))) hb); have n2_ := Aside0.mk (Kd.R_below (by (with_reducible repeat (first | apply Kd.R_alloc | apply Kd.R_drewN | apply Kd.R_drew)); exact (Kd.R_mono (Kd.R_far (p := ⟨gb303, 1, none⟩) (Kd.R_far (p := ⟨gb303, 0, none⟩) (Kd.R_types HO291.out BK303.out (by decide)) (fun _ hk => hk.2) (.slice Ao44 t296.length co44)) (fun _ hk => hk.2) (.slice Ao46 t299.length co46)) (fun _ h_ => h_.1))) hb); have n3_ := Aside0.mk (Kd.R_elder' (by (with_reducible repeat (first | apply Kd.R_alloc | apply Kd.R_drewN | apply Kd.R_drew)); exact (Kd.R_mono (Kd.R_far (p := ⟨gb303, 1, none⟩) (Kd.R_far (p := ⟨gb303, 0, none⟩) (Kd.R_types HO295.out BK303.out (by decide)) (fun _ hk => hk.2) (.slice Ao44 t296.length co44)) (fun _ hk => hk.2) (.slice Ao46 t299.length co46)) (fun _ h_ => h_.1))) (Kd.R_base ho48) hb); have n4_ := Aside0.mk (Kd.R_below (by (with_reducible repeat (first | apply Kd.R_alloc | apply Kd.R_drewN | apply Kd.R_drew)); exact (Kd.R_mono (Kd.R_far (p := ⟨gb303, 1, none⟩) (Kd.R_far (p := ⟨gb303, 0, none⟩) (Kd.R_types HO298.out BK303.out (by decide)) (fun _ hk => hk.2) (.slice Ao44 t296.length co44)) (fun _ hk => hk.2) (.slice Ao46 t299.length co46)) (fun _ h_ => h_.1))) hb); have n5_ := Aside0.mk (Kd.R_elder' (by (with_reducible repeat (first | apply Kd.R_alloc | apply Kd.R_drewN | apply Kd.R_drew)); exact (Kd.R_mono (Kd.R_far (p := ⟨gb303, 1, none⟩) (Kd.R_far (p := ⟨gb303, 0, none⟩) (Kd.R_types HO301.out BK303.out (by decide)) (fun _ hk => hk.2) (.slice Ao44 t296.length co44)) (fun _ hk => hk.2) (.slice Ao46 t299.length co46)) (fun _ h_ => h_.1))) (Kd.R_base ho48) hb); have n6_ := Aside0.mk (Kd.R_lower (Kd.R_new' (Kd.R_new' ho48 (Kd.R_lt (by (with_reducible repeat (first | apply Kd.R_alloc | apply Kd.R_drewN | apply Kd.R_drew)); exact (Kd.R_mono (Kd.R_far (p := ⟨gb303, 1, none⟩) (Kd.R_far (p := ⟨gb303, 0, none⟩) (Kd.R_types HO295.out BK303.out (by decide)) (fun _ hk => hk.2) (.slice Ao44 t296.length co44)) (fun _ hk => hk.2) (.slice Ao46 t299.length co46)) (fun _ h_ => h_.1))))) (Kd.R_lt (by (with_reducible repeat (first | apply Kd.R_alloc | apply Kd.R_drewN | apply Kd.R_drew)); exact (Kd.R_mono (Kd.R_far (p := ⟨gb303, 1, none⟩) (Kd.R_far (p := ⟨gb303, 0, none⟩) (Kd.R_types HO301.out BK303.out (by decide)) (fun _ hk => hk.2) (.slice Ao44 t296.length co44)) (fun _ hk => hk.2) (.slice Ao46 t299.length co46)) (fun _ h_ => h_.1))))) (below_size (by repeat (first | (with_reducible first | exact HB.out | apply below_alloc | apply pw_below_drewN | apply below_drew1 | refine below_set ?_ GE303.out) | exact HB.out)))); have n7_ := Aside0.mk (blk_below (g := gb303) (o := .cells #[.slice Ao44 t296.length co44, .slice Ao46 t299.length co46] 77 (0, 0)) (by (with_reducible repeat (first | refine blk_drewN ?_ _ | refine blk_drew ?_ | refine blk_alloc ?_ _)); refine blk_put (cs := #[.slice Ao44 t296.length co44, .slice none 0 0]) ?_ 1 _ rfl; (with_reducible repeat (first | refine blk_drewN ?_ _ | refine blk_drew ?_ | refine blk_alloc ?_ _)); refine blk_put (cs := #[.slice none 0 0, .slice none 0 0]) ?_ 0 _ rfl; exact PK BK303) hb); have n8_ := Aside0.mk (below_step (by repeat (first | (with_reducible first | exact HB.out | apply below_alloc | apply pw_below_drewN | apply below_drew1 | refine below_set ?_ GE303.out) | exact HB.out)) hb); clear HO284; clear HO289; clear HO291; clear HO295; clear HO298; clear HO301; clear BK303; clear HB; have HO284 := n0_; have HO289 := n1_; have HO291 := n2_; have HO295 := n3_; have HO298 := n4_; have HO301 := n5_; have HO310 := n6_; have BK303 := n7_; have HB := n8_; clear n0_ n1_ n2_ n3_ n4_ n5_ n6_ n7_ n8_; clear hb ho48; have hcz49_0 : w47.cell? ⟨gb303, 0, none⟩ = some (.slice Ao44 t296.length co44) := (blk_cell BK303.out 0).trans rfl; have hcz49_1 : w47.cell? ⟨gb303, 1, none⟩ = some (.slice Ao46 t299.length co46) := (blk_cell BK303.out 1).trans rfl; have hfz49_0 := blk_frozen BK303.out 0; have hfz49_1 := blk_frozen BK303.out 1; obtain ⟨Ao50, co50, eo50⟩ := Kd.R_slice HO310.out; subst eo50; have n_ := Aside0.mk (Kd.R_mono (ok' := (fun k_ => some k_ ≠ (.slice Ao40 y293.length co40 : Value).ownBlock ∧ some k_ ≠ (.slice Ao46 t299.length co46 : Value).ownBlock)) HO310.out (fun k_ hk => ⟨hk.1.2, hk.2⟩)); clear HO310; have HO310 := n_; clear n_) | ((with_reducible refine gate_builtin (b := .copy) (xs := #[.tmp 61, .tmp 63]) rfl ?_); refine R_copy_event (w0 := w) w.heap.size rfl (.tmp 61) (.tmp 63) 36 36 rfl 5 Tryd.underlying36 (by kernel_rfl) (.slice Ao50 y308.length co50) y308 Ao46 _ co46 t299 (fun k_ => some k_ ≠ (.slice Ao40 y293.length co40 : Value).ownBlock ∧ some k_ ≠ (.slice Ao46 t299.length co46 : Value).ownBlock) rfl rfl (PR HO310) ?cS (by repeat (first | (with_reducible first | exact HB.out | apply below_alloc | apply pw_below_drewN | apply below_drew1 | refine below_set ?_ GE303.out) | exact HB.out)) ?_; (case cS => repeat (first | exact (Kd.R_reads' HO301.out).2.2 | (with_reducible refine Kd.C_alloc ?_ _) | (with_reducible refine Kd.C_drewN ?_ _) | (with_reducible refine Kd.C_drew ?_))); intro w52 hp_ hb_ hg; rw [← Ny311.out] at hp_; have hw := True.intro; have n0_ := Aside0.mk (Kd.R_over' (v := (.slice Ao50 y308.length co50)) (PR HO284) (Kd.R_typed HO310.out) (by decide) hg); have n1_ := Aside0.mk (Kd.R_over' (v := (.slice Ao50 y308.length co50)) (PR HO289) (Kd.R_typed HO310.out) (by decide) hg); have n2_ := Aside0.mk (Kd.R_over' (v := (.slice Ao50 y308.length co50)) (PR HO291) (Kd.R_typed HO310.out) (by decide) hg); have n3_ := Aside0.mk (Kd.R_after (v := (.slice Ao50 y308.length co50)) (v1 := (.slice Ao50 y308.length co50)) (ok := (fun k_ => some k_ ≠ (.slice Ao46 t299.length co46 : Value).ownBlock)) (by (with_reducible repeat (first | apply Kd.R_alloc | apply Kd.R_drewN | apply Kd.R_drew)); exact Kd.R_mono HO295.out (fun _ hk => ⟨hk.1.2, hk.2⟩)) hg (.inl rfl)); have n4_ := Aside0.mk (Kd.R_over' (v := (.slice Ao50 y308.length co50)) (PR HO298) (Kd.R_typed HO310.out) (by decide) hg); have n5_ := Aside0.mk (Kd.R_after (v := (.slice Ao50 y308.length co50)) (v1 := (.slice Ao50 y308.length co50)) (ok := (fun k_ => some k_ ≠ (.slice Ao40 y293.length co40 : Value).ownBlock)) (by (with_reducible repeat (first | apply Kd.R_alloc | apply Kd.R_drewN | apply Kd.R_drew)); exact Kd.R_mono HO301.out (fun _ hk => ⟨hk.1.2, hk.2⟩)) hg (.inl rfl)); have n6_ := Aside0.mk (blk_grown (g := gb303) (o := .cells #[.slice Ao44 t296.length co44, .slice Ao46 t299.length co46] 77 (0, 0)) (PK BK303) hg (Kd.R_ne HO310.out BK303.out (by decide))); have n7_ := Aside0.mk (hp_); have n8_ := Aside0.mk (hb_); clear HO284; clear HO289; clear HO291; clear HO295; clear HO298; clear HO301; clear BK303; clear HO310; clear HB; have HO284 := n0_; have HO289 := n1_; have HO291 := n2_; have HO295 := n3_; have HO298 := n4_; have HO301 := n5_; have BK303 := n6_; have HO310 := n7_; have HB := n8_; clear n0_ n1_ n2_ n3_ n4_ n5_ n6_ n7_ n8_; clear hg hw hp_ hb_))
          go_ret2
          exact ⟨_, (.slice none 0 0), by first | rfl | (simp [errW_none, errW_some] <;> rfl) | (simp [*, errW_none, errW_some] <;> rfl), by (with_reducible repeat (first | apply Kd.R_alloc | apply Kd.R_drewN | apply Kd.R_drew)); exact Kd.R_mono HO310.out (fun _ hk => trivial), by first | exact Kd.R_nil _ _ _ _ _ | exact Kd.N_nil _ _ _ _ _ | exact Kd.V_nil _ _ _ _ _ | exact Kd.Q_nil _ _ _ _ _ | exact Kd.S_nil _ _ _ _ _, by repeat (first | (with_reducible first | exact HB.out | apply below_alloc | apply pw_below_drewN | apply below_drew1 | refine below_set ?_ GE303.out) | exact HB.out)⟩
        ·rw [if_neg c16] at H
         exact absurd H (by simp)
       ·rw [if_neg c15] at H
        exact absurd H (by simp)
      ·rw [if_neg c13] at H
       exact absurd H (by simp)
 ·rw [if_neg c3] at H
  exact absurd H (by simp)
end Go.Proofs.YtjmgkknbgffbjaaDoor.P
namespace Go.Proofs.YtjmgkknbgffbjaaDoor.P
open Go.RowKit Go.Proofs.YtjmgkknbgffbjaaDoorW.PrintWords Go.Proofs.YtjmgkknbgffbjaaDoorW.PrintLast Go.Proofs.YtjmgkknbgffbjaaDoorW.PrintErr Go.Proofs.YtjmgkknbgffbjaaDoorW.PrintMore
attribute [local go_sem] max2_int min2_int max_two min_two max_three min_three max_four min_four run_eql_errOf run_neq_errOf eqGuard_errOf run_eql_ptrOf run_neq_ptrOf eqGuard_ptrOf   -- for this text's walks alone
set_option linter.unusedVariables false
set_option linter.unusedSimpArgs false
def elim_System_Value.f (k : Nat) (l0 : List S74) (a1 : Int) : Option (List Int × List FE) := if l0.length = 0 then some ([], [⟨(⟨#[101, 108, 105, 109, 46, 86, 97, 108, 117, 101]⟩ : ByteArray), true, 7⟩]) else elimM_Value.f k l0 a1
theorem elim_System_Value.mono : ∀ a0 a1 k, LeO (elim_System_Value.f k a0 a1) (elim_System_Value.f (k + 1) a0 a1) := by
 intro a0 a1 k; unfold elim_System_Value.f; exact LeO.ite (LeO.refl _) (elimM_Value.mono a0 a1 k)
theorem elim_System_Value.calls (k : Nat) (A0 : Option Addr) (c0 : Nat) (l0 : List S74) (a1 : Int) (r1 : List Int) (r2 : List FE) (w : World) (ht : TabIn w) (hr0 : Kd.C k74 w A0 l0.length l0) (hc0 : l0.length ≤ c0) (h : elim_System_Value.f k l0 a1 = some (r1, r2)) :
  Calls Tryd.prog 13 #[ptrOf (.slice A0 l0.length c0), .int .i64 a1] w fun e w' => ∃ v0_ v1_ : Value, e = .returned (.tuple #[v0_, (errOf v1_)]) ∧ Kd.R (Kd.int .u8) 5 w' w.heap.size (fun _ => True) v0_ r1 ∧ Kd.R kF 95 w' w.heap.size (fun _ => True) v1_ r2 ∧ Below w.heap.size w w' := by
 unfold elim_System_Value.f at h
 by_cases hz : l0.length = 0
 ·rw [if_pos hz] at h
  obtain ⟨rfl, rfl⟩ := Prod.mk.inj (Option.some.inj h)
  rw [hz, ptrOf_zero]
  refine (elim_Value.nil w _).mono fun e w' hx => ?_
  obtain ⟨v1_, he, h1, hb⟩ := hx
  exact ⟨_, v1_, he, Kd.R_nil _ _ _ _ _, h1, hb⟩
 ·rw [if_neg hz] at h
  obtain ⟨_, _, hA⟩ := id hr0
  obtain ⟨ad, rfl, _⟩ := hA (Nat.pos_of_ne_zero hz)
  rw [ptrOf_pos _ _ _ hz]
  exact elimM_Value.calls k ad l0 a1 r1 r2 w ht hr0 h
end Go.Proofs.YtjmgkknbgffbjaaDoor.P
namespace Go.Proofs.YtjmgkknbgffbjaaDoor.P
open Go.RowKit Go.Proofs.YtjmgkknbgffbjaaDoorW.PrintWords Go.Proofs.YtjmgkknbgffbjaaDoorW.PrintLast Go.Proofs.YtjmgkknbgffbjaaDoorW.PrintErr Go.Proofs.YtjmgkknbgffbjaaDoorW.PrintMore
attribute [local go_sem] max2_int min2_int max_two min_two max_three min_three max_four min_four run_eql_errOf run_neq_errOf eqGuard_errOf   -- for this text's walks alone
set_option linter.unusedVariables false
set_option linter.unusedSimpArgs false
def elimM_Whole.f (l0 : List (S74)) : Option (Bool) := if 0 < (l0.length : Int) then (if (((rd_T74 l0 0).f2).length : Int) = ((rd_T74 l0 0).f0) then (some (!((rd_T74 l0 0).f4))) else (some false)) else (none)
set_option maxHeartbeats 8000000 in
set_option maxRecDepth 100000 in
theorem elimM_Whole.calls (ad900 : Addr) (l0 : List (S74)) (r : Bool) (w : World) (hr0 : Kd.C k74 w (some ad900) l0.length l0) (h : elimM_Whole.f l0 = some r) :
  Calls Tryd.prog 18 #[.pointer (some ad900)] w fun e w' => e = .returned (.bool r) ∧ Drawn0 w w' := by
 have HR0 := Aside0.mk hr0
 clear hr0
 have H : (if 0 < (l0.length : Int) then (if (((rd_T74 l0 0).f2).length : Int) = ((rd_T74 l0 0).f0) then (some (!((rd_T74 l0 0).f4))) else (some false)) else (none)) = some r := h
 clear h
 by_cases c2 : 0 < (l0.length : Int)
 ·rw [if_pos c2] at H
  have c2b0 : decide (0 < (l0.length : Int)) = true := decide_eq_true c2
  have c2b1 : decide (0 < l0.length) = true := decide_eq_true (by omega)
  clear c2
  by_cases c3 : (((rd_T74 l0 0).f2).length : Int) = ((rd_T74 l0 0).f0)
  ·rw [if_pos c3] at H
   have c3b0 : ((((rd_T74 l0 0).f2).length : Int) == ((rd_T74 l0 0).f0)) = true := beq_iff_eq.mpr c3
   have c3b1 : ((((rd_T74 l0 0).f2).length : Int) != ((rd_T74 l0 0).f0)) = false := bne_eq_false_iff_eq.mpr c3
   clear c3
   obtain rfl := Option.some.inj H
   have p313 : 0 ≤ (0 : Int) := (by omega)
   have q313 : 0 < (l0.length : Int) := of_decide_eq_true (by first | (with_reducible assumption) | assumption)
   obtain ⟨ad313, A313_2, c313_2, A313_3, c313_3, e313, hx313_0, hx313_1, hx313_2, hx313_3, hx313_4, hl313_2, hi313_2, hl313_3, hi313_3⟩ := at_T74 HR0.out 0 p313 q313
   obtain rfl : ad900 = ad313 := (by injection e313)
   have qi313 : (0 < l0.length) = True := eq_true (by omega)
   (try rw [show ((0 : Int)).toNat = 0 from rfl] at hx313_0)
   (try rw [show 0 * 5 = 0 from rfl] at hx313_0)
   (try rw [Addr.add_zero'] at hx313_0)
   (try rw [show ((0 : Int)).toNat = 0 from rfl] at hx313_1)
   (try rw [show 0 * 5 = 0 from rfl] at hx313_1)
   (try rw [Addr.add_zero'] at hx313_1)
   (try rw [show ((0 : Int)).toNat = 0 from rfl] at hx313_2)
   (try rw [show 0 * 5 = 0 from rfl] at hx313_2)
   (try rw [Addr.add_zero'] at hx313_2)
   (try rw [show ((0 : Int)).toNat = 0 from rfl] at hx313_3)
   (try rw [show 0 * 5 = 0 from rfl] at hx313_3)
   (try rw [Addr.add_zero'] at hx313_3)
   (try rw [show ((0 : Int)).toNat = 0 from rfl] at hx313_4)
   (try rw [show 0 * 5 = 0 from rfl] at hx313_4)
   (try rw [Addr.add_zero'] at hx313_4)
   have HR313_2 := Aside0.mk hi313_2
   have HC313_2 := Aside0.mk hl313_2
   clear hi313_2 hl313_2
   have HR313_3 := Aside0.mk hi313_3
   have HC313_3 := Aside0.mk hl313_3
   clear hi313_3 hl313_3
   replace p313 := eq_true p313
   replace q313 := eq_true q313
   have p314 : 0 ≤ (0 : Int) := (by omega)
   have q314 : 0 < (l0.length : Int) := of_decide_eq_true (by first | (with_reducible assumption) | assumption)
   obtain ⟨ad314, A314_2, c314_2, A314_3, c314_3, e314, hx314_0, hx314_1, hx314_2, hx314_3, hx314_4, hl314_2, hi314_2, hl314_3, hi314_3⟩ := at_T74 HR0.out 0 p314 q314
   obtain rfl : ad900 = ad314 := (by injection e314)
   have qi314 : (0 < l0.length) = True := eq_true (by omega)
   (try rw [show ((0 : Int)).toNat = 0 from rfl] at hx314_0)
   (try rw [show 0 * 5 = 0 from rfl] at hx314_0)
   (try rw [Addr.add_zero'] at hx314_0)
   (try rw [show ((0 : Int)).toNat = 0 from rfl] at hx314_1)
   (try rw [show 0 * 5 = 0 from rfl] at hx314_1)
   (try rw [Addr.add_zero'] at hx314_1)
   (try rw [show ((0 : Int)).toNat = 0 from rfl] at hx314_2)
   (try rw [show 0 * 5 = 0 from rfl] at hx314_2)
   (try rw [Addr.add_zero'] at hx314_2)
   (try rw [show ((0 : Int)).toNat = 0 from rfl] at hx314_3)
   (try rw [show 0 * 5 = 0 from rfl] at hx314_3)
   (try rw [Addr.add_zero'] at hx314_3)
   (try rw [show ((0 : Int)).toNat = 0 from rfl] at hx314_4)
   (try rw [show 0 * 5 = 0 from rfl] at hx314_4)
   (try rw [Addr.add_zero'] at hx314_4)
   have HR314_2 := Aside0.mk hi314_2
   have HC314_2 := Aside0.mk hl314_2
   clear hi314_2 hl314_2
   have HR314_3 := Aside0.mk hi314_3
   have HC314_3 := Aside0.mk hl314_3
   clear hi314_3 hl314_3
   replace p314 := eq_true p314
   replace q314 := eq_true q314
   have ea_ := Option.some.inj (hx313_2.symm.trans hx314_2)
   injection ea_ with ea_ en_ ec_
   subst ea_
   subst ec_
   clear en_
   have ea_ := Option.some.inj (hx313_3.symm.trans hx314_3)
   injection ea_ with ea_ en_ ec_
   subst ea_
   subst ec_
   clear en_
   have p315 : 0 ≤ (0 : Int) := (by omega)
   have q315 : 0 < (l0.length : Int) := of_decide_eq_true (by first | (with_reducible assumption) | assumption)
   obtain ⟨ad315, A315_2, c315_2, A315_3, c315_3, e315, hx315_0, hx315_1, hx315_2, hx315_3, hx315_4, hl315_2, hi315_2, hl315_3, hi315_3⟩ := at_T74 HR0.out 0 p315 q315
   obtain rfl : ad900 = ad315 := (by injection e315)
   have qi315 : (0 < l0.length) = True := eq_true (by omega)
   (try rw [show ((0 : Int)).toNat = 0 from rfl] at hx315_0)
   (try rw [show 0 * 5 = 0 from rfl] at hx315_0)
   (try rw [Addr.add_zero'] at hx315_0)
   (try rw [show ((0 : Int)).toNat = 0 from rfl] at hx315_1)
   (try rw [show 0 * 5 = 0 from rfl] at hx315_1)
   (try rw [Addr.add_zero'] at hx315_1)
   (try rw [show ((0 : Int)).toNat = 0 from rfl] at hx315_2)
   (try rw [show 0 * 5 = 0 from rfl] at hx315_2)
   (try rw [Addr.add_zero'] at hx315_2)
   (try rw [show ((0 : Int)).toNat = 0 from rfl] at hx315_3)
   (try rw [show 0 * 5 = 0 from rfl] at hx315_3)
   (try rw [Addr.add_zero'] at hx315_3)
   (try rw [show ((0 : Int)).toNat = 0 from rfl] at hx315_4)
   (try rw [show 0 * 5 = 0 from rfl] at hx315_4)
   (try rw [Addr.add_zero'] at hx315_4)
   have HR315_2 := Aside0.mk hi315_2
   have HC315_2 := Aside0.mk hl315_2
   clear hi315_2 hl315_2
   have HR315_3 := Aside0.mk hi315_3
   have HC315_3 := Aside0.mk hl315_3
   clear hi315_3 hl315_3
   replace p315 := eq_true p315
   replace q315 := eq_true q315
   have ea_ := Option.some.inj (hx313_2.symm.trans hx315_2)
   injection ea_ with ea_ en_ ec_
   subst ea_
   subst ec_
   clear en_
   have ea_ := Option.some.inj (hx313_3.symm.trans hx315_3)
   injection ea_ with ea_ en_ ec_
   subst ea_
   subst ec_
   clear en_
   go_enter Tryd.func18, Tryd.ntmps18
   go_wp2
   repeat (go_quiet (fail); try go_wp2)
   go_ret
   exact ⟨by first | rfl | (simp; done) | (simp [*]; done), by repeat (first | exact Drawn0.refl _ | apply Drawn0.step)⟩
  ·rw [if_neg c3] at H
   have c3b0 : ((((rd_T74 l0 0).f2).length : Int) == ((rd_T74 l0 0).f0)) = false := beq_eq_false_iff_ne.mpr c3
   have c3b1 : ((((rd_T74 l0 0).f2).length : Int) != ((rd_T74 l0 0).f0)) = true := bne_iff_ne.mpr c3
   obtain rfl := Option.some.inj H
   have p313 : 0 ≤ (0 : Int) := (by omega)
   have q313 : 0 < (l0.length : Int) := of_decide_eq_true (by first | (with_reducible assumption) | assumption)
   obtain ⟨ad313, A313_2, c313_2, A313_3, c313_3, e313, hx313_0, hx313_1, hx313_2, hx313_3, hx313_4, hl313_2, hi313_2, hl313_3, hi313_3⟩ := at_T74 HR0.out 0 p313 q313
   obtain rfl : ad900 = ad313 := (by injection e313)
   have qi313 : (0 < l0.length) = True := eq_true (by omega)
   (try rw [show ((0 : Int)).toNat = 0 from rfl] at hx313_0)
   (try rw [show 0 * 5 = 0 from rfl] at hx313_0)
   (try rw [Addr.add_zero'] at hx313_0)
   (try rw [show ((0 : Int)).toNat = 0 from rfl] at hx313_1)
   (try rw [show 0 * 5 = 0 from rfl] at hx313_1)
   (try rw [Addr.add_zero'] at hx313_1)
   (try rw [show ((0 : Int)).toNat = 0 from rfl] at hx313_2)
   (try rw [show 0 * 5 = 0 from rfl] at hx313_2)
   (try rw [Addr.add_zero'] at hx313_2)
   (try rw [show ((0 : Int)).toNat = 0 from rfl] at hx313_3)
   (try rw [show 0 * 5 = 0 from rfl] at hx313_3)
   (try rw [Addr.add_zero'] at hx313_3)
   (try rw [show ((0 : Int)).toNat = 0 from rfl] at hx313_4)
   (try rw [show 0 * 5 = 0 from rfl] at hx313_4)
   (try rw [Addr.add_zero'] at hx313_4)
   have HR313_2 := Aside0.mk hi313_2
   have HC313_2 := Aside0.mk hl313_2
   clear hi313_2 hl313_2
   have HR313_3 := Aside0.mk hi313_3
   have HC313_3 := Aside0.mk hl313_3
   clear hi313_3 hl313_3
   replace p313 := eq_true p313
   replace q313 := eq_true q313
   have p314 : 0 ≤ (0 : Int) := (by omega)
   have q314 : 0 < (l0.length : Int) := of_decide_eq_true (by first | (with_reducible assumption) | assumption)
   obtain ⟨ad314, A314_2, c314_2, A314_3, c314_3, e314, hx314_0, hx314_1, hx314_2, hx314_3, hx314_4, hl314_2, hi314_2, hl314_3, hi314_3⟩ := at_T74 HR0.out 0 p314 q314
   obtain rfl : ad900 = ad314 := (by injection e314)
   have qi314 : (0 < l0.length) = True := eq_true (by omega)
   (try rw [show ((0 : Int)).toNat = 0 from rfl] at hx314_0)
   (try rw [show 0 * 5 = 0 from rfl] at hx314_0)
   (try rw [Addr.add_zero'] at hx314_0)
   (try rw [show ((0 : Int)).toNat = 0 from rfl] at hx314_1)
   (try rw [show 0 * 5 = 0 from rfl] at hx314_1)
   (try rw [Addr.add_zero'] at hx314_1)
   (try rw [show ((0 : Int)).toNat = 0 from rfl] at hx314_2)
   (try rw [show 0 * 5 = 0 from rfl] at hx314_2)
   (try rw [Addr.add_zero'] at hx314_2)
   (try rw [show ((0 : Int)).toNat = 0 from rfl] at hx314_3)
   (try rw [show 0 * 5 = 0 from rfl] at hx314_3)
   (try rw [Addr.add_zero'] at hx314_3)
   (try rw [show ((0 : Int)).toNat = 0 from rfl] at hx314_4)
   (try rw [show 0 * 5 = 0 from rfl] at hx314_4)
   (try rw [Addr.add_zero'] at hx314_4)
   have HR314_2 := Aside0.mk hi314_2
   have HC314_2 := Aside0.mk hl314_2
   clear hi314_2 hl314_2
   have HR314_3 := Aside0.mk hi314_3
   have HC314_3 := Aside0.mk hl314_3
   clear hi314_3 hl314_3
   replace p314 := eq_true p314
   replace q314 := eq_true q314
   have ea_ := Option.some.inj (hx313_2.symm.trans hx314_2)
   injection ea_ with ea_ en_ ec_
   subst ea_
   subst ec_
   clear en_
   have ea_ := Option.some.inj (hx313_3.symm.trans hx314_3)
   injection ea_ with ea_ en_ ec_
   subst ea_
   subst ec_
   clear en_
   go_enter Tryd.func18, Tryd.ntmps18
   go_wp2
   repeat (go_quiet (fail); try go_wp2)
   go_ret
   exact ⟨by first | rfl | (simp; done) | (simp [*]; done), by repeat (first | exact Drawn0.refl _ | apply Drawn0.step)⟩
 ·rw [if_neg c2] at H
  exact absurd H (by simp)
end Go.Proofs.YtjmgkknbgffbjaaDoor.P
namespace Go.Proofs.YtjmgkknbgffbjaaDoor.P
open Go.RowKit Go.Proofs.YtjmgkknbgffbjaaDoorW.PrintWords Go.Proofs.YtjmgkknbgffbjaaDoorW.PrintLast Go.Proofs.YtjmgkknbgffbjaaDoorW.PrintErr Go.Proofs.YtjmgkknbgffbjaaDoorW.PrintMore
attribute [local go_sem] max2_int min2_int max_two min_two max_three min_three max_four min_four run_eql_errOf run_neq_errOf eqGuard_errOf run_eql_ptrOf run_neq_ptrOf eqGuard_ptrOf   -- for this text's walks alone
set_option linter.unusedVariables false
set_option linter.unusedSimpArgs false
def elim_System_Whole.f (l0 : List S74) : Option Bool := if l0.length = 0 then some false else elimM_Whole.f l0
theorem elim_System_Whole.calls (A0 : Option Addr) (c0 : Nat) (l0 : List S74) (r : Bool) (w : World) (hr0 : Kd.C k74 w A0 l0.length l0) (hc0 : l0.length ≤ c0) (h : elim_System_Whole.f l0 = some r) :
  Calls Tryd.prog 18 #[ptrOf (.slice A0 l0.length c0)] w fun e w' => e = .returned (.bool r) ∧ Below w.heap.size w w' := by
 unfold elim_System_Whole.f at h
 by_cases hz : l0.length = 0
 ·rw [if_pos hz] at h
  obtain rfl := Option.some.inj h
  rw [hz, ptrOf_zero]
  exact elim_Whole.nil w
 ·rw [if_neg hz] at h
  obtain ⟨_, _, hA⟩ := id hr0
  obtain ⟨ad, rfl, _⟩ := hA (Nat.pos_of_ne_zero hz)
  rw [ptrOf_pos _ _ _ hz]
  refine (elimM_Whole.calls ad l0 r w hr0 h).mono fun e w' hx => ?_
  obtain ⟨m, rfl⟩ := hx.2.out
  exact ⟨hx.1, pw_below_drewN (Below.refl _ _) m⟩
def geyserlaw05_awake.j0 : Nat → List (S74) → Bool → Option (Bool)
 | 0, _, _ => none
 | k + 1, x1, x18 => if x18 = true then (some false) else ((elim_System_Add.f k x1 (([3] : List Int)) (([3] : List Int))).bind fun bt259 => ((elim_System_Add.f k bt259.2.2 (([1] : List Int)) (([1] : List Int))).bind fun bt270 => ((elim_System_Value.f k bt270.2.2 1).bind fun bt275 => (if (bt259.2.1.length : Int) = 0 then (if (bt270.2.1.length : Int) = 0 then (if (bt275.2.length : Int) = 0 then (if bt259.1 = 1 then (if bt270.1 = 1 then (if (strOfNums bt275.1).toList = ([2] : List UInt8) then ((elim_System_Whole.f bt270.2.2).bind fun t281 => (some t281)) else (some false)) else (some false)) else (some false)) else (some false)) else (some false)) else (some false)))))
def geyserlaw05_awake.f (k : Nat)  : Option (Bool) := (elim_New.f 2 1).bind fun bt247 => (if (bt247.2.length : Int) = 0 then (geyserlaw05_awake.j0 k bt247.1 ((bt247.1.length : Int) == 0)) else (geyserlaw05_awake.j0 k bt247.1 true))
theorem geyserlaw05_awake.mono_l : ∀ k, (∀ y0 y1, LeO (geyserlaw05_awake.j0 k y0 y1) (geyserlaw05_awake.j0 (k + 1) y0 y1))
 | 0 => fun _ _ r h => by simp [geyserlaw05_awake.j0] at h
 | k + 1 => by
  have ih0 := geyserlaw05_awake.mono_l k
  ·intro y0 y1
   unfold geyserlaw05_awake.j0
   repeat' first
   | (with_reducible exact ih0 _ _)
   | (with_reducible exact elim_System_Add.mono _ _ _ _)
   | (with_reducible exact elim_System_Value.mono _ _ _)
   | (with_reducible exact LeO.refl _)
   | (with_reducible exact LeO.none _)
   | (with_reducible refine LeO.ite ?_ ?_)
   | (with_reducible refine LeO.bind ?_ (fun _ => ?_))
   | exact ih0 _ _
   | exact elim_System_Add.mono _ _ _ _
   | exact elim_System_Value.mono _ _ _
   | exact LeO.none _
   | refine LeO.ite ?_ ?_
   | refine LeO.bind ?_ (fun _ => ?_)
theorem geyserlaw05_awake.mono : ∀ k, LeO (geyserlaw05_awake.f k ) (geyserlaw05_awake.f (k + 1) ) := by
 intro  k
 have ih0 := geyserlaw05_awake.mono_l k
 unfold geyserlaw05_awake.f
 repeat' first
   | (with_reducible exact ih0 _ _)
   | (with_reducible exact elim_System_Add.mono _ _ _ _)
   | (with_reducible exact elim_System_Value.mono _ _ _)
   | (with_reducible exact LeO.refl _)
   | (with_reducible exact LeO.none _)
   | (with_reducible refine LeO.ite ?_ ?_)
   | (with_reducible refine LeO.bind ?_ (fun _ => ?_))
   | exact ih0 _ _
   | exact elim_System_Add.mono _ _ _ _
   | exact elim_System_Value.mono _ _ _
   | exact LeO.none _
   | refine LeO.ite ?_ ?_
   | refine LeO.bind ?_ (fun _ => ?_)
set_option maxHeartbeats 8000000 in
set_option maxRecDepth 100000 in
theorem geyserlaw05_awake.calls (k : Nat)  (r : Bool) (w : World) (ht : TabIn w) (h : geyserlaw05_awake.f k  = some r) :
  Calls Tryd.prog 15 #[] w fun e w' => e = .returned (.bool r) ∧ Below w.heap.size w w' := by
 have HB := Aside0.mk (Below.refl w.heap.size w)
 have HT := Aside0.mk ht
 clear ht
 have H : ((elim_New.f 2 1).bind fun bt247 => (if (bt247.2.length : Int) = 0 then (geyserlaw05_awake.j0 k bt247.1 ((bt247.1.length : Int) == 0)) else (geyserlaw05_awake.j0 k bt247.1 true))) = some r := h
 clear h
 replace H := Option.bind_eq_some_iff.mp H
 obtain ⟨⟨t247, t248⟩, A10, H⟩ := H
 replace H : (if (t248.length : Int) = 0 then (geyserlaw05_awake.j0 k t247 ((t247.length : Int) == 0)) else (geyserlaw05_awake.j0 k t247 true)) = some r := H
 have A1 := Aside0.mk A10
 clear A10
 have HC2 := Aside0.mk H
 clear H
 go_enter Tryd.func15, Tryd.ntmps15
 go_upto_region 2 with (first | ((with_reducible refine gate_callee (f := 10) rfl ?_); refine goesL_ (some 10) rfl rfl Tryd.func10 (by kernel_rfl) rfl #[.int .i64 2, .int .i64 1] rfl (by (try simp only [List.map_toArray, List.map_cons, List.map_nil]); first | done | rfl | (simp only [List.length_drop, List.length_take]; rfl)) ?_; (with_reducible refine (elim_New.calls 2 1 t247 t248 _ A1.out).mono ?_); rintro e w3 ⟨v249, v251, rfl, ho0, ho1, hb⟩; refine ⟨_, rfl, ?_⟩; have n0_ := Aside0.mk (Kd.R_lower ho0 (below_size (PB HB))); have n1_ := Aside0.mk (Kd.R_lower ho1 (below_size (PB HB))); have n2_ := Aside0.mk (below_step (PB HB) hb); clear HB; have HO250 := n0_; have HO252 := n1_; have HB := n2_; clear n0_ n1_ n2_; (try clear hb); (try clear hb2); (try clear hk); (try clear hi); (try clear ho0); (try clear ho1)))
 (try simp only [Act.put, List.setIfInBounds_toArray, List.set_cons_zero, List.set_cons_succ])
 go_cut [18] (fun v18 wc => ∃ (kq : Nat) (x18_1 : Bool), v18 = .bool x18_1 ∧ Aside0 (geyserlaw05_awake.j0 kq t247 x18_1 = some r) ∧ Aside0 (kq ≤ k) ∧ Aside0 (Kd.R k74 74 wc w.heap.size (fun _ => True) v249 t247) ∧ Aside0 (Below w.heap.size w wc))
 case first =>
  have H := HC2.out
  clear HC2
  by_cases c4 : (t248.length : Int) = 0
  ·rw [if_pos c4] at H
   have c4b0 : ((t248.length : Int) == 0) = true := beq_iff_eq.mpr c4
   have c4b1 : ((t248.length : Int) != 0) = false := bne_eq_false_iff_eq.mpr c4
   clear c4
   (first | rw [c4b0] | rw [c4b1] | (simp only [i64_w, i32_w]; rw [c4b0]) | skip)
   have H' := Aside0.mk H
   clear H
   obtain ⟨Ao5, co5, eo5⟩ := Kd.R_slice HO252.out
   subst eo5
   obtain ⟨Ao6, co6, eo6⟩ := Kd.R_slice HO250.out
   subst eo6
   go_wp2
   go_meet
   case rel => exact ⟨_, (((t247.length : Int) == 0)), (by first | rfl | (simp; done) | (simp [*]; done)), H', ⟨by first | omega | exact Nat.le_refl _⟩, ⟨PR HO250⟩, ⟨PB HB⟩⟩
  ·rw [if_neg c4] at H
   have c4b0 : ((t248.length : Int) == 0) = false := beq_eq_false_iff_ne.mpr c4
   have c4b1 : ((t248.length : Int) != 0) = true := bne_iff_ne.mpr c4
   have c4b2 : ¬ (t248 = []) := fun h_ => c4 (by rw [h_]; rfl)
   (first | rw [c4b0] | rw [c4b1] | (simp only [i64_w, i32_w]; rw [c4b0]) | skip)
   have H' := Aside0.mk H
   clear H
   obtain ⟨Ao7, co7, eo7⟩ := Kd.R_slice HO252.out
   subst eo7
   go_wp2
   go_meet
   case rel => exact ⟨_, (true), (by first | rfl | (simp; done) | (simp [*]; done)), H', ⟨by first | omega | exact Nat.le_refl _⟩, ⟨PR HO250⟩, ⟨PB HB⟩⟩
 case rest =>
  clear HC2
  try clear c1
  try clear p2
  try clear c4
  try clear c4b0
  try clear c4b1
  try clear c4b2
  obtain ⟨kq, x18_1, rfl, HA, HJ1, HO_1, HB⟩ := hcut
  cases kq with
  | zero => exact absurd HA.out (by simp [geyserlaw05_awake.j0])
  | succ kj1 =>
   have H := HA.out
   clear HA
   simp only [geyserlaw05_awake.j0] at H
   by_cases c8 : x18_1 = true
   ·subst c8
    have H1 : (some false) = some r := by rw [if_pos rfl] at H; exact H
    clear H
    have H := H1
    clear H1
    obtain rfl := Option.some.inj H
    go_wp2
    go_ret
    exact ⟨by first | rfl | (simp [errW_none, errW_some] <;> rfl) | (simp [*, errW_none, errW_some] <;> rfl), PB HB⟩
   ·replace c8 := Bool.eq_false_iff.mpr c8
    subst c8
    have H1 : ((elim_System_Add.f kj1 t247 (([3] : List Int)) (([3] : List Int))).bind fun bt259 => ((elim_System_Add.f kj1 bt259.2.2 (([1] : List Int)) (([1] : List Int))).bind fun bt270 => ((elim_System_Value.f kj1 bt270.2.2 1).bind fun bt275 => (if (bt259.2.1.length : Int) = 0 then (if (bt270.2.1.length : Int) = 0 then (if (bt275.2.length : Int) = 0 then (if bt259.1 = 1 then (if bt270.1 = 1 then (if (strOfNums bt275.1).toList = ([2] : List UInt8) then ((elim_System_Whole.f bt270.2.2).bind fun t281 => (some t281)) else (some false)) else (some false)) else (some false)) else (some false)) else (some false)) else (some false))))) = some r := by rw [if_neg (show ¬ (false = true) by decide)] at H; exact H
    clear H
    have H := H1
    clear H1
    obtain ⟨y253, hy253⟩ : ∃ y_ : List Int, y_ = (([3] : List Int)) := ⟨_, rfl⟩
    replace H : ((elim_System_Add.f kj1 t247 y253 (([3] : List Int))).bind fun bt259 => ((elim_System_Add.f kj1 bt259.2.2 (([1] : List Int)) (([1] : List Int))).bind fun bt270 => ((elim_System_Value.f kj1 bt270.2.2 1).bind fun bt275 => (if (bt259.2.1.length : Int) = 0 then (if (bt270.2.1.length : Int) = 0 then (if (bt275.2.length : Int) = 0 then (if bt259.1 = 1 then (if bt270.1 = 1 then (if (strOfNums bt275.1).toList = ([2] : List UInt8) then ((elim_System_Whole.f bt270.2.2).bind fun t281 => (some t281)) else (some false)) else (some false)) else (some false)) else (some false)) else (some false)) else (some false))))) = some r := by first | (rw [hy253]; with_reducible exact H) | (have H2_ := (Option.bind_some _ _).symm.trans H; rw [hy253]; with_reducible exact H2_) | (have H2_ := (Option.bind_some _ _).symm.trans H; with_reducible exact H2_) | with_reducible exact H | (rw [hy253]; exact H) | exact H
    have Ny253 := Aside0.mk hy253
    clear hy253
    obtain ⟨y256, hy256⟩ : ∃ y_ : List Int, y_ = (([3] : List Int)) := ⟨_, rfl⟩
    replace H : ((elim_System_Add.f kj1 t247 y253 y256).bind fun bt259 => ((elim_System_Add.f kj1 bt259.2.2 (([1] : List Int)) (([1] : List Int))).bind fun bt270 => ((elim_System_Value.f kj1 bt270.2.2 1).bind fun bt275 => (if (bt259.2.1.length : Int) = 0 then (if (bt270.2.1.length : Int) = 0 then (if (bt275.2.length : Int) = 0 then (if bt259.1 = 1 then (if bt270.1 = 1 then (if (strOfNums bt275.1).toList = ([2] : List UInt8) then ((elim_System_Whole.f bt270.2.2).bind fun t281 => (some t281)) else (some false)) else (some false)) else (some false)) else (some false)) else (some false)) else (some false))))) = some r := by first | (rw [hy256]; with_reducible exact H) | (have H2_ := (Option.bind_some _ _).symm.trans H; rw [hy256]; with_reducible exact H2_) | (have H2_ := (Option.bind_some _ _).symm.trans H; with_reducible exact H2_) | with_reducible exact H | (rw [hy256]; exact H) | exact H
    have Ny256 := Aside0.mk hy256
    clear hy256
    replace H := Option.bind_eq_some_iff.mp H
    obtain ⟨⟨t259, t260, t263⟩, A90, H⟩ := H
    replace H : ((elim_System_Add.f kj1 t263 (([1] : List Int)) (([1] : List Int))).bind fun bt270 => ((elim_System_Value.f kj1 bt270.2.2 1).bind fun bt275 => (if (t260.length : Int) = 0 then (if (bt270.2.1.length : Int) = 0 then (if (bt275.2.length : Int) = 0 then (if t259 = 1 then (if bt270.1 = 1 then (if (strOfNums bt275.1).toList = ([2] : List UInt8) then ((elim_System_Whole.f bt270.2.2).bind fun t281 => (some t281)) else (some false)) else (some false)) else (some false)) else (some false)) else (some false)) else (some false)))) = some r := H
    have A9 := Aside0.mk A90
    clear A90
    obtain ⟨y264, hy264⟩ : ∃ y_ : List Int, y_ = (([1] : List Int)) := ⟨_, rfl⟩
    replace H : ((elim_System_Add.f kj1 t263 y264 (([1] : List Int))).bind fun bt270 => ((elim_System_Value.f kj1 bt270.2.2 1).bind fun bt275 => (if (t260.length : Int) = 0 then (if (bt270.2.1.length : Int) = 0 then (if (bt275.2.length : Int) = 0 then (if t259 = 1 then (if bt270.1 = 1 then (if (strOfNums bt275.1).toList = ([2] : List UInt8) then ((elim_System_Whole.f bt270.2.2).bind fun t281 => (some t281)) else (some false)) else (some false)) else (some false)) else (some false)) else (some false)) else (some false)))) = some r := by first | (rw [hy264]; with_reducible exact H) | (have H2_ := (Option.bind_some _ _).symm.trans H; rw [hy264]; with_reducible exact H2_) | (have H2_ := (Option.bind_some _ _).symm.trans H; with_reducible exact H2_) | with_reducible exact H | (rw [hy264]; exact H) | exact H
    have Ny264 := Aside0.mk hy264
    clear hy264
    obtain ⟨y267, hy267⟩ : ∃ y_ : List Int, y_ = (([1] : List Int)) := ⟨_, rfl⟩
    replace H : ((elim_System_Add.f kj1 t263 y264 y267).bind fun bt270 => ((elim_System_Value.f kj1 bt270.2.2 1).bind fun bt275 => (if (t260.length : Int) = 0 then (if (bt270.2.1.length : Int) = 0 then (if (bt275.2.length : Int) = 0 then (if t259 = 1 then (if bt270.1 = 1 then (if (strOfNums bt275.1).toList = ([2] : List UInt8) then ((elim_System_Whole.f bt270.2.2).bind fun t281 => (some t281)) else (some false)) else (some false)) else (some false)) else (some false)) else (some false)) else (some false)))) = some r := by first | (rw [hy267]; with_reducible exact H) | (have H2_ := (Option.bind_some _ _).symm.trans H; rw [hy267]; with_reducible exact H2_) | (have H2_ := (Option.bind_some _ _).symm.trans H; with_reducible exact H2_) | with_reducible exact H | (rw [hy267]; exact H) | exact H
    have Ny267 := Aside0.mk hy267
    clear hy267
    replace H := Option.bind_eq_some_iff.mp H
    obtain ⟨⟨t270, t271, t274⟩, A100, H⟩ := H
    replace H : ((elim_System_Value.f kj1 t274 1).bind fun bt275 => (if (t260.length : Int) = 0 then (if (t271.length : Int) = 0 then (if (bt275.2.length : Int) = 0 then (if t259 = 1 then (if t270 = 1 then (if (strOfNums bt275.1).toList = ([2] : List UInt8) then ((elim_System_Whole.f t274).bind fun t281 => (some t281)) else (some false)) else (some false)) else (some false)) else (some false)) else (some false)) else (some false))) = some r := H
    have A10 := Aside0.mk A100
    clear A100
    replace H := Option.bind_eq_some_iff.mp H
    obtain ⟨⟨t275, t276⟩, A110, H⟩ := H
    replace H : (if (t260.length : Int) = 0 then (if (t271.length : Int) = 0 then (if (t276.length : Int) = 0 then (if t259 = 1 then (if t270 = 1 then (if (strOfNums t275).toList = ([2] : List UInt8) then ((elim_System_Whole.f t274).bind fun t281 => (some t281)) else (some false)) else (some false)) else (some false)) else (some false)) else (some false)) else (some false)) = some r := H
    have A11 := Aside0.mk A110
    clear A110
    by_cases c12 : (t260.length : Int) = 0
    ·rw [if_pos c12] at H
     have c12b0 : ((t260.length : Int) == 0) = true := beq_iff_eq.mpr c12
     have c12b1 : ((t260.length : Int) != 0) = false := bne_eq_false_iff_eq.mpr c12
     clear c12
     by_cases c13 : (t271.length : Int) = 0
     ·rw [if_pos c13] at H
      have c13b0 : ((t271.length : Int) == 0) = true := beq_iff_eq.mpr c13
      have c13b1 : ((t271.length : Int) != 0) = false := bne_eq_false_iff_eq.mpr c13
      clear c13
      by_cases c14 : (t276.length : Int) = 0
      ·rw [if_pos c14] at H
       have c14b0 : ((t276.length : Int) == 0) = true := beq_iff_eq.mpr c14
       have c14b1 : ((t276.length : Int) != 0) = false := bne_eq_false_iff_eq.mpr c14
       clear c14
       by_cases c15 : t259 = 1
       ·rw [if_pos c15] at H
        have c15b0 : (t259 == 1) = true := beq_iff_eq.mpr c15
        have c15b1 : (t259 != 1) = false := bne_eq_false_iff_eq.mpr c15
        clear c15
        by_cases c16 : t270 = 1
        ·rw [if_pos c16] at H
         have c16b0 : (t270 == 1) = true := beq_iff_eq.mpr c16
         have c16b1 : (t270 != 1) = false := bne_eq_false_iff_eq.mpr c16
         clear c16
         by_cases c17 : (strOfNums t275).toList = ([2] : List UInt8)
         ·rw [if_pos c17] at H
          have c17b0 : ((strOfNums t275).toList == ([2] : List UInt8)) = true := beq_iff_eq.mpr c17
          have c17b1 : ((strOfNums t275).toList != ([2] : List UInt8)) = false := bne_eq_false_iff_eq.mpr c17
          clear c17
          replace H := Option.bind_eq_some_iff.mp H
          obtain ⟨t281, A180, H⟩ := H
          replace H : (some t281) = some r := H
          have A18 := Aside0.mk A180
          clear A180
          obtain rfl := Option.some.inj H
          go_wp2_with (first | ((with_reducible refine gate_dst (N := 21) rfl ?_); refine Kd.R_lit (Kd.int .u64) _ 35 ?hg (N := 21) ?hd (xs := ([3] : List Int)) (inner := [.int .u64 3]) (ok := fun _ => True) (okp := fun _ => True) ?hr ?hp (fun _ hk => hk) trivial (Below.refl _ _) (Nat.le_refl _) (by simp) ?_; (case hd => rfl); (case hg => rfl); (case hr => first | (go_simp; done) | (go_simp; rfl)); (case hp => exact (Reps.one (show Kd.M (Kd.int .u64) _ _ _ 3 [.int .u64 3] from rfl) (Reps.none _ _))); intro v254 w19 ho20 hb hg_ hnew_; clear hg_ hnew_; (first | rw [← Ny253.out] at ho20 | (simp only [Int.reduceToNat] at ho20; rw [← Ny253.out] at ho20)); have n0_ := Aside0.mk (Kd.R_elder' (PR HO_1) (Kd.R_base ho20) hb); have n1_ := Aside0.mk (Kd.R_lower ho20 (below_size (PB HB))); have n2_ := Aside0.mk (below_step (PB HB) hb); clear HO_1; clear HB; have HO_1 := n0_; have HO255 := n1_; have HB := n2_; clear n0_ n1_ n2_; clear hb ho20) | ((with_reducible refine gate_dst (N := 22) rfl ?_); refine Kd.R_lit (Kd.int .u8) _ 5 ?hg (N := 22) ?hd (xs := ([3] : List Int)) (inner := [.int .u8 3]) (ok := fun _ => True) (okp := fun _ => True) ?hr ?hp (fun _ hk => hk) trivial (Below.refl _ _) (Nat.le_refl _) (by simp) ?_; (case hd => rfl); (case hg => rfl); (case hr => first | (go_simp; done) | (go_simp; rfl)); (case hp => exact (Reps.one (show Kd.M (Kd.int .u8) _ _ _ 3 [.int .u8 3] from rfl) (Reps.none _ _))); intro v257 w21 ho22 hb hg_ hnew_; clear hg_ hnew_; (first | rw [← Ny256.out] at ho22 | (simp only [Int.reduceToNat] at ho22; rw [← Ny256.out] at ho22)); have n0_ := Aside0.mk (Kd.R_elder' (PR HO_1) (Kd.R_base ho22) hb); have n1_ := Aside0.mk (Kd.R_below (PR HO255) hb); have n2_ := Aside0.mk (Kd.R_lower ho22 (below_size (PB HB))); have n3_ := Aside0.mk (below_step (PB HB) hb); clear HO_1; clear HO255; clear HB; have HO_1 := n0_; have HO255 := n1_; have HO258 := n2_; have HB := n3_; clear n0_ n1_ n2_ n3_; clear hb ho22; obtain ⟨Ao23, co23, eo23⟩ := Kd.R_slice HO_1.out; subst eo23; obtain ⟨Ao24, co24, eo24⟩ := Kd.R_slice HO255.out; subst eo24; obtain ⟨Ao25, co25, eo25⟩ := Kd.R_slice HO258.out; subst eo25) | ((with_reducible refine gate_callee (f := 11) rfl ?_); refine goesL_ (some 23) rfl rfl Tryd.func11 (by kernel_rfl) rfl #[ptrOf (.slice Ao23 t247.length co23), .slice Ao24 y253.length co24, .slice Ao25 y256.length co25] rfl (by (try simp only [List.map_toArray, List.map_cons, List.map_nil]); first | done | rfl | (simp only [List.length_drop, List.length_take]; rfl)) ?_; (with_reducible refine (elim_System_Add.calls kj1 (fun k_ => ((True ∧ some k_ ≠ (.slice Ao24 y253.length co24 : Value).ownBlock) ∧ some k_ ≠ (.slice Ao25 y256.length co25 : Value).ownBlock)) (.slice Ao23 t247.length co23) t247 _ _ y253 _ _ y256 t259 t260 t263 w _ ?side1 ?side2 ?side3 ?side4 ?side5 ?side6 ?side7 A9.out).mono ?_); (case side1 => first | exact HT.out | exact TabIn.below HT.out (PB HB) | (repeat (first | apply TabIn.drewN | apply TabIn.drew | exact HT.out))); (case side2 => exact PB HB); (case side3 => exact PR HO_1); (case side4 => repeat (first | exact (Kd.R_reads' HO255.out).2.2 | (with_reducible refine Kd.C_alloc ?_ _) | (with_reducible refine Kd.C_drewN ?_ _) | (with_reducible refine Kd.C_drew ?_))); (case side5 => exact (Kd.R_reads' HO255.out).2.1); (case side6 => repeat (first | exact (Kd.R_reads' HO258.out).2.2 | (with_reducible refine Kd.C_alloc ?_ _) | (with_reducible refine Kd.C_drewN ?_ _) | (with_reducible refine Kd.C_drew ?_))); (case side7 => exact (Kd.R_reads' HO258.out).2.1); rintro e w26 ⟨v261, rfl, ho0, hy0, hb, hkp⟩; refine ⟨_, rfl, ?_⟩; have n0_ := Aside0.mk (Kd.R_mono (ok' := fun k_ => ((True ∧ some k_ ≠ (.slice Ao24 y253.length co24 : Value).ownBlock) ∧ some k_ ≠ (.slice Ao25 y256.length co25 : Value).ownBlock)) hy0 (fun k_ hk_ => Or.elim hk_ (fun hs_ => hs_) (fun hn_ => ⟨⟨trivial, (Kd.fresh' (Kd.R_lt (PR HO255)) k_ hn_)⟩, (Kd.fresh' (Kd.R_lt (PR HO258)) k_ hn_)⟩))); have n1_ := Aside0.mk (Kd.R_skept (PR HO255) hkp (by decide)); have n2_ := Aside0.mk (Kd.R_skept (PR HO258) hkp (by decide)); have n3_ := Aside0.mk (Kd.R_lower ho0 (below_size (PB HB))); have n4_ := Aside0.mk (hb); clear HO_1; clear HO255; clear HO258; clear HB; have HO_1 := n0_; have HO255 := n1_; have HO258 := n2_; have HO262 := n3_; have HB := n4_; clear n0_ n1_ n2_ n3_ n4_; (try clear hb); (try clear hkp); (try clear hy0); (try clear ho0)) | ((with_reducible refine gate_dst (N := 28) rfl ?_); refine Kd.R_lit (Kd.int .u64) _ 35 ?hg (N := 28) ?hd (xs := ([1] : List Int)) (inner := [.int .u64 1]) (ok := fun _ => True) (okp := fun _ => True) ?hr ?hp (fun _ hk => hk) trivial (Below.refl _ _) (Nat.le_refl _) (by simp) ?_; (case hd => rfl); (case hg => rfl); (case hr => first | (go_simp; done) | (go_simp; rfl)); (case hp => exact (Reps.one (show Kd.M (Kd.int .u64) _ _ _ 1 [.int .u64 1] from rfl) (Reps.none _ _))); intro v265 w27 ho28 hb hg_ hnew_; clear hg_ hnew_; (first | rw [← Ny264.out] at ho28 | (simp only [Int.reduceToNat] at ho28; rw [← Ny264.out] at ho28)); have n0_ := Aside0.mk (Kd.R_elder' (PR HO_1) (Kd.R_base ho28) hb); have n1_ := Aside0.mk (Kd.R_elder' (PR HO255) (Kd.R_base ho28) hb); have n2_ := Aside0.mk (Kd.R_below (PR HO258) hb); have n3_ := Aside0.mk (Kd.R_below (PR HO262) hb); have n4_ := Aside0.mk (Kd.R_lower (Kd.R_new' ho28 (Kd.R_lt (PR HO255))) (below_size (PB HB))); have n5_ := Aside0.mk (below_step (PB HB) hb); clear HO_1; clear HO255; clear HO258; clear HO262; clear HB; have HO_1 := n0_; have HO255 := n1_; have HO258 := n2_; have HO262 := n3_; have HO266 := n4_; have HB := n5_; clear n0_ n1_ n2_ n3_ n4_ n5_; clear hb ho28) | ((with_reducible refine gate_dst (N := 29) rfl ?_); refine Kd.R_lit (Kd.int .u8) _ 5 ?hg (N := 29) ?hd (xs := ([1] : List Int)) (inner := [.int .u8 1]) (ok := fun _ => True) (okp := fun _ => True) ?hr ?hp (fun _ hk => hk) trivial (Below.refl _ _) (Nat.le_refl _) (by simp) ?_; (case hd => rfl); (case hg => rfl); (case hr => first | (go_simp; done) | (go_simp; rfl)); (case hp => exact (Reps.one (show Kd.M (Kd.int .u8) _ _ _ 1 [.int .u8 1] from rfl) (Reps.none _ _))); intro v268 w29 ho30 hb hg_ hnew_; clear hg_ hnew_; (first | rw [← Ny267.out] at ho30 | (simp only [Int.reduceToNat] at ho30; rw [← Ny267.out] at ho30)); have n0_ := Aside0.mk (Kd.R_elder' (PR HO_1) (Kd.R_base ho30) hb); have n1_ := Aside0.mk (Kd.R_below (PR HO255) hb); have n2_ := Aside0.mk (Kd.R_elder' (PR HO258) (Kd.R_base ho30) hb); have n3_ := Aside0.mk (Kd.R_below (PR HO262) hb); have n4_ := Aside0.mk (Kd.R_below (PR HO266) hb); have n5_ := Aside0.mk (Kd.R_lower (Kd.R_new' ho30 (Kd.R_lt (PR HO258))) (below_size (PB HB))); have n6_ := Aside0.mk (below_step (PB HB) hb); clear HO_1; clear HO255; clear HO258; clear HO262; clear HO266; clear HB; have HO_1 := n0_; have HO255 := n1_; have HO258 := n2_; have HO262 := n3_; have HO266 := n4_; have HO269 := n5_; have HB := n6_; clear n0_ n1_ n2_ n3_ n4_ n5_ n6_; clear hb ho30; obtain ⟨Ao31, co31, eo31⟩ := Kd.R_slice HO266.out; subst eo31; obtain ⟨Ao32, co32, eo32⟩ := Kd.R_slice HO269.out; subst eo32) | ((with_reducible refine gate_callee (f := 11) rfl ?_); refine goesL_ (some 30) rfl rfl Tryd.func11 (by kernel_rfl) rfl #[ptrOf (.slice Ao23 t247.length co23), .slice Ao31 y264.length co31, .slice Ao32 y267.length co32] rfl (by (try simp only [List.map_toArray, List.map_cons, List.map_nil]); first | done | rfl | (simp only [List.length_drop, List.length_take]; rfl)) ?_; (with_reducible refine (elim_System_Add.calls kj1 (fun k_ => ((((True ∧ some k_ ≠ (.slice Ao24 y253.length co24 : Value).ownBlock) ∧ some k_ ≠ (.slice Ao25 y256.length co25 : Value).ownBlock) ∧ some k_ ≠ (.slice Ao31 y264.length co31 : Value).ownBlock) ∧ some k_ ≠ (.slice Ao32 y267.length co32 : Value).ownBlock)) (.slice Ao23 t247.length co23) t263 _ _ y264 _ _ y267 t270 t271 t274 w _ ?side1 ?side2 ?side3 ?side4 ?side5 ?side6 ?side7 A10.out).mono ?_); (case side1 => first | exact HT.out | exact TabIn.below HT.out (PB HB) | (repeat (first | apply TabIn.drewN | apply TabIn.drew | exact HT.out))); (case side2 => exact PB HB); (case side3 => exact PR HO_1); (case side4 => repeat (first | exact (Kd.R_reads' HO266.out).2.2 | (with_reducible refine Kd.C_alloc ?_ _) | (with_reducible refine Kd.C_drewN ?_ _) | (with_reducible refine Kd.C_drew ?_))); (case side5 => exact (Kd.R_reads' HO266.out).2.1); (case side6 => repeat (first | exact (Kd.R_reads' HO269.out).2.2 | (with_reducible refine Kd.C_alloc ?_ _) | (with_reducible refine Kd.C_drewN ?_ _) | (with_reducible refine Kd.C_drew ?_))); (case side7 => exact (Kd.R_reads' HO269.out).2.1); rintro e w33 ⟨v272, rfl, ho0, hy0, hb, hkp⟩; refine ⟨_, rfl, ?_⟩; have n0_ := Aside0.mk (Kd.R_mono (ok' := fun k_ => ((((True ∧ some k_ ≠ (.slice Ao24 y253.length co24 : Value).ownBlock) ∧ some k_ ≠ (.slice Ao25 y256.length co25 : Value).ownBlock) ∧ some k_ ≠ (.slice Ao31 y264.length co31 : Value).ownBlock) ∧ some k_ ≠ (.slice Ao32 y267.length co32 : Value).ownBlock)) hy0 (fun k_ hk_ => Or.elim hk_ (fun hs_ => hs_) (fun hn_ => ⟨⟨⟨⟨trivial, (Kd.fresh' (Kd.R_lt (PR HO255)) k_ hn_)⟩, (Kd.fresh' (Kd.R_lt (PR HO258)) k_ hn_)⟩, (Kd.fresh' (Kd.R_lt (PR HO266)) k_ hn_)⟩, (Kd.fresh' (Kd.R_lt (PR HO269)) k_ hn_)⟩))); have n1_ := Aside0.mk (Kd.R_skept (PR HO255) hkp (by decide)); have n2_ := Aside0.mk (Kd.R_skept (PR HO258) hkp (by decide)); have n3_ := Aside0.mk (Kd.R_skept (PR HO262) hkp (by decide)); have n4_ := Aside0.mk (Kd.R_skept (PR HO266) hkp (by decide)); have n5_ := Aside0.mk (Kd.R_skept (PR HO269) hkp (by decide)); have n6_ := Aside0.mk (Kd.R_lower ho0 (below_size (PB HB))); have n7_ := Aside0.mk (hb); clear HO_1; clear HO255; clear HO258; clear HO262; clear HO266; clear HO269; clear HB; have HO_1 := n0_; have HO255 := n1_; have HO258 := n2_; have HO262 := n3_; have HO266 := n4_; have HO269 := n5_; have HO273 := n6_; have HB := n7_; clear n0_ n1_ n2_ n3_ n4_ n5_ n6_ n7_; (try clear hb); (try clear hkp); (try clear hy0); (try clear ho0)) | ((with_reducible refine gate_callee (f := 13) rfl ?_); refine goesL_ (some 35) rfl rfl Tryd.func13 (by kernel_rfl) rfl #[ptrOf (.slice Ao23 t274.length co23), .int .i64 1] rfl (by (try simp only [List.map_toArray, List.map_cons, List.map_nil]); first | done | (rw [show t274.length = t247.length from (Kd.R_reads' HO_1.out).1.symm] <;> rfl) | rfl | (simp only [List.length_drop, List.length_take]; rfl)) ?_; (with_reducible refine (elim_System_Value.calls kj1 _ _ t274 1 t275 t276 _ ?side1 ?side2 ?side3 A11.out).mono ?_); (case side1 => first | exact HT.out | exact TabIn.below HT.out (PB HB) | (repeat (first | apply TabIn.drewN | apply TabIn.drew | exact HT.out))); (case side2 => repeat (first | exact (Kd.R_reads' HO_1.out).2.2 | (with_reducible refine Kd.C_alloc ?_ _) | (with_reducible refine Kd.C_drewN ?_ _) | (with_reducible refine Kd.C_drew ?_))); (case side3 => rw [show t274.length = t247.length from (Kd.R_reads' HO_1.out).1.symm]; exact (Kd.R_reads' HO_1.out).2.1); rintro e w34 ⟨v277, v279, rfl, ho0, ho1, hb⟩; refine ⟨_, rfl, ?_⟩; have n0_ := Aside0.mk (Kd.R_elder' (PR HO_1) (Kd.R_base ho0) hb); have n1_ := Aside0.mk (Kd.R_below (PR HO255) hb); have n2_ := Aside0.mk (Kd.R_elder' (PR HO258) (Kd.R_base ho0) hb); have n3_ := Aside0.mk (Kd.R_below (PR HO262) hb); have n4_ := Aside0.mk (Kd.R_below (PR HO266) hb); have n5_ := Aside0.mk (Kd.R_elder' (PR HO269) (Kd.R_base ho0) hb); have n6_ := Aside0.mk (Kd.R_below (PR HO273) hb); have n7_ := Aside0.mk (Kd.R_lower (Kd.R_new' (Kd.R_new' ho0 (Kd.R_lt (PR HO258))) (Kd.R_lt (PR HO269))) (below_size (PB HB))); have n8_ := Aside0.mk (Kd.R_lower ho1 (below_size (PB HB))); have n9_ := Aside0.mk (below_step (PB HB) hb); clear HO_1; clear HO255; clear HO258; clear HO262; clear HO266; clear HO269; clear HO273; clear HB; have HO_1 := n0_; have HO255 := n1_; have HO258 := n2_; have HO262 := n3_; have HO266 := n4_; have HO269 := n5_; have HO273 := n6_; have HO278 := n7_; have HO280 := n8_; have HB := n9_; clear n0_ n1_ n2_ n3_ n4_ n5_ n6_ n7_ n8_ n9_; (try clear hb); (try clear hb2); (try clear hk); (try clear hi); (try clear ho0); (try clear ho1); obtain ⟨Ao35, co35, eo35⟩ := Kd.R_slice HO262.out; subst eo35; obtain ⟨Ao36, co36, eo36⟩ := Kd.R_slice HO273.out; subst eo36; obtain ⟨Ao37, co37, eo37⟩ := Kd.R_slice HO280.out; subst eo37; have hcv38 := own_string (P := Tryd.prog) Tryd.underlying36 Tryd.underlying5 Tryd.underlying9 (Kd.own_of_R HO278.out)) | (go_at_call 18; refine calls_of_args (args' := #[ptrOf (.slice Ao23 t274.length co23)]) (by first | (rw [show t274.length = t247.length from (Kd.R_reads' HO_1.out).1.symm] <;> rfl) | rfl) ?_; (with_reducible refine (elim_System_Whole.calls _ _ t274 t281 _ ?side1 ?side2 A18.out).mono ?_); (case side1 => repeat (first | exact (Kd.R_reads' HO_1.out).2.2 | (with_reducible refine Kd.C_alloc ?_ _) | (with_reducible refine Kd.C_drewN ?_ _) | (with_reducible refine Kd.C_drew ?_))); (case side2 => rw [show t274.length = t247.length from (Kd.R_reads' HO_1.out).1.symm]; exact (Kd.R_reads' HO_1.out).2.1); rintro e w39 ⟨rfl, hb⟩; have n0_ := Aside0.mk (Kd.R_below (PR HO_1) hb); have n1_ := Aside0.mk (Kd.R_below (PR HO255) hb); have n2_ := Aside0.mk (Kd.R_below (PR HO258) hb); have n3_ := Aside0.mk (Kd.R_below (PR HO262) hb); have n4_ := Aside0.mk (Kd.R_below (PR HO266) hb); have n5_ := Aside0.mk (Kd.R_below (PR HO269) hb); have n6_ := Aside0.mk (Kd.R_below (PR HO273) hb); have n7_ := Aside0.mk (Kd.R_below (PR HO278) hb); have n8_ := Aside0.mk (Kd.R_below (PR HO280) hb); have n9_ := Aside0.mk (below_step (PB HB) hb); clear HO_1; clear HO255; clear HO258; clear HO262; clear HO266; clear HO269; clear HO273; clear HO278; clear HO280; clear HB; have HO_1 := n0_; have HO255 := n1_; have HO258 := n2_; have HO262 := n3_; have HO266 := n4_; have HO269 := n5_; have HO273 := n6_; have HO278 := n7_; have HO280 := n8_; have HB := n9_; clear n0_ n1_ n2_ n3_ n4_ n5_ n6_ n7_ n8_ n9_; (try clear hb); (try clear hb2); (try clear hk); (try clear hi)))
          go_ret
          exact ⟨by first | rfl | (simp [errW_none, errW_some] <;> rfl) | (simp [*, errW_none, errW_some] <;> rfl), PB HB⟩
         ·rw [if_neg c17] at H
          have c17b0 : ((strOfNums t275).toList == ([2] : List UInt8)) = false := beq_eq_false_iff_ne.mpr c17
          have c17b1 : ((strOfNums t275).toList != ([2] : List UInt8)) = true := bne_iff_ne.mpr c17
          obtain rfl := Option.some.inj H
          go_wp2_with (first | ((with_reducible refine gate_dst (N := 21) rfl ?_); refine Kd.R_lit (Kd.int .u64) _ 35 ?hg (N := 21) ?hd (xs := ([3] : List Int)) (inner := [.int .u64 3]) (ok := fun _ => True) (okp := fun _ => True) ?hr ?hp (fun _ hk => hk) trivial (Below.refl _ _) (Nat.le_refl _) (by simp) ?_; (case hd => rfl); (case hg => rfl); (case hr => first | (go_simp; done) | (go_simp; rfl)); (case hp => exact (Reps.one (show Kd.M (Kd.int .u64) _ _ _ 3 [.int .u64 3] from rfl) (Reps.none _ _))); intro v254 w40 ho41 hb hg_ hnew_; clear hg_ hnew_; (first | rw [← Ny253.out] at ho41 | (simp only [Int.reduceToNat] at ho41; rw [← Ny253.out] at ho41)); have n0_ := Aside0.mk (Kd.R_elder' (PR HO_1) (Kd.R_base ho41) hb); have n1_ := Aside0.mk (Kd.R_lower ho41 (below_size (PB HB))); have n2_ := Aside0.mk (below_step (PB HB) hb); clear HO_1; clear HB; have HO_1 := n0_; have HO255 := n1_; have HB := n2_; clear n0_ n1_ n2_; clear hb ho41) | ((with_reducible refine gate_dst (N := 22) rfl ?_); refine Kd.R_lit (Kd.int .u8) _ 5 ?hg (N := 22) ?hd (xs := ([3] : List Int)) (inner := [.int .u8 3]) (ok := fun _ => True) (okp := fun _ => True) ?hr ?hp (fun _ hk => hk) trivial (Below.refl _ _) (Nat.le_refl _) (by simp) ?_; (case hd => rfl); (case hg => rfl); (case hr => first | (go_simp; done) | (go_simp; rfl)); (case hp => exact (Reps.one (show Kd.M (Kd.int .u8) _ _ _ 3 [.int .u8 3] from rfl) (Reps.none _ _))); intro v257 w42 ho43 hb hg_ hnew_; clear hg_ hnew_; (first | rw [← Ny256.out] at ho43 | (simp only [Int.reduceToNat] at ho43; rw [← Ny256.out] at ho43)); have n0_ := Aside0.mk (Kd.R_elder' (PR HO_1) (Kd.R_base ho43) hb); have n1_ := Aside0.mk (Kd.R_below (PR HO255) hb); have n2_ := Aside0.mk (Kd.R_lower ho43 (below_size (PB HB))); have n3_ := Aside0.mk (below_step (PB HB) hb); clear HO_1; clear HO255; clear HB; have HO_1 := n0_; have HO255 := n1_; have HO258 := n2_; have HB := n3_; clear n0_ n1_ n2_ n3_; clear hb ho43; obtain ⟨Ao44, co44, eo44⟩ := Kd.R_slice HO_1.out; subst eo44; obtain ⟨Ao45, co45, eo45⟩ := Kd.R_slice HO255.out; subst eo45; obtain ⟨Ao46, co46, eo46⟩ := Kd.R_slice HO258.out; subst eo46) | ((with_reducible refine gate_callee (f := 11) rfl ?_); refine goesL_ (some 23) rfl rfl Tryd.func11 (by kernel_rfl) rfl #[ptrOf (.slice Ao44 t247.length co44), .slice Ao45 y253.length co45, .slice Ao46 y256.length co46] rfl (by (try simp only [List.map_toArray, List.map_cons, List.map_nil]); first | done | rfl | (simp only [List.length_drop, List.length_take]; rfl)) ?_; (with_reducible refine (elim_System_Add.calls kj1 (fun k_ => ((True ∧ some k_ ≠ (.slice Ao45 y253.length co45 : Value).ownBlock) ∧ some k_ ≠ (.slice Ao46 y256.length co46 : Value).ownBlock)) (.slice Ao44 t247.length co44) t247 _ _ y253 _ _ y256 t259 t260 t263 w _ ?side1 ?side2 ?side3 ?side4 ?side5 ?side6 ?side7 A9.out).mono ?_); (case side1 => first | exact HT.out | exact TabIn.below HT.out (PB HB) | (repeat (first | apply TabIn.drewN | apply TabIn.drew | exact HT.out))); (case side2 => exact PB HB); (case side3 => exact PR HO_1); (case side4 => repeat (first | exact (Kd.R_reads' HO255.out).2.2 | (with_reducible refine Kd.C_alloc ?_ _) | (with_reducible refine Kd.C_drewN ?_ _) | (with_reducible refine Kd.C_drew ?_))); (case side5 => exact (Kd.R_reads' HO255.out).2.1); (case side6 => repeat (first | exact (Kd.R_reads' HO258.out).2.2 | (with_reducible refine Kd.C_alloc ?_ _) | (with_reducible refine Kd.C_drewN ?_ _) | (with_reducible refine Kd.C_drew ?_))); (case side7 => exact (Kd.R_reads' HO258.out).2.1); rintro e w47 ⟨v261, rfl, ho0, hy0, hb, hkp⟩; refine ⟨_, rfl, ?_⟩; have n0_ := Aside0.mk (Kd.R_mono (ok' := fun k_ => ((True ∧ some k_ ≠ (.slice Ao45 y253.length co45 : Value).ownBlock) ∧ some k_ ≠ (.slice Ao46 y256.length co46 : Value).ownBlock)) hy0 (fun k_ hk_ => Or.elim hk_ (fun hs_ => hs_) (fun hn_ => ⟨⟨trivial, (Kd.fresh' (Kd.R_lt (PR HO255)) k_ hn_)⟩, (Kd.fresh' (Kd.R_lt (PR HO258)) k_ hn_)⟩))); have n1_ := Aside0.mk (Kd.R_skept (PR HO255) hkp (by decide)); have n2_ := Aside0.mk (Kd.R_skept (PR HO258) hkp (by decide)); have n3_ := Aside0.mk (Kd.R_lower ho0 (below_size (PB HB))); have n4_ := Aside0.mk (hb); clear HO_1; clear HO255; clear HO258; clear HB; have HO_1 := n0_; have HO255 := n1_; have HO258 := n2_; have HO262 := n3_; have HB := n4_; clear n0_ n1_ n2_ n3_ n4_; (try clear hb); (try clear hkp); (try clear hy0); (try clear ho0)) | ((with_reducible refine gate_dst (N := 28) rfl ?_); refine Kd.R_lit (Kd.int .u64) _ 35 ?hg (N := 28) ?hd (xs := ([1] : List Int)) (inner := [.int .u64 1]) (ok := fun _ => True) (okp := fun _ => True) ?hr ?hp (fun _ hk => hk) trivial (Below.refl _ _) (Nat.le_refl _) (by simp) ?_; (case hd => rfl); (case hg => rfl); (case hr => first | (go_simp; done) | (go_simp; rfl)); (case hp => exact (Reps.one (show Kd.M (Kd.int .u64) _ _ _ 1 [.int .u64 1] from rfl) (Reps.none _ _))); intro v265 w48 ho49 hb hg_ hnew_; clear hg_ hnew_; (first | rw [← Ny264.out] at ho49 | (simp only [Int.reduceToNat] at ho49; rw [← Ny264.out] at ho49)); have n0_ := Aside0.mk (Kd.R_elder' (PR HO_1) (Kd.R_base ho49) hb); have n1_ := Aside0.mk (Kd.R_elder' (PR HO255) (Kd.R_base ho49) hb); have n2_ := Aside0.mk (Kd.R_below (PR HO258) hb); have n3_ := Aside0.mk (Kd.R_below (PR HO262) hb); have n4_ := Aside0.mk (Kd.R_lower (Kd.R_new' ho49 (Kd.R_lt (PR HO255))) (below_size (PB HB))); have n5_ := Aside0.mk (below_step (PB HB) hb); clear HO_1; clear HO255; clear HO258; clear HO262; clear HB; have HO_1 := n0_; have HO255 := n1_; have HO258 := n2_; have HO262 := n3_; have HO266 := n4_; have HB := n5_; clear n0_ n1_ n2_ n3_ n4_ n5_; clear hb ho49) | ((with_reducible refine gate_dst (N := 29) rfl ?_); refine Kd.R_lit (Kd.int .u8) _ 5 ?hg (N := 29) ?hd (xs := ([1] : List Int)) (inner := [.int .u8 1]) (ok := fun _ => True) (okp := fun _ => True) ?hr ?hp (fun _ hk => hk) trivial (Below.refl _ _) (Nat.le_refl _) (by simp) ?_; (case hd => rfl); (case hg => rfl); (case hr => first | (go_simp; done) | (go_simp; rfl)); (case hp => exact (Reps.one (show Kd.M (Kd.int .u8) _ _ _ 1 [.int .u8 1] from rfl) (Reps.none _ _))); intro v268 w50 ho51 hb hg_ hnew_; clear hg_ hnew_; (first | rw [← Ny267.out] at ho51 | (simp only [Int.reduceToNat] at ho51; rw [← Ny267.out] at ho51)); have n0_ := Aside0.mk (Kd.R_elder' (PR HO_1) (Kd.R_base ho51) hb); have n1_ := Aside0.mk (Kd.R_below (PR HO255) hb); have n2_ := Aside0.mk (Kd.R_elder' (PR HO258) (Kd.R_base ho51) hb); have n3_ := Aside0.mk (Kd.R_below (PR HO262) hb); have n4_ := Aside0.mk (Kd.R_below (PR HO266) hb); have n5_ := Aside0.mk (Kd.R_lower (Kd.R_new' ho51 (Kd.R_lt (PR HO258))) (below_size (PB HB))); have n6_ := Aside0.mk (below_step (PB HB) hb); clear HO_1; clear HO255; clear HO258; clear HO262; clear HO266; clear HB; have HO_1 := n0_; have HO255 := n1_; have HO258 := n2_; have HO262 := n3_; have HO266 := n4_; have HO269 := n5_; have HB := n6_; clear n0_ n1_ n2_ n3_ n4_ n5_ n6_; clear hb ho51; obtain ⟨Ao52, co52, eo52⟩ := Kd.R_slice HO266.out; subst eo52; obtain ⟨Ao53, co53, eo53⟩ := Kd.R_slice HO269.out; subst eo53) | ((with_reducible refine gate_callee (f := 11) rfl ?_); refine goesL_ (some 30) rfl rfl Tryd.func11 (by kernel_rfl) rfl #[ptrOf (.slice Ao44 t247.length co44), .slice Ao52 y264.length co52, .slice Ao53 y267.length co53] rfl (by (try simp only [List.map_toArray, List.map_cons, List.map_nil]); first | done | rfl | (simp only [List.length_drop, List.length_take]; rfl)) ?_; (with_reducible refine (elim_System_Add.calls kj1 (fun k_ => ((((True ∧ some k_ ≠ (.slice Ao45 y253.length co45 : Value).ownBlock) ∧ some k_ ≠ (.slice Ao46 y256.length co46 : Value).ownBlock) ∧ some k_ ≠ (.slice Ao52 y264.length co52 : Value).ownBlock) ∧ some k_ ≠ (.slice Ao53 y267.length co53 : Value).ownBlock)) (.slice Ao44 t247.length co44) t263 _ _ y264 _ _ y267 t270 t271 t274 w _ ?side1 ?side2 ?side3 ?side4 ?side5 ?side6 ?side7 A10.out).mono ?_); (case side1 => first | exact HT.out | exact TabIn.below HT.out (PB HB) | (repeat (first | apply TabIn.drewN | apply TabIn.drew | exact HT.out))); (case side2 => exact PB HB); (case side3 => exact PR HO_1); (case side4 => repeat (first | exact (Kd.R_reads' HO266.out).2.2 | (with_reducible refine Kd.C_alloc ?_ _) | (with_reducible refine Kd.C_drewN ?_ _) | (with_reducible refine Kd.C_drew ?_))); (case side5 => exact (Kd.R_reads' HO266.out).2.1); (case side6 => repeat (first | exact (Kd.R_reads' HO269.out).2.2 | (with_reducible refine Kd.C_alloc ?_ _) | (with_reducible refine Kd.C_drewN ?_ _) | (with_reducible refine Kd.C_drew ?_))); (case side7 => exact (Kd.R_reads' HO269.out).2.1); rintro e w54 ⟨v272, rfl, ho0, hy0, hb, hkp⟩; refine ⟨_, rfl, ?_⟩; have n0_ := Aside0.mk (Kd.R_mono (ok' := fun k_ => ((((True ∧ some k_ ≠ (.slice Ao45 y253.length co45 : Value).ownBlock) ∧ some k_ ≠ (.slice Ao46 y256.length co46 : Value).ownBlock) ∧ some k_ ≠ (.slice Ao52 y264.length co52 : Value).ownBlock) ∧ some k_ ≠ (.slice Ao53 y267.length co53 : Value).ownBlock)) hy0 (fun k_ hk_ => Or.elim hk_ (fun hs_ => hs_) (fun hn_ => ⟨⟨⟨⟨trivial, (Kd.fresh' (Kd.R_lt (PR HO255)) k_ hn_)⟩, (Kd.fresh' (Kd.R_lt (PR HO258)) k_ hn_)⟩, (Kd.fresh' (Kd.R_lt (PR HO266)) k_ hn_)⟩, (Kd.fresh' (Kd.R_lt (PR HO269)) k_ hn_)⟩))); have n1_ := Aside0.mk (Kd.R_skept (PR HO255) hkp (by decide)); have n2_ := Aside0.mk (Kd.R_skept (PR HO258) hkp (by decide)); have n3_ := Aside0.mk (Kd.R_skept (PR HO262) hkp (by decide)); have n4_ := Aside0.mk (Kd.R_skept (PR HO266) hkp (by decide)); have n5_ := Aside0.mk (Kd.R_skept (PR HO269) hkp (by decide)); have n6_ := Aside0.mk (Kd.R_lower ho0 (below_size (PB HB))); have n7_ := Aside0.mk (hb); clear HO_1; clear HO255; clear HO258; clear HO262; clear HO266; clear HO269; clear HB; have HO_1 := n0_; have HO255 := n1_; have HO258 := n2_; have HO262 := n3_; have HO266 := n4_; have HO269 := n5_; have HO273 := n6_; have HB := n7_; clear n0_ n1_ n2_ n3_ n4_ n5_ n6_ n7_; (try clear hb); (try clear hkp); (try clear hy0); (try clear ho0)) | ((with_reducible refine gate_callee (f := 13) rfl ?_); refine goesL_ (some 35) rfl rfl Tryd.func13 (by kernel_rfl) rfl #[ptrOf (.slice Ao44 t274.length co44), .int .i64 1] rfl (by (try simp only [List.map_toArray, List.map_cons, List.map_nil]); first | done | (rw [show t274.length = t247.length from (Kd.R_reads' HO_1.out).1.symm] <;> rfl) | rfl | (simp only [List.length_drop, List.length_take]; rfl)) ?_; (with_reducible refine (elim_System_Value.calls kj1 _ _ t274 1 t275 t276 _ ?side1 ?side2 ?side3 A11.out).mono ?_); (case side1 => first | exact HT.out | exact TabIn.below HT.out (PB HB) | (repeat (first | apply TabIn.drewN | apply TabIn.drew | exact HT.out))); (case side2 => repeat (first | exact (Kd.R_reads' HO_1.out).2.2 | (with_reducible refine Kd.C_alloc ?_ _) | (with_reducible refine Kd.C_drewN ?_ _) | (with_reducible refine Kd.C_drew ?_))); (case side3 => rw [show t274.length = t247.length from (Kd.R_reads' HO_1.out).1.symm]; exact (Kd.R_reads' HO_1.out).2.1); rintro e w55 ⟨v277, v279, rfl, ho0, ho1, hb⟩; refine ⟨_, rfl, ?_⟩; have n0_ := Aside0.mk (Kd.R_elder' (PR HO_1) (Kd.R_base ho0) hb); have n1_ := Aside0.mk (Kd.R_below (PR HO255) hb); have n2_ := Aside0.mk (Kd.R_elder' (PR HO258) (Kd.R_base ho0) hb); have n3_ := Aside0.mk (Kd.R_below (PR HO262) hb); have n4_ := Aside0.mk (Kd.R_below (PR HO266) hb); have n5_ := Aside0.mk (Kd.R_elder' (PR HO269) (Kd.R_base ho0) hb); have n6_ := Aside0.mk (Kd.R_below (PR HO273) hb); have n7_ := Aside0.mk (Kd.R_lower (Kd.R_new' (Kd.R_new' ho0 (Kd.R_lt (PR HO258))) (Kd.R_lt (PR HO269))) (below_size (PB HB))); have n8_ := Aside0.mk (Kd.R_lower ho1 (below_size (PB HB))); have n9_ := Aside0.mk (below_step (PB HB) hb); clear HO_1; clear HO255; clear HO258; clear HO262; clear HO266; clear HO269; clear HO273; clear HB; have HO_1 := n0_; have HO255 := n1_; have HO258 := n2_; have HO262 := n3_; have HO266 := n4_; have HO269 := n5_; have HO273 := n6_; have HO278 := n7_; have HO280 := n8_; have HB := n9_; clear n0_ n1_ n2_ n3_ n4_ n5_ n6_ n7_ n8_ n9_; (try clear hb); (try clear hb2); (try clear hk); (try clear hi); (try clear ho0); (try clear ho1); obtain ⟨Ao56, co56, eo56⟩ := Kd.R_slice HO262.out; subst eo56; obtain ⟨Ao57, co57, eo57⟩ := Kd.R_slice HO273.out; subst eo57; obtain ⟨Ao58, co58, eo58⟩ := Kd.R_slice HO280.out; subst eo58; have hcv59 := own_string (P := Tryd.prog) Tryd.underlying36 Tryd.underlying5 Tryd.underlying9 (Kd.own_of_R HO278.out)))
          go_ret
          exact ⟨by first | rfl | (simp [errW_none, errW_some] <;> rfl) | (simp [*, errW_none, errW_some] <;> rfl), PB HB⟩
        ·rw [if_neg c16] at H
         have c16b0 : (t270 == 1) = false := beq_eq_false_iff_ne.mpr c16
         have c16b1 : (t270 != 1) = true := bne_iff_ne.mpr c16
         obtain rfl := Option.some.inj H
         go_wp2_with (first | ((with_reducible refine gate_dst (N := 21) rfl ?_); refine Kd.R_lit (Kd.int .u64) _ 35 ?hg (N := 21) ?hd (xs := ([3] : List Int)) (inner := [.int .u64 3]) (ok := fun _ => True) (okp := fun _ => True) ?hr ?hp (fun _ hk => hk) trivial (Below.refl _ _) (Nat.le_refl _) (by simp) ?_; (case hd => rfl); (case hg => rfl); (case hr => first | (go_simp; done) | (go_simp; rfl)); (case hp => exact (Reps.one (show Kd.M (Kd.int .u64) _ _ _ 3 [.int .u64 3] from rfl) (Reps.none _ _))); intro v254 w60 ho61 hb hg_ hnew_; clear hg_ hnew_; (first | rw [← Ny253.out] at ho61 | (simp only [Int.reduceToNat] at ho61; rw [← Ny253.out] at ho61)); have n0_ := Aside0.mk (Kd.R_elder' (PR HO_1) (Kd.R_base ho61) hb); have n1_ := Aside0.mk (Kd.R_lower ho61 (below_size (PB HB))); have n2_ := Aside0.mk (below_step (PB HB) hb); clear HO_1; clear HB; have HO_1 := n0_; have HO255 := n1_; have HB := n2_; clear n0_ n1_ n2_; clear hb ho61) | ((with_reducible refine gate_dst (N := 22) rfl ?_); refine Kd.R_lit (Kd.int .u8) _ 5 ?hg (N := 22) ?hd (xs := ([3] : List Int)) (inner := [.int .u8 3]) (ok := fun _ => True) (okp := fun _ => True) ?hr ?hp (fun _ hk => hk) trivial (Below.refl _ _) (Nat.le_refl _) (by simp) ?_; (case hd => rfl); (case hg => rfl); (case hr => first | (go_simp; done) | (go_simp; rfl)); (case hp => exact (Reps.one (show Kd.M (Kd.int .u8) _ _ _ 3 [.int .u8 3] from rfl) (Reps.none _ _))); intro v257 w62 ho63 hb hg_ hnew_; clear hg_ hnew_; (first | rw [← Ny256.out] at ho63 | (simp only [Int.reduceToNat] at ho63; rw [← Ny256.out] at ho63)); have n0_ := Aside0.mk (Kd.R_elder' (PR HO_1) (Kd.R_base ho63) hb); have n1_ := Aside0.mk (Kd.R_below (PR HO255) hb); have n2_ := Aside0.mk (Kd.R_lower ho63 (below_size (PB HB))); have n3_ := Aside0.mk (below_step (PB HB) hb); clear HO_1; clear HO255; clear HB; have HO_1 := n0_; have HO255 := n1_; have HO258 := n2_; have HB := n3_; clear n0_ n1_ n2_ n3_; clear hb ho63; obtain ⟨Ao64, co64, eo64⟩ := Kd.R_slice HO_1.out; subst eo64; obtain ⟨Ao65, co65, eo65⟩ := Kd.R_slice HO255.out; subst eo65; obtain ⟨Ao66, co66, eo66⟩ := Kd.R_slice HO258.out; subst eo66) | ((with_reducible refine gate_callee (f := 11) rfl ?_); refine goesL_ (some 23) rfl rfl Tryd.func11 (by kernel_rfl) rfl #[ptrOf (.slice Ao64 t247.length co64), .slice Ao65 y253.length co65, .slice Ao66 y256.length co66] rfl (by (try simp only [List.map_toArray, List.map_cons, List.map_nil]); first | done | rfl | (simp only [List.length_drop, List.length_take]; rfl)) ?_; (with_reducible refine (elim_System_Add.calls kj1 (fun k_ => ((True ∧ some k_ ≠ (.slice Ao65 y253.length co65 : Value).ownBlock) ∧ some k_ ≠ (.slice Ao66 y256.length co66 : Value).ownBlock)) (.slice Ao64 t247.length co64) t247 _ _ y253 _ _ y256 t259 t260 t263 w _ ?side1 ?side2 ?side3 ?side4 ?side5 ?side6 ?side7 A9.out).mono ?_); (case side1 => first | exact HT.out | exact TabIn.below HT.out (PB HB) | (repeat (first | apply TabIn.drewN | apply TabIn.drew | exact HT.out))); (case side2 => exact PB HB); (case side3 => exact PR HO_1); (case side4 => repeat (first | exact (Kd.R_reads' HO255.out).2.2 | (with_reducible refine Kd.C_alloc ?_ _) | (with_reducible refine Kd.C_drewN ?_ _) | (with_reducible refine Kd.C_drew ?_))); (case side5 => exact (Kd.R_reads' HO255.out).2.1); (case side6 => repeat (first | exact (Kd.R_reads' HO258.out).2.2 | (with_reducible refine Kd.C_alloc ?_ _) | (with_reducible refine Kd.C_drewN ?_ _) | (with_reducible refine Kd.C_drew ?_))); (case side7 => exact (Kd.R_reads' HO258.out).2.1); rintro e w67 ⟨v261, rfl, ho0, hy0, hb, hkp⟩; refine ⟨_, rfl, ?_⟩; have n0_ := Aside0.mk (Kd.R_mono (ok' := fun k_ => ((True ∧ some k_ ≠ (.slice Ao65 y253.length co65 : Value).ownBlock) ∧ some k_ ≠ (.slice Ao66 y256.length co66 : Value).ownBlock)) hy0 (fun k_ hk_ => Or.elim hk_ (fun hs_ => hs_) (fun hn_ => ⟨⟨trivial, (Kd.fresh' (Kd.R_lt (PR HO255)) k_ hn_)⟩, (Kd.fresh' (Kd.R_lt (PR HO258)) k_ hn_)⟩))); have n1_ := Aside0.mk (Kd.R_skept (PR HO255) hkp (by decide)); have n2_ := Aside0.mk (Kd.R_skept (PR HO258) hkp (by decide)); have n3_ := Aside0.mk (Kd.R_lower ho0 (below_size (PB HB))); have n4_ := Aside0.mk (hb); clear HO_1; clear HO255; clear HO258; clear HB; have HO_1 := n0_; have HO255 := n1_; have HO258 := n2_; have HO262 := n3_; have HB := n4_; clear n0_ n1_ n2_ n3_ n4_; (try clear hb); (try clear hkp); (try clear hy0); (try clear ho0)) | ((with_reducible refine gate_dst (N := 28) rfl ?_); refine Kd.R_lit (Kd.int .u64) _ 35 ?hg (N := 28) ?hd (xs := ([1] : List Int)) (inner := [.int .u64 1]) (ok := fun _ => True) (okp := fun _ => True) ?hr ?hp (fun _ hk => hk) trivial (Below.refl _ _) (Nat.le_refl _) (by simp) ?_; (case hd => rfl); (case hg => rfl); (case hr => first | (go_simp; done) | (go_simp; rfl)); (case hp => exact (Reps.one (show Kd.M (Kd.int .u64) _ _ _ 1 [.int .u64 1] from rfl) (Reps.none _ _))); intro v265 w68 ho69 hb hg_ hnew_; clear hg_ hnew_; (first | rw [← Ny264.out] at ho69 | (simp only [Int.reduceToNat] at ho69; rw [← Ny264.out] at ho69)); have n0_ := Aside0.mk (Kd.R_elder' (PR HO_1) (Kd.R_base ho69) hb); have n1_ := Aside0.mk (Kd.R_elder' (PR HO255) (Kd.R_base ho69) hb); have n2_ := Aside0.mk (Kd.R_below (PR HO258) hb); have n3_ := Aside0.mk (Kd.R_below (PR HO262) hb); have n4_ := Aside0.mk (Kd.R_lower (Kd.R_new' ho69 (Kd.R_lt (PR HO255))) (below_size (PB HB))); have n5_ := Aside0.mk (below_step (PB HB) hb); clear HO_1; clear HO255; clear HO258; clear HO262; clear HB; have HO_1 := n0_; have HO255 := n1_; have HO258 := n2_; have HO262 := n3_; have HO266 := n4_; have HB := n5_; clear n0_ n1_ n2_ n3_ n4_ n5_; clear hb ho69) | ((with_reducible refine gate_dst (N := 29) rfl ?_); refine Kd.R_lit (Kd.int .u8) _ 5 ?hg (N := 29) ?hd (xs := ([1] : List Int)) (inner := [.int .u8 1]) (ok := fun _ => True) (okp := fun _ => True) ?hr ?hp (fun _ hk => hk) trivial (Below.refl _ _) (Nat.le_refl _) (by simp) ?_; (case hd => rfl); (case hg => rfl); (case hr => first | (go_simp; done) | (go_simp; rfl)); (case hp => exact (Reps.one (show Kd.M (Kd.int .u8) _ _ _ 1 [.int .u8 1] from rfl) (Reps.none _ _))); intro v268 w70 ho71 hb hg_ hnew_; clear hg_ hnew_; (first | rw [← Ny267.out] at ho71 | (simp only [Int.reduceToNat] at ho71; rw [← Ny267.out] at ho71)); have n0_ := Aside0.mk (Kd.R_elder' (PR HO_1) (Kd.R_base ho71) hb); have n1_ := Aside0.mk (Kd.R_below (PR HO255) hb); have n2_ := Aside0.mk (Kd.R_elder' (PR HO258) (Kd.R_base ho71) hb); have n3_ := Aside0.mk (Kd.R_below (PR HO262) hb); have n4_ := Aside0.mk (Kd.R_below (PR HO266) hb); have n5_ := Aside0.mk (Kd.R_lower (Kd.R_new' ho71 (Kd.R_lt (PR HO258))) (below_size (PB HB))); have n6_ := Aside0.mk (below_step (PB HB) hb); clear HO_1; clear HO255; clear HO258; clear HO262; clear HO266; clear HB; have HO_1 := n0_; have HO255 := n1_; have HO258 := n2_; have HO262 := n3_; have HO266 := n4_; have HO269 := n5_; have HB := n6_; clear n0_ n1_ n2_ n3_ n4_ n5_ n6_; clear hb ho71; obtain ⟨Ao72, co72, eo72⟩ := Kd.R_slice HO266.out; subst eo72; obtain ⟨Ao73, co73, eo73⟩ := Kd.R_slice HO269.out; subst eo73) | ((with_reducible refine gate_callee (f := 11) rfl ?_); refine goesL_ (some 30) rfl rfl Tryd.func11 (by kernel_rfl) rfl #[ptrOf (.slice Ao64 t247.length co64), .slice Ao72 y264.length co72, .slice Ao73 y267.length co73] rfl (by (try simp only [List.map_toArray, List.map_cons, List.map_nil]); first | done | rfl | (simp only [List.length_drop, List.length_take]; rfl)) ?_; (with_reducible refine (elim_System_Add.calls kj1 (fun k_ => ((((True ∧ some k_ ≠ (.slice Ao65 y253.length co65 : Value).ownBlock) ∧ some k_ ≠ (.slice Ao66 y256.length co66 : Value).ownBlock) ∧ some k_ ≠ (.slice Ao72 y264.length co72 : Value).ownBlock) ∧ some k_ ≠ (.slice Ao73 y267.length co73 : Value).ownBlock)) (.slice Ao64 t247.length co64) t263 _ _ y264 _ _ y267 t270 t271 t274 w _ ?side1 ?side2 ?side3 ?side4 ?side5 ?side6 ?side7 A10.out).mono ?_); (case side1 => first | exact HT.out | exact TabIn.below HT.out (PB HB) | (repeat (first | apply TabIn.drewN | apply TabIn.drew | exact HT.out))); (case side2 => exact PB HB); (case side3 => exact PR HO_1); (case side4 => repeat (first | exact (Kd.R_reads' HO266.out).2.2 | (with_reducible refine Kd.C_alloc ?_ _) | (with_reducible refine Kd.C_drewN ?_ _) | (with_reducible refine Kd.C_drew ?_))); (case side5 => exact (Kd.R_reads' HO266.out).2.1); (case side6 => repeat (first | exact (Kd.R_reads' HO269.out).2.2 | (with_reducible refine Kd.C_alloc ?_ _) | (with_reducible refine Kd.C_drewN ?_ _) | (with_reducible refine Kd.C_drew ?_))); (case side7 => exact (Kd.R_reads' HO269.out).2.1); rintro e w74 ⟨v272, rfl, ho0, hy0, hb, hkp⟩; refine ⟨_, rfl, ?_⟩; have n0_ := Aside0.mk (Kd.R_mono (ok' := fun k_ => ((((True ∧ some k_ ≠ (.slice Ao65 y253.length co65 : Value).ownBlock) ∧ some k_ ≠ (.slice Ao66 y256.length co66 : Value).ownBlock) ∧ some k_ ≠ (.slice Ao72 y264.length co72 : Value).ownBlock) ∧ some k_ ≠ (.slice Ao73 y267.length co73 : Value).ownBlock)) hy0 (fun k_ hk_ => Or.elim hk_ (fun hs_ => hs_) (fun hn_ => ⟨⟨⟨⟨trivial, (Kd.fresh' (Kd.R_lt (PR HO255)) k_ hn_)⟩, (Kd.fresh' (Kd.R_lt (PR HO258)) k_ hn_)⟩, (Kd.fresh' (Kd.R_lt (PR HO266)) k_ hn_)⟩, (Kd.fresh' (Kd.R_lt (PR HO269)) k_ hn_)⟩))); have n1_ := Aside0.mk (Kd.R_skept (PR HO255) hkp (by decide)); have n2_ := Aside0.mk (Kd.R_skept (PR HO258) hkp (by decide)); have n3_ := Aside0.mk (Kd.R_skept (PR HO262) hkp (by decide)); have n4_ := Aside0.mk (Kd.R_skept (PR HO266) hkp (by decide)); have n5_ := Aside0.mk (Kd.R_skept (PR HO269) hkp (by decide)); have n6_ := Aside0.mk (Kd.R_lower ho0 (below_size (PB HB))); have n7_ := Aside0.mk (hb); clear HO_1; clear HO255; clear HO258; clear HO262; clear HO266; clear HO269; clear HB; have HO_1 := n0_; have HO255 := n1_; have HO258 := n2_; have HO262 := n3_; have HO266 := n4_; have HO269 := n5_; have HO273 := n6_; have HB := n7_; clear n0_ n1_ n2_ n3_ n4_ n5_ n6_ n7_; (try clear hb); (try clear hkp); (try clear hy0); (try clear ho0)) | ((with_reducible refine gate_callee (f := 13) rfl ?_); refine goesL_ (some 35) rfl rfl Tryd.func13 (by kernel_rfl) rfl #[ptrOf (.slice Ao64 t274.length co64), .int .i64 1] rfl (by (try simp only [List.map_toArray, List.map_cons, List.map_nil]); first | done | (rw [show t274.length = t247.length from (Kd.R_reads' HO_1.out).1.symm] <;> rfl) | rfl | (simp only [List.length_drop, List.length_take]; rfl)) ?_; (with_reducible refine (elim_System_Value.calls kj1 _ _ t274 1 t275 t276 _ ?side1 ?side2 ?side3 A11.out).mono ?_); (case side1 => first | exact HT.out | exact TabIn.below HT.out (PB HB) | (repeat (first | apply TabIn.drewN | apply TabIn.drew | exact HT.out))); (case side2 => repeat (first | exact (Kd.R_reads' HO_1.out).2.2 | (with_reducible refine Kd.C_alloc ?_ _) | (with_reducible refine Kd.C_drewN ?_ _) | (with_reducible refine Kd.C_drew ?_))); (case side3 => rw [show t274.length = t247.length from (Kd.R_reads' HO_1.out).1.symm]; exact (Kd.R_reads' HO_1.out).2.1); rintro e w75 ⟨v277, v279, rfl, ho0, ho1, hb⟩; refine ⟨_, rfl, ?_⟩; have n0_ := Aside0.mk (Kd.R_elder' (PR HO_1) (Kd.R_base ho0) hb); have n1_ := Aside0.mk (Kd.R_below (PR HO255) hb); have n2_ := Aside0.mk (Kd.R_elder' (PR HO258) (Kd.R_base ho0) hb); have n3_ := Aside0.mk (Kd.R_below (PR HO262) hb); have n4_ := Aside0.mk (Kd.R_below (PR HO266) hb); have n5_ := Aside0.mk (Kd.R_elder' (PR HO269) (Kd.R_base ho0) hb); have n6_ := Aside0.mk (Kd.R_below (PR HO273) hb); have n7_ := Aside0.mk (Kd.R_lower (Kd.R_new' (Kd.R_new' ho0 (Kd.R_lt (PR HO258))) (Kd.R_lt (PR HO269))) (below_size (PB HB))); have n8_ := Aside0.mk (Kd.R_lower ho1 (below_size (PB HB))); have n9_ := Aside0.mk (below_step (PB HB) hb); clear HO_1; clear HO255; clear HO258; clear HO262; clear HO266; clear HO269; clear HO273; clear HB; have HO_1 := n0_; have HO255 := n1_; have HO258 := n2_; have HO262 := n3_; have HO266 := n4_; have HO269 := n5_; have HO273 := n6_; have HO278 := n7_; have HO280 := n8_; have HB := n9_; clear n0_ n1_ n2_ n3_ n4_ n5_ n6_ n7_ n8_ n9_; (try clear hb); (try clear hb2); (try clear hk); (try clear hi); (try clear ho0); (try clear ho1); obtain ⟨Ao76, co76, eo76⟩ := Kd.R_slice HO262.out; subst eo76; obtain ⟨Ao77, co77, eo77⟩ := Kd.R_slice HO273.out; subst eo77; obtain ⟨Ao78, co78, eo78⟩ := Kd.R_slice HO280.out; subst eo78))
         go_ret
         exact ⟨by first | rfl | (simp [errW_none, errW_some] <;> rfl) | (simp [*, errW_none, errW_some] <;> rfl), PB HB⟩
       ·rw [if_neg c15] at H
        have c15b0 : (t259 == 1) = false := beq_eq_false_iff_ne.mpr c15
        have c15b1 : (t259 != 1) = true := bne_iff_ne.mpr c15
        obtain rfl := Option.some.inj H
        go_wp2_with (first | ((with_reducible refine gate_dst (N := 21) rfl ?_); refine Kd.R_lit (Kd.int .u64) _ 35 ?hg (N := 21) ?hd (xs := ([3] : List Int)) (inner := [.int .u64 3]) (ok := fun _ => True) (okp := fun _ => True) ?hr ?hp (fun _ hk => hk) trivial (Below.refl _ _) (Nat.le_refl _) (by simp) ?_; (case hd => rfl); (case hg => rfl); (case hr => first | (go_simp; done) | (go_simp; rfl)); (case hp => exact (Reps.one (show Kd.M (Kd.int .u64) _ _ _ 3 [.int .u64 3] from rfl) (Reps.none _ _))); intro v254 w79 ho80 hb hg_ hnew_; clear hg_ hnew_; (first | rw [← Ny253.out] at ho80 | (simp only [Int.reduceToNat] at ho80; rw [← Ny253.out] at ho80)); have n0_ := Aside0.mk (Kd.R_elder' (PR HO_1) (Kd.R_base ho80) hb); have n1_ := Aside0.mk (Kd.R_lower ho80 (below_size (PB HB))); have n2_ := Aside0.mk (below_step (PB HB) hb); clear HO_1; clear HB; have HO_1 := n0_; have HO255 := n1_; have HB := n2_; clear n0_ n1_ n2_; clear hb ho80) | ((with_reducible refine gate_dst (N := 22) rfl ?_); refine Kd.R_lit (Kd.int .u8) _ 5 ?hg (N := 22) ?hd (xs := ([3] : List Int)) (inner := [.int .u8 3]) (ok := fun _ => True) (okp := fun _ => True) ?hr ?hp (fun _ hk => hk) trivial (Below.refl _ _) (Nat.le_refl _) (by simp) ?_; (case hd => rfl); (case hg => rfl); (case hr => first | (go_simp; done) | (go_simp; rfl)); (case hp => exact (Reps.one (show Kd.M (Kd.int .u8) _ _ _ 3 [.int .u8 3] from rfl) (Reps.none _ _))); intro v257 w81 ho82 hb hg_ hnew_; clear hg_ hnew_; (first | rw [← Ny256.out] at ho82 | (simp only [Int.reduceToNat] at ho82; rw [← Ny256.out] at ho82)); have n0_ := Aside0.mk (Kd.R_elder' (PR HO_1) (Kd.R_base ho82) hb); have n1_ := Aside0.mk (Kd.R_below (PR HO255) hb); have n2_ := Aside0.mk (Kd.R_lower ho82 (below_size (PB HB))); have n3_ := Aside0.mk (below_step (PB HB) hb); clear HO_1; clear HO255; clear HB; have HO_1 := n0_; have HO255 := n1_; have HO258 := n2_; have HB := n3_; clear n0_ n1_ n2_ n3_; clear hb ho82; obtain ⟨Ao83, co83, eo83⟩ := Kd.R_slice HO_1.out; subst eo83; obtain ⟨Ao84, co84, eo84⟩ := Kd.R_slice HO255.out; subst eo84; obtain ⟨Ao85, co85, eo85⟩ := Kd.R_slice HO258.out; subst eo85) | ((with_reducible refine gate_callee (f := 11) rfl ?_); refine goesL_ (some 23) rfl rfl Tryd.func11 (by kernel_rfl) rfl #[ptrOf (.slice Ao83 t247.length co83), .slice Ao84 y253.length co84, .slice Ao85 y256.length co85] rfl (by (try simp only [List.map_toArray, List.map_cons, List.map_nil]); first | done | rfl | (simp only [List.length_drop, List.length_take]; rfl)) ?_; (with_reducible refine (elim_System_Add.calls kj1 (fun k_ => ((True ∧ some k_ ≠ (.slice Ao84 y253.length co84 : Value).ownBlock) ∧ some k_ ≠ (.slice Ao85 y256.length co85 : Value).ownBlock)) (.slice Ao83 t247.length co83) t247 _ _ y253 _ _ y256 t259 t260 t263 w _ ?side1 ?side2 ?side3 ?side4 ?side5 ?side6 ?side7 A9.out).mono ?_); (case side1 => first | exact HT.out | exact TabIn.below HT.out (PB HB) | (repeat (first | apply TabIn.drewN | apply TabIn.drew | exact HT.out))); (case side2 => exact PB HB); (case side3 => exact PR HO_1); (case side4 => repeat (first | exact (Kd.R_reads' HO255.out).2.2 | (with_reducible refine Kd.C_alloc ?_ _) | (with_reducible refine Kd.C_drewN ?_ _) | (with_reducible refine Kd.C_drew ?_))); (case side5 => exact (Kd.R_reads' HO255.out).2.1); (case side6 => repeat (first | exact (Kd.R_reads' HO258.out).2.2 | (with_reducible refine Kd.C_alloc ?_ _) | (with_reducible refine Kd.C_drewN ?_ _) | (with_reducible refine Kd.C_drew ?_))); (case side7 => exact (Kd.R_reads' HO258.out).2.1); rintro e w86 ⟨v261, rfl, ho0, hy0, hb, hkp⟩; refine ⟨_, rfl, ?_⟩; have n0_ := Aside0.mk (Kd.R_mono (ok' := fun k_ => ((True ∧ some k_ ≠ (.slice Ao84 y253.length co84 : Value).ownBlock) ∧ some k_ ≠ (.slice Ao85 y256.length co85 : Value).ownBlock)) hy0 (fun k_ hk_ => Or.elim hk_ (fun hs_ => hs_) (fun hn_ => ⟨⟨trivial, (Kd.fresh' (Kd.R_lt (PR HO255)) k_ hn_)⟩, (Kd.fresh' (Kd.R_lt (PR HO258)) k_ hn_)⟩))); have n1_ := Aside0.mk (Kd.R_skept (PR HO255) hkp (by decide)); have n2_ := Aside0.mk (Kd.R_skept (PR HO258) hkp (by decide)); have n3_ := Aside0.mk (Kd.R_lower ho0 (below_size (PB HB))); have n4_ := Aside0.mk (hb); clear HO_1; clear HO255; clear HO258; clear HB; have HO_1 := n0_; have HO255 := n1_; have HO258 := n2_; have HO262 := n3_; have HB := n4_; clear n0_ n1_ n2_ n3_ n4_; (try clear hb); (try clear hkp); (try clear hy0); (try clear ho0)) | ((with_reducible refine gate_dst (N := 28) rfl ?_); refine Kd.R_lit (Kd.int .u64) _ 35 ?hg (N := 28) ?hd (xs := ([1] : List Int)) (inner := [.int .u64 1]) (ok := fun _ => True) (okp := fun _ => True) ?hr ?hp (fun _ hk => hk) trivial (Below.refl _ _) (Nat.le_refl _) (by simp) ?_; (case hd => rfl); (case hg => rfl); (case hr => first | (go_simp; done) | (go_simp; rfl)); (case hp => exact (Reps.one (show Kd.M (Kd.int .u64) _ _ _ 1 [.int .u64 1] from rfl) (Reps.none _ _))); intro v265 w87 ho88 hb hg_ hnew_; clear hg_ hnew_; (first | rw [← Ny264.out] at ho88 | (simp only [Int.reduceToNat] at ho88; rw [← Ny264.out] at ho88)); have n0_ := Aside0.mk (Kd.R_elder' (PR HO_1) (Kd.R_base ho88) hb); have n1_ := Aside0.mk (Kd.R_elder' (PR HO255) (Kd.R_base ho88) hb); have n2_ := Aside0.mk (Kd.R_below (PR HO258) hb); have n3_ := Aside0.mk (Kd.R_below (PR HO262) hb); have n4_ := Aside0.mk (Kd.R_lower (Kd.R_new' ho88 (Kd.R_lt (PR HO255))) (below_size (PB HB))); have n5_ := Aside0.mk (below_step (PB HB) hb); clear HO_1; clear HO255; clear HO258; clear HO262; clear HB; have HO_1 := n0_; have HO255 := n1_; have HO258 := n2_; have HO262 := n3_; have HO266 := n4_; have HB := n5_; clear n0_ n1_ n2_ n3_ n4_ n5_; clear hb ho88) | ((with_reducible refine gate_dst (N := 29) rfl ?_); refine Kd.R_lit (Kd.int .u8) _ 5 ?hg (N := 29) ?hd (xs := ([1] : List Int)) (inner := [.int .u8 1]) (ok := fun _ => True) (okp := fun _ => True) ?hr ?hp (fun _ hk => hk) trivial (Below.refl _ _) (Nat.le_refl _) (by simp) ?_; (case hd => rfl); (case hg => rfl); (case hr => first | (go_simp; done) | (go_simp; rfl)); (case hp => exact (Reps.one (show Kd.M (Kd.int .u8) _ _ _ 1 [.int .u8 1] from rfl) (Reps.none _ _))); intro v268 w89 ho90 hb hg_ hnew_; clear hg_ hnew_; (first | rw [← Ny267.out] at ho90 | (simp only [Int.reduceToNat] at ho90; rw [← Ny267.out] at ho90)); have n0_ := Aside0.mk (Kd.R_elder' (PR HO_1) (Kd.R_base ho90) hb); have n1_ := Aside0.mk (Kd.R_below (PR HO255) hb); have n2_ := Aside0.mk (Kd.R_elder' (PR HO258) (Kd.R_base ho90) hb); have n3_ := Aside0.mk (Kd.R_below (PR HO262) hb); have n4_ := Aside0.mk (Kd.R_below (PR HO266) hb); have n5_ := Aside0.mk (Kd.R_lower (Kd.R_new' ho90 (Kd.R_lt (PR HO258))) (below_size (PB HB))); have n6_ := Aside0.mk (below_step (PB HB) hb); clear HO_1; clear HO255; clear HO258; clear HO262; clear HO266; clear HB; have HO_1 := n0_; have HO255 := n1_; have HO258 := n2_; have HO262 := n3_; have HO266 := n4_; have HO269 := n5_; have HB := n6_; clear n0_ n1_ n2_ n3_ n4_ n5_ n6_; clear hb ho90; obtain ⟨Ao91, co91, eo91⟩ := Kd.R_slice HO266.out; subst eo91; obtain ⟨Ao92, co92, eo92⟩ := Kd.R_slice HO269.out; subst eo92) | ((with_reducible refine gate_callee (f := 11) rfl ?_); refine goesL_ (some 30) rfl rfl Tryd.func11 (by kernel_rfl) rfl #[ptrOf (.slice Ao83 t247.length co83), .slice Ao91 y264.length co91, .slice Ao92 y267.length co92] rfl (by (try simp only [List.map_toArray, List.map_cons, List.map_nil]); first | done | rfl | (simp only [List.length_drop, List.length_take]; rfl)) ?_; (with_reducible refine (elim_System_Add.calls kj1 (fun k_ => ((((True ∧ some k_ ≠ (.slice Ao84 y253.length co84 : Value).ownBlock) ∧ some k_ ≠ (.slice Ao85 y256.length co85 : Value).ownBlock) ∧ some k_ ≠ (.slice Ao91 y264.length co91 : Value).ownBlock) ∧ some k_ ≠ (.slice Ao92 y267.length co92 : Value).ownBlock)) (.slice Ao83 t247.length co83) t263 _ _ y264 _ _ y267 t270 t271 t274 w _ ?side1 ?side2 ?side3 ?side4 ?side5 ?side6 ?side7 A10.out).mono ?_); (case side1 => first | exact HT.out | exact TabIn.below HT.out (PB HB) | (repeat (first | apply TabIn.drewN | apply TabIn.drew | exact HT.out))); (case side2 => exact PB HB); (case side3 => exact PR HO_1); (case side4 => repeat (first | exact (Kd.R_reads' HO266.out).2.2 | (with_reducible refine Kd.C_alloc ?_ _) | (with_reducible refine Kd.C_drewN ?_ _) | (with_reducible refine Kd.C_drew ?_))); (case side5 => exact (Kd.R_reads' HO266.out).2.1); (case side6 => repeat (first | exact (Kd.R_reads' HO269.out).2.2 | (with_reducible refine Kd.C_alloc ?_ _) | (with_reducible refine Kd.C_drewN ?_ _) | (with_reducible refine Kd.C_drew ?_))); (case side7 => exact (Kd.R_reads' HO269.out).2.1); rintro e w93 ⟨v272, rfl, ho0, hy0, hb, hkp⟩; refine ⟨_, rfl, ?_⟩; have n0_ := Aside0.mk (Kd.R_mono (ok' := fun k_ => ((((True ∧ some k_ ≠ (.slice Ao84 y253.length co84 : Value).ownBlock) ∧ some k_ ≠ (.slice Ao85 y256.length co85 : Value).ownBlock) ∧ some k_ ≠ (.slice Ao91 y264.length co91 : Value).ownBlock) ∧ some k_ ≠ (.slice Ao92 y267.length co92 : Value).ownBlock)) hy0 (fun k_ hk_ => Or.elim hk_ (fun hs_ => hs_) (fun hn_ => ⟨⟨⟨⟨trivial, (Kd.fresh' (Kd.R_lt (PR HO255)) k_ hn_)⟩, (Kd.fresh' (Kd.R_lt (PR HO258)) k_ hn_)⟩, (Kd.fresh' (Kd.R_lt (PR HO266)) k_ hn_)⟩, (Kd.fresh' (Kd.R_lt (PR HO269)) k_ hn_)⟩))); have n1_ := Aside0.mk (Kd.R_skept (PR HO255) hkp (by decide)); have n2_ := Aside0.mk (Kd.R_skept (PR HO258) hkp (by decide)); have n3_ := Aside0.mk (Kd.R_skept (PR HO262) hkp (by decide)); have n4_ := Aside0.mk (Kd.R_skept (PR HO266) hkp (by decide)); have n5_ := Aside0.mk (Kd.R_skept (PR HO269) hkp (by decide)); have n6_ := Aside0.mk (Kd.R_lower ho0 (below_size (PB HB))); have n7_ := Aside0.mk (hb); clear HO_1; clear HO255; clear HO258; clear HO262; clear HO266; clear HO269; clear HB; have HO_1 := n0_; have HO255 := n1_; have HO258 := n2_; have HO262 := n3_; have HO266 := n4_; have HO269 := n5_; have HO273 := n6_; have HB := n7_; clear n0_ n1_ n2_ n3_ n4_ n5_ n6_ n7_; (try clear hb); (try clear hkp); (try clear hy0); (try clear ho0)) | ((with_reducible refine gate_callee (f := 13) rfl ?_); refine goesL_ (some 35) rfl rfl Tryd.func13 (by kernel_rfl) rfl #[ptrOf (.slice Ao83 t274.length co83), .int .i64 1] rfl (by (try simp only [List.map_toArray, List.map_cons, List.map_nil]); first | done | (rw [show t274.length = t247.length from (Kd.R_reads' HO_1.out).1.symm] <;> rfl) | rfl | (simp only [List.length_drop, List.length_take]; rfl)) ?_; (with_reducible refine (elim_System_Value.calls kj1 _ _ t274 1 t275 t276 _ ?side1 ?side2 ?side3 A11.out).mono ?_); (case side1 => first | exact HT.out | exact TabIn.below HT.out (PB HB) | (repeat (first | apply TabIn.drewN | apply TabIn.drew | exact HT.out))); (case side2 => repeat (first | exact (Kd.R_reads' HO_1.out).2.2 | (with_reducible refine Kd.C_alloc ?_ _) | (with_reducible refine Kd.C_drewN ?_ _) | (with_reducible refine Kd.C_drew ?_))); (case side3 => rw [show t274.length = t247.length from (Kd.R_reads' HO_1.out).1.symm]; exact (Kd.R_reads' HO_1.out).2.1); rintro e w94 ⟨v277, v279, rfl, ho0, ho1, hb⟩; refine ⟨_, rfl, ?_⟩; have n0_ := Aside0.mk (Kd.R_elder' (PR HO_1) (Kd.R_base ho0) hb); have n1_ := Aside0.mk (Kd.R_below (PR HO255) hb); have n2_ := Aside0.mk (Kd.R_elder' (PR HO258) (Kd.R_base ho0) hb); have n3_ := Aside0.mk (Kd.R_below (PR HO262) hb); have n4_ := Aside0.mk (Kd.R_below (PR HO266) hb); have n5_ := Aside0.mk (Kd.R_elder' (PR HO269) (Kd.R_base ho0) hb); have n6_ := Aside0.mk (Kd.R_below (PR HO273) hb); have n7_ := Aside0.mk (Kd.R_lower (Kd.R_new' (Kd.R_new' ho0 (Kd.R_lt (PR HO258))) (Kd.R_lt (PR HO269))) (below_size (PB HB))); have n8_ := Aside0.mk (Kd.R_lower ho1 (below_size (PB HB))); have n9_ := Aside0.mk (below_step (PB HB) hb); clear HO_1; clear HO255; clear HO258; clear HO262; clear HO266; clear HO269; clear HO273; clear HB; have HO_1 := n0_; have HO255 := n1_; have HO258 := n2_; have HO262 := n3_; have HO266 := n4_; have HO269 := n5_; have HO273 := n6_; have HO278 := n7_; have HO280 := n8_; have HB := n9_; clear n0_ n1_ n2_ n3_ n4_ n5_ n6_ n7_ n8_ n9_; (try clear hb); (try clear hb2); (try clear hk); (try clear hi); (try clear ho0); (try clear ho1); obtain ⟨Ao95, co95, eo95⟩ := Kd.R_slice HO262.out; subst eo95; obtain ⟨Ao96, co96, eo96⟩ := Kd.R_slice HO273.out; subst eo96; obtain ⟨Ao97, co97, eo97⟩ := Kd.R_slice HO280.out; subst eo97))
        go_ret
        exact ⟨by first | rfl | (simp [errW_none, errW_some] <;> rfl) | (simp [*, errW_none, errW_some] <;> rfl), PB HB⟩
      ·rw [if_neg c14] at H
       have c14b0 : ((t276.length : Int) == 0) = false := beq_eq_false_iff_ne.mpr c14
       have c14b1 : ((t276.length : Int) != 0) = true := bne_iff_ne.mpr c14
       have c14b2 : ¬ (t276 = []) := fun h_ => c14 (by rw [h_]; rfl)
       obtain rfl := Option.some.inj H
       go_wp2_with (first | ((with_reducible refine gate_dst (N := 21) rfl ?_); refine Kd.R_lit (Kd.int .u64) _ 35 ?hg (N := 21) ?hd (xs := ([3] : List Int)) (inner := [.int .u64 3]) (ok := fun _ => True) (okp := fun _ => True) ?hr ?hp (fun _ hk => hk) trivial (Below.refl _ _) (Nat.le_refl _) (by simp) ?_; (case hd => rfl); (case hg => rfl); (case hr => first | (go_simp; done) | (go_simp; rfl)); (case hp => exact (Reps.one (show Kd.M (Kd.int .u64) _ _ _ 3 [.int .u64 3] from rfl) (Reps.none _ _))); intro v254 w98 ho99 hb hg_ hnew_; clear hg_ hnew_; (first | rw [← Ny253.out] at ho99 | (simp only [Int.reduceToNat] at ho99; rw [← Ny253.out] at ho99)); have n0_ := Aside0.mk (Kd.R_elder' (PR HO_1) (Kd.R_base ho99) hb); have n1_ := Aside0.mk (Kd.R_lower ho99 (below_size (PB HB))); have n2_ := Aside0.mk (below_step (PB HB) hb); clear HO_1; clear HB; have HO_1 := n0_; have HO255 := n1_; have HB := n2_; clear n0_ n1_ n2_; clear hb ho99) | ((with_reducible refine gate_dst (N := 22) rfl ?_); refine Kd.R_lit (Kd.int .u8) _ 5 ?hg (N := 22) ?hd (xs := ([3] : List Int)) (inner := [.int .u8 3]) (ok := fun _ => True) (okp := fun _ => True) ?hr ?hp (fun _ hk => hk) trivial (Below.refl _ _) (Nat.le_refl _) (by simp) ?_; (case hd => rfl); (case hg => rfl); (case hr => first | (go_simp; done) | (go_simp; rfl)); (case hp => exact (Reps.one (show Kd.M (Kd.int .u8) _ _ _ 3 [.int .u8 3] from rfl) (Reps.none _ _))); intro v257 w100 ho101 hb hg_ hnew_; clear hg_ hnew_; (first | rw [← Ny256.out] at ho101 | (simp only [Int.reduceToNat] at ho101; rw [← Ny256.out] at ho101)); have n0_ := Aside0.mk (Kd.R_elder' (PR HO_1) (Kd.R_base ho101) hb); have n1_ := Aside0.mk (Kd.R_below (PR HO255) hb); have n2_ := Aside0.mk (Kd.R_lower ho101 (below_size (PB HB))); have n3_ := Aside0.mk (below_step (PB HB) hb); clear HO_1; clear HO255; clear HB; have HO_1 := n0_; have HO255 := n1_; have HO258 := n2_; have HB := n3_; clear n0_ n1_ n2_ n3_; clear hb ho101; obtain ⟨Ao102, co102, eo102⟩ := Kd.R_slice HO_1.out; subst eo102; obtain ⟨Ao103, co103, eo103⟩ := Kd.R_slice HO255.out; subst eo103; obtain ⟨Ao104, co104, eo104⟩ := Kd.R_slice HO258.out; subst eo104) | ((with_reducible refine gate_callee (f := 11) rfl ?_); refine goesL_ (some 23) rfl rfl Tryd.func11 (by kernel_rfl) rfl #[ptrOf (.slice Ao102 t247.length co102), .slice Ao103 y253.length co103, .slice Ao104 y256.length co104] rfl (by (try simp only [List.map_toArray, List.map_cons, List.map_nil]); first | done | rfl | (simp only [List.length_drop, List.length_take]; rfl)) ?_; (with_reducible refine (elim_System_Add.calls kj1 (fun k_ => ((True ∧ some k_ ≠ (.slice Ao103 y253.length co103 : Value).ownBlock) ∧ some k_ ≠ (.slice Ao104 y256.length co104 : Value).ownBlock)) (.slice Ao102 t247.length co102) t247 _ _ y253 _ _ y256 t259 t260 t263 w _ ?side1 ?side2 ?side3 ?side4 ?side5 ?side6 ?side7 A9.out).mono ?_); (case side1 => first | exact HT.out | exact TabIn.below HT.out (PB HB) | (repeat (first | apply TabIn.drewN | apply TabIn.drew | exact HT.out))); (case side2 => exact PB HB); (case side3 => exact PR HO_1); (case side4 => repeat (first | exact (Kd.R_reads' HO255.out).2.2 | (with_reducible refine Kd.C_alloc ?_ _) | (with_reducible refine Kd.C_drewN ?_ _) | (with_reducible refine Kd.C_drew ?_))); (case side5 => exact (Kd.R_reads' HO255.out).2.1); (case side6 => repeat (first | exact (Kd.R_reads' HO258.out).2.2 | (with_reducible refine Kd.C_alloc ?_ _) | (with_reducible refine Kd.C_drewN ?_ _) | (with_reducible refine Kd.C_drew ?_))); (case side7 => exact (Kd.R_reads' HO258.out).2.1); rintro e w105 ⟨v261, rfl, ho0, hy0, hb, hkp⟩; refine ⟨_, rfl, ?_⟩; have n0_ := Aside0.mk (Kd.R_mono (ok' := fun k_ => ((True ∧ some k_ ≠ (.slice Ao103 y253.length co103 : Value).ownBlock) ∧ some k_ ≠ (.slice Ao104 y256.length co104 : Value).ownBlock)) hy0 (fun k_ hk_ => Or.elim hk_ (fun hs_ => hs_) (fun hn_ => ⟨⟨trivial, (Kd.fresh' (Kd.R_lt (PR HO255)) k_ hn_)⟩, (Kd.fresh' (Kd.R_lt (PR HO258)) k_ hn_)⟩))); have n1_ := Aside0.mk (Kd.R_skept (PR HO255) hkp (by decide)); have n2_ := Aside0.mk (Kd.R_skept (PR HO258) hkp (by decide)); have n3_ := Aside0.mk (Kd.R_lower ho0 (below_size (PB HB))); have n4_ := Aside0.mk (hb); clear HO_1; clear HO255; clear HO258; clear HB; have HO_1 := n0_; have HO255 := n1_; have HO258 := n2_; have HO262 := n3_; have HB := n4_; clear n0_ n1_ n2_ n3_ n4_; (try clear hb); (try clear hkp); (try clear hy0); (try clear ho0)) | ((with_reducible refine gate_dst (N := 28) rfl ?_); refine Kd.R_lit (Kd.int .u64) _ 35 ?hg (N := 28) ?hd (xs := ([1] : List Int)) (inner := [.int .u64 1]) (ok := fun _ => True) (okp := fun _ => True) ?hr ?hp (fun _ hk => hk) trivial (Below.refl _ _) (Nat.le_refl _) (by simp) ?_; (case hd => rfl); (case hg => rfl); (case hr => first | (go_simp; done) | (go_simp; rfl)); (case hp => exact (Reps.one (show Kd.M (Kd.int .u64) _ _ _ 1 [.int .u64 1] from rfl) (Reps.none _ _))); intro v265 w106 ho107 hb hg_ hnew_; clear hg_ hnew_; (first | rw [← Ny264.out] at ho107 | (simp only [Int.reduceToNat] at ho107; rw [← Ny264.out] at ho107)); have n0_ := Aside0.mk (Kd.R_elder' (PR HO_1) (Kd.R_base ho107) hb); have n1_ := Aside0.mk (Kd.R_elder' (PR HO255) (Kd.R_base ho107) hb); have n2_ := Aside0.mk (Kd.R_below (PR HO258) hb); have n3_ := Aside0.mk (Kd.R_below (PR HO262) hb); have n4_ := Aside0.mk (Kd.R_lower (Kd.R_new' ho107 (Kd.R_lt (PR HO255))) (below_size (PB HB))); have n5_ := Aside0.mk (below_step (PB HB) hb); clear HO_1; clear HO255; clear HO258; clear HO262; clear HB; have HO_1 := n0_; have HO255 := n1_; have HO258 := n2_; have HO262 := n3_; have HO266 := n4_; have HB := n5_; clear n0_ n1_ n2_ n3_ n4_ n5_; clear hb ho107) | ((with_reducible refine gate_dst (N := 29) rfl ?_); refine Kd.R_lit (Kd.int .u8) _ 5 ?hg (N := 29) ?hd (xs := ([1] : List Int)) (inner := [.int .u8 1]) (ok := fun _ => True) (okp := fun _ => True) ?hr ?hp (fun _ hk => hk) trivial (Below.refl _ _) (Nat.le_refl _) (by simp) ?_; (case hd => rfl); (case hg => rfl); (case hr => first | (go_simp; done) | (go_simp; rfl)); (case hp => exact (Reps.one (show Kd.M (Kd.int .u8) _ _ _ 1 [.int .u8 1] from rfl) (Reps.none _ _))); intro v268 w108 ho109 hb hg_ hnew_; clear hg_ hnew_; (first | rw [← Ny267.out] at ho109 | (simp only [Int.reduceToNat] at ho109; rw [← Ny267.out] at ho109)); have n0_ := Aside0.mk (Kd.R_elder' (PR HO_1) (Kd.R_base ho109) hb); have n1_ := Aside0.mk (Kd.R_below (PR HO255) hb); have n2_ := Aside0.mk (Kd.R_elder' (PR HO258) (Kd.R_base ho109) hb); have n3_ := Aside0.mk (Kd.R_below (PR HO262) hb); have n4_ := Aside0.mk (Kd.R_below (PR HO266) hb); have n5_ := Aside0.mk (Kd.R_lower (Kd.R_new' ho109 (Kd.R_lt (PR HO258))) (below_size (PB HB))); have n6_ := Aside0.mk (below_step (PB HB) hb); clear HO_1; clear HO255; clear HO258; clear HO262; clear HO266; clear HB; have HO_1 := n0_; have HO255 := n1_; have HO258 := n2_; have HO262 := n3_; have HO266 := n4_; have HO269 := n5_; have HB := n6_; clear n0_ n1_ n2_ n3_ n4_ n5_ n6_; clear hb ho109; obtain ⟨Ao110, co110, eo110⟩ := Kd.R_slice HO266.out; subst eo110; obtain ⟨Ao111, co111, eo111⟩ := Kd.R_slice HO269.out; subst eo111) | ((with_reducible refine gate_callee (f := 11) rfl ?_); refine goesL_ (some 30) rfl rfl Tryd.func11 (by kernel_rfl) rfl #[ptrOf (.slice Ao102 t247.length co102), .slice Ao110 y264.length co110, .slice Ao111 y267.length co111] rfl (by (try simp only [List.map_toArray, List.map_cons, List.map_nil]); first | done | rfl | (simp only [List.length_drop, List.length_take]; rfl)) ?_; (with_reducible refine (elim_System_Add.calls kj1 (fun k_ => ((((True ∧ some k_ ≠ (.slice Ao103 y253.length co103 : Value).ownBlock) ∧ some k_ ≠ (.slice Ao104 y256.length co104 : Value).ownBlock) ∧ some k_ ≠ (.slice Ao110 y264.length co110 : Value).ownBlock) ∧ some k_ ≠ (.slice Ao111 y267.length co111 : Value).ownBlock)) (.slice Ao102 t247.length co102) t263 _ _ y264 _ _ y267 t270 t271 t274 w _ ?side1 ?side2 ?side3 ?side4 ?side5 ?side6 ?side7 A10.out).mono ?_); (case side1 => first | exact HT.out | exact TabIn.below HT.out (PB HB) | (repeat (first | apply TabIn.drewN | apply TabIn.drew | exact HT.out))); (case side2 => exact PB HB); (case side3 => exact PR HO_1); (case side4 => repeat (first | exact (Kd.R_reads' HO266.out).2.2 | (with_reducible refine Kd.C_alloc ?_ _) | (with_reducible refine Kd.C_drewN ?_ _) | (with_reducible refine Kd.C_drew ?_))); (case side5 => exact (Kd.R_reads' HO266.out).2.1); (case side6 => repeat (first | exact (Kd.R_reads' HO269.out).2.2 | (with_reducible refine Kd.C_alloc ?_ _) | (with_reducible refine Kd.C_drewN ?_ _) | (with_reducible refine Kd.C_drew ?_))); (case side7 => exact (Kd.R_reads' HO269.out).2.1); rintro e w112 ⟨v272, rfl, ho0, hy0, hb, hkp⟩; refine ⟨_, rfl, ?_⟩; have n0_ := Aside0.mk (Kd.R_mono (ok' := fun k_ => ((((True ∧ some k_ ≠ (.slice Ao103 y253.length co103 : Value).ownBlock) ∧ some k_ ≠ (.slice Ao104 y256.length co104 : Value).ownBlock) ∧ some k_ ≠ (.slice Ao110 y264.length co110 : Value).ownBlock) ∧ some k_ ≠ (.slice Ao111 y267.length co111 : Value).ownBlock)) hy0 (fun k_ hk_ => Or.elim hk_ (fun hs_ => hs_) (fun hn_ => ⟨⟨⟨⟨trivial, (Kd.fresh' (Kd.R_lt (PR HO255)) k_ hn_)⟩, (Kd.fresh' (Kd.R_lt (PR HO258)) k_ hn_)⟩, (Kd.fresh' (Kd.R_lt (PR HO266)) k_ hn_)⟩, (Kd.fresh' (Kd.R_lt (PR HO269)) k_ hn_)⟩))); have n1_ := Aside0.mk (Kd.R_skept (PR HO255) hkp (by decide)); have n2_ := Aside0.mk (Kd.R_skept (PR HO258) hkp (by decide)); have n3_ := Aside0.mk (Kd.R_skept (PR HO262) hkp (by decide)); have n4_ := Aside0.mk (Kd.R_skept (PR HO266) hkp (by decide)); have n5_ := Aside0.mk (Kd.R_skept (PR HO269) hkp (by decide)); have n6_ := Aside0.mk (Kd.R_lower ho0 (below_size (PB HB))); have n7_ := Aside0.mk (hb); clear HO_1; clear HO255; clear HO258; clear HO262; clear HO266; clear HO269; clear HB; have HO_1 := n0_; have HO255 := n1_; have HO258 := n2_; have HO262 := n3_; have HO266 := n4_; have HO269 := n5_; have HO273 := n6_; have HB := n7_; clear n0_ n1_ n2_ n3_ n4_ n5_ n6_ n7_; (try clear hb); (try clear hkp); (try clear hy0); (try clear ho0)) | ((with_reducible refine gate_callee (f := 13) rfl ?_); refine goesL_ (some 35) rfl rfl Tryd.func13 (by kernel_rfl) rfl #[ptrOf (.slice Ao102 t274.length co102), .int .i64 1] rfl (by (try simp only [List.map_toArray, List.map_cons, List.map_nil]); first | done | (rw [show t274.length = t247.length from (Kd.R_reads' HO_1.out).1.symm] <;> rfl) | rfl | (simp only [List.length_drop, List.length_take]; rfl)) ?_; (with_reducible refine (elim_System_Value.calls kj1 _ _ t274 1 t275 t276 _ ?side1 ?side2 ?side3 A11.out).mono ?_); (case side1 => first | exact HT.out | exact TabIn.below HT.out (PB HB) | (repeat (first | apply TabIn.drewN | apply TabIn.drew | exact HT.out))); (case side2 => repeat (first | exact (Kd.R_reads' HO_1.out).2.2 | (with_reducible refine Kd.C_alloc ?_ _) | (with_reducible refine Kd.C_drewN ?_ _) | (with_reducible refine Kd.C_drew ?_))); (case side3 => rw [show t274.length = t247.length from (Kd.R_reads' HO_1.out).1.symm]; exact (Kd.R_reads' HO_1.out).2.1); rintro e w113 ⟨v277, v279, rfl, ho0, ho1, hb⟩; refine ⟨_, rfl, ?_⟩; have n0_ := Aside0.mk (Kd.R_elder' (PR HO_1) (Kd.R_base ho0) hb); have n1_ := Aside0.mk (Kd.R_below (PR HO255) hb); have n2_ := Aside0.mk (Kd.R_elder' (PR HO258) (Kd.R_base ho0) hb); have n3_ := Aside0.mk (Kd.R_below (PR HO262) hb); have n4_ := Aside0.mk (Kd.R_below (PR HO266) hb); have n5_ := Aside0.mk (Kd.R_elder' (PR HO269) (Kd.R_base ho0) hb); have n6_ := Aside0.mk (Kd.R_below (PR HO273) hb); have n7_ := Aside0.mk (Kd.R_lower (Kd.R_new' (Kd.R_new' ho0 (Kd.R_lt (PR HO258))) (Kd.R_lt (PR HO269))) (below_size (PB HB))); have n8_ := Aside0.mk (Kd.R_lower ho1 (below_size (PB HB))); have n9_ := Aside0.mk (below_step (PB HB) hb); clear HO_1; clear HO255; clear HO258; clear HO262; clear HO266; clear HO269; clear HO273; clear HB; have HO_1 := n0_; have HO255 := n1_; have HO258 := n2_; have HO262 := n3_; have HO266 := n4_; have HO269 := n5_; have HO273 := n6_; have HO278 := n7_; have HO280 := n8_; have HB := n9_; clear n0_ n1_ n2_ n3_ n4_ n5_ n6_ n7_ n8_ n9_; (try clear hb); (try clear hb2); (try clear hk); (try clear hi); (try clear ho0); (try clear ho1); obtain ⟨Ao114, co114, eo114⟩ := Kd.R_slice HO262.out; subst eo114; obtain ⟨Ao115, co115, eo115⟩ := Kd.R_slice HO273.out; subst eo115; obtain ⟨Ao116, co116, eo116⟩ := Kd.R_slice HO280.out; subst eo116))
       go_ret
       exact ⟨by first | rfl | (simp [errW_none, errW_some] <;> rfl) | (simp [*, errW_none, errW_some] <;> rfl), PB HB⟩
     ·rw [if_neg c13] at H
      have c13b0 : ((t271.length : Int) == 0) = false := beq_eq_false_iff_ne.mpr c13
      have c13b1 : ((t271.length : Int) != 0) = true := bne_iff_ne.mpr c13
      have c13b2 : ¬ (t271 = []) := fun h_ => c13 (by rw [h_]; rfl)
      obtain rfl := Option.some.inj H
      go_wp2_with (first | ((with_reducible refine gate_dst (N := 21) rfl ?_); refine Kd.R_lit (Kd.int .u64) _ 35 ?hg (N := 21) ?hd (xs := ([3] : List Int)) (inner := [.int .u64 3]) (ok := fun _ => True) (okp := fun _ => True) ?hr ?hp (fun _ hk => hk) trivial (Below.refl _ _) (Nat.le_refl _) (by simp) ?_; (case hd => rfl); (case hg => rfl); (case hr => first | (go_simp; done) | (go_simp; rfl)); (case hp => exact (Reps.one (show Kd.M (Kd.int .u64) _ _ _ 3 [.int .u64 3] from rfl) (Reps.none _ _))); intro v254 w117 ho118 hb hg_ hnew_; clear hg_ hnew_; (first | rw [← Ny253.out] at ho118 | (simp only [Int.reduceToNat] at ho118; rw [← Ny253.out] at ho118)); have n0_ := Aside0.mk (Kd.R_elder' (PR HO_1) (Kd.R_base ho118) hb); have n1_ := Aside0.mk (Kd.R_lower ho118 (below_size (PB HB))); have n2_ := Aside0.mk (below_step (PB HB) hb); clear HO_1; clear HB; have HO_1 := n0_; have HO255 := n1_; have HB := n2_; clear n0_ n1_ n2_; clear hb ho118) | ((with_reducible refine gate_dst (N := 22) rfl ?_); refine Kd.R_lit (Kd.int .u8) _ 5 ?hg (N := 22) ?hd (xs := ([3] : List Int)) (inner := [.int .u8 3]) (ok := fun _ => True) (okp := fun _ => True) ?hr ?hp (fun _ hk => hk) trivial (Below.refl _ _) (Nat.le_refl _) (by simp) ?_; (case hd => rfl); (case hg => rfl); (case hr => first | (go_simp; done) | (go_simp; rfl)); (case hp => exact (Reps.one (show Kd.M (Kd.int .u8) _ _ _ 3 [.int .u8 3] from rfl) (Reps.none _ _))); intro v257 w119 ho120 hb hg_ hnew_; clear hg_ hnew_; (first | rw [← Ny256.out] at ho120 | (simp only [Int.reduceToNat] at ho120; rw [← Ny256.out] at ho120)); have n0_ := Aside0.mk (Kd.R_elder' (PR HO_1) (Kd.R_base ho120) hb); have n1_ := Aside0.mk (Kd.R_below (PR HO255) hb); have n2_ := Aside0.mk (Kd.R_lower ho120 (below_size (PB HB))); have n3_ := Aside0.mk (below_step (PB HB) hb); clear HO_1; clear HO255; clear HB; have HO_1 := n0_; have HO255 := n1_; have HO258 := n2_; have HB := n3_; clear n0_ n1_ n2_ n3_; clear hb ho120; obtain ⟨Ao121, co121, eo121⟩ := Kd.R_slice HO_1.out; subst eo121; obtain ⟨Ao122, co122, eo122⟩ := Kd.R_slice HO255.out; subst eo122; obtain ⟨Ao123, co123, eo123⟩ := Kd.R_slice HO258.out; subst eo123) | ((with_reducible refine gate_callee (f := 11) rfl ?_); refine goesL_ (some 23) rfl rfl Tryd.func11 (by kernel_rfl) rfl #[ptrOf (.slice Ao121 t247.length co121), .slice Ao122 y253.length co122, .slice Ao123 y256.length co123] rfl (by (try simp only [List.map_toArray, List.map_cons, List.map_nil]); first | done | rfl | (simp only [List.length_drop, List.length_take]; rfl)) ?_; (with_reducible refine (elim_System_Add.calls kj1 (fun k_ => ((True ∧ some k_ ≠ (.slice Ao122 y253.length co122 : Value).ownBlock) ∧ some k_ ≠ (.slice Ao123 y256.length co123 : Value).ownBlock)) (.slice Ao121 t247.length co121) t247 _ _ y253 _ _ y256 t259 t260 t263 w _ ?side1 ?side2 ?side3 ?side4 ?side5 ?side6 ?side7 A9.out).mono ?_); (case side1 => first | exact HT.out | exact TabIn.below HT.out (PB HB) | (repeat (first | apply TabIn.drewN | apply TabIn.drew | exact HT.out))); (case side2 => exact PB HB); (case side3 => exact PR HO_1); (case side4 => repeat (first | exact (Kd.R_reads' HO255.out).2.2 | (with_reducible refine Kd.C_alloc ?_ _) | (with_reducible refine Kd.C_drewN ?_ _) | (with_reducible refine Kd.C_drew ?_))); (case side5 => exact (Kd.R_reads' HO255.out).2.1); (case side6 => repeat (first | exact (Kd.R_reads' HO258.out).2.2 | (with_reducible refine Kd.C_alloc ?_ _) | (with_reducible refine Kd.C_drewN ?_ _) | (with_reducible refine Kd.C_drew ?_))); (case side7 => exact (Kd.R_reads' HO258.out).2.1); rintro e w124 ⟨v261, rfl, ho0, hy0, hb, hkp⟩; refine ⟨_, rfl, ?_⟩; have n0_ := Aside0.mk (Kd.R_mono (ok' := fun k_ => ((True ∧ some k_ ≠ (.slice Ao122 y253.length co122 : Value).ownBlock) ∧ some k_ ≠ (.slice Ao123 y256.length co123 : Value).ownBlock)) hy0 (fun k_ hk_ => Or.elim hk_ (fun hs_ => hs_) (fun hn_ => ⟨⟨trivial, (Kd.fresh' (Kd.R_lt (PR HO255)) k_ hn_)⟩, (Kd.fresh' (Kd.R_lt (PR HO258)) k_ hn_)⟩))); have n1_ := Aside0.mk (Kd.R_skept (PR HO255) hkp (by decide)); have n2_ := Aside0.mk (Kd.R_skept (PR HO258) hkp (by decide)); have n3_ := Aside0.mk (Kd.R_lower ho0 (below_size (PB HB))); have n4_ := Aside0.mk (hb); clear HO_1; clear HO255; clear HO258; clear HB; have HO_1 := n0_; have HO255 := n1_; have HO258 := n2_; have HO262 := n3_; have HB := n4_; clear n0_ n1_ n2_ n3_ n4_; (try clear hb); (try clear hkp); (try clear hy0); (try clear ho0)) | ((with_reducible refine gate_dst (N := 28) rfl ?_); refine Kd.R_lit (Kd.int .u64) _ 35 ?hg (N := 28) ?hd (xs := ([1] : List Int)) (inner := [.int .u64 1]) (ok := fun _ => True) (okp := fun _ => True) ?hr ?hp (fun _ hk => hk) trivial (Below.refl _ _) (Nat.le_refl _) (by simp) ?_; (case hd => rfl); (case hg => rfl); (case hr => first | (go_simp; done) | (go_simp; rfl)); (case hp => exact (Reps.one (show Kd.M (Kd.int .u64) _ _ _ 1 [.int .u64 1] from rfl) (Reps.none _ _))); intro v265 w125 ho126 hb hg_ hnew_; clear hg_ hnew_; (first | rw [← Ny264.out] at ho126 | (simp only [Int.reduceToNat] at ho126; rw [← Ny264.out] at ho126)); have n0_ := Aside0.mk (Kd.R_elder' (PR HO_1) (Kd.R_base ho126) hb); have n1_ := Aside0.mk (Kd.R_elder' (PR HO255) (Kd.R_base ho126) hb); have n2_ := Aside0.mk (Kd.R_below (PR HO258) hb); have n3_ := Aside0.mk (Kd.R_below (PR HO262) hb); have n4_ := Aside0.mk (Kd.R_lower (Kd.R_new' ho126 (Kd.R_lt (PR HO255))) (below_size (PB HB))); have n5_ := Aside0.mk (below_step (PB HB) hb); clear HO_1; clear HO255; clear HO258; clear HO262; clear HB; have HO_1 := n0_; have HO255 := n1_; have HO258 := n2_; have HO262 := n3_; have HO266 := n4_; have HB := n5_; clear n0_ n1_ n2_ n3_ n4_ n5_; clear hb ho126) | ((with_reducible refine gate_dst (N := 29) rfl ?_); refine Kd.R_lit (Kd.int .u8) _ 5 ?hg (N := 29) ?hd (xs := ([1] : List Int)) (inner := [.int .u8 1]) (ok := fun _ => True) (okp := fun _ => True) ?hr ?hp (fun _ hk => hk) trivial (Below.refl _ _) (Nat.le_refl _) (by simp) ?_; (case hd => rfl); (case hg => rfl); (case hr => first | (go_simp; done) | (go_simp; rfl)); (case hp => exact (Reps.one (show Kd.M (Kd.int .u8) _ _ _ 1 [.int .u8 1] from rfl) (Reps.none _ _))); intro v268 w127 ho128 hb hg_ hnew_; clear hg_ hnew_; (first | rw [← Ny267.out] at ho128 | (simp only [Int.reduceToNat] at ho128; rw [← Ny267.out] at ho128)); have n0_ := Aside0.mk (Kd.R_elder' (PR HO_1) (Kd.R_base ho128) hb); have n1_ := Aside0.mk (Kd.R_below (PR HO255) hb); have n2_ := Aside0.mk (Kd.R_elder' (PR HO258) (Kd.R_base ho128) hb); have n3_ := Aside0.mk (Kd.R_below (PR HO262) hb); have n4_ := Aside0.mk (Kd.R_below (PR HO266) hb); have n5_ := Aside0.mk (Kd.R_lower (Kd.R_new' ho128 (Kd.R_lt (PR HO258))) (below_size (PB HB))); have n6_ := Aside0.mk (below_step (PB HB) hb); clear HO_1; clear HO255; clear HO258; clear HO262; clear HO266; clear HB; have HO_1 := n0_; have HO255 := n1_; have HO258 := n2_; have HO262 := n3_; have HO266 := n4_; have HO269 := n5_; have HB := n6_; clear n0_ n1_ n2_ n3_ n4_ n5_ n6_; clear hb ho128; obtain ⟨Ao129, co129, eo129⟩ := Kd.R_slice HO266.out; subst eo129; obtain ⟨Ao130, co130, eo130⟩ := Kd.R_slice HO269.out; subst eo130) | ((with_reducible refine gate_callee (f := 11) rfl ?_); refine goesL_ (some 30) rfl rfl Tryd.func11 (by kernel_rfl) rfl #[ptrOf (.slice Ao121 t247.length co121), .slice Ao129 y264.length co129, .slice Ao130 y267.length co130] rfl (by (try simp only [List.map_toArray, List.map_cons, List.map_nil]); first | done | rfl | (simp only [List.length_drop, List.length_take]; rfl)) ?_; (with_reducible refine (elim_System_Add.calls kj1 (fun k_ => ((((True ∧ some k_ ≠ (.slice Ao122 y253.length co122 : Value).ownBlock) ∧ some k_ ≠ (.slice Ao123 y256.length co123 : Value).ownBlock) ∧ some k_ ≠ (.slice Ao129 y264.length co129 : Value).ownBlock) ∧ some k_ ≠ (.slice Ao130 y267.length co130 : Value).ownBlock)) (.slice Ao121 t247.length co121) t263 _ _ y264 _ _ y267 t270 t271 t274 w _ ?side1 ?side2 ?side3 ?side4 ?side5 ?side6 ?side7 A10.out).mono ?_); (case side1 => first | exact HT.out | exact TabIn.below HT.out (PB HB) | (repeat (first | apply TabIn.drewN | apply TabIn.drew | exact HT.out))); (case side2 => exact PB HB); (case side3 => exact PR HO_1); (case side4 => repeat (first | exact (Kd.R_reads' HO266.out).2.2 | (with_reducible refine Kd.C_alloc ?_ _) | (with_reducible refine Kd.C_drewN ?_ _) | (with_reducible refine Kd.C_drew ?_))); (case side5 => exact (Kd.R_reads' HO266.out).2.1); (case side6 => repeat (first | exact (Kd.R_reads' HO269.out).2.2 | (with_reducible refine Kd.C_alloc ?_ _) | (with_reducible refine Kd.C_drewN ?_ _) | (with_reducible refine Kd.C_drew ?_))); (case side7 => exact (Kd.R_reads' HO269.out).2.1); rintro e w131 ⟨v272, rfl, ho0, hy0, hb, hkp⟩; refine ⟨_, rfl, ?_⟩; have n0_ := Aside0.mk (Kd.R_mono (ok' := fun k_ => ((((True ∧ some k_ ≠ (.slice Ao122 y253.length co122 : Value).ownBlock) ∧ some k_ ≠ (.slice Ao123 y256.length co123 : Value).ownBlock) ∧ some k_ ≠ (.slice Ao129 y264.length co129 : Value).ownBlock) ∧ some k_ ≠ (.slice Ao130 y267.length co130 : Value).ownBlock)) hy0 (fun k_ hk_ => Or.elim hk_ (fun hs_ => hs_) (fun hn_ => ⟨⟨⟨⟨trivial, (Kd.fresh' (Kd.R_lt (PR HO255)) k_ hn_)⟩, (Kd.fresh' (Kd.R_lt (PR HO258)) k_ hn_)⟩, (Kd.fresh' (Kd.R_lt (PR HO266)) k_ hn_)⟩, (Kd.fresh' (Kd.R_lt (PR HO269)) k_ hn_)⟩))); have n1_ := Aside0.mk (Kd.R_skept (PR HO255) hkp (by decide)); have n2_ := Aside0.mk (Kd.R_skept (PR HO258) hkp (by decide)); have n3_ := Aside0.mk (Kd.R_skept (PR HO262) hkp (by decide)); have n4_ := Aside0.mk (Kd.R_skept (PR HO266) hkp (by decide)); have n5_ := Aside0.mk (Kd.R_skept (PR HO269) hkp (by decide)); have n6_ := Aside0.mk (Kd.R_lower ho0 (below_size (PB HB))); have n7_ := Aside0.mk (hb); clear HO_1; clear HO255; clear HO258; clear HO262; clear HO266; clear HO269; clear HB; have HO_1 := n0_; have HO255 := n1_; have HO258 := n2_; have HO262 := n3_; have HO266 := n4_; have HO269 := n5_; have HO273 := n6_; have HB := n7_; clear n0_ n1_ n2_ n3_ n4_ n5_ n6_ n7_; (try clear hb); (try clear hkp); (try clear hy0); (try clear ho0)) | ((with_reducible refine gate_callee (f := 13) rfl ?_); refine goesL_ (some 35) rfl rfl Tryd.func13 (by kernel_rfl) rfl #[ptrOf (.slice Ao121 t274.length co121), .int .i64 1] rfl (by (try simp only [List.map_toArray, List.map_cons, List.map_nil]); first | done | (rw [show t274.length = t247.length from (Kd.R_reads' HO_1.out).1.symm] <;> rfl) | rfl | (simp only [List.length_drop, List.length_take]; rfl)) ?_; (with_reducible refine (elim_System_Value.calls kj1 _ _ t274 1 t275 t276 _ ?side1 ?side2 ?side3 A11.out).mono ?_); (case side1 => first | exact HT.out | exact TabIn.below HT.out (PB HB) | (repeat (first | apply TabIn.drewN | apply TabIn.drew | exact HT.out))); (case side2 => repeat (first | exact (Kd.R_reads' HO_1.out).2.2 | (with_reducible refine Kd.C_alloc ?_ _) | (with_reducible refine Kd.C_drewN ?_ _) | (with_reducible refine Kd.C_drew ?_))); (case side3 => rw [show t274.length = t247.length from (Kd.R_reads' HO_1.out).1.symm]; exact (Kd.R_reads' HO_1.out).2.1); rintro e w132 ⟨v277, v279, rfl, ho0, ho1, hb⟩; refine ⟨_, rfl, ?_⟩; have n0_ := Aside0.mk (Kd.R_elder' (PR HO_1) (Kd.R_base ho0) hb); have n1_ := Aside0.mk (Kd.R_below (PR HO255) hb); have n2_ := Aside0.mk (Kd.R_elder' (PR HO258) (Kd.R_base ho0) hb); have n3_ := Aside0.mk (Kd.R_below (PR HO262) hb); have n4_ := Aside0.mk (Kd.R_below (PR HO266) hb); have n5_ := Aside0.mk (Kd.R_elder' (PR HO269) (Kd.R_base ho0) hb); have n6_ := Aside0.mk (Kd.R_below (PR HO273) hb); have n7_ := Aside0.mk (Kd.R_lower (Kd.R_new' (Kd.R_new' ho0 (Kd.R_lt (PR HO258))) (Kd.R_lt (PR HO269))) (below_size (PB HB))); have n8_ := Aside0.mk (Kd.R_lower ho1 (below_size (PB HB))); have n9_ := Aside0.mk (below_step (PB HB) hb); clear HO_1; clear HO255; clear HO258; clear HO262; clear HO266; clear HO269; clear HO273; clear HB; have HO_1 := n0_; have HO255 := n1_; have HO258 := n2_; have HO262 := n3_; have HO266 := n4_; have HO269 := n5_; have HO273 := n6_; have HO278 := n7_; have HO280 := n8_; have HB := n9_; clear n0_ n1_ n2_ n3_ n4_ n5_ n6_ n7_ n8_ n9_; (try clear hb); (try clear hb2); (try clear hk); (try clear hi); (try clear ho0); (try clear ho1); obtain ⟨Ao133, co133, eo133⟩ := Kd.R_slice HO262.out; subst eo133; obtain ⟨Ao134, co134, eo134⟩ := Kd.R_slice HO273.out; subst eo134))
      go_ret
      exact ⟨by first | rfl | (simp [errW_none, errW_some] <;> rfl) | (simp [*, errW_none, errW_some] <;> rfl), PB HB⟩
    ·rw [if_neg c12] at H
     have c12b0 : ((t260.length : Int) == 0) = false := beq_eq_false_iff_ne.mpr c12
     have c12b1 : ((t260.length : Int) != 0) = true := bne_iff_ne.mpr c12
     have c12b2 : ¬ (t260 = []) := fun h_ => c12 (by rw [h_]; rfl)
     obtain rfl := Option.some.inj H
     go_wp2_with (first | ((with_reducible refine gate_dst (N := 21) rfl ?_); refine Kd.R_lit (Kd.int .u64) _ 35 ?hg (N := 21) ?hd (xs := ([3] : List Int)) (inner := [.int .u64 3]) (ok := fun _ => True) (okp := fun _ => True) ?hr ?hp (fun _ hk => hk) trivial (Below.refl _ _) (Nat.le_refl _) (by simp) ?_; (case hd => rfl); (case hg => rfl); (case hr => first | (go_simp; done) | (go_simp; rfl)); (case hp => exact (Reps.one (show Kd.M (Kd.int .u64) _ _ _ 3 [.int .u64 3] from rfl) (Reps.none _ _))); intro v254 w135 ho136 hb hg_ hnew_; clear hg_ hnew_; (first | rw [← Ny253.out] at ho136 | (simp only [Int.reduceToNat] at ho136; rw [← Ny253.out] at ho136)); have n0_ := Aside0.mk (Kd.R_elder' (PR HO_1) (Kd.R_base ho136) hb); have n1_ := Aside0.mk (Kd.R_lower ho136 (below_size (PB HB))); have n2_ := Aside0.mk (below_step (PB HB) hb); clear HO_1; clear HB; have HO_1 := n0_; have HO255 := n1_; have HB := n2_; clear n0_ n1_ n2_; clear hb ho136) | ((with_reducible refine gate_dst (N := 22) rfl ?_); refine Kd.R_lit (Kd.int .u8) _ 5 ?hg (N := 22) ?hd (xs := ([3] : List Int)) (inner := [.int .u8 3]) (ok := fun _ => True) (okp := fun _ => True) ?hr ?hp (fun _ hk => hk) trivial (Below.refl _ _) (Nat.le_refl _) (by simp) ?_; (case hd => rfl); (case hg => rfl); (case hr => first | (go_simp; done) | (go_simp; rfl)); (case hp => exact (Reps.one (show Kd.M (Kd.int .u8) _ _ _ 3 [.int .u8 3] from rfl) (Reps.none _ _))); intro v257 w137 ho138 hb hg_ hnew_; clear hg_ hnew_; (first | rw [← Ny256.out] at ho138 | (simp only [Int.reduceToNat] at ho138; rw [← Ny256.out] at ho138)); have n0_ := Aside0.mk (Kd.R_elder' (PR HO_1) (Kd.R_base ho138) hb); have n1_ := Aside0.mk (Kd.R_below (PR HO255) hb); have n2_ := Aside0.mk (Kd.R_lower ho138 (below_size (PB HB))); have n3_ := Aside0.mk (below_step (PB HB) hb); clear HO_1; clear HO255; clear HB; have HO_1 := n0_; have HO255 := n1_; have HO258 := n2_; have HB := n3_; clear n0_ n1_ n2_ n3_; clear hb ho138; obtain ⟨Ao139, co139, eo139⟩ := Kd.R_slice HO_1.out; subst eo139; obtain ⟨Ao140, co140, eo140⟩ := Kd.R_slice HO255.out; subst eo140; obtain ⟨Ao141, co141, eo141⟩ := Kd.R_slice HO258.out; subst eo141) | ((with_reducible refine gate_callee (f := 11) rfl ?_); refine goesL_ (some 23) rfl rfl Tryd.func11 (by kernel_rfl) rfl #[ptrOf (.slice Ao139 t247.length co139), .slice Ao140 y253.length co140, .slice Ao141 y256.length co141] rfl (by (try simp only [List.map_toArray, List.map_cons, List.map_nil]); first | done | rfl | (simp only [List.length_drop, List.length_take]; rfl)) ?_; (with_reducible refine (elim_System_Add.calls kj1 (fun k_ => ((True ∧ some k_ ≠ (.slice Ao140 y253.length co140 : Value).ownBlock) ∧ some k_ ≠ (.slice Ao141 y256.length co141 : Value).ownBlock)) (.slice Ao139 t247.length co139) t247 _ _ y253 _ _ y256 t259 t260 t263 w _ ?side1 ?side2 ?side3 ?side4 ?side5 ?side6 ?side7 A9.out).mono ?_); (case side1 => first | exact HT.out | exact TabIn.below HT.out (PB HB) | (repeat (first | apply TabIn.drewN | apply TabIn.drew | exact HT.out))); (case side2 => exact PB HB); (case side3 => exact PR HO_1); (case side4 => repeat (first | exact (Kd.R_reads' HO255.out).2.2 | (with_reducible refine Kd.C_alloc ?_ _) | (with_reducible refine Kd.C_drewN ?_ _) | (with_reducible refine Kd.C_drew ?_))); (case side5 => exact (Kd.R_reads' HO255.out).2.1); (case side6 => repeat (first | exact (Kd.R_reads' HO258.out).2.2 | (with_reducible refine Kd.C_alloc ?_ _) | (with_reducible refine Kd.C_drewN ?_ _) | (with_reducible refine Kd.C_drew ?_))); (case side7 => exact (Kd.R_reads' HO258.out).2.1); rintro e w142 ⟨v261, rfl, ho0, hy0, hb, hkp⟩; refine ⟨_, rfl, ?_⟩; have n0_ := Aside0.mk (Kd.R_mono (ok' := fun k_ => ((True ∧ some k_ ≠ (.slice Ao140 y253.length co140 : Value).ownBlock) ∧ some k_ ≠ (.slice Ao141 y256.length co141 : Value).ownBlock)) hy0 (fun k_ hk_ => Or.elim hk_ (fun hs_ => hs_) (fun hn_ => ⟨⟨trivial, (Kd.fresh' (Kd.R_lt (PR HO255)) k_ hn_)⟩, (Kd.fresh' (Kd.R_lt (PR HO258)) k_ hn_)⟩))); have n1_ := Aside0.mk (Kd.R_skept (PR HO255) hkp (by decide)); have n2_ := Aside0.mk (Kd.R_skept (PR HO258) hkp (by decide)); have n3_ := Aside0.mk (Kd.R_lower ho0 (below_size (PB HB))); have n4_ := Aside0.mk (hb); clear HO_1; clear HO255; clear HO258; clear HB; have HO_1 := n0_; have HO255 := n1_; have HO258 := n2_; have HO262 := n3_; have HB := n4_; clear n0_ n1_ n2_ n3_ n4_; (try clear hb); (try clear hkp); (try clear hy0); (try clear ho0)) | ((with_reducible refine gate_dst (N := 28) rfl ?_); refine Kd.R_lit (Kd.int .u64) _ 35 ?hg (N := 28) ?hd (xs := ([1] : List Int)) (inner := [.int .u64 1]) (ok := fun _ => True) (okp := fun _ => True) ?hr ?hp (fun _ hk => hk) trivial (Below.refl _ _) (Nat.le_refl _) (by simp) ?_; (case hd => rfl); (case hg => rfl); (case hr => first | (go_simp; done) | (go_simp; rfl)); (case hp => exact (Reps.one (show Kd.M (Kd.int .u64) _ _ _ 1 [.int .u64 1] from rfl) (Reps.none _ _))); intro v265 w143 ho144 hb hg_ hnew_; clear hg_ hnew_; (first | rw [← Ny264.out] at ho144 | (simp only [Int.reduceToNat] at ho144; rw [← Ny264.out] at ho144)); have n0_ := Aside0.mk (Kd.R_elder' (PR HO_1) (Kd.R_base ho144) hb); have n1_ := Aside0.mk (Kd.R_elder' (PR HO255) (Kd.R_base ho144) hb); have n2_ := Aside0.mk (Kd.R_below (PR HO258) hb); have n3_ := Aside0.mk (Kd.R_below (PR HO262) hb); have n4_ := Aside0.mk (Kd.R_lower (Kd.R_new' ho144 (Kd.R_lt (PR HO255))) (below_size (PB HB))); have n5_ := Aside0.mk (below_step (PB HB) hb); clear HO_1; clear HO255; clear HO258; clear HO262; clear HB; have HO_1 := n0_; have HO255 := n1_; have HO258 := n2_; have HO262 := n3_; have HO266 := n4_; have HB := n5_; clear n0_ n1_ n2_ n3_ n4_ n5_; clear hb ho144) | ((with_reducible refine gate_dst (N := 29) rfl ?_); refine Kd.R_lit (Kd.int .u8) _ 5 ?hg (N := 29) ?hd (xs := ([1] : List Int)) (inner := [.int .u8 1]) (ok := fun _ => True) (okp := fun _ => True) ?hr ?hp (fun _ hk => hk) trivial (Below.refl _ _) (Nat.le_refl _) (by simp) ?_; (case hd => rfl); (case hg => rfl); (case hr => first | (go_simp; done) | (go_simp; rfl)); (case hp => exact (Reps.one (show Kd.M (Kd.int .u8) _ _ _ 1 [.int .u8 1] from rfl) (Reps.none _ _))); intro v268 w145 ho146 hb hg_ hnew_; clear hg_ hnew_; (first | rw [← Ny267.out] at ho146 | (simp only [Int.reduceToNat] at ho146; rw [← Ny267.out] at ho146)); have n0_ := Aside0.mk (Kd.R_elder' (PR HO_1) (Kd.R_base ho146) hb); have n1_ := Aside0.mk (Kd.R_below (PR HO255) hb); have n2_ := Aside0.mk (Kd.R_elder' (PR HO258) (Kd.R_base ho146) hb); have n3_ := Aside0.mk (Kd.R_below (PR HO262) hb); have n4_ := Aside0.mk (Kd.R_below (PR HO266) hb); have n5_ := Aside0.mk (Kd.R_lower (Kd.R_new' ho146 (Kd.R_lt (PR HO258))) (below_size (PB HB))); have n6_ := Aside0.mk (below_step (PB HB) hb); clear HO_1; clear HO255; clear HO258; clear HO262; clear HO266; clear HB; have HO_1 := n0_; have HO255 := n1_; have HO258 := n2_; have HO262 := n3_; have HO266 := n4_; have HO269 := n5_; have HB := n6_; clear n0_ n1_ n2_ n3_ n4_ n5_ n6_; clear hb ho146; obtain ⟨Ao147, co147, eo147⟩ := Kd.R_slice HO266.out; subst eo147; obtain ⟨Ao148, co148, eo148⟩ := Kd.R_slice HO269.out; subst eo148) | ((with_reducible refine gate_callee (f := 11) rfl ?_); refine goesL_ (some 30) rfl rfl Tryd.func11 (by kernel_rfl) rfl #[ptrOf (.slice Ao139 t247.length co139), .slice Ao147 y264.length co147, .slice Ao148 y267.length co148] rfl (by (try simp only [List.map_toArray, List.map_cons, List.map_nil]); first | done | rfl | (simp only [List.length_drop, List.length_take]; rfl)) ?_; (with_reducible refine (elim_System_Add.calls kj1 (fun k_ => ((((True ∧ some k_ ≠ (.slice Ao140 y253.length co140 : Value).ownBlock) ∧ some k_ ≠ (.slice Ao141 y256.length co141 : Value).ownBlock) ∧ some k_ ≠ (.slice Ao147 y264.length co147 : Value).ownBlock) ∧ some k_ ≠ (.slice Ao148 y267.length co148 : Value).ownBlock)) (.slice Ao139 t247.length co139) t263 _ _ y264 _ _ y267 t270 t271 t274 w _ ?side1 ?side2 ?side3 ?side4 ?side5 ?side6 ?side7 A10.out).mono ?_); (case side1 => first | exact HT.out | exact TabIn.below HT.out (PB HB) | (repeat (first | apply TabIn.drewN | apply TabIn.drew | exact HT.out))); (case side2 => exact PB HB); (case side3 => exact PR HO_1); (case side4 => repeat (first | exact (Kd.R_reads' HO266.out).2.2 | (with_reducible refine Kd.C_alloc ?_ _) | (with_reducible refine Kd.C_drewN ?_ _) | (with_reducible refine Kd.C_drew ?_))); (case side5 => exact (Kd.R_reads' HO266.out).2.1); (case side6 => repeat (first | exact (Kd.R_reads' HO269.out).2.2 | (with_reducible refine Kd.C_alloc ?_ _) | (with_reducible refine Kd.C_drewN ?_ _) | (with_reducible refine Kd.C_drew ?_))); (case side7 => exact (Kd.R_reads' HO269.out).2.1); rintro e w149 ⟨v272, rfl, ho0, hy0, hb, hkp⟩; refine ⟨_, rfl, ?_⟩; have n0_ := Aside0.mk (Kd.R_mono (ok' := fun k_ => ((((True ∧ some k_ ≠ (.slice Ao140 y253.length co140 : Value).ownBlock) ∧ some k_ ≠ (.slice Ao141 y256.length co141 : Value).ownBlock) ∧ some k_ ≠ (.slice Ao147 y264.length co147 : Value).ownBlock) ∧ some k_ ≠ (.slice Ao148 y267.length co148 : Value).ownBlock)) hy0 (fun k_ hk_ => Or.elim hk_ (fun hs_ => hs_) (fun hn_ => ⟨⟨⟨⟨trivial, (Kd.fresh' (Kd.R_lt (PR HO255)) k_ hn_)⟩, (Kd.fresh' (Kd.R_lt (PR HO258)) k_ hn_)⟩, (Kd.fresh' (Kd.R_lt (PR HO266)) k_ hn_)⟩, (Kd.fresh' (Kd.R_lt (PR HO269)) k_ hn_)⟩))); have n1_ := Aside0.mk (Kd.R_skept (PR HO255) hkp (by decide)); have n2_ := Aside0.mk (Kd.R_skept (PR HO258) hkp (by decide)); have n3_ := Aside0.mk (Kd.R_skept (PR HO262) hkp (by decide)); have n4_ := Aside0.mk (Kd.R_skept (PR HO266) hkp (by decide)); have n5_ := Aside0.mk (Kd.R_skept (PR HO269) hkp (by decide)); have n6_ := Aside0.mk (Kd.R_lower ho0 (below_size (PB HB))); have n7_ := Aside0.mk (hb); clear HO_1; clear HO255; clear HO258; clear HO262; clear HO266; clear HO269; clear HB; have HO_1 := n0_; have HO255 := n1_; have HO258 := n2_; have HO262 := n3_; have HO266 := n4_; have HO269 := n5_; have HO273 := n6_; have HB := n7_; clear n0_ n1_ n2_ n3_ n4_ n5_ n6_ n7_; (try clear hb); (try clear hkp); (try clear hy0); (try clear ho0)) | ((with_reducible refine gate_callee (f := 13) rfl ?_); refine goesL_ (some 35) rfl rfl Tryd.func13 (by kernel_rfl) rfl #[ptrOf (.slice Ao139 t274.length co139), .int .i64 1] rfl (by (try simp only [List.map_toArray, List.map_cons, List.map_nil]); first | done | (rw [show t274.length = t247.length from (Kd.R_reads' HO_1.out).1.symm] <;> rfl) | rfl | (simp only [List.length_drop, List.length_take]; rfl)) ?_; (with_reducible refine (elim_System_Value.calls kj1 _ _ t274 1 t275 t276 _ ?side1 ?side2 ?side3 A11.out).mono ?_); (case side1 => first | exact HT.out | exact TabIn.below HT.out (PB HB) | (repeat (first | apply TabIn.drewN | apply TabIn.drew | exact HT.out))); (case side2 => repeat (first | exact (Kd.R_reads' HO_1.out).2.2 | (with_reducible refine Kd.C_alloc ?_ _) | (with_reducible refine Kd.C_drewN ?_ _) | (with_reducible refine Kd.C_drew ?_))); (case side3 => rw [show t274.length = t247.length from (Kd.R_reads' HO_1.out).1.symm]; exact (Kd.R_reads' HO_1.out).2.1); rintro e w150 ⟨v277, v279, rfl, ho0, ho1, hb⟩; refine ⟨_, rfl, ?_⟩; have n0_ := Aside0.mk (Kd.R_elder' (PR HO_1) (Kd.R_base ho0) hb); have n1_ := Aside0.mk (Kd.R_below (PR HO255) hb); have n2_ := Aside0.mk (Kd.R_elder' (PR HO258) (Kd.R_base ho0) hb); have n3_ := Aside0.mk (Kd.R_below (PR HO262) hb); have n4_ := Aside0.mk (Kd.R_below (PR HO266) hb); have n5_ := Aside0.mk (Kd.R_elder' (PR HO269) (Kd.R_base ho0) hb); have n6_ := Aside0.mk (Kd.R_below (PR HO273) hb); have n7_ := Aside0.mk (Kd.R_lower (Kd.R_new' (Kd.R_new' ho0 (Kd.R_lt (PR HO258))) (Kd.R_lt (PR HO269))) (below_size (PB HB))); have n8_ := Aside0.mk (Kd.R_lower ho1 (below_size (PB HB))); have n9_ := Aside0.mk (below_step (PB HB) hb); clear HO_1; clear HO255; clear HO258; clear HO262; clear HO266; clear HO269; clear HO273; clear HB; have HO_1 := n0_; have HO255 := n1_; have HO258 := n2_; have HO262 := n3_; have HO266 := n4_; have HO269 := n5_; have HO273 := n6_; have HO278 := n7_; have HO280 := n8_; have HB := n9_; clear n0_ n1_ n2_ n3_ n4_ n5_ n6_ n7_ n8_ n9_; (try clear hb); (try clear hb2); (try clear hk); (try clear hi); (try clear ho0); (try clear ho1); obtain ⟨Ao151, co151, eo151⟩ := Kd.R_slice HO262.out; subst eo151))
     go_ret
     exact ⟨by first | rfl | (simp [errW_none, errW_some] <;> rfl) | (simp [*, errW_none, errW_some] <;> rfl), PB HB⟩
end Go.Proofs.YtjmgkknbgffbjaaDoor.P
namespace Go.Proofs.YtjmgkknbgffbjaaDoor.Pure
open Go.RowKit Go.Proofs.YtjmgkknbgffbjaaDoor.P Go.Proofs.YtjmgkknbgffbjaaDoorW.PrintWords Go.Proofs.YtjmgkknbgffbjaaDoorW.PrintLast Go.Proofs.YtjmgkknbgffbjaaDoorW.PrintErr Go.Proofs.YtjmgkknbgffbjaaDoorW.PrintMore
set_option linter.unusedVariables false
set_option linter.unusedSimpArgs false
set_option maxRecDepth 100000 in
theorem awake05_ev : Ev (fun k => geyserlaw05_awake.f k) true := by
  refine Ev.of (fun k => geyserlaw05_awake.mono k) (k := 200) ?_
  kernel_rfl
end Go.Proofs.YtjmgkknbgffbjaaDoor.Pure
namespace Go.Proofs.YtjmgkknbgffbjaaDoor.P
open Go.RowKit Go.Proofs.YtjmgkknbgffbjaaDoorW.PrintWords Go.Proofs.YtjmgkknbgffbjaaDoorW.PrintLast Go.Proofs.YtjmgkknbgffbjaaDoorW.PrintErr Go.Proofs.YtjmgkknbgffbjaaDoorW.PrintMore
attribute [local go_sem] max2_int min2_int max_two min_two max_three min_three max_four min_four run_eql_errOf run_neq_errOf eqGuard_errOf   -- for this text's walks alone
set_option linter.unusedVariables false
set_option linter.unusedSimpArgs false
def elimM_Rank.f (l0 : List (S74)) : Option (Int) := if 0 < (l0.length : Int) then (some (((rd_T74 l0 0).f2).length : Int)) else (none)
set_option maxHeartbeats 8000000 in
set_option maxRecDepth 100000 in
theorem elimM_Rank.calls (ad900 : Addr) (l0 : List (S74)) (r : Int) (w : World) (hr0 : Kd.C k74 w (some ad900) l0.length l0) (h : elimM_Rank.f l0 = some r) :
  Calls Tryd.prog 14 #[.pointer (some ad900)] w fun e w' => e = .returned (.int .i64 r) ∧ Drawn0 w w' := by
 have HR0 := Aside0.mk hr0
 clear hr0
 have H : (if 0 < (l0.length : Int) then (some (((rd_T74 l0 0).f2).length : Int)) else (none)) = some r := h
 clear h
 by_cases c2 : 0 < (l0.length : Int)
 ·rw [if_pos c2] at H
  have c2b0 : decide (0 < (l0.length : Int)) = true := decide_eq_true c2
  have c2b1 : decide (0 < l0.length) = true := decide_eq_true (by omega)
  clear c2
  obtain rfl := Option.some.inj H
  have p312 : 0 ≤ (0 : Int) := (by omega)
  have q312 : 0 < (l0.length : Int) := of_decide_eq_true (by first | (with_reducible assumption) | assumption)
  obtain ⟨ad312, A312_2, c312_2, A312_3, c312_3, e312, hx312_0, hx312_1, hx312_2, hx312_3, hx312_4, hl312_2, hi312_2, hl312_3, hi312_3⟩ := at_T74 HR0.out 0 p312 q312
  obtain rfl : ad900 = ad312 := (by injection e312)
  have qi312 : (0 < l0.length) = True := eq_true (by omega)
  (try rw [show ((0 : Int)).toNat = 0 from rfl] at hx312_0)
  (try rw [show 0 * 5 = 0 from rfl] at hx312_0)
  (try rw [Addr.add_zero'] at hx312_0)
  (try rw [show ((0 : Int)).toNat = 0 from rfl] at hx312_1)
  (try rw [show 0 * 5 = 0 from rfl] at hx312_1)
  (try rw [Addr.add_zero'] at hx312_1)
  (try rw [show ((0 : Int)).toNat = 0 from rfl] at hx312_2)
  (try rw [show 0 * 5 = 0 from rfl] at hx312_2)
  (try rw [Addr.add_zero'] at hx312_2)
  (try rw [show ((0 : Int)).toNat = 0 from rfl] at hx312_3)
  (try rw [show 0 * 5 = 0 from rfl] at hx312_3)
  (try rw [Addr.add_zero'] at hx312_3)
  (try rw [show ((0 : Int)).toNat = 0 from rfl] at hx312_4)
  (try rw [show 0 * 5 = 0 from rfl] at hx312_4)
  (try rw [Addr.add_zero'] at hx312_4)
  have HR312_2 := Aside0.mk hi312_2
  have HC312_2 := Aside0.mk hl312_2
  clear hi312_2 hl312_2
  have HR312_3 := Aside0.mk hi312_3
  have HC312_3 := Aside0.mk hl312_3
  clear hi312_3 hl312_3
  replace p312 := eq_true p312
  replace q312 := eq_true q312
  go_enter Tryd.func14, Tryd.ntmps14
  go_wp2
  go_ret
  exact ⟨by first | rfl | (simp; done) | (simp [*]; done), by repeat (first | exact Drawn0.refl _ | apply Drawn0.step)⟩
 ·rw [if_neg c2] at H
  exact absurd H (by simp)
def elim_System_Rank.f (l0 : List S74) : Option Int := if l0.length = 0 then some 0 else elimM_Rank.f l0
theorem elim_System_Rank.calls (A0 : Option Addr) (c0 : Nat) (l0 : List S74) (r : Int) (w : World) (hr0 : Kd.C k74 w A0 l0.length l0) (hc0 : l0.length ≤ c0) (h : elim_System_Rank.f l0 = some r) :
  Calls Tryd.prog 14 #[ptrOf (.slice A0 l0.length c0)] w fun e w' => e = .returned (.int .i64 r) ∧ Below w.heap.size w w' := by
 unfold elim_System_Rank.f at h
 by_cases hz : l0.length = 0
 ·rw [if_pos hz] at h
  obtain rfl := Option.some.inj h
  rw [hz, ptrOf_zero]
  exact elim_Rank.nil w
 ·rw [if_neg hz] at h
  obtain ⟨_, _, hA⟩ := id hr0
  obtain ⟨ad, rfl, _⟩ := hA (Nat.pos_of_ne_zero hz)
  rw [ptrOf_pos _ _ _ hz]
  refine (elimM_Rank.calls ad l0 r w hr0 h).mono fun e w' hx => ?_
  obtain ⟨m, rfl⟩ := hx.2.out
  exact ⟨hx.1, pw_below_drewN (Below.refl _ _) m⟩
def fault_Wrap.f (a0 : ByteArray) (l1 : List FE) : Option (List FE) := match l1 with
 | [] => some []
 | [x] => some [⟨a0, false, wrapNum x⟩]
 | _ :: _ :: _ => none
theorem fault_Wrap.calls (a0 : ByteArray) (P1_ : Nat → Prop) (u9001_ : Value) (l1 : List FE) (r : List FE) (w0 w : World) (hB : Below w0.heap.size w0 w) (ho1 : Kd.R kF0 95 w w0.heap.size P1_ u9001_ l1) (h : fault_Wrap.f a0 l1 = some r) :
  Calls Tryd.prog 38 #[.string a0, errOf u9001_] w fun e w' => ∃ v0_ : Value, e = .returned (errOf v0_) ∧ Kd.R kF 95 w' w0.heap.size (fun k_ => (P1_ k_ ∨ w.heap.size ≤ k_)) v0_ r ∧ Below w0.heap.size w0 w' ∧ Kept w w' (fun k_ => P1_ k_) := by
 obtain ⟨A, c, rfl⟩ := Kd.R_slice ho1
 unfold fault_Wrap.f at h
 match l1, ho1, h with
 | [], ho1, h =>
  obtain rfl := Option.some.inj h
  rw [show errOf (.slice A ([] : List FE).length c) = .nilIface from rfl]
  clear ho1
  have HB := Aside0.mk hB
  clear hB
  go_enter Tryd.func38, Tryd.ntmps38
  go_wp2
  go_ret
  exact ⟨.slice none 0 0, rfl, fault_none _ _ _, HB.out, Kept.refl _ _⟩
 | [x], ho1, h =>
  obtain rfl := Option.some.inj h
  have HO := Aside0.mk ho1
  rw [errOf_pos _ _ _ (by simp)]
  have HB := Aside0.mk hB
  clear hB ho1
  go_enter Tryd.func38, Tryd.ntmps38
  go_wp2
  go_ret
  exact ⟨.slice (some ⟨w.heap.size, 0, none⟩) 1 1, rfl, wrap_row w w0 P1_ a0 x A _ c HB.out.size HO.out, below_alloc HB.out _, (Kept.refl w _).alloc _⟩
end Go.Proofs.YtjmgkknbgffbjaaDoor.P
