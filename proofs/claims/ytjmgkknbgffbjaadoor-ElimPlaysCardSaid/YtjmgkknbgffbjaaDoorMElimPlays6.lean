-- joined by join.py: PureRPack PureE12 PureE13 PureE14 PureE15 PureE16 PureE17 PureE18 PureE19 PureE20 PureE21 PureAwake05 PlaysD
import Derived.Test.YtjmgkknbgffbjaaDoorMElimPlays5
namespace Go.Proofs.YtjmgkknbgffbjaaDoor.Pure
open Go.RowKit Go.Proofs.YtjmgkknbgffbjaaDoor.P Go.Proofs.YtjmgkknbgffbjaaDoorW.PrintWords Go.Proofs.YtjmgkknbgffbjaaDoorW.PrintLast Go.Proofs.YtjmgkknbgffbjaaDoorW.PrintErr Go.Proofs.YtjmgkknbgffbjaaDoorW.PrintMore
set_option linter.unusedVariables false
set_option linter.unusedSimpArgs false
theorem in_l0 (v : Int) (S : List Int) : ∀ P : List Int, (P ++ S).length < 9223372036854775807 → Ev (fun k => geyserref02_In.l0 k (P ++ S) v (P.length : Int)) (decide (v ∈ S)) := by
  induction S with
  | nil =>
    intro P hP
    refine Ev.step (f := fun _ => some false) (fun k => ?_) (Ev.congr (fun _ => by simp) (Ev.now _))
    rw [geyserref02_In.l0, if_neg (by simp)]
  | cons c S ih =>
    intro P hP
    have hlen : (P ++ c :: S).length = P.length + (S.length + 1) := by simp
    by_cases hc : c = v
    · subst hc
      refine Ev.step (f := fun _ => some true) (fun k => ?_) (Ev.congr (fun _ => by simp) (Ev.now _))
      rw [geyserref02_In.l0, if_pos (by omega), if_pos (by omega), rd_mid, if_pos rfl]
    · have h' := ih (P ++ [c]) (by simpa using hP)
      have e1 : P ++ [c] ++ S = P ++ c :: S := by simp
      have e2 : ((P ++ [c]).length : Int) = wrap64 ((P.length : Int) + 1) := by rw [w64s (by omega) (by omega)]; simp
      have e3 : decide (v ∈ c :: S) = decide (v ∈ S) := by
        have : ¬ v = c := fun h => hc h.symm
        simp [this]
      rw [e1, e2] at h'
      rw [e3]
      refine Ev.step (fun k => ?_) h'
      rw [geyserref02_In.l0, if_pos (by omega), if_pos (by omega), rd_mid, if_neg hc]
theorem in_ev (l : List Int) (v : Int) (hl : l.length < 9223372036854775807) : Ev (fun k => geyserref02_In.f k l v) (decide (v ∈ l)) := in_l0 v l [] (by simpa using hl)
def hiW (l : List Int) (base : Nat) : Nat → Nat
  | 0 => 0
  | t + 1 => 2 * hiW l base t + (if ((base + (63 - t) : Nat) : Int) ∈ l then 1 else 0)
theorem hiW_lt (l : List Int) (base : Nat) : ∀ t, hiW l base t < 2 ^ t
  | 0 => by simp [hiW]
  | t + 1 => by have := hiW_lt l base t; rw [hiW, Nat.pow_succ]; split <;> omega
theorem hiW_bit (l : List Int) (base : Nat) : ∀ t, t ≤ 64 → ∀ j, (hiW l base t).testBit j = (decide (j < t) && decide (((base + (64 - t + j) : Nat) : Int) ∈ l))
  | 0, _, j => by simp [hiW]
  | t + 1, ht, 0 => by
    rw [hiW, Nat.testBit_zero]
    have e : base + (64 - (t + 1) + 0) = base + (63 - t) := by omega
    rw [e]
    by_cases h : ((base + (63 - t) : Nat) : Int) ∈ l
    · rw [if_pos h, decide_eq_true h, decide_eq_true (show 0 < t + 1 by omega)]
      have : (2 * hiW l base t + 1) % 2 = 1 := by omega
      rw [this]; rfl
    · rw [if_neg h, decide_eq_false h]
      have : (2 * hiW l base t + 0) % 2 = 0 := by omega
      rw [this]; simp
  | t + 1, ht, j + 1 => by
    rw [hiW, Nat.testBit_succ]
    have e1 : (2 * hiW l base t + (if ((base + (63 - t) : Nat) : Int) ∈ l then 1 else 0)) / 2 = hiW l base t := by split <;> omega
    rw [e1, hiW_bit l base t (by omega) j]
    have e2 : base + (64 - t + j) = base + (64 - (t + 1) + (j + 1)) := by omega
    rw [e2]
    have e3 : decide (j < t) = decide (j + 1 < t + 1) := by rw [decide_eq_decide]; omega
    rw [e3]
theorem wrapu_nat (a : Nat) (ha : a < 18446744073709551616) : IntKind.u64.wrap (a : Int) = (a : Int) := by rw [IntKind.wrap_u64]; omega
theorem rpack_l1 (l : List Int) (n : Int) (hl : l.length < 1000000) (acc : List Int) (i : Nat) (r : List Int) (hi : i ≤ 1000) (hacc : acc.length ≤ 1000)
    (h : Ev (fun k => geyserref02_Pack.l0 k l n (acc ++ [((hiW l (64 * i) 64 : Nat) : Int)]) ((i + 1 : Nat) : Int)) r) : ∀ d t : Nat, t + d = 64 →
    Ev (fun k => geyserref02_Pack.l1 k l n acc (i : Int) ((hiW l (64 * i) t : Nat) : Int) (63 - (t : Int))) r := by
  intro d
  induction d with
  | zero =>
    intro t ht
    obtain rfl : t = 64 := by omega
    refine Ev.step (fun k => ?_) h
    rw [geyserref02_Pack.l1, if_neg (by omega), if_pos (by omega), w64s (by omega) (by omega)]
    rfl
  | succ d ih =>
    intro t ht
    have hlt := hiW_lt l (64 * i) (t + 1)
    have hp : 2 ^ (t + 1) ≤ 18446744073709551616 := by
      have : (2 : Nat) ^ (t + 1) ≤ 2 ^ 64 := Nat.pow_le_pow_right (by decide) (by omega)
      have e : (2 : Nat) ^ 64 = 18446744073709551616 := by decide
      omega
    have h' := ih (t + 1) (by omega)
    have e0 : (63 : Int) - ((t + 1 : Nat) : Int) = wrap64 (63 - (t : Int) - 1) := by rw [w64s (by omega) (by omega)]; omega
    have e1 : wrap64 (wrap64 (64 * (i : Int)) + (63 - (t : Int))) = ((64 * i + (63 - t) : Nat) : Int) := by
      rw [w64s (x := 64 * (i : Int)) (by omega) (by omega), w64s (by omega) (by omega)]; omega
    rw [e0] at h'
    have hin := in_ev l ((64 * i + (63 - t) : Nat) : Int) (by omega)
    refine Ev.step (f := fun k => (geyserref02_In.f k l ((64 * i + (63 - t) : Nat) : Int)).bind fun t499 => (if t499 = true then (geyserref02_Pack.l1 k l n acc (i : Int) (IntKind.u64.wrap ((IntKind.u64.wrap (2 * ((hiW l (64 * i) t : Nat) : Int))) + 1)) (wrap64 (63 - (t : Int) - 1))) else (geyserref02_Pack.l1 k l n acc (i : Int) (IntKind.u64.wrap (2 * ((hiW l (64 * i) t : Nat) : Int))) (wrap64 (63 - (t : Int) - 1))))) (fun k => ?_) ?_
    · rw [geyserref02_Pack.l1, if_pos (by omega), e1]
    · refine Ev.bind hin ?_
      rw [hiW] at hlt h'
      have e2 : (2 * ((hiW l (64 * i) t : Nat) : Int)) = ((2 * hiW l (64 * i) t : Nat) : Int) := by omega
      by_cases hm : ((64 * i + (63 - t) : Nat) : Int) ∈ l
      · rw [if_pos hm] at hlt h'
        rw [decide_eq_true hm, e2, wrapu_nat _ (by omega)]
        have e3 : ((2 * hiW l (64 * i) t : Nat) : Int) + 1 = ((2 * hiW l (64 * i) t + 1 : Nat) : Int) := by omega
        rw [e3, wrapu_nat _ (by omega)]
        refine Ev.congr (fun k => ?_) h'
        rw [if_pos rfl]
      · rw [if_neg hm] at hlt h'
        rw [decide_eq_false hm, e2, wrapu_nat _ (by omega)]
        rw [Nat.add_zero] at h'
        refine Ev.congr (fun k => ?_) h'
        rw [if_neg (by decide)]
def wordsOf (l : List Int) (s d : Nat) : List Int := (List.range' s d).map fun i => ((hiW l (64 * i) 64 : Nat) : Int)
theorem rpack_l0 (l : List Int) (n : Int) (hl : l.length < 1000000) (h0 : 0 ≤ n) (h1 : n ≤ 4096) : ∀ (d i : Nat) (acc : List Int), i + d = nW n → acc.length = i →
    Ev (fun k => geyserref02_Pack.l0 k l n acc (i : Int)) (acc ++ wordsOf l i d) := by
  have hs := rsz_ev n
  have es : szR n = (nW n : Int) := by unfold szR; rw [if_neg (by omega)]
  rw [es] at hs
  have hw : nW n ≤ 64 := by unfold nW; omega
  intro d
  induction d with
  | zero =>
    intro i acc hi hacc
    have e : wordsOf l i 0 = [] := rfl
    rw [e, List.append_nil]
    refine Ev.step (f := fun k => (geyserref02_Size.f k n).bind fun t498 => (if (i : Int) < t498 then (geyserref02_Pack.l1 k l n acc (i : Int) 0 63) else (some acc))) (fun k => ?_) (Ev.bind hs ?_)
    · rw [geyserref02_Pack.l0]
    · refine Ev.congr (fun k => ?_) (Ev.now _)
      rw [if_neg (by omega)]
  | succ d ih =>
    intro i acc hi hacc
    have h' := ih (i + 1) (acc ++ [((hiW l (64 * i) 64 : Nat) : Int)]) (by omega) (by simp [hacc])
    have e : acc ++ wordsOf l i (d + 1) = acc ++ [((hiW l (64 * i) 64 : Nat) : Int)] ++ wordsOf l (i + 1) d := by simp [wordsOf, List.range'_succ]
    rw [e]
    have hx := rpack_l1 l n hl acc i _ (by omega) (by omega) h' 64 0 (by omega)
    refine Ev.step (f := fun k => (geyserref02_Size.f k n).bind fun t498 => (if (i : Int) < t498 then (geyserref02_Pack.l1 k l n acc (i : Int) 0 63) else (some acc))) (fun k => ?_) (Ev.bind hs ?_)
    · rw [geyserref02_Pack.l0]
    · refine Ev.congr (fun k => ?_) hx
      rw [if_pos (by omega)]
      rfl
theorem rpack_ev (l : List Int) (n : Int) (hl : l.length < 1000000) (h0 : 0 ≤ n) (h1 : n ≤ 4096) : Ev (fun k => geyserref02_Pack.f k l n) (wordsOf l 0 (nW n)) := by
  have h := rpack_l0 l n hl h0 h1 (nW n) 0 [] (by omega) rfl
  rw [List.nil_append] at h
  exact h
theorem wordsOf_facts (l : List Int) (n : Nat) (hlt : ∀ c ∈ l, c < 64 * (n : Int)) : (wordsOf l 0 n).length = n ∧ (∀ a ∈ wordsOf l 0 n, U64 a) ∧ ∀ d : Nat, hasB (wordsOf l 0 n) d = decide ((d : Int) ∈ l) := by
  have hlen : (wordsOf l 0 n).length = n := by simp [wordsOf]
  refine ⟨hlen, ?_, ?_⟩
  · intro a ha
    obtain ⟨i, _, rfl⟩ := List.mem_map.1 ha
    have := hiW_lt l (64 * i) 64
    have e64 : (2 : Nat) ^ 64 = 18446744073709551616 := by decide
    exact ⟨by omega, by omega⟩
  · intro d
    unfold hasB
    rw [hlen]
    by_cases hd : d / 64 < n
    · have hg : (wordsOf l 0 n).getD (d / 64) 0 = ((hiW l (64 * (d / 64)) 64 : Nat) : Int) := by
        rw [List.getD_eq_getElem?_getD, List.getElem?_eq_getElem (by rw [hlen]; exact hd), Option.getD_some]
        simp [wordsOf]
      rw [hg, decide_eq_true hd, Bool.true_and, Int.toNat_natCast, hiW_bit l _ 64 (Nat.le_refl _), decide_eq_true (Nat.mod_lt _ (by decide)), Bool.true_and]
      have e : 64 * (d / 64) + (64 - 64 + d % 64) = d := by omega
      rw [e]
    · rw [decide_eq_false hd, Bool.false_and]
      refine (decide_eq_false (fun h => ?_)).symm
      have := hlt _ h
      omega
end Go.Proofs.YtjmgkknbgffbjaaDoor.Pure
namespace Go.Proofs.YtjmgkknbgffbjaaDoor.Pure
open Go.RowKit Go.Proofs.YtjmgkknbgffbjaaDoor.P Go.Proofs.YtjmgkknbgffbjaaDoorW.PrintWords Go.Proofs.YtjmgkknbgffbjaaDoorW.PrintLast Go.Proofs.YtjmgkknbgffbjaaDoorW.PrintErr Go.Proofs.YtjmgkknbgffbjaaDoorW.PrintMore Go.Proofs.YtjmgkknbgffbjaaDoor.Lin
set_option linter.unusedVariables false
set_option linter.unusedSimpArgs false
def XS (R : List (List Bool)) (p : Nat → Nat) (v : V) (d : Nat) : Nat → Bool
  | 0 => false
  | q + 1 => XS R p v d q != (v (p q) && bv (gr R q) d)
theorem XS_vx (R : List (List Bool)) (p : Nat → Nat) (u v : V) (d : Nat) : ∀ q, XS R p (vx u v) d q = (XS R p u d q != XS R p v d q)
  | 0 => rfl
  | q + 1 => by
    show (XS R p (vx u v) d q != ((u (p q) != v (p q)) && bv (gr R q) d)) = ((XS R p u d q != (u (p q) && bv (gr R q) d)) != (XS R p v d q != (v (p q) && bv (gr R q) d)))
    rw [XS_vx R p u v d q]
    cases XS R p u d q <;> cases XS R p v d q <;> cases u (p q) <;> cases v (p q) <;> cases bv (gr R q) d <;> rfl
theorem XS_none (R : List (List Bool)) (p : Nat → Nat) (v : V) (d : Nat) : ∀ q, (∀ j, j < q → v (p j) = false) → XS R p v d q = false
  | 0, _ => rfl
  | q + 1, h => by
    show (XS R p v d q != (v (p q) && bv (gr R q) d)) = false
    rw [XS_none R p v d q (fun j hj => h j (by omega)), h q (by omega)]
    rfl
theorem XS_row {n N m : Nat} {R0 R : List (List Bool)} {done : Nat} {p : Nat → Nat} (h : GInv n m R0 R done N p) {i : Nat} (hi : i < m) (d : Nat) : ∀ q, q ≤ done → XS R p (bv (gr R i)) d q = (decide (i < q) && bv (gr R i) d)
  | 0, _ => by simp [XS]
  | q + 1, hq => by
    show (XS R p (bv (gr R i)) d q != (bv (gr R i) (p q) && bv (gr R q) d)) = _
    rw [XS_row h hi d q (by omega)]
    by_cases e : i = q
    · subst e
      rw [(h.piv i (by omega)).1, decide_eq_false (by omega), decide_eq_true (by omega)]
      cases bv (gr R i) d <;> rfl
    · rw [(h.piv q (by omega)).2 i hi e]
      by_cases g : i < q
      · rw [decide_eq_true g, decide_eq_true (by omega)]; cases bv (gr R i) d <;> rfl
      · rw [decide_eq_false g, decide_eq_false (by omega)]; rfl
theorem GInv.told {n N m : Nat} {R0 R : List (List Bool)} {done : Nat} {p : Nat → Nat} (h : GInv n m R0 R done N p) {v : V} (hv : Sp (R.map bv) v) {d : Nat} (hd : d < N) : XS R p v d done = v d := by
  induction hv with
  | zero => exact XS_none R p v0 d done (fun _ _ => rfl)
  | @add u v hu _ ih =>
    rw [XS_vx, ih]
    obtain ⟨x, hx, rfl⟩ := List.mem_map.1 hu
    obtain ⟨i, hi, rfl⟩ := mem_gr hx
    rw [h.len] at hi
    rw [XS_row h hi d done (Nat.le_refl _)]
    by_cases g : i < done
    · rw [decide_eq_true g]; rfl
    · have e := h.low i (by omega) hi d hd
      show ((decide (i < done) && bv (gr R i) d) != v d) = (bv (gr R i) d != v d)
      rw [decide_eq_false g, e]
      rfl
theorem GInv.null {n N m : Nat} {R0 R : List (List Bool)} {done : Nat} {p : Nat → Nat} (h : GInv n m R0 R done N p) {v : V} (hv : Sp (R.map bv) v) (hz : ∀ j, j < done → v (p j) = false) {d : Nat} (hd : d < N) : v d = false :=
  (h.told hv hd).symm.trans (XS_none R p v d done hz)
theorem bv_longs (n : Nat) (l : List S98) : (l.map (fun e => longL n e.f0 e.f1)).map bv = LV n l := by
  rw [List.map_map]
  exact List.map_congr_left (fun e _ => bv_longL n e.f0 e.f1)
theorem Like.pivot {x : S74} {n m M : Nat} {l : List S98} (h : Like x n m l) {N : Nat} {R : List (List Bool)} {done : Nat} {p : Nat → Nat} (hG : GInv N M (l.map (fun e => longL n e.f0 e.f1)) R done n p) (hp : ∀ j, j < done → p j < n)
    {c : Nat} (hc : c < n) {pk s : List Int} (hh : ∀ d, hasB pk d = decide (d = c)) (hu : Sp (KV n x) (J n pk s)) :
    ∃ j, j < done ∧ bv (gr R j) = J n pk s ∧ ∀ i, i < j → bv (gr R i) c = false := by
  have hlo : ∀ d, d < n → J n pk s d = decide (d = c) := fun d hd => by rw [J_lo _ _ hd, hh]
  have hR : Sp (R.map bv) (J n pk s) := by
    have h1 := (h.joint _).1 hu
    rw [← bv_longs] at h1
    exact h1.trans (fun u hu => by obtain ⟨y, hy, rfl⟩ := List.mem_map.1 hu; exact hG.ofs y hy)
  have hex : ∃ j, j < done ∧ p j = c := by
    refine Classical.byContradiction fun g => ?_
    have hz := hG.null hR (fun j hj => by rw [hlo _ (hp j hj)]; exact decide_eq_false (fun e => g ⟨j, hj, e⟩)) hc
    rw [hlo c hc, decide_eq_true rfl] at hz
    cases hz
  obtain ⟨j, hj, rfl⟩ := hex
  have hjM : j < M := Nat.lt_of_lt_of_le hj hG.le
  have hmem : bv (gr R j) ∈ R.map bv := List.mem_map.2 ⟨_, gr_mem (by rw [hG.len]; exact hjM), rfl⟩
  have hw : Sp (R.map bv) (vx (J n pk s) (bv (gr R j))) := hR.vx (Sp.mem hmem)
  have hz : ∀ d, d < n → vx (J n pk s) (bv (gr R j)) d = false := fun d hd => hG.null hw (fun i hi => by
    show (J n pk s (p i) != bv (gr R j) (p i)) = false
    rw [hlo _ (hp i hi)]
    by_cases e : i = j
    · subst e
      rw [decide_eq_true rfl, (hG.piv i hi).1]; rfl
    · rw [(hG.piv i hi).2 j hjM (Ne.symm e), decide_eq_false (fun q => by
        have h1 := (hG.piv i hi).2 j hjM (Ne.symm e)
        rw [q, (hG.piv j hj).1] at h1
        cases h1)]
      rfl) hd
  have hk : Sp (KV n x) (vx (J n pk s) (bv (gr R j))) := (h.joint _).2 (by
    rw [← bv_longs]
    exact hw.trans (fun u hu => by obtain ⟨y, hy, rfl⟩ := List.mem_map.1 hu; exact hG.tos y hy))
  have h0 := h.sound hk hz
  refine ⟨j, hj, ?_, fun i hi => (hG.piv j hj).2 i (by omega) (by omega)⟩
  have h1 := vx_cancel (J n pk s) (bv (gr R j))
  rw [h0, zero_vx] at h1
  exact h1
theorem take_gr (R : List (List Bool)) (done i : Nat) (hi : i < done) : rd_Lsbool (R.take done) (i : Int) = gr R i := by
  unfold rd_Lsbool gr
  rw [Int.toNat_natCast, List.getD_eq_getElem?_getD, List.getD_eq_getElem?_getD, List.getElem?_take_of_lt hi]
theorem rval_l1 {n m : Nat} (hn : n ≤ 4096) (hm : m ≤ 64) (b : Int) (l : List S98) (cl : Bool) {R : List (List Bool)} {done j c : Nat} (hd : done ≤ R.length) (hR : ∀ y ∈ R, y.length = n + 8 * m) (hj : j < done) (hjx : done < 1000000) (hc : c < n) (h0 : ∀ i, i < j → bv (gr R i) c = false) (h1 : bv (gr R j) c = true) {s : List Int} (hs : SymOK m s) (hb : ∀ q, q < 8 * m → bv (gr R j) (n + q) = byB s q) :
    ∀ (d i : Nat), i + d = j → Ev (fun k => geyserref05_Value.l1 k (c : Int) (R.take done) (i : Int) (n : Int) b l cl) (s, 0) := by
  have hlen : ∀ i, i < done → (gr R i).length = n + 8 * m := fun i hi => hR _ (gr_mem (by omega))
  have hG : (R.take done).length = done := by rw [List.length_take]; omega
  intro d
  induction d with
  | zero =>
    intro i hi
    obtain rfl : i = j := by omega
    have ht : ((gr R i).drop n).length = 8 * m := by rw [List.length_drop, hlen i hj]; omega
    have hq : ∀ p, p < 8 * m → ((gr R i).drop n).getD p false = byB s p := fun p hp => by
      rw [← hb p hp, List.getD_eq_getElem?_getD, List.getElem?_drop, ← List.getD_eq_getElem?_getD]; rfl
    refine Ev.step (f := fun k => (geyserref05_bytes.f k ((gr R i).drop n)).bind fun t737 => (some (t737, 0))) (fun k => ?_) (Ev.bind (bytes_ev hm hs _ ht hq) (Ev.now _))
    rw [geyserref05_Value.l1, if_pos (by rw [hG]; omega), if_pos (by omega), if_pos (by omega), take_gr R done i hj, if_pos (by rw [hlen i hj]; omega), if_pos (show rdOf false (gr R i) (c : Int) = true from by unfold rdOf; rw [Int.toNat_natCast]; exact h1), if_pos (by omega), if_pos (by rw [hlen i hj]; omega), Int.toNat_natCast]
  | succ d ih =>
    intro i hi
    have hw : wrap64 ((i : Int) + 1) = ((i + 1 : Nat) : Int) := by rw [w64s (by omega) (by omega)]; rfl
    refine Ev.step (fun k => ?_) (ih (i + 1) (by omega))
    rw [geyserref05_Value.l1, if_pos (by rw [hG]; omega), if_pos (by omega), if_pos (by omega), take_gr R done i (by omega), if_pos (by rw [hlen i (by omega)]; omega), if_neg (show ¬ rdOf false (gr R i) (c : Int) = true from by unfold rdOf; rw [Int.toNat_natCast]; show ¬ bv (gr R i) c = true; rw [h0 i (by omega)]; exact Bool.false_ne_true), hw]
theorem rval_end {n : Nat} (b : Int) {l : List S98} (cl : Bool) (c : Int) {G : List (List Bool)} {r : List Int × Int} (hG : Ev (fun k => geyserref03_Gauss.f k (l.map (fun e => longL n e.f0 e.f1)) (n : Int)) G) (hr : Ev (fun k => geyserref05_Value.l1 k c G 0 (n : Int) b l cl) r) :
    Ev (fun k => (geyserref03_Gauss.f k (l.map (fun e => longL n e.f0 e.f1)) (n : Int)).bind fun t726 => (geyserref05_Value.l1 k c t726 0 (n : Int) b l cl)) r := Ev.bind (f := fun k t726 => geyserref05_Value.l1 k c t726 0 (n : Int) b l cl) hG hr
theorem rval_last {n : Nat} (b : Int) {l : List S98} (cl : Bool) (c : Int) {r : List Int × Int} (i : Nat) (hi : i + 0 = l.length) (hr : Ev (fun k => (geyserref03_Gauss.f k (l.map (fun e => longL n e.f0 e.f1)) (n : Int)).bind fun t726 => (geyserref05_Value.l1 k c t726 0 (n : Int) b l cl)) r) :
    Ev (fun k => geyserref05_Value.l0 k c ((l.take i).map (fun e => longL n e.f0 e.f1)) (i : Int) (n : Int) b l cl) r := by
  refine Ev.step (fun k => ?_) hr
  rw [geyserref05_Value.l0, if_neg (by omega), List.take_of_length_le (by omega)]
theorem rval_l0 {n m : Nat} (h1 : n ≤ 4096) (h2 : m ≤ 64) (b : Int) {l : List S98} (cl : Bool) (c : Int) (hl : LOK n m l) {G : List (List Bool)} {r : List Int × Int} (hG : Ev (fun k => geyserref03_Gauss.f k (l.map (fun e => longL n e.f0 e.f1)) (n : Int)) G) (hr : Ev (fun k => geyserref05_Value.l1 k c G 0 (n : Int) b l cl) r) :
    Ev (fun k => geyserref05_Value.l0 k c [] 0 (n : Int) b l cl) r := by
  have hlen := hl.len
  have h : ∀ (d i : Nat), i + d = l.length → Ev (fun k => geyserref05_Value.l0 k c ((l.take i).map (fun e => longL n e.f0 e.f1)) (i : Int) (n : Int) b l cl) r := by
    intro d
    induction d with
    | zero =>
      intro i hi
      exact rval_last b cl c i hi (rval_end b cl c hG hr)
    | succ d ih =>
      intro i hi
      have hw : wrap64 ((i : Int) + 1) = ((i + 1 : Nat) : Int) := by rw [w64s (by omega) (by omega)]; rfl
      obtain ⟨ro, so⟩ := hl.ok _ (rd98_mem (i := i) (by omega))
      refine Ev.step (f := fun k => (geyserref05_long.f k ((rd_T98 l (i : Int)).f0) ((rd_T98 l (i : Int)).f1) (n : Int)).bind fun t720 => (if ((l.take i).map (fun e => longL n e.f0 e.f1)).length < 5864062014805 then (geyserref05_Value.l0 k c ((l.take i).map (fun e => longL n e.f0 e.f1) ++ [t720]) ((i + 1 : Nat) : Int) (n : Int) b l cl) else (none))) (fun k => ?_) (Ev.bind (f := fun k t720 => if ((l.take i).map (fun e => longL n e.f0 e.f1)).length < 5864062014805 then (geyserref05_Value.l0 k c ((l.take i).map (fun e => longL n e.f0 e.f1) ++ [t720]) ((i + 1 : Nat) : Int) (n : Int) b l cl) else (none)) (LOK.long h1 h2 ro so) (Ev.congr (fun k => ?_) (ih (i + 1) (by omega))))
      · rw [geyserref05_Value.l0, if_pos (by omega), if_pos (by omega), hw]
      · rw [if_pos (by rw [List.length_map, List.length_take]; omega), take98 (fun e => longL n e.f0 e.f1) l i (by omega)]
  exact h l.length 0 (by omega)
theorem rone_ev {n : Nat} (n1 : 1 ≤ n) (h1 : n ≤ 4096) {c : Nat} (hc : c < n) : ∃ pk, Ev (fun k => geyserref05_one.f k (c : Int) (n : Int)) pk ∧ RowOK n pk ∧ ∀ d, hasB pk d = decide (d = c) := by
  have hw : nW (n : Int) = (n + 63) / 64 := by unfold nW; rw [Int.toNat_natCast]
  obtain ⟨f1, f2, f3⟩ := wordsOf_facts [(c : Int)] (nW (n : Int)) (fun d hd => by
    obtain rfl : d = (c : Int) := by simpa using hd
    omega)
  have hb : ∀ d, hasB (wordsOf [(c : Int)] 0 (nW (n : Int))) d = decide (d = c) := fun d => by
    rw [f3 d]
    by_cases e : d = c
    · subst e; simp
    · rw [decide_eq_false e, decide_eq_false (by simp; omega)]
  exact ⟨_, Ev.bind (rpack_ev [(c : Int)] (n : Int) (by simp) (by omega) (by omega)) (Ev.now _), ⟨f1, f2, fun d hd => by rw [hb, decide_eq_false (by omega)]⟩, hb⟩
theorem rval_head {n m : Nat} (n1 : 1 ≤ n) (h1 : n ≤ 4096) {l : List S98} (hl : LOK n m l) {c : Nat} (hc : c < n) {pk : List Int} (hb : ∀ d, hasB pk d = decide (d = c)) {r : List Int × Int}
    (hr : (Sp (l.map fun e => hasB e.f0) (hasB pk) ∧ Ev (fun k => geyserref05_Value.l0 k (c : Int) [] 0 (n : Int) (m : Int) l false) r) ∨ (¬ Sp (l.map fun e => hasB e.f0) (hasB pk) ∧ r = ([], 4))) :
    Ev (fun k => geyserref05_Value.f k (n : Int) (m : Int) l false (c : Int)) r := by
  have hlen := hl.len
  obtain ⟨pk2, ep, hr2, hb2⟩ := rone_ev n1 h1 hc
  have epk : hasB pk2 = hasB pk := funext fun d => by rw [hb, hb2]
  have hmat : Mat (l.map (·.f0) ++ [pk2]) n := ⟨by rw [List.length_append, List.length_map, List.length_singleton]; omega, h1, fun r h => by
    have g : RowOK n r := by
      rcases List.mem_append.1 h with g | g
      · obtain ⟨e, he, rfl⟩ := List.mem_map.1 g
        exact (hl.ok e he).1
      · obtain rfl : r = pk2 := by simpa using g
        exact hr2
    exact ⟨(wokB_iff r n (by omega)).2 ⟨g.len, fun c hc => g.hi c (by omega)⟩, g.u⟩⟩
  obtain ⟨b, eS, hS⟩ := spans_ev (l.map (·.f0)) pk2 n hmat (by rw [List.length_map]; omega)
  rw [List.map_map, epk] at hS
  have hS' : b = true ↔ Sp (l.map fun e => hasB e.f0) (hasB pk) := hS
  have fin : Ev (fun k => if b = true then (geyserref05_Value.l0 k (c : Int) (([] : List (List Bool))) 0 (n : Int) (m : Int) l false) else (some (([] : List Int), 4))) r := by
    rcases hr with ⟨h2, h3⟩ | ⟨h2, rfl⟩
    · exact Ev.congr (fun k => if_pos (hS'.2 h2)) h3
    · exact Ev.congr (fun k => if_neg (fun e => h2 (hS'.1 e))) (Ev.now _)
  refine Ev.congr (f := fun k => geyserref05_Value.j0 k (c : Int) false (n : Int) (m : Int) l false) (fun k => ?_) (Ev.step (f := fun k => (geyserref05_Rows.f k (n : Int) (m : Int) l false).bind fun t708 => ((geyserref05_one.f k (c : Int) (n : Int)).bind fun t711 => ((geyserref03_Spans.f k t708 (n : Int) t711).bind fun t714 => (if t714 = true then (geyserref05_Value.l0 k (c : Int) (([] : List (List Bool))) 0 (n : Int) (m : Int) l false) else (some (([] : List Int), 4)))))) (fun k => ?_) (Ev.bind (rows05_ev (n : Int) (m : Int) l false (by omega)) (Ev.bind ep (Ev.bind eS fin))))
  · unfold geyserref05_Value.f
    rw [if_neg Bool.false_ne_true, if_neg (by omega), decide_eq_false (by omega)]
  · rw [geyserref05_Value.j0, if_neg Bool.false_ne_true]
theorem Like.value {x : S74} {n m : Nat} {l : List S98} (h : Like x n m l) (h4 : x.f4 = false) {c : Nat} (hc : c < n) :
    (∃ s, SymOK m s ∧ Ev (fun k => elim_System_Value.f k [x] (c : Int)) (s, []) ∧ Ev (fun k => geyserref05_Value.f k (n : Int) (m : Int) l false (c : Int)) (s, 0)) ∨
    (Ev (fun k => elim_System_Value.f k [x] (c : Int)) ([], [⟨valName, true, 4⟩]) ∧ Ev (fun k => geyserref05_Value.f k (n : Int) (m : Int) l false (c : Int)) ([], 4)) := by
  have hI := h.si
  have hlen := h.lok.len
  obtain ⟨pk, hr, hh, hcase⟩ := h.val h4 hc
  rcases hcase with ⟨s, hs, he, hu⟩ | ⟨he, hn⟩
  · refine .inl ⟨s, hs, he, rval_head hI.n1 hI.n2 h.lok hc hh (.inl ⟨?_, ?_⟩)⟩
    · have g := pr_sp (n := n) ((h.joint _).1 hu)
      rw [h.lok.prJ, pr_J hr] at g
      exact g
    · have hLen : ∀ y ∈ l.map (fun e => longL n e.f0 e.f1), y.length = n + 8 * m := fun y hy => by
        obtain ⟨e, he, rfl⟩ := List.mem_map.1 hy
        rw [longL_len, (h.lok.ok e he).2.len]
      have n2 := hI.n2
      have m2 := hI.m2
      obtain ⟨R, done, p, eG, hG, hp⟩ := gauss2_ev (l.map (fun e => longL n e.f0 e.f1)) (n + 8 * m) n (by omega) (by omega) (by rw [List.length_map]; omega) hLen
      obtain ⟨j, hj, e1, e2⟩ := h.pivot hG hp hc hh hu
      have hle := hG.le
      have hRl := hG.len
      rw [List.length_map] at hle hRl
      refine rval_l0 n2 m2 (m : Int) false (c : Int) h.lok eG ?_
      exact rval_l1 n2 m2 (m : Int) l false (by omega) hG.rows hj (by omega) hc e2 (by rw [e1, J_lo _ _ hc, hh, decide_eq_true rfl]) hs (fun q hq => by rw [e1, J_hi]) j 0 (by omega)
  · exact .inr ⟨he, rval_head hI.n1 hI.n2 h.lok hc hh (.inr ⟨hn, rfl⟩)⟩
theorem rval_out (n m : Int) (l : List S98) {c : Int} (h : c < 0 ∨ n ≤ c) : Ev (fun k => geyserref05_Value.f k n m l false c) ([], 1) := by
  have hj : Ev (fun k => geyserref05_Value.j0 k c true n m l false) ([], 1) := Ev.step (f := fun _ => some ([], 1)) (fun k => by rw [geyserref05_Value.j0, if_pos rfl]) (Ev.now _)
  refine Ev.congr (fun k => ?_) hj
  unfold geyserref05_Value.f
  rw [if_neg Bool.false_ne_true]
  by_cases h0 : c < 0
  · rw [if_pos h0]
  · rw [if_neg h0, decide_eq_true (show c ≥ n by omega)]
theorem rval_clash (n m : Int) (l : List S98) (c : Int) : Ev (fun k => geyserref05_Value.f k n m l true c) ([], 7) :=
  Ev.congr (f := fun _ => some ([], 7)) (fun k => by unfold geyserref05_Value.f; rw [if_pos rfl]) (Ev.now _)
theorem val_out {x : S74} {n m : Nat} (hI : SI x n m) (h4 : x.f4 = false) {c : Int} (h : c < 0 ∨ (n : Int) ≤ c) : Ev (fun k => elim_System_Value.f k [x] c) ([], [⟨valName, true, 1⟩]) := by
  have hj : Ev (fun k => elimM_Value.j0 k [x] c true) ([], [⟨valName, true, 1⟩]) := Ev.step (f := fun _ => some ([], [⟨valName, true, 1⟩])) (fun k => by rw [elimM_Value.j0, if_pos rfl]; rfl) (Ev.now _)
  refine Ev.congr (fun k => ?_) hj
  rw [valM]
  unfold elimM_Value.f
  rw [if_pos (by simp), hd_sys, h4, if_neg Bool.false_ne_true]
  by_cases h0 : c < 0
  · rw [if_pos h0]
  · rw [if_neg h0, hI.f0, decide_eq_true (show c ≥ (n : Int) by omega)]
theorem val_clash {x : S74} (h4 : x.f4 = true) (c : Int) : Ev (fun k => elim_System_Value.f k [x] c) ([], [⟨valName, true, 7⟩]) := by
  refine Ev.congr (f := fun _ => some ([], [⟨valName, true, 7⟩])) (fun k => ?_) (Ev.now _)
  rw [valM]
  unfold elimM_Value.f
  rw [if_pos (by simp), hd_sys, h4, if_pos rfl]
  rfl
theorem Both.value {x : S74} {n m : Nat} {l : List S98} {cl : Bool} (h : Both x n m l cl) (c : Int) : ∃ (s : List Int) (er : List FE) (bad : Int), Ev (fun k => elim_System_Value.f k [x] c) (s, er) ∧ Ev (fun k => geyserref05_Value.f k (n : Int) (m : Int) l cl c) (s, bad) ∧ geyserlaw05_tells.f er bad valName = some true := by
  have hc := h.cl
  cases cl with
  | true => exact ⟨[], _, 7, val_clash hc c, rval_clash _ _ _ _, by decide +kernel⟩
  | false =>
    by_cases hr : c < 0 ∨ (n : Int) ≤ c
    · exact ⟨[], _, 1, val_out h.like.si hc hr, rval_out _ _ _ hr, by decide +kernel⟩
    · obtain ⟨d, rfl⟩ := Int.eq_ofNat_of_zero_le (show 0 ≤ c by omega)
      rcases h.like.value hc (c := d) (by omega) with ⟨s, _, e1, e2⟩ | ⟨e1, e2⟩
      · exact ⟨s, [], 0, e1, e2, by decide +kernel⟩
      · exact ⟨[], _, 4, e1, e2, by decide +kernel⟩
theorem Like.full {x : S74} {n m : Nat} {l : List S98} (h : Like x n m l) : (∀ c, c < n → Sp (l.map fun e => hasB e.f0) (ev c)) ↔ l.length = n := by
  obtain ⟨P, hP⟩ := h.ip
  have b1 := tri_ind _ hP.tri hP.own
  rw [hP.map_fst] at b1
  have b2 : (x.f2.map fun e => hasB e.f0).reverse.length = l.length := by rw [List.length_reverse, List.length_map, h.cnt]
  have b3 : ∀ {v}, Sp (l.map fun e => hasB e.f0) v → Sp (x.f2.map fun e => hasB e.f0).reverse v := fun g => ((h.rows _).2 g).sub (fun u hu => List.mem_reverse.2 hu)
  have b4 : ∀ {v}, Sp (x.f2.map fun e => hasB e.f0).reverse v → Sp (l.map fun e => hasB e.f0) v := fun g => (h.rows _).1 (g.sub (fun u hu => List.mem_reverse.1 hu))
  have hsup : ∀ b ∈ (x.f2.map fun e => hasB e.f0).reverse, Sp ((List.range n).map ev) b := fun b hb => supp_sp n b (fun c hc => by
    obtain ⟨e, he, rfl⟩ := List.mem_map.1 (List.mem_reverse.1 hb)
    exact (h.si.kept e he).1.hi c hc)
  constructor
  · intro hall
    refine Nat.le_antisymm ?_ ?_
    · have := steinitz _ _ b1 hsup
      rw [List.length_map, List.length_range, b2] at this
      exact this
    · have := steinitz _ _ (ev_ind n) (fun u hu => by
        obtain ⟨c, hc, rfl⟩ := List.mem_map.1 hu
        exact b3 (hall c (List.mem_range.1 hc)))
      rw [List.length_map, List.length_range, b2] at this
      exact this
  · intro e c hc
    rcases Classical.em (Sp (x.f2.map fun e => hasB e.f0).reverse (ev c)) with g | g
    · exact b4 g
    · exfalso
      have := steinitz ((List.range n).map ev) (ev c :: (x.f2.map fun e => hasB e.f0).reverse) ⟨g, b1⟩ (fun u hu => by
        rcases List.mem_cons.1 hu with rfl | hu
        · exact Sp.mem (List.mem_map_of_mem (List.mem_range.2 hc))
        · exact hsup u hu)
      rw [List.length_map, List.length_range, List.length_cons, b2] at this
      omega
theorem Like.le {x : S74} {n m : Nat} {l : List S98} (h : Like x n m l) : l.length ≤ n := by
  obtain ⟨P, hP⟩ := h.ip
  have b1 := tri_ind _ hP.tri hP.own
  rw [hP.map_fst] at b1
  have := steinitz ((List.range n).map ev) _ b1 (fun b hb => supp_sp n b (fun c hc => by
    obtain ⟨e, he, rfl⟩ := List.mem_map.1 (List.mem_reverse.1 hb)
    exact (h.si.kept e he).1.hi c hc))
  rwa [List.length_map, List.length_range, List.length_reverse, List.length_map, h.cnt] at this
theorem Like.value' {x : S74} {n m : Nat} {l : List S98} (h : Like x n m l) (h4 : x.f4 = false) {c : Nat} (hc : c < n) :
    (Sp (l.map fun e => hasB e.f0) (ev c) ∧ ∃ s, SymOK m s ∧ Ev (fun k => elim_System_Value.f k [x] (c : Int)) (s, []) ∧ Ev (fun k => geyserref05_Value.f k (n : Int) (m : Int) l false (c : Int)) (s, 0)) ∨
    (¬ Sp (l.map fun e => hasB e.f0) (ev c) ∧ Ev (fun k => elim_System_Value.f k [x] (c : Int)) ([], [⟨valName, true, 4⟩])) := by
  obtain ⟨pk, hr, hh, hcase⟩ := h.val h4 hc
  have e0 : hasB pk = ev c := funext fun d => by rw [hh]; rfl
  rcases hcase with ⟨s, hs, he, hu⟩ | ⟨he, hn⟩
  · have g := pr_sp (n := n) ((h.joint _).1 hu)
    rw [h.lok.prJ, pr_J hr, e0] at g
    refine .inl ⟨g, ?_⟩
    rcases h.value h4 hc with ⟨t, ht, e1, e2⟩ | ⟨e1, _⟩
    · exact ⟨t, ht, e1, e2⟩
    · exfalso
      obtain ⟨K1, k1⟩ := he
      obtain ⟨K2, k2⟩ := e1
      have := (k1 (max K1 K2) (Nat.le_max_left _ _)).symm.trans (k2 (max K1 K2) (Nat.le_max_right _ _))
      simp at this
  · rw [e0] at hn
    exact .inr ⟨hn, he⟩
def allL (k : Nat) (x : S74) (acc : List (List Int)) (n c : Int) (bt409 : List Int × List FE) : Option (List (List Int) × List FE) := if (bt409.2.length : Int) = 0 then (if acc.length < 5864062014805 then (elimM_All.l0 k [x] (acc ++ [bt409.1]) n (wrap64 (c + 1))) else (none)) else ((fault_Wrap.f (⟨#[101, 108, 105, 109, 46, 65, 108, 108]⟩ : ByteArray) bt409.2).bind fun t418 => (some (([] : List (List Int)), t418)))
theorem allL_eq (k : Nat) (x : S74) (acc : List (List Int)) (n c : Int) (h : c < n) : elimM_All.l0 (k + 1) [x] acc n c = (elimM_Value.f k [x] c).bind (allL k x acc n c) := by
  rw [elimM_All.l0, if_pos h]
  rfl
theorem all_known {x : S74} {n m : Nat} {l : List S98} (h : Like x n m l) (h4 : x.f4 = false) (hall : ∀ c, c < n → Sp (l.map fun e => hasB e.f0) (ev c)) : ∀ (d c : Nat) (acc : List (List Int)), c + d = n → acc.length = c →
    ∃ S, S.length = n ∧ Ev (fun k => elimM_All.l0 k [x] acc (n : Int) (c : Int)) (S, []) ∧ Ev (fun k => geyserref05_All.l0 k acc (c : Int) (n : Int) (m : Int) l false) (S, 0) := by
  intro d
  induction d with
  | zero =>
    intro c acc hc ha
    exact ⟨acc, by omega, Ev.step (f := fun _ => some (acc, [])) (fun k => by rw [elimM_All.l0, if_neg (by omega)]) (Ev.now _), Ev.step (f := fun _ => some (acc, 0)) (fun k => by rw [geyserref05_All.l0, if_neg (by omega)]) (Ev.now _)⟩
  | succ d ih =>
    intro c acc hc ha
    have n2 := h.si.n2
    have hw : wrap64 ((c : Int) + 1) = ((c + 1 : Nat) : Int) := by rw [w64s (by omega) (by omega)]; rfl
    rcases h.value' h4 (c := c) (by omega) with ⟨_, s, hs, e1, e2⟩ | ⟨g, _⟩
    · obtain ⟨S, gS, g1, g2⟩ := ih (c + 1) (acc ++ [s]) (by omega) (by rw [List.length_append, ha]; rfl)
      have e1' : Ev (fun k => elimM_Value.f k [x] (c : Int)) (s, []) := Ev.congr (fun k => (valM k _).symm) e1
      refine ⟨S, gS, Ev.step (fun k => allL_eq k x acc (n : Int) (c : Int) (by omega)) (Ev.bind (f := fun k => allL k x acc (n : Int) (c : Int)) e1' (Ev.congr (fun k => ?_) g1)), ?_⟩
      · unfold allL
        rw [if_pos (by rfl), if_pos (by omega), hw]
      · refine Ev.step (f := fun k => (geyserref05_Value.f k (n : Int) (m : Int) l false (c : Int)).bind fun bt744 => (if acc.length < 5864062014805 then (geyserref05_All.l0 k (acc ++ [bt744.1]) (wrap64 ((c : Int) + 1)) (n : Int) (m : Int) l false) else (none))) (fun k => by rw [geyserref05_All.l0, if_pos (by omega)]) (Ev.bind (f := fun k bt744 => (if acc.length < 5864062014805 then (geyserref05_All.l0 k (acc ++ [bt744.1]) (wrap64 ((c : Int) + 1)) (n : Int) (m : Int) l false) else (none))) e2 (Ev.congr (fun k => ?_) g2))
        rw [if_pos (by omega), hw]
    · exact absurd (hall c (by omega)) g
theorem all_some {x : S74} {n m : Nat} {l : List S98} (h : Like x n m l) (h4 : x.f4 = false) : ∀ (d c : Nat) (acc : List (List Int)), c + d = n → acc.length = c → (∃ e, c ≤ e ∧ e < n ∧ ¬ Sp (l.map fun e => hasB e.f0) (ev e)) →
    Ev (fun k => elimM_All.l0 k [x] acc (n : Int) (c : Int)) ([], [⟨allName, false, wrapNum ⟨valName, true, 4⟩⟩]) := by
  intro d
  induction d with
  | zero =>
    intro c acc hc ha he
    obtain ⟨e, e1, e2, _⟩ := he
    omega
  | succ d ih =>
    intro c acc hc ha he
    have n2 := h.si.n2
    have hw : wrap64 ((c : Int) + 1) = ((c + 1 : Nat) : Int) := by rw [w64s (by omega) (by omega)]; rfl
    rcases h.value' h4 (c := c) (by omega) with ⟨g, s, hs, e1, e2⟩ | ⟨g, e1⟩
    · obtain ⟨e, q1, q2, q3⟩ := he
      have g1 := ih (c + 1) (acc ++ [s]) (by omega) (by rw [List.length_append, ha]; rfl) ⟨e, by
        rcases Nat.lt_or_eq_of_le q1 with z | z
        · omega
        · subst z; exact absurd g q3, q2, q3⟩
      have e1' : Ev (fun k => elimM_Value.f k [x] (c : Int)) (s, []) := Ev.congr (fun k => (valM k _).symm) e1
      refine Ev.step (fun k => allL_eq k x acc (n : Int) (c : Int) (by omega)) (Ev.bind (f := fun k => allL k x acc (n : Int) (c : Int)) e1' (Ev.congr (fun k => ?_) g1))
      unfold allL
      rw [if_pos (by rfl), if_pos (by omega), hw]
    · have e1' : Ev (fun k => elimM_Value.f k [x] (c : Int)) ([], [⟨valName, true, 4⟩]) := Ev.congr (fun k => (valM k _).symm) e1
      refine Ev.step (fun k => allL_eq k x acc (n : Int) (c : Int) (by omega)) (Ev.bind (f := fun k => allL k x acc (n : Int) (c : Int)) e1' (Ev.congr (f := fun _ => some ([], [⟨allName, false, wrapNum ⟨valName, true, 4⟩⟩])) (fun k => ?_) (Ev.now _)))
      unfold allL
      rw [if_neg (by decide)]
      rfl
theorem Both.all {x : S74} {n m : Nat} {l : List S98} {cl : Bool} (h : Both x n m l cl) : ∃ (S : List (List Int)) (er : List FE) (bad : Int), S.length ≤ n ∧ Ev (fun k => elim_System_All.f k [x]) (S, er) ∧ Ev (fun k => geyserref05_All.f k (n : Int) (m : Int) l cl) (S, bad) ∧ geyserlaw05_tells.f er bad allName = some true := by
  have hc := h.cl
  have hL := h.like
  cases cl with
  | true =>
    refine ⟨[], [⟨allName, true, 7⟩], 7, Nat.zero_le _, Ev.congr (f := fun _ => some ([], [⟨allName, true, 7⟩])) (fun k => ?_) (Ev.now _), Ev.congr (f := fun _ => some ([], 7)) (fun k => by unfold geyserref05_All.f; rw [if_pos rfl]) (Ev.now _), by decide +kernel⟩
    unfold elim_System_All.f
    rw [if_neg (by simp)]
    unfold elimM_All.f
    rw [if_pos (by simp), hd_sys, hc, if_pos rfl]
    rfl
  | false =>
    have key : ∀ {r}, Ev (fun k => elimM_All.l0 k [x] [] (n : Int) 0) r → Ev (fun k => elim_System_All.f k [x]) r := fun g => Ev.congr (fun k => by
      unfold elim_System_All.f
      rw [if_neg (by simp)]
      unfold elimM_All.f
      rw [if_pos (by simp), hd_sys, hc, if_neg Bool.false_ne_true, hL.si.f0]) g
    by_cases hn : l.length = n
    · obtain ⟨S, gS, g1, g2⟩ := all_known hL hc (hL.full.2 hn) n 0 [] (by omega) rfl
      refine ⟨S, [], 0, by omega, key g1, Ev.congr (fun k => ?_) g2, by decide +kernel⟩
      unfold geyserref05_All.f
      rw [if_neg Bool.false_ne_true, if_neg (by omega)]
      rfl
    · have hle := hL.le
      have hex : ∃ e, 0 ≤ e ∧ e < n ∧ ¬ Sp (l.map fun e => hasB e.f0) (ev e) := by
        refine Classical.byContradiction fun g => hn (hL.full.1 (fun c hc => ?_))
        exact Classical.byContradiction fun q => g ⟨c, Nat.zero_le _, hc, q⟩
      refine ⟨[], _, 4, Nat.zero_le _, key (all_some hL hc n 0 [] (by omega) rfl hex), Ev.congr (f := fun _ => some ([], 4)) (fun k => ?_) (Ev.now _), by decide +kernel⟩
      unfold geyserref05_All.f
      rw [if_neg Bool.false_ne_true, if_pos (by omega)]
theorem same_self (S : List (List Int)) (hS : S.length < 1000000) : Ev (fun k => geyserref04_Same.f k S S) true := by
  have h : ∀ (d i : Nat), i + d = S.length → Ev (fun k => geyserref04_Same.l0 k S S (i : Int)) true := by
    intro d
    induction d with
    | zero =>
      intro i hi
      exact Ev.step (f := fun _ => some true) (fun k => by rw [geyserref04_Same.l0, if_neg (by omega)]) (Ev.now _)
    | succ d ih =>
      intro i hi
      have hw : wrap64 ((i : Int) + 1) = ((i + 1 : Nat) : Int) := by rw [w64s (by omega) (by omega)]; rfl
      refine Ev.step (fun k => ?_) (ih (i + 1) (by omega))
      rw [geyserref04_Same.l0, if_pos (by omega), if_pos (by omega), if_pos (by omega), if_pos rfl, hw]
  refine Ev.congr (fun k => ?_) (h S.length 0 (by omega))
  unfold geyserref04_Same.f
  rw [if_pos rfl]
  rfl
def toldA (k : Nat) (n m : Int) (l : List S98) (cl : Bool) (bt766 : List (List Int) × List FE) : Option Bool := (geyserref05_All.f k n m l cl).bind fun bt772 => ((geyserref04_Same.f k bt766.1 bt772.1).bind fun t776 => (if t776 = true then ((geyserlaw05_tells.f bt766.2 bt772.2 allName).bind fun t777 => (some t777)) else (some false)))
def toldV (k : Nat) (x : S74) (c n m : Int) (l : List S98) (cl : Bool) (bt755 : List Int × List FE) : Option Bool := (geyserref05_Value.f k n m l cl c).bind fun bt761 => (if (strOfNums bt755.1).toList = (strOfNums bt761.1).toList then ((geyserlaw05_tells.f bt755.2 bt761.2 valName).bind fun t765 => (if t765 = true then (geyserlaw05_told.l0 k [x] (wrap64 (c + 1)) n m l cl) else (some false))) else (some false))
theorem told_l0 {x : S74} {n m : Nat} {l : List S98} {cl : Bool} (h : Both x n m l cl) {S : List (List Int)} {er : List FE} {bad : Int} (e1 : Ev (fun k => elim_System_All.f k [x]) (S, er)) (e2 : Ev (fun k => geyserref05_All.f k (n : Int) (m : Int) l cl) (S, bad)) (e3 : geyserlaw05_tells.f er bad allName = some true) (hS : S.length < 1000000) :
    ∀ (d : Nat) (c : Int), c + d = (n : Int) + 1 → -1 ≤ c → Ev (fun k => geyserlaw05_told.l0 k [x] c (n : Int) (m : Int) l cl) true := by
  have n2 := h.like.si.n2
  intro d
  induction d with
  | zero =>
    intro c hc _
    refine Ev.step (f := fun k => (elim_System_All.f k [x]).bind (toldA k (n : Int) (m : Int) l cl)) (fun k => ?_) (Ev.bind (f := fun k => toldA k (n : Int) (m : Int) l cl) e1 ?_)
    · rw [geyserlaw05_told.l0, if_neg (by omega)]; rfl
    · refine Ev.bind (f := fun k (bt772 : List (List Int) × Int) => ((geyserref04_Same.f k S bt772.1).bind fun t776 => (if t776 = true then ((geyserlaw05_tells.f er bt772.2 allName).bind fun t777 => (some t777)) else (some false)))) e2 ?_
      refine Ev.bind (f := fun k t776 => (if t776 = true then ((geyserlaw05_tells.f er bad allName).bind fun t777 => (some t777)) else (some false))) (same_self S hS) ?_
      refine Ev.congr (f := fun _ => some true) (fun k => ?_) (Ev.now _)
      rw [if_pos rfl, e3]
      rfl
  | succ d ih =>
    intro c hc h1
    obtain ⟨s, f, b, g1, g2, g3⟩ := h.value c
    have hw : wrap64 (c + 1) = c + 1 := w64s (by omega) (by omega)
    refine Ev.step (f := fun k => (elim_System_Value.f k [x] c).bind (toldV k x c (n : Int) (m : Int) l cl)) (fun k => ?_) (Ev.bind (f := fun k => toldV k x c (n : Int) (m : Int) l cl) g1 ?_)
    · rw [geyserlaw05_told.l0, if_pos (by omega)]; rfl
    · refine Ev.bind (f := fun k (bt761 : List Int × Int) => (if (strOfNums s).toList = (strOfNums bt761.1).toList then ((geyserlaw05_tells.f f bt761.2 valName).bind fun t765 => (if t765 = true then (geyserlaw05_told.l0 k [x] (wrap64 (c + 1)) (n : Int) (m : Int) l cl) else (some false))) else (some false))) g2 ?_
      refine Ev.congr (fun k => ?_) (ih (c + 1) (by omega) (by omega))
      rw [if_pos rfl, g3, Option.bind_some, if_pos rfl, hw]
theorem Both.told {x : S74} {n m : Nat} {l : List S98} {cl : Bool} (h : Both x n m l cl) : Ev (fun k => geyserlaw05_told.f k [x] (n : Int) (m : Int) l cl) true := by
  obtain ⟨S, er, bad, hS, e1, e2, e3⟩ := h.all
  have n2 := h.like.si.n2
  have hl := told_l0 h e1 e2 e3 (by omega) (n + 2) (-1) (by omega) (by omega)
  have hj : Ev (fun k => geyserlaw05_told.j0 k [x] false (n : Int) (m : Int) l cl) true := Ev.step (fun k => by rw [geyserlaw05_told.j0, if_neg Bool.false_ne_true]) hl
  have hcl := h.cl
  refine Ev.congr (fun k => ?_) hj
  unfold geyserlaw05_told.f
  rw [rank_eq, Option.bind_some, if_pos (by rw [h.like.cnt]), clashed_eq, Option.bind_some, hcl, if_neg (by simp)]
  unfold elim_System_Whole.f
  rw [if_neg (by simp)]
  unfold elimM_Whole.f
  rw [if_pos (by simp), hd_sys, h.like.si.f0, h.like.cnt, hcl]
  by_cases e : (l.length : Int) = (n : Int)
  · rw [if_pos e, Option.bind_some, if_pos e]; simp
  · rw [if_neg e, Option.bind_some, if_neg e]; simp
theorem Both.fit {x : S74} {n m : Nat} {l : List S98} {cl : Bool} (h : Both x n m l cl) : elimM_fit x = true := by
  have hI := h.like.si
  have n2 := hI.n2
  have m2 := hI.m2
  have hle := h.like.le
  have hc := h.like.cnt
  have ha := hI.alen
  unfold elimM_fit
  simp only [Bool.and_eq_true, decide_eq_true_eq, List.all_eq_true]
  refine ⟨⟨by omega, by omega⟩, fun e he => ?_⟩
  obtain ⟨r, s⟩ := hI.kept e he
  have h1 := r.len
  have h2 := nW_pos n2
  have h3 := s.len
  exact ⟨by omega, by omega⟩
theorem plays_run {n m : Nat} : ∀ (L : List S98) (x : S74) (l : List S98) (cl : Bool), Both x n m l cl → l.length + L.length < 9999 → (∀ e ∈ L, (∀ a ∈ e.f0, U64 a) ∧ (∀ a ∈ e.f1, 0 ≤ a ∧ a ≤ 255) ∧ e.f0.length < 17592186044416 ∧ e.f1.length < 140737488355328) →
    ∃ K, ∀ k, K ≤ k → PlayRun k (n : Int) (m : Int) L x l cl
  | [], _, _, _, _, _, _ => ⟨0, fun _ _ => trivial⟩
  | e :: L, x, l, cl, h, hl, hL => by
    have hI := h.like.si
    have n2 := hI.n2
    have n1 := hI.n1
    have m2 := hI.m2
    rw [List.length_cons] at hl
    obtain ⟨u1, u2, u3, u4⟩ := hL e (by simp)
    obtain ⟨x', l', cl', kind, bad, er, e1, e2, e3, hB, hlen⟩ := h.round (by omega) u1 u2
    have hw : nW (n : Int) = (n + 63) / 64 := by unfold nW; rw [Int.toNat_natCast]
    obtain ⟨f1, f2, f3⟩ := wordsOf_facts [(0 : Int)] (nW (n : Int)) (fun d hd => by
      obtain rfl : d = 0 := by simpa using hd
      omega)
    have e4 := rpack_ev [(0 : Int)] (n : Int) (by simp) (by omega) (by omega)
    obtain ⟨xc, _, _, kc, _, ec, _, e5, _⟩ := h.round (row := wordsOf [(0 : Int)] 0 (nW (n : Int))) (sym := List.replicate ((m : Int)).toNat 0) (by omega) f2 (fun a ha => by
      obtain ⟨_, rfl⟩ := List.mem_replicate.1 ha
      omega)
    have e6 := hB.told
    obtain ⟨K, hK⟩ := plays_run L x' l' cl' hB (by omega) (fun e he => hL e (by simp [he]))
    obtain ⟨K1, k1⟩ := e1
    obtain ⟨K2, k2⟩ := e2
    obtain ⟨K4, k4⟩ := e4
    obtain ⟨K5, k5⟩ := e5
    obtain ⟨K6, k6⟩ := e6
    refine ⟨K + K1 + K2 + K4 + K5 + K6, fun k hk => ⟨x', l', cl', kind, bad, er, _, kc, ec, xc, ⟨h.fit, u3, u4, k1 k (by omega), k2 k (by omega), e3, h.like.cnt, k4 k (by omega), by omega, by omega, k5 k (by omega), k6 k (by omega)⟩, hK k (by omega)⟩⟩
end Go.Proofs.YtjmgkknbgffbjaaDoor.Pure
namespace Go.Proofs.YtjmgkknbgffbjaaDoor.Pure
open Go.RowKit Go.Proofs.YtjmgkknbgffbjaaDoor.P Go.Proofs.YtjmgkknbgffbjaaDoorW.PrintWords Go.Proofs.YtjmgkknbgffbjaaDoorW.PrintLast Go.Proofs.YtjmgkknbgffbjaaDoorW.PrintErr Go.Proofs.YtjmgkknbgffbjaaDoorW.PrintMore
set_option linter.unusedVariables false
set_option linter.unusedSimpArgs false
set_option maxRecDepth 100000 in
theorem awake05_ev : Ev (fun k => geyserlaw05_awake.f k) true := by
  refine Ev.of (fun k => geyserlaw05_awake.mono k) (k := 200) ?_
  kernel_rfl
end Go.Proofs.YtjmgkknbgffbjaaDoor.Pure
namespace Go.Proofs.YtjmgkknbgffbjaaDoor.Pure
open Go.RowKit Go.Proofs.YtjmgkknbgffbjaaDoor.P Go.Proofs.YtjmgkknbgffbjaaDoorW.PrintWords Go.Proofs.YtjmgkknbgffbjaaDoorW.PrintLast Go.Proofs.YtjmgkknbgffbjaaDoorW.PrintErr Go.Proofs.YtjmgkknbgffbjaaDoorW.PrintMore Go.Proofs.YtjmgkknbgffbjaaDoor.Lin
set_option linter.unusedVariables false
set_option linter.unusedSimpArgs false
theorem check_eq (n b : Int) : geyserref05_Check.f n b = some (if 1 ≤ n ∧ n ≤ 4096 ∧ 1 ≤ b ∧ b ≤ 64 then 0 else 1) := by
 unfold geyserref05_Check.f
 by_cases h1 : n < 1
 ·rw [if_pos h1, if_neg (by omega)]
 ·by_cases h2 : n > 4096
  ·rw [if_neg h1, if_pos h2, if_neg (by omega)]
  ·by_cases h3 : b < 1
   ·rw [if_neg h1, if_neg h2, if_pos h3, if_neg (by omega)]
   ·by_cases h4 : b > 64
    ·rw [if_neg h1, if_neg h2, if_neg h3, if_pos h4, if_neg (by omega)]
    ·rw [if_neg h1, if_neg h2, if_neg h3, if_neg h4, if_pos (by omega)]
theorem light_some (n b : Int) : ∃ v, geyserlaw05_light.f n b = some v := by
 unfold geyserlaw05_light.f
 rw [check_eq]
 by_cases h1 : n ≤ 12
 ·rw [if_pos h1]
  by_cases h2 : b ≤ 4
  ·rw [if_pos h2]; exact ⟨_, rfl⟩
  ·rw [if_neg h2]; exact ⟨_, rfl⟩
 ·rw [if_neg h1]; exact ⟨_, rfl⟩
theorem plays_calls (n b : Int) (A1 : Option Addr) (c1 : Nat) (l : List S98) (w : World) (ht : TabIn w) (hei : ErrIn w) (hr : Kd.C k98 w A1 l.length l) (hL : ∀ e ∈ l, (∀ a ∈ e.f0, U64 a) ∧ (∀ a ∈ e.f1, 0 ≤ a ∧ a ≤ 255) ∧ e.f0.length < 17592186044416 ∧ e.f1.length < 140737488355328) :
  Calls Tryd.prog 7 #[.agg #[.int .i64 n, .int .i64 b], .slice A1 l.length c1] w fun e w' => e = .returned (.bool true) ∧ Below w.heap.size w w' := by
 obtain ⟨K, ha⟩ := awake05_ev
 obtain ⟨v, hl⟩ := light_some n b
 cases v with
 | false => exact plays_dark K n b A1 l.length c1 w ht hl (ha K (Nat.le_refl _))
 | true =>
  by_cases hc : 1 ≤ n ∧ n ≤ 4096 ∧ 1 ≤ b ∧ b ≤ 64
  ·obtain ⟨h1, h2, h3, h4⟩ := hc
   obtain ⟨N, rfl⟩ := Int.eq_ofNat_of_zero_le (show 0 ≤ n by omega)
   obtain ⟨m, rfl⟩ := Int.eq_ofNat_of_zero_le (show 0 ≤ b by omega)
   obtain ⟨K2, hp⟩ := plays_run (l.take 16) (newS N m) [] false ⟨Like.new (by omega) (by omega) (by omega) (by omega), rfl⟩ (by rw [List.length_take, List.length_nil]; omega) (fun e he => hL e (List.mem_of_mem_take he))
   exact plays_main (max K K2) (N : Int) (m : Int) (newS N m) A1 c1 l w ht hei hr hl (new_eq (by omega) (by omega) (by omega) (by omega)) (by rw [check_eq, if_pos ⟨h1, h2, h3, h4⟩]) (by decide +kernel) (ha _ (Nat.le_max_left _ _)) (hp _ (Nat.le_max_right _ _))
  ·exact plays_none K n b 1 _ A1 l.length c1 w ht hei hl (by unfold elim_New.f; rw [if_neg hc]) (by rw [check_eq, if_neg hc]) (by decide) (by decide +kernel) (ha K (Nat.le_refl _))
end Go.Proofs.YtjmgkknbgffbjaaDoor.Pure
