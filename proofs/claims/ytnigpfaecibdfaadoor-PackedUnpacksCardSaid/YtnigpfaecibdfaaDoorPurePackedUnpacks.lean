/-
  The law PackedUnpacks, on what the printed function says: words' columns, how many, the least one; is any column 1.
-/
import Derived.Test.YtnigpfaecibdfaaDoorPureP
import Derived.Test.YtnigpfaecibdfaaDoorPurePop
import Derived.Test.YtnigpfaecibdfaaDoorPureAwake02
import Derived.Test.YtnigpfaecibdfaaDoorPxUnpacks
import Derived.Lib.TrailingZeros
namespace Go.Proofs.YtnigpfaecibdfaaDoor.Pure
open Go.RowKit Go.Proofs.YtnigpfaecibdfaaDoor.P Go.Proofs.YtnigpfaecibdfaaDoorW.PrintWords Go.Proofs.YtnigpfaecibdfaaDoorW.PrintLast Go.Proofs.YtnigpfaecibdfaaDoorW.PrintErr Go.Proofs.YtnigpfaecibdfaaDoorW.PrintMore
set_option linter.unusedVariables false
set_option linter.unusedSimpArgs false
/-! ### is a column 1, by definition -/
theorem refbit_eq (x : Int) (hx : U64 x) (j : Nat) (hj : j < 64) : geyserref02_Bit.f x (j : Int) = some (x.toNat.testBit j) := by
  obtain ⟨n, rfl⟩ := Int.eq_ofNat_of_zero_le hx.1
  unfold geyserref02_Bit.f
  rw [wrap_u j (by omega), if_pos (by omega)]
  have e1 : shr .u64 (n : Int) (j : Int) = ((n / 2 ^ j : Nat) : Int) := by
    unfold shr
    rw [Int.toNat_natCast, show IntKind.u64.bits = 64 from rfl, Nat.min_eq_left (by omega)]
    push_cast
    rfl
  have e2 : Int.tmod ((n / 2 ^ j : Nat) : Int) 2 = ((n / 2 ^ j % 2 : Nat) : Int) := by rw [Int.tmod_eq_emod_of_nonneg (Int.natCast_nonneg _)]; rfl
  rw [e1, e2, Int.toNat_natCast, Nat.testBit_eq_decide_div_mod_eq]
  generalize n / 2 ^ j % 2 = b
  by_cases hb : b = 1
  · subst hb; rfl
  · have : ((b : Int) == 1) = false := by simp; omega
    rw [this, decide_eq_false hb]
theorem hasB_big {l : List Int} {c : Nat} (h : 64 * l.length ≤ c) : hasB l c = false := by
  unfold hasB
  rw [decide_eq_false (by omega)]
  rfl
theorem refhas_nat (l : List Int) (hl : ∀ x ∈ l, U64 x) (hn : l.length ≤ 1000000) (c : Nat) : geyserref02_Has.f l (c : Int) = some (hasB l c) := by
  unfold geyserref02_Has.f
  rw [if_neg (by omega), w64s (x := 64 * (l.length : Int)) (by omega) (by omega)]
  by_cases h : (c : Int) ≥ 64 * (l.length : Int)
  · rw [if_pos h, hasB_big (by omega)]
  · have e1 : Int.tdiv (c : Int) 64 = ((c / 64 : Nat) : Int) := by rw [Int.tdiv_eq_ediv_of_nonneg (by omega)]; rfl
    have e2 : Int.tmod (c : Int) 64 = ((c % 64 : Nat) : Int) := by rw [Int.tmod_eq_emod_of_nonneg (by omega)]; rfl
    have e4 : rd l ((c / 64 : Nat) : Int) = l.getD (c / 64) 0 := by unfold rd; rw [Int.toNat_natCast]
    rw [if_neg h, e1, e2, w64s (by omega) (by omega), if_pos (by omega), if_pos (by omega), e4, refbit_eq _ (hl _ (getD_mem (by omega))) _ (Nat.mod_lt _ (by decide))]
    unfold hasB
    rw [decide_eq_true (show c / 64 < l.length by omega), Bool.true_and]
    rfl
theorem has_both (l : List Int) (hl : ∀ x ∈ l, U64 x) (hn : l.length ≤ 1000000) (c : Int) (hc : c ≤ 9223372036854775807) : ∃ b, packed_Has.f l c = some b ∧ geyserref02_Has.f l c = some b := by
  by_cases h0 : c < 0
  · refine ⟨false, ?_, ?_⟩
    · unfold packed_Has.f; rw [if_neg (by omega)]
    · unfold geyserref02_Has.f; rw [if_pos h0]
  · obtain ⟨n, rfl⟩ := Int.eq_ofNat_of_zero_le (by omega : 0 ≤ c)
    refine ⟨hasB l n, ?_, refhas_nat l hl hn n⟩
    by_cases h : n < 64 * l.length
    · exact has_eq l hl n (by omega)
    · rw [hasB_big (by omega)]
      unfold packed_Has.f
      have e1 : Int.tdiv (n : Int) 64 = ((n / 64 : Nat) : Int) := by rw [Int.tdiv_eq_ediv_of_nonneg (by omega)]; rfl
      rw [if_pos (by omega), e1, w64s (by omega) (by omega), if_neg (by omega)]
theorem refunpack_l0 (l : List Int) (hl : ∀ x ∈ l, U64 x) (hn : l.length ≤ 1000000) : ∀ (d c : Nat) (acc : List Int), c + d = 64 * l.length → acc.length ≤ c →
    Ev (fun k => geyserref02_Unpack.l0 k l acc (c : Int)) (acc ++ colsFrom l c d) := by
  intro d
  induction d with
  | zero =>
    intro c acc hc _
    have e : colsFrom l c 0 = [] := rfl
    rw [e, List.append_nil]
    refine Ev.step (f := fun _ => some acc) (fun k => ?_) (Ev.now _)
    rw [geyserref02_Unpack.l0, w64s (x := 64 * (l.length : Int)) (by omega) (by omega), if_neg (by omega)]
  | succ d ih =>
    intro c acc hc ha
    have e2 : wrap64 ((c : Int) + 1) = ((c + 1 : Nat) : Int) := by rw [w64s (by omega) (by omega)]; rfl
    by_cases hb : hasB l c = true
    · have h' := ih (c + 1) (acc ++ [(c : Int)]) (by omega) (by simp; omega)
      have e : acc ++ colsFrom l c (d + 1) = acc ++ [(c : Int)] ++ colsFrom l (c + 1) d := by simp [colsFrom, List.range'_succ, hb]
      rw [e]
      refine Ev.step (fun k => ?_) h'
      rw [geyserref02_Unpack.l0, w64s (x := 64 * (l.length : Int)) (by omega) (by omega), if_pos (by omega), refhas_nat l hl hn c]
      simp only [Option.bind_some]
      rw [if_pos hb, if_pos (by omega), e2]
    · have h' := ih (c + 1) acc (by omega) (by omega)
      have e : acc ++ colsFrom l c (d + 1) = acc ++ colsFrom l (c + 1) d := by simp [colsFrom, List.range'_succ, hb]
      rw [e]
      refine Ev.step (fun k => ?_) h'
      rw [geyserref02_Unpack.l0, w64s (x := 64 * (l.length : Int)) (by omega) (by omega), if_pos (by omega), refhas_nat l hl hn c]
      simp only [Option.bind_some]
      rw [if_neg hb, e2]
theorem refunpack_ev (l : List Int) (hl : ∀ x ∈ l, U64 x) (hn : l.length ≤ 1000000) : Ev (fun k => geyserref02_Unpack.f k l) (cols l) := by
  have h := refunpack_l0 l hl hn (64 * l.length) 0 [] (by omega) (by simp)
  rw [List.nil_append] at h
  exact h
theorem samei_l0 (S : List Int) : ∀ P : List Int, (P ++ S).length < 9223372036854775807 → Ev (fun k => geyserref02_Same.l0 k (P ++ S) (P ++ S) (P.length : Int)) true := by
  induction S with
  | nil =>
    intro P hP
    refine Ev.step (f := fun _ => some true) (fun k => ?_) (Ev.now _)
    rw [geyserref02_Same.l0, if_neg (by simp)]
  | cons c S ih =>
    intro P hP
    have hlen : (P ++ c :: S).length = P.length + (S.length + 1) := by simp
    have h' := ih (P ++ [c]) (by simpa using hP)
    have e1 : P ++ [c] ++ S = P ++ c :: S := by simp
    have e2 : ((P ++ [c]).length : Int) = wrap64 ((P.length : Int) + 1) := by rw [w64s (by omega) (by omega)]; simp
    rw [e1, e2] at h'
    refine Ev.step (fun k => ?_) h'
    rw [geyserref02_Same.l0, if_pos (by omega), if_pos (by omega), if_pos (by omega), if_pos rfl]
theorem samei_ev (a : List Int) (h : a.length < 9223372036854775807) : Ev (fun k => geyserref02_Same.f k a a) true := by
  unfold geyserref02_Same.f
  simp only [if_true]
  exact samei_l0 a [] (by simpa using h)

/-! ### how many -/
def cntF (p : Nat → Bool) : Nat → Nat → Nat
  | _, 0 => 0
  | s, d + 1 => (if p s = true then 1 else 0) + cntF p (s + 1) d
theorem cntF_add (p : Nat → Bool) : ∀ d s e : Nat, cntF p s (d + e) = cntF p s d + cntF p (s + d) e
  | 0, s, e => by simp [cntF]
  | d + 1, s, e => by
    have h := cntF_add p d (s + 1) e
    have e1 : d + 1 + e = d + e + 1 := by omega
    have e2 : s + 1 + d = s + (d + 1) := by omega
    rw [e1, cntF, cntF, h, e2]
    omega
theorem cntF_shift (p q : Nat → Bool) : ∀ d s t : Nat, (∀ i, i < d → p (s + i) = q (t + i)) → cntF p s d = cntF q t d
  | 0, _, _, _ => rfl
  | d + 1, s, t, h => by
    have h0 : p s = q t := h 0 (by omega)
    rw [cntF, cntF, h0, cntF_shift p q d (s + 1) (t + 1) (fun i hi => by have := h (i + 1) (by omega); rwa [show s + (i + 1) = s + 1 + i by omega, show t + (i + 1) = t + 1 + i by omega] at this)]
theorem popN_cnt : ∀ n x : Nat, popN n x = cntF x.testBit 0 n
  | 0, _ => rfl
  | n + 1, x => by
    have h := popN_cnt n (x / 2)
    have h2 : cntF x.testBit 1 n = cntF (x / 2).testBit 0 n := cntF_shift _ _ n 1 0 (fun i _ => by rw [Nat.zero_add, Nat.add_comm 1 i, Nat.testBit_succ])
    have h0 : x % 2 = if x.testBit 0 = true then 1 else 0 := by
      rw [Nat.testBit_zero]
      rcases Nat.mod_two_eq_zero_or_one x with h | h <;> simp [h]
    rw [popN, cntF, h, h0, Nat.zero_add, h2]
theorem cols_cnt (l : List Int) : ∀ d c : Nat, (colsFrom l c d).length = cntF (hasB l) c d
  | 0, _ => rfl
  | d + 1, c => by
    have h := cols_cnt l d (c + 1)
    rw [cntF, ← h]
    unfold colsFrom
    rw [List.range'_succ]
    by_cases hb : hasB l c = true
    · simp [hb]; omega
    · simp [hb]
def popL : List Int → Nat
  | [] => 0
  | x :: l => popN 64 x.toNat + popL l
theorem popL_le : ∀ l, popL l ≤ 64 * l.length
  | [] => Nat.le_refl _
  | x :: l => by have := popL_le l; have := popN_le 64 x.toNat; simp only [popL, List.length_cons]; omega
theorem cols_pop : ∀ l : List Int, (cols l).length = popL l
  | [] => rfl
  | x :: l => by
    have ih := cols_pop l
    unfold cols at ih ⊢
    rw [cols_cnt] at ih ⊢
    have e : 64 * (x :: l).length = 64 + 64 * l.length := by simp; omega
    have h1 : cntF (hasB (x :: l)) 0 64 = cntF x.toNat.testBit 0 64 := cntF_shift _ _ 64 0 0 (fun i hi => by
      unfold hasB
      rw [Nat.zero_add, show i / 64 = 0 by omega, show i % 64 = i by omega]
      simp)
    have h2 : cntF (hasB (x :: l)) (0 + 64) (64 * l.length) = cntF (hasB l) 0 (64 * l.length) := cntF_shift _ _ _ _ _ (fun i hi => by
      unfold hasB
      rw [show (0 + 64 + i) / 64 = i / 64 + 1 by omega, show (0 + 64 + i) % 64 = i % 64 by omega, Nat.zero_add]
      simp)
    rw [e, cntF_add, h1, h2, ih, popL, popN_cnt]
theorem count_l0 (S : List Int) : ∀ (P : List Int) (n : Nat), (P ++ S).length ≤ 1000000 → n ≤ 64 * P.length → (∀ x ∈ S, U64 x) →
    Ev (fun k => packed_Count.l0 k (n : Int) (P ++ S) ((P ++ S).length : Int) (P.length : Int)) ((n + popL S : Nat) : Int) := by
  induction S with
  | nil =>
    intro P n hP hn _
    refine Ev.step (f := fun _ => some (n : Int)) (fun k => ?_) (Ev.now _)
    rw [packed_Count.l0, if_neg (by simp)]
  | cons s S ih =>
    intro P n hP hn hS
    have h1 : (P ++ s :: S).length = P.length + (S.length + 1) := by simp
    have hb := popN_le 64 s.toNat
    have h' := ih (P ++ [s]) (n + popN 64 s.toNat) (by simpa using hP) (by simp; omega) (fun x hx => hS x (by simp [hx]))
    have e1 : P ++ [s] ++ S = P ++ s :: S := by simp
    have e4 : n + popN 64 s.toNat + popL S = n + popL (s :: S) := by rw [popL]; omega
    have e5 : ((P ++ [s]).length : Int) = wrap64 ((P.length : Int) + 1) := by rw [w64s (by omega) (by omega)]; simp
    have e6 : ((n + popN 64 s.toNat : Nat) : Int) = wrap64 ((n : Int) + ((popN 64 s.toNat : Nat) : Int)) := by rw [w64s (by omega) (by omega)]; simp
    rw [e1, e4, e5, e6] at h'
    refine Ev.step (fun k => ?_) h'
    rw [packed_Count.l0, if_pos (by omega), if_pos (by omega), if_pos (by omega), rd_mid, ones_eq s (hS s (by simp))]
    rfl
theorem count_ev (l : List Int) (hn : l.length ≤ 1000000) (hl : ∀ x ∈ l, U64 x) : Ev (fun k => packed_Count.f k l) ((cols l).length : Int) := by
  have h := count_l0 l [] 0 (by simpa using hn) (by simp) hl
  rw [Nat.zero_add, ← cols_pop] at h
  exact h

/-! ### the least -/
theorem ctz_bits (x : Nat) (h0 : x ≠ 0) (h1 : x < 2 ^ 64) : Lib.ctz 64 x < 64 ∧ x.testBit (Lib.ctz 64 x) = true ∧ ∀ j, j < Lib.ctz 64 x → x.testBit j = false := by
  unfold Lib.ctz
  rw [if_neg h0]
  obtain ⟨m, hm, ht⟩ := Lib.ctzFrom_spec 64 x (by omega) h1
  generalize Lib.ctzFrom 64 x = t at *
  subst hm
  refine ⟨ht, ?_, fun j hj => ?_⟩
  · rw [Nat.testBit_two_pow_mul, Nat.sub_self, Nat.testBit_zero]
    simp
  · rw [Nat.testBit_two_pow_mul, decide_eq_false (by omega)]
    rfl
def FirstIs (l : List Int) (r : Int) : Prop :=
  (r = -1 ∧ ∀ c, c < 64 * l.length → hasB l c = false) ∨ ∃ m : Nat, r = m ∧ m < 64 * l.length ∧ hasB l m = true ∧ ∀ c, c < m → hasB l c = false
theorem first_l0 (l : List Int) (hl : ∀ x ∈ l, U64 x) (hn : l.length ≤ 1000000) : ∀ d i : Nat, i + d = l.length → (∀ c, c < 64 * i → hasB l c = false) →
    ∃ r, Ev (fun k => packed_First.l0 k l (l.length : Int) (i : Int)) r ∧ FirstIs l r := by
  intro d
  induction d with
  | zero =>
    intro i hi hno
    refine ⟨-1, ?_, .inl ⟨rfl, fun c hc => hno c (by omega)⟩⟩
    refine Ev.step (f := fun _ => some (-1)) (fun k => ?_) (Ev.now _)
    rw [packed_First.l0, if_neg (by omega)]
  | succ d ih =>
    intro i hi hno
    have hr : rd l (i : Int) = l.getD i 0 := by unfold rd; rw [Int.toNat_natCast]
    have hu := hl _ (getD_mem (l := l) (i := i) (by omega))
    have hw : ∀ j, j < 64 → hasB l (64 * i + j) = (l.getD i 0).toNat.testBit j := by
      intro j hj
      unfold hasB
      rw [show (64 * i + j) / 64 = i by omega, show (64 * i + j) % 64 = j by omega, decide_eq_true (show i < l.length by omega), Bool.true_and]
    generalize l.getD i 0 = x at *
    by_cases h0 : x = 0
    · obtain ⟨r, hr', hf⟩ := ih (i + 1) (by omega) (fun c hc => by
        by_cases hc' : c < 64 * i
        · exact hno c hc'
        · have := hw (c - 64 * i) (by omega)
          rw [show 64 * i + (c - 64 * i) = c by omega, h0] at this
          rw [this]
          exact Nat.zero_testBit _)
      refine ⟨r, ?_, hf⟩
      have e2 : ((i + 1 : Nat) : Int) = wrap64 ((i : Int) + 1) := by rw [w64s (by omega) (by omega)]; simp
      rw [e2] at hr'
      refine Ev.step (fun k => ?_) hr'
      rw [packed_First.l0, if_pos (by omega), if_pos (by omega), if_pos (by omega), hr, if_pos h0]
    · have hx0 : x.toNat ≠ 0 := by have := hu.1; omega
      have hx1 : x.toNat < 2 ^ 64 := by have := hu.2; have := hu.1; omega
      obtain ⟨b1, b2, b3⟩ := ctz_bits x.toNat hx0 hx1
      refine ⟨((64 * i + Lib.ctz 64 x.toNat : Nat) : Int), ?_, .inr ⟨_, rfl, by omega, ?_, ?_⟩⟩
      · refine Ev.step (f := fun _ => some ((64 * i + Lib.ctz 64 x.toNat : Nat) : Int)) (fun k => ?_) (Ev.now _)
        have e3 : bits_TrailingZeros64.f x = some ((Lib.ctz 64 x.toNat : Nat) : Int) := by unfold bits_TrailingZeros64.f; rw [if_pos (show 0 ≤ x ∧ x < 18446744073709551616 from hu)]
        rw [packed_First.l0, if_pos (by omega), if_pos (by omega), if_pos (by omega), hr, if_neg h0, e3]
        simp only [Option.bind_some]
        rw [w64s (x := 64 * (i : Int)) (by omega) (by omega), w64s (by omega) (by omega)]
        simp
      · rw [hw _ b1]; exact b2
      · intro c hc
        by_cases hc' : c < 64 * i
        · exact hno c hc'
        · have := hw (c - 64 * i) (by omega)
          rw [show 64 * i + (c - 64 * i) = c by omega] at this
          rw [this]
          exact b3 _ (by omega)
theorem colsFrom_none (l : List Int) : ∀ d s : Nat, (∀ c, s ≤ c → c < s + d → hasB l c = false) → colsFrom l s d = []
  | 0, _, _ => rfl
  | d + 1, s, h => by
    have h1 := colsFrom_none l d (s + 1) (fun c h2 h3 => h c (by omega) (by omega))
    unfold colsFrom at h1 ⊢
    rw [List.range'_succ, List.filter_cons, h s (by omega) (by omega)]
    exact h1
theorem colsFrom_first (l : List Int) (m : Nat) : ∀ d s : Nat, s ≤ m → m < s + d → hasB l m = true → (∀ c, c < m → hasB l c = false) → ∃ t, colsFrom l s d = (m : Int) :: t
  | 0, _, h1, h2, _, _ => by omega
  | d + 1, s, h1, h2, h3, h4 => by
    by_cases hs : s = m
    · subst hs
      unfold colsFrom
      rw [List.range'_succ, List.filter_cons, h3]
      exact ⟨_, rfl⟩
    · obtain ⟨t, ht⟩ := colsFrom_first l m d (s + 1) (by omega) (by omega) h3 h4
      refine ⟨t, ?_⟩
      unfold colsFrom at ht ⊢
      rw [List.range'_succ, List.filter_cons, h4 s (by omega)]
      exact ht
theorem first_ev (l : List Int) (hl : ∀ x ∈ l, U64 x) (hn : l.length ≤ 1000000) : Ev (fun k => packed_First.f k l) (if ((cols l).length : Int) > 0 then rd (cols l) 0 else -1) := by
  obtain ⟨r, hr, hf⟩ := first_l0 l hl hn l.length 0 (by omega) (fun c hc => by omega)
  have e : (if ((cols l).length : Int) > 0 then rd (cols l) 0 else -1) = r := by
    rcases hf with ⟨rfl, h⟩ | ⟨m, rfl, h1, h2, h3⟩
    · have : cols l = [] := colsFrom_none l _ 0 (fun c _ hc => h c (by omega))
      rw [this]
      rfl
    · obtain ⟨t, ht⟩ := colsFrom_first l m (64 * l.length) 0 (by omega) (by omega) h2 h3
      have : cols l = (m : Int) :: t := ht
      rw [this, if_pos (by simp)]
      rfl
  rw [e]
  exact hr
theorem unpacks_j0 (l : List Int) (c first : Int) (hl : ∀ x ∈ l, U64 x) (hn : l.length ≤ 1000000) (hc : c ≤ 9223372036854775807) (hf : first = if ((cols l).length : Int) > 0 then rd (cols l) 0 else -1) :
    Ev (fun k => geyserlaw02_PackedUnpacks.j0 k l c (cols l) first) true := by
  obtain ⟨b, hb1, hb2⟩ := has_both l hl hn c hc
  have hlen := colsFrom_length l 0 (64 * l.length)
  refine Ev.step (f := fun k => (packed_Unpack.f k l).bind fun t160 => ((geyserref02_Same.f k t160 (cols l)).bind fun t163 => (if t163 = true then ((packed_Count.f k l).bind fun t164 => (if t164 = ((cols l).length : Int) then ((packed_First.f k l).bind fun t165 => (if t165 = first then ((packed_Has.f l c).bind fun t166 => ((geyserref02_Has.f l c).bind fun t167 => (if (t166 == t167) = true then ((geyserlaw02_awake.f k).bind fun t168 => (some t168)) else (some false)))) else (some false))) else (some false))) else (some false)))) (fun k => ?_) ?_
  · rw [geyserlaw02_PackedUnpacks.j0]
  · refine Ev.bind (unpack_ev l hl (by omega)) ?_
    refine Ev.bind (samei_ev (cols l) (by show (colsFrom l 0 (64 * l.length)).length < _; omega)) ?_
    simp only [if_true]
    refine Ev.bind (count_ev l hn hl) ?_
    simp only [if_true]
    refine Ev.bind (first_ev l hl hn) ?_
    rw [← hf]
    simp only [if_true, hb1, hb2, Option.bind_some, BEq.rfl]
    exact Ev.bind (f := fun _ t => some t) awake02_ev (Ev.now _)
/-- The law, for all words and every number. -/
theorem PackedUnpacks (w : List Int) (c : Int) (hw : ∀ x ∈ w, U64 x) (hc : c ≤ 9223372036854775807) : ∃ k, geyserlaw02_PackedUnpacks.f k w c = some true := by
  refine Ev.rounds ?_
  obtain ⟨x, hx, lx, ux⟩ := cut_eq w
  unfold geyserlaw02_PackedUnpacks.f
  rw [hx]
  simp only [Option.bind_some]
  refine Ev.bind (refunpack_ev x (ux hw) (by omega)) ?_
  by_cases h : ((cols x).length : Int) > 0
  · have h0 : 0 < ((cols x).length : Int) := h
    simp only [if_pos h, if_pos h0]
    exact unpacks_j0 x c _ (ux hw) (by omega) hc (by rw [if_pos h])
  · simp only [if_neg h]
    exact unpacks_j0 x c _ (ux hw) (by omega) hc (by rw [if_neg h])
end Go.Proofs.YtnigpfaecibdfaaDoor.Pure
