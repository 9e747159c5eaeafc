/-
  Plain laws of the package packed, on what the printed functions say: columns of words, packed and unpacked.
-/
import Derived.Test.YtnigpfaecibdfaaDoorPxPk
import Derived.Laws.BitsLemmas
import Derived.Laws.Bits64
import Derived.Laws.Bits64b
namespace Go.Proofs.YtnigpfaecibdfaaDoor.Pure
open Go.RowKit Go.Proofs.YtnigpfaecibdfaaDoor.P Go.Proofs.YtnigpfaecibdfaaDoorW.PrintWords Go.Proofs.YtnigpfaecibdfaaDoorW.PrintLast Go.Proofs.YtnigpfaecibdfaaDoorW.PrintErr Go.Proofs.YtnigpfaecibdfaaDoorW.PrintMore
set_option linter.unusedVariables false
set_option linter.unusedSimpArgs false

theorem w64s {x : Int} (h0 : -9223372036854775808 ≤ x) (h1 : x ≤ 9223372036854775807) : wrap64 x = x := by unfold wrap64; omega
theorem getD_mid (A B : List Int) (b : Int) : rd (A ++ b :: B) (A.length : Int) = b := by
  unfold rd
  rw [Int.toNat_natCast, List.getD_eq_getElem?_getD, List.getElem?_append_right (Nat.le_refl _)]
  simp
theorem rd_mid (A B : List Int) (b : Int) : rd (A ++ b :: B) (A.length : Int) = b := getD_mid A B b
theorem new_eqS (c : ByteArray) (n : Int) (h : n ≠ 0) : fault_New.f c n = some [⟨c, true, n⟩] := by unfold fault_New.f; rw [if_neg h]

/-! ### columns -/
def U64 (x : Int) : Prop := 0 ≤ x ∧ x < 18446744073709551616
def hasB (l : List Int) (c : Nat) : Bool := decide (c / 64 < l.length) && (l.getD (c / 64) 0).toNat.testBit (c % 64)
theorem getD_mem {l : List Int} {i : Nat} (h : i < l.length) : l.getD i 0 ∈ l := by
  rw [List.getD_eq_getElem?_getD, List.getElem?_eq_getElem h]
  exact List.getElem_mem h
theorem bit_eq (x : Int) (hx : U64 x) (j : Nat) (hj : j < 64) : (Go.bits .and .u64 (shr .u64 x (j : Int)) 1 == 1) = x.toNat.testBit j := by
  obtain ⟨n, rfl⟩ := Int.eq_ofNat_of_zero_le hx.1
  have hn : n < 18446744073709551616 := by have := hx.2; omega
  have e1 : shr .u64 (n : Int) (j : Int) = ((n / 2 ^ j : Nat) : Int) := by
    unfold shr
    rw [Int.toNat_natCast, show IntKind.u64.bits = 64 from rfl, Nat.min_eq_left (by omega)]
    push_cast
    rfl
  have e2 : n / 2 ^ j < 18446744073709551616 := Nat.lt_of_le_of_lt (Nat.div_le_self _ _) hn
  have e3 := bits_and_u64_nat (n / 2 ^ j) 1 e2 (by decide)
  rw [e1]
  have e4 : ((1 : Nat) : Int) = 1 := rfl
  rw [e4] at e3
  rw [e3, Int.toNat_natCast, Nat.testBit_eq_decide_div_mod_eq, Nat.and_one_is_mod]
  generalize n / 2 ^ j % 2 = b
  by_cases hb : b = 1
  · subst hb; rfl
  · have : ((b : Int) == 1) = false := by simp; omega
    rw [this, decide_eq_false hb]
theorem has_eq (l : List Int) (hl : ∀ x ∈ l, U64 x) (c : Nat) (hc : c < 9223372036854775807) : packed_Has.f l (c : Int) = some (hasB l c) := by
  unfold packed_Has.f hasB
  have e1 : Int.tdiv (c : Int) 64 = ((c / 64 : Nat) : Int) := by rw [Int.tdiv_eq_ediv_of_nonneg (by omega)]; rfl
  have e2 : Int.tmod (c : Int) 64 = ((c % 64 : Nat) : Int) := by rw [Int.tmod_eq_emod_of_nonneg (by omega)]; rfl
  have e3 : c / 64 ≤ c := Nat.div_le_self _ _
  rw [if_pos (by omega), e1, e2, w64s (by omega) (by omega)]
  by_cases h : c / 64 < l.length
  · rw [if_pos (by omega), if_pos (by omega), if_pos (by omega), decide_eq_true h, Bool.true_and]
    have e4 : rd l ((c / 64 : Nat) : Int) = l.getD (c / 64) 0 := by unfold rd; rw [Int.toNat_natCast]
    rw [e4, bit_eq _ (hl _ (getD_mem h)) _ (Nat.mod_lt _ (by decide))]
  · rw [if_neg (by omega), decide_eq_false h]; rfl
def colsFrom (l : List Int) (c d : Nat) : List Int := ((List.range' c d).filter (hasB l)).map fun c : Nat => (c : Int)
def cols (l : List Int) : List Int := colsFrom l 0 (64 * l.length)
theorem colsFrom_length (l : List Int) (c d : Nat) : (colsFrom l c d).length ≤ d := by
  unfold colsFrom
  rw [List.length_map]
  refine Nat.le_trans (List.length_filter_le _ _) ?_
  simp
theorem unpack_l0 (l : List Int) (hl : ∀ x ∈ l, U64 x) (hn : l.length ≤ 100000000) : ∀ (d c : Nat) (acc : List Int), c + d = 64 * l.length → acc.length ≤ c →
    Ev (fun k => packed_Unpack.l0 k l acc ((64 * l.length : Nat) : Int) (c : Int)) (acc ++ colsFrom l c d) := by
  intro d
  induction d with
  | zero =>
    intro c acc hc _
    have e : colsFrom l c 0 = [] := rfl
    rw [e, List.append_nil]
    refine Ev.step (f := fun _ => some acc) (fun k => ?_) (Ev.now _)
    rw [packed_Unpack.l0, if_neg (by omega)]
  | succ d ih =>
    intro c acc hc ha
    have e2 : wrap64 ((c : Int) + 1) = ((c + 1 : Nat) : Int) := by rw [w64s (by omega) (by omega)]; rfl
    by_cases hb : hasB l c = true
    · have h' := ih (c + 1) (acc ++ [(c : Int)]) (by omega) (by simp; omega)
      have e : acc ++ colsFrom l c (d + 1) = acc ++ [(c : Int)] ++ colsFrom l (c + 1) d := by simp [colsFrom, List.range'_succ, hb]
      rw [e]
      refine Ev.step (fun k => ?_) h'
      rw [packed_Unpack.l0, if_pos (by omega), has_eq l hl c (by omega)]
      simp only [Option.bind_some]
      rw [if_pos hb, if_pos (by omega), e2]
    · have h' := ih (c + 1) acc (by omega) (by omega)
      have e : acc ++ colsFrom l c (d + 1) = acc ++ colsFrom l (c + 1) d := by simp [colsFrom, List.range'_succ, hb]
      rw [e]
      refine Ev.step (fun k => ?_) h'
      rw [packed_Unpack.l0, if_pos (by omega), has_eq l hl c (by omega)]
      simp only [Option.bind_some]
      rw [if_neg hb, e2]
theorem unpack_ev (l : List Int) (hl : ∀ x ∈ l, U64 x) (hn : l.length ≤ 100000000) : Ev (fun k => packed_Unpack.f k l) (cols l) := by
  have h := unpack_l0 l hl hn (64 * l.length) 0 [] (by omega) (by simp)
  rw [List.nil_append] at h
  refine Ev.congr (fun k => ?_) h
  unfold packed_Unpack.f
  rw [w64s (by omega) (by omega)]
  rfl
theorem cols_mem {l : List Int} {c : Int} (h : c ∈ cols l) : ∃ n : Nat, c = n ∧ n < 64 * l.length ∧ hasB l n = true := by
  unfold cols colsFrom at h
  simp only [List.mem_map, List.mem_filter, List.mem_range'_1] at h
  obtain ⟨n, ⟨⟨_, h1⟩, h2⟩, rfl⟩ := h
  exact ⟨n, rfl, by omega, h2⟩

/-! ### a column is set -/
theorem shl_one (j : Nat) (hj : j < 64) : shl .u64 1 (j : Int) = ((2 ^ j : Nat) : Int) := by
  have h : (2 : Nat) ^ j < 2 ^ 64 := Nat.pow_lt_pow_right (by decide) hj
  unfold shl
  rw [Int.toNat_natCast, show IntKind.u64.bits = 64 from rfl, Nat.min_eq_left (by omega), Int.one_mul, IntKind.wrap_u64]
  have h2 : ((2 : Int) ^ j) = ((2 ^ j : Nat) : Int) := by push_cast; rfl
  rw [h2]
  generalize (2 : Nat) ^ j = q at h ⊢
  omega
theorem hasB_zero (n c : Nat) : hasB (List.replicate n 0) c = false := by
  unfold hasB
  have : (List.replicate n (0 : Int)).getD (c / 64) 0 = 0 := by
    rw [List.getD_eq_getElem?_getD, List.getElem?_replicate]; split <;> rfl
  rw [this]
  simp
def setB (x : List Int) (c : Int) : List Int := x.set ((wrap64 (Int.tdiv c 64)) : Int).toNat (Go.bits .or .u64 (rd x (wrap64 (Int.tdiv c 64))) (shl .u64 1 (Int.tmod c 64)))
theorem setB_eq (x : List Int) (c : Nat) (hc : c < 9223372036854775807) : setB x (c : Int) = x.set (c / 64) (Go.bits .or .u64 (x.getD (c / 64) 0) ((2 ^ (c % 64) : Nat) : Int)) := by
  unfold setB rd
  have e1 : Int.tdiv (c : Int) 64 = ((c / 64 : Nat) : Int) := by rw [Int.tdiv_eq_ediv_of_nonneg (by omega)]; rfl
  have e2 : Int.tmod (c : Int) 64 = ((c % 64 : Nat) : Int) := by rw [Int.tmod_eq_emod_of_nonneg (by omega)]; rfl
  rw [e1, e2, w64s (by omega) (by omega), Int.toNat_natCast, shl_one _ (by omega)]
theorem word_or (a : Int) (ha : U64 a) (j : Nat) (hj : j < 64) : Go.bits .or .u64 a ((2 ^ j : Nat) : Int) = ((a.toNat ||| 2 ^ j : Nat) : Int) := by
  obtain ⟨n, rfl⟩ := Int.eq_ofNat_of_zero_le ha.1
  have hn : n < 18446744073709551616 := by have := ha.2; omega
  have h : (2 : Nat) ^ j < 2 ^ 64 := Nat.pow_lt_pow_right (by decide) hj
  rw [bits_or_u64_nat n (2 ^ j) hn (by omega), Int.toNat_natCast]
theorem setB_len (x : List Int) (c : Int) : (setB x c).length = x.length := by simp [setB]
theorem setB_u64 (x : List Int) (hx : ∀ a ∈ x, U64 a) (c : Nat) (hc : c < 64 * x.length) (hc' : c < 9223372036854775807) : ∀ a ∈ setB x (c : Int), U64 a := by
  rw [setB_eq x c hc', word_or _ (hx _ (getD_mem (by omega))) _ (Nat.mod_lt _ (by decide))]
  intro a ha
  rcases List.mem_or_eq_of_mem_set ha with h | h
  · exact hx a h
  · subst h
    have h1 := hx _ (getD_mem (l := x) (i := c / 64) (by omega))
    have h2 : (x.getD (c / 64) 0).toNat < 2 ^ 64 := by have := h1.2; omega
    have h3 : (2 : Nat) ^ (c % 64) < 2 ^ 64 := Nat.pow_lt_pow_right (by decide) (Nat.mod_lt _ (by decide))
    have h4 : (x.getD (c / 64) 0).toNat ||| 2 ^ (c % 64) < 2 ^ 64 := Nat.or_lt_two_pow h2 h3
    exact ⟨by omega, by omega⟩
theorem setB_has (x : List Int) (hx : ∀ a ∈ x, U64 a) (c : Nat) (hc : c < 64 * x.length) (hc' : c < 9223372036854775807) (d : Nat) : hasB (setB x (c : Int)) d = (hasB x d || decide (d = c)) := by
  rw [setB_eq x c hc', word_or _ (hx _ (getD_mem (by omega))) _ (Nat.mod_lt _ (by decide))]
  unfold hasB
  rw [List.length_set]
  by_cases h : d / 64 = c / 64
  · have e : (x.set (c / 64) (((x.getD (c / 64) 0).toNat ||| 2 ^ (c % 64) : Nat) : Int)).getD (d / 64) 0 = (((x.getD (c / 64) 0).toNat ||| 2 ^ (c % 64) : Nat) : Int) := by
      rw [h, List.getD_eq_getElem?_getD, List.getElem?_set_self (by omega)]; rfl
    rw [e, Int.toNat_natCast, Nat.testBit_or, Nat.testBit_two_pow, h, decide_eq_true (show c / 64 < x.length by omega), Bool.true_and, Bool.true_and]
    congr 1
    by_cases h2 : d = c
    · subst h2; simp
    · rw [decide_eq_false h2, decide_eq_false (by omega)]
  · have e : (x.set (c / 64) (((x.getD (c / 64) 0).toNat ||| 2 ^ (c % 64) : Nat) : Int)).getD (d / 64) 0 = x.getD (d / 64) 0 := by
      rw [List.getD_eq_getElem?_getD, List.getElem?_set_ne (by omega), List.getD_eq_getElem?_getD]
    rw [e, decide_eq_false (show ¬ d = c by omega), Bool.or_false]

/-! ### Pack -/
def packName : ByteArray := ⟨#[112, 97, 99, 107, 101, 100, 46, 80, 97, 99, 107]⟩
theorem pcheck_l0 (n : Int) (S : List Int) : ∀ P : List Int, (P ++ S).length < 9223372036854775807 →
    Ev (fun k => packed_check.l0 k n (P ++ S) ((P ++ S).length : Int) (P.length : Int)) (if ∀ c ∈ S, 0 ≤ c ∧ c < n then 0 else 1) := by
  induction S with
  | nil =>
    intro P hP
    rw [if_pos (by simp)]
    refine Ev.step (f := fun _ => some 0) (fun k => ?_) (Ev.now _)
    rw [packed_check.l0, if_neg (by simp)]
  | cons c S ih =>
    intro P hP
    have hlen : (P ++ c :: S).length = P.length + (S.length + 1) := by simp
    by_cases hc : 0 ≤ c ∧ c < n
    · have h' := ih (P ++ [c]) (by simpa using hP)
      have e1 : P ++ [c] ++ S = P ++ c :: S := by simp
      have e2 : ((P ++ [c]).length : Int) = wrap64 ((P.length : Int) + 1) := by rw [w64s (by omega) (by omega)]; simp
      have e3 : (if ∀ t ∈ c :: S, 0 ≤ t ∧ t < n then (0 : Int) else 1) = (if ∀ t ∈ S, 0 ≤ t ∧ t < n then 0 else 1) := by
        by_cases hS : ∀ t ∈ S, 0 ≤ t ∧ t < n
        · rw [if_pos hS, if_pos (by intro t ht; rcases List.mem_cons.1 ht with rfl | ht; exact hc; exact hS t ht)]
        · rw [if_neg hS, if_neg (fun h => hS (fun t ht => h t (by simp [ht])))]
      rw [e1, e2] at h'
      rw [e3]
      refine Ev.step (fun k => ?_) h'
      rw [packed_check.l0, if_pos (by omega), if_pos (by omega), if_pos (by omega), rd_mid, if_neg (by omega), if_neg (by omega)]
    · rw [if_neg (fun h => hc (h c (by simp)))]
      refine Ev.step (f := fun _ => some 1) (fun k => ?_) (Ev.now _)
      rw [packed_check.l0, if_pos (by omega), if_pos (by omega), if_pos (by omega), rd_mid]
      by_cases h0 : c < 0
      · rw [if_pos h0]
      · rw [if_neg h0, if_pos (by omega)]
def colsBad (l : List Int) (n : Int) : Int := if 0 ≤ n ∧ n ≤ 4096 ∧ ∀ c ∈ l, 0 ≤ c ∧ c < n then 0 else 1
theorem pcheck_ev (l : List Int) (n : Int) (hl : l.length < 9223372036854775807) : Ev (fun k => packed_check.f k l n) (colsBad l n) := by
  unfold packed_check.f colsBad
  by_cases h0 : n < 0
  · simp only [if_pos h0]; rw [if_neg (by omega)]; exact Ev.now _
  · by_cases h1 : n > 4096
    · simp only [if_neg h0, if_pos h1]; rw [if_neg (by omega)]; exact Ev.now _
    · simp only [if_neg h0, if_neg h1]
      have h := pcheck_l0 n l [] (by simpa using hl)
      have e : (if 0 ≤ n ∧ n ≤ 4096 ∧ ∀ c ∈ l, 0 ≤ c ∧ c < n then (0 : Int) else 1) = (if ∀ c ∈ l, 0 ≤ c ∧ c < n then 0 else 1) := by
        by_cases hS : ∀ t ∈ l, 0 ≤ t ∧ t < n
        · rw [if_pos hS, if_pos ⟨by omega, by omega, hS⟩]
        · rw [if_neg hS, if_neg (fun h => hS h.2.2)]
      rw [e]
      exact h
theorem word_facts (m n : Nat) (hm : m < 64 * n) (hn : n ≤ 1000000) : 0 ≤ wrap64 (Int.tdiv (m : Int) 64) ∧ wrap64 (Int.tdiv (m : Int) 64) < (n : Int) ∧ 0 ≤ Int.tmod (m : Int) 64 := by
  have e3 : Int.tdiv (m : Int) 64 = ((m / 64 : Nat) : Int) := by rw [Int.tdiv_eq_ediv_of_nonneg (by omega)]; rfl
  have e4 : Int.tmod (m : Int) 64 = ((m % 64 : Nat) : Int) := by rw [Int.tmod_eq_emod_of_nonneg (by omega)]; rfl
  rw [e3, e4, w64s (by omega) (by omega)]
  exact ⟨by omega, by omega, by omega⟩
theorem pack_l0 (S : List Int) : ∀ (P x : List Int), (P ++ S).length < 9223372036854775807 → (∀ c ∈ S, 0 ≤ c ∧ c < 64 * (x.length : Int)) → (∀ a ∈ x, U64 a) → x.length ≤ 1000000 →
    ∃ r, Ev (fun k => packed_Pack.l0 k x (P ++ S) ((P ++ S).length : Int) (P.length : Int)) r ∧
      (r = ([], [⟨packName, true, 2⟩]) ∨ ∃ y, r = (y, []) ∧ y.length = x.length ∧ (∀ a ∈ y, U64 a) ∧ S.Nodup ∧ (∀ c ∈ S, hasB x c.toNat = false) ∧ ∀ d : Nat, hasB y d = (hasB x d || decide ((d : Int) ∈ S))) := by
  induction S with
  | nil =>
    intro P x hP _ hx _
    refine ⟨(x, []), ?_, .inr ⟨x, rfl, rfl, hx, List.nodup_nil, by simp, by simp⟩⟩
    refine Ev.step (f := fun _ => some (x, [])) (fun k => ?_) (Ev.now _)
    rw [packed_Pack.l0, if_neg (by simp)]
  | cons c S ih =>
    intro P x hP hS hx hn
    have hlen : (P ++ c :: S).length = P.length + (S.length + 1) := by simp
    obtain ⟨m, rfl⟩ := Int.eq_ofNat_of_zero_le (hS c (by simp)).1
    have hm : m < 64 * x.length := by have := (hS (m : Int) (by simp)).2; omega
    have hm' : m < 9223372036854775807 := by omega
    by_cases hb : hasB x m = true
    · refine ⟨_, ?_, .inl rfl⟩
      refine Ev.step (f := fun _ => some ([], [⟨packName, true, 2⟩])) (fun k => ?_) (Ev.now _)
      rw [packed_Pack.l0, if_pos (by omega), if_pos (by omega), if_pos (by omega), rd_mid, has_eq x hx m hm']
      simp only [Option.bind_some]
      rw [if_pos hb, new_eqS _ 2 (by decide)]
      rfl
    · have h1 := setB_len x (m : Int)
      obtain ⟨r, hr, h⟩ := ih (P ++ [(m : Int)]) (setB x (m : Int)) (by simpa using hP) (fun t ht => by rw [h1]; exact hS t (by simp [ht])) (setB_u64 x hx m hm (by omega)) (by omega)
      have e1 : P ++ [(m : Int)] ++ S = P ++ (m : Int) :: S := by simp
      have e2 : ((P ++ [(m : Int)]).length : Int) = wrap64 ((P.length : Int) + 1) := by rw [w64s (by omega) (by omega)]; simp
      rw [e1, e2] at hr
      refine ⟨r, ?_, ?_⟩
      · refine Ev.step (fun k => ?_) hr
        obtain ⟨f1, f2, f3⟩ := word_facts m x.length hm hn
        rw [packed_Pack.l0, if_pos (by omega), if_pos (by omega), if_pos (by omega), rd_mid, has_eq x hx m hm']
        simp only [Option.bind_some]
        rw [if_neg hb, if_pos f1, if_pos f2, if_pos f3]
        rfl
      · rcases h with h | ⟨y, h, hy, hu, hnd, hno, hh⟩
        · exact .inl h
        · refine .inr ⟨y, h, by rw [hy, h1], hu, ?_, ?_, ?_⟩
          · refine List.nodup_cons.2 ⟨fun hin => ?_, hnd⟩
            have := hno _ hin
            rw [Int.toNat_natCast, setB_has x hx m hm (by omega)] at this
            simp at this
          · intro t ht
            rcases List.mem_cons.1 ht with rfl | ht
            · rw [Int.toNat_natCast]; simpa using hb
            · have := hno t ht
              rw [setB_has x hx m hm (by omega)] at this
              simp at this
              exact this.1
          · intro d
            rw [hh d, setB_has x hx m hm (by omega)]
            by_cases hd : d = m
            · subst hd; simp
            · have : ¬ (d : Int) = (m : Int) := by omega
              simp [hd, this]
theorem psize_eq (n : Int) (h0 : 0 ≤ n) (h1 : n ≤ 4096) : packed_Size.f n = some (((n.toNat + 63) / 64 : Nat) : Int) := by
  obtain ⟨m, rfl⟩ := Int.eq_ofNat_of_zero_le h0
  unfold packed_Size.f
  have e : wrap64 ((m : Int) + 63) = ((m + 63 : Nat) : Int) := w64s (by omega) (by omega)
  rw [if_neg (by omega), if_neg (by omega), e, Int.tdiv_eq_ediv_of_nonneg (by omega), w64s (by omega) (by omega), Int.toNat_natCast]
  rfl
/-- What Pack answers: a fault, or words whose columns are those given, each once. -/
theorem pack_ev (l : List Int) (n : Int) (hl : l.length < 9223372036854775807) : ∃ r, Ev (fun k => packed_Pack.f k l n) r ∧
    ((∃ e, e ≠ 0 ∧ r = ([], [⟨packName, true, e⟩])) ∨ ∃ y, r = (y, []) ∧ y.length = (n.toNat + 63) / 64 ∧ n ≤ 4096 ∧ (∀ a ∈ y, U64 a) ∧ l.Nodup ∧ (∀ c ∈ l, 0 ≤ c ∧ c < n) ∧ ∀ d : Nat, hasB y d = decide ((d : Int) ∈ l)) := by
  have hc := pcheck_ev l n hl
  unfold packed_Pack.f
  by_cases h : 0 ≤ n ∧ n ≤ 4096 ∧ ∀ c ∈ l, 0 ≤ c ∧ c < n
  · have e0 : colsBad l n = 0 := by unfold colsBad; rw [if_pos h]
    obtain ⟨h0, h1, h2⟩ := h
    have hlen : (List.replicate ((n.toNat + 63) / 64) (0 : Int)).length = (n.toNat + 63) / 64 := by simp
    obtain ⟨r, hr, ho⟩ := pack_l0 l [] (List.replicate ((n.toNat + 63) / 64) 0) (by simpa using hl) (fun c hc => by have := h2 c hc; rw [hlen]; omega) (fun a ha => by have := List.eq_of_mem_replicate ha; subst this; exact ⟨by decide, by decide⟩) (by rw [hlen]; omega)
    refine ⟨r, ?_, ?_⟩
    · refine Ev.bind hc ?_
      simp only [e0, if_true, psize_eq n h0 h1, Option.bind_some, Int.toNat_natCast]
      refine Ev.congr (fun k => ?_) hr
      rw [if_pos (by omega), if_pos (by omega)]
      rfl
    · rcases ho with rfl | ⟨y, rfl, hy, hu, hnd, hno, hh⟩
      · exact .inl ⟨2, by decide, rfl⟩
      · refine .inr ⟨y, rfl, by rw [hy, hlen], h1, hu, hnd, h2, fun d => ?_⟩
        rw [hh d, hasB_zero, Bool.false_or]
  · have e0 : colsBad l n = 1 := by unfold colsBad; rw [if_neg h]
    refine ⟨([], [⟨packName, true, 1⟩]), ?_, .inl ⟨1, by decide, rfl⟩⟩
    refine Ev.bind hc ?_
    simp only [e0]
    refine Ev.congr (fun k => ?_) (Ev.now _)
    rw [if_neg (by decide), new_eqS _ 1 (by decide)]
    rfl

/-! ### In -/
theorem in_l0 (v : Int) (S : List Int) : ∀ P : List Int, (P ++ S).length < 9223372036854775807 → Ev (fun k => geyserref02_In.l0 k (P ++ S) v (P.length : Int)) (decide (v ∈ S)) := by
  induction S with
  | nil =>
    intro P hP
    refine Ev.step (f := fun _ => some false) (fun k => ?_) (Ev.congr (fun _ => by simp) (Ev.now _))
    rw [geyserref02_In.l0, if_neg (by simp)]
  | cons c S ih =>
    intro P hP
    have hlen : (P ++ c :: S).length = P.length + (S.length + 1) := by simp
    by_cases hc : c = v
    · subst hc
      refine Ev.step (f := fun _ => some true) (fun k => ?_) (Ev.congr (fun _ => by simp) (Ev.now _))
      rw [geyserref02_In.l0, if_pos (by omega), if_pos (by omega), rd_mid, if_pos rfl]
    · have h' := ih (P ++ [c]) (by simpa using hP)
      have e1 : P ++ [c] ++ S = P ++ c :: S := by simp
      have e2 : ((P ++ [c]).length : Int) = wrap64 ((P.length : Int) + 1) := by rw [w64s (by omega) (by omega)]; simp
      have e3 : decide (v ∈ c :: S) = decide (v ∈ S) := by
        have : ¬ v = c := fun h => hc h.symm
        simp [this]
      rw [e1, e2] at h'
      rw [e3]
      refine Ev.step (fun k => ?_) h'
      rw [geyserref02_In.l0, if_pos (by omega), if_pos (by omega), rd_mid, if_neg hc]
theorem in_ev (l : List Int) (v : Int) (hl : l.length < 9223372036854775807) : Ev (fun k => geyserref02_In.f k l v) (decide (v ∈ l)) := in_l0 v l [] (by simpa using hl)

/-! ### cut -/
theorem cut_eq (l : List Int) : ∃ c, geyserlaw02_cut.f l = some c ∧ c.length ≤ 20 ∧ ((∀ x ∈ l, U64 x) → ∀ x ∈ c, U64 x) := by
  unfold geyserlaw02_cut.f
  refine ⟨_, rfl, ?_, ?_⟩
  · split
    · simp; omega
    · omega
  · intro hx
    split
    · exact fun x hm => hx x (List.mem_of_mem_take hm)
    · exact hx
end Go.Proofs.YtnigpfaecibdfaaDoor.Pure
