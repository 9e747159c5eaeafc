/-
  Plain laws of the packages packed and symbol, on what the printed functions say: columns of words, the sum of those whose columns are 1, the exclusive or of two.
-/
import Derived.Test.YtbhnhmkbccjnpaaPureS
import Derived.Test.YtbhnhmkbccjnpaaPxCol
import Derived.Laws.Bits64b
namespace Go.Proofs.Ytbhnhmkbccjnpaa.Pure
open Go.RowKit Go.Proofs.Ytbhnhmkbccjnpaa.P Go.Proofs.YtbhnhmkbccjnpaaW.PrintWords Go.Proofs.YtbhnhmkbccjnpaaW.PrintLast Go.Proofs.YtbhnhmkbccjnpaaW.PrintErr Go.Proofs.YtbhnhmkbccjnpaaW.PrintMore
set_option linter.unusedVariables false
set_option linter.unusedSimpArgs false

/-! ### columns -/
def U64 (x : Int) : Prop := 0 ≤ x ∧ x < 18446744073709551616
def hasB (l : List Int) (c : Nat) : Bool := decide (c / 64 < l.length) && (l.getD (c / 64) 0).toNat.testBit (c % 64)
theorem getD_mem {l : List Int} {i : Nat} (h : i < l.length) : l.getD i 0 ∈ l := by
  rw [List.getD_eq_getElem?_getD, List.getElem?_eq_getElem h]
  exact List.getElem_mem h
theorem bit_eq (x : Int) (hx : U64 x) (j : Nat) (hj : j < 64) : (Go.bits .and .u64 (shr .u64 x (j : Int)) 1 == 1) = x.toNat.testBit j := by
  obtain ⟨n, rfl⟩ := Int.eq_ofNat_of_zero_le hx.1
  have hn : n < 18446744073709551616 := by have := hx.2; omega
  have e1 : shr .u64 (n : Int) (j : Int) = ((n / 2 ^ j : Nat) : Int) := by
    unfold shr
    rw [Int.toNat_natCast, show IntKind.u64.bits = 64 from rfl, Nat.min_eq_left (by omega)]
    push_cast
    rfl
  have e2 : n / 2 ^ j < 18446744073709551616 := Nat.lt_of_le_of_lt (Nat.div_le_self _ _) hn
  have e3 := bits_and_u64_nat (n / 2 ^ j) 1 e2 (by decide)
  rw [e1]
  have e4 : ((1 : Nat) : Int) = 1 := rfl
  rw [e4] at e3
  rw [e3, Int.toNat_natCast, Nat.testBit_eq_decide_div_mod_eq, Nat.and_one_is_mod]
  generalize n / 2 ^ j % 2 = b
  by_cases hb : b = 1
  · subst hb; rfl
  · have : ((b : Int) == 1) = false := by simp; omega
    rw [this, decide_eq_false hb]
theorem has_eq (l : List Int) (hl : ∀ x ∈ l, U64 x) (c : Nat) (hc : c < 9223372036854775807) : packed_Has.f l (c : Int) = some (hasB l c) := by
  unfold packed_Has.f hasB
  have e1 : Int.tdiv (c : Int) 64 = ((c / 64 : Nat) : Int) := by rw [Int.tdiv_eq_ediv_of_nonneg (by omega)]; rfl
  have e2 : Int.tmod (c : Int) 64 = ((c % 64 : Nat) : Int) := by rw [Int.tmod_eq_emod_of_nonneg (by omega)]; rfl
  have e3 : c / 64 ≤ c := Nat.div_le_self _ _
  rw [if_pos (by omega), e1, e2, w64s (by omega) (by omega)]
  by_cases h : c / 64 < l.length
  · rw [if_pos (by omega), if_pos (by omega), if_pos (by omega), decide_eq_true h, Bool.true_and]
    have e4 : rd l ((c / 64 : Nat) : Int) = l.getD (c / 64) 0 := by unfold rd; rw [Int.toNat_natCast]
    rw [e4, bit_eq _ (hl _ (getD_mem h)) _ (Nat.mod_lt _ (by decide))]
  · rw [if_neg (by omega), decide_eq_false h]; rfl
def colsFrom (l : List Int) (c d : Nat) : List Int := ((List.range' c d).filter (hasB l)).map fun c : Nat => (c : Int)
def cols (l : List Int) : List Int := colsFrom l 0 (64 * l.length)
theorem colsFrom_length (l : List Int) (c d : Nat) : (colsFrom l c d).length ≤ d := by
  unfold colsFrom
  rw [List.length_map]
  refine Nat.le_trans (List.length_filter_le _ _) ?_
  simp
theorem unpack_l0 (l : List Int) (hl : ∀ x ∈ l, U64 x) (hn : l.length ≤ 100000000) : ∀ (d c : Nat) (acc : List Int), c + d = 64 * l.length → acc.length ≤ c →
    Ev (fun k => packed_Unpack.l0 k l acc ((64 * l.length : Nat) : Int) (c : Int)) (acc ++ colsFrom l c d) := by
  intro d
  induction d with
  | zero =>
    intro c acc hc _
    have e : colsFrom l c 0 = [] := rfl
    rw [e, List.append_nil]
    refine Ev.step (f := fun _ => some acc) (fun k => ?_) (Ev.now _)
    rw [packed_Unpack.l0, if_neg (by omega)]
  | succ d ih =>
    intro c acc hc ha
    have e2 : wrap64 ((c : Int) + 1) = ((c + 1 : Nat) : Int) := by rw [w64s (by omega) (by omega)]; rfl
    by_cases hb : hasB l c = true
    · have h' := ih (c + 1) (acc ++ [(c : Int)]) (by omega) (by simp; omega)
      have e : acc ++ colsFrom l c (d + 1) = acc ++ [(c : Int)] ++ colsFrom l (c + 1) d := by simp [colsFrom, List.range'_succ, hb]
      rw [e]
      refine Ev.step (fun k => ?_) h'
      rw [packed_Unpack.l0, if_pos (by omega), has_eq l hl c (by omega)]
      simp only [Option.bind_some]
      rw [if_pos hb, if_pos (by omega), e2]
    · have h' := ih (c + 1) acc (by omega) (by omega)
      have e : acc ++ colsFrom l c (d + 1) = acc ++ colsFrom l (c + 1) d := by simp [colsFrom, List.range'_succ, hb]
      rw [e]
      refine Ev.step (fun k => ?_) h'
      rw [packed_Unpack.l0, if_pos (by omega), has_eq l hl c (by omega)]
      simp only [Option.bind_some]
      rw [if_neg hb, e2]
theorem unpack_ev (l : List Int) (hl : ∀ x ∈ l, U64 x) (hn : l.length ≤ 100000000) : Ev (fun k => packed_Unpack.f k l) (cols l) := by
  have h := unpack_l0 l hl hn (64 * l.length) 0 [] (by omega) (by simp)
  rw [List.nil_append] at h
  refine Ev.congr (fun k => ?_) h
  unfold packed_Unpack.f
  rw [w64s (by omega) (by omega)]
  rfl
theorem cols_mem {l : List Int} {c : Int} (h : c ∈ cols l) : ∃ n : Nat, c = n ∧ n < 64 * l.length ∧ hasB l n = true := by
  unfold cols colsFrom at h
  simp only [List.mem_map, List.mem_filter, List.mem_range'_1] at h
  obtain ⟨n, ⟨⟨_, h1⟩, h2⟩, rfl⟩ := h
  exact ⟨n, rfl, by omega, h2⟩

/-! ### Pick -/
def pickName : ByteArray := ⟨#[115, 121, 109, 98, 111, 108, 46, 80, 105, 99, 107]⟩
theorem pick_l0 (l : List (List Int)) (S : List Int) : ∀ (P : List Int) (x : List Int), (P ++ S).length < 9223372036854775807 → (∀ c ∈ S, 0 ≤ c) → (∀ s ∈ l, s.length = x.length) → x.length < 9223372036854775807 →
    Ev (fun k => symbol_Pick.l0 k l x (P ++ S) ((P ++ S).length : Int) (P.length : Int)) (if ∀ c ∈ S, c < (l.length : Int) then (sumB x (S.map (rd_Lsu8 l)), []) else ([], [⟨pickName, true, 2⟩])) := by
  induction S with
  | nil =>
    intro P x hP _ _ _
    rw [if_pos (by simp)]
    refine Ev.step (f := fun _ => some (x, [])) (fun k => ?_) (Ev.now _)
    rw [symbol_Pick.l0, if_neg (by simp)]
  | cons c S ih =>
    intro P x hP h0 hl hx
    have hlen : (P ++ c :: S).length = P.length + (S.length + 1) := by simp
    have hc0 : 0 ≤ c := h0 c (by simp)
    by_cases hc : c < (l.length : Int)
    · have hr : (rd_Lsu8 l c).length = x.length := by
        unfold rd_Lsu8
        rw [List.getD_eq_getElem?_getD, List.getElem?_eq_getElem (by omega)]
        exact hl _ (List.getElem_mem _)
      have h1 := addB_length x _ hr
      have h' := ih (P ++ [c]) (addB x (rd_Lsu8 l c)) (by simpa using hP) (fun t ht => h0 t (by simp [ht])) (fun s hs => by rw [h1]; exact hl s hs) (by rw [h1]; exact hx)
      have e1 : P ++ [c] ++ S = P ++ c :: S := by simp
      have e2 : ((P ++ [c]).length : Int) = wrap64 ((P.length : Int) + 1) := by rw [w64s (by omega) (by omega)]; simp
      have e3 : (if ∀ t ∈ c :: S, t < (l.length : Int) then (sumB x ((c :: S).map (rd_Lsu8 l)), ([] : List FE)) else ([], [⟨pickName, true, 2⟩])) = (if ∀ t ∈ S, t < (l.length : Int) then (sumB (addB x (rd_Lsu8 l c)) (S.map (rd_Lsu8 l)), []) else ([], [⟨pickName, true, 2⟩])) := by
        by_cases hS : ∀ t ∈ S, t < (l.length : Int)
        · rw [if_pos hS, if_pos (by intro t ht; rcases List.mem_cons.1 ht with rfl | ht; exact hc; exact hS t ht)]; rfl
        · rw [if_neg hS, if_neg (fun h => hS (fun t ht => h t (by simp [ht])))]
      rw [e1, e2] at h'
      rw [e3]
      have hi := into_ev x [rd_Lsu8 l c] (by simp) (by simpa using hr) hx
      refine Ev.step (fun k => ?_) (Ev.bind (f := fun k t => symbol_Pick.l0 k l t (P ++ c :: S) ((P ++ c :: S).length : Int) (wrap64 ((P.length : Int) + 1))) hi h')
      rw [symbol_Pick.l0, if_pos (by omega), if_pos (by omega), if_pos (by omega), rd_mid, if_neg (by omega), if_pos hc0, if_pos hc]
    · rw [if_neg (fun h => hc (h c (by simp)))]
      refine Ev.step (f := fun _ => some ([], [⟨pickName, true, 2⟩])) (fun k => ?_) (Ev.now _)
      rw [symbol_Pick.l0, if_pos (by omega), if_pos (by omega), if_pos (by omega), rd_mid, if_pos (by omega), new_eqS _ 2 (by decide)]
      rfl
/-- The sum of those whose columns are 1, or why there is none. -/
def pickR (w : List Int) (l : List (List Int)) (n : Int) : List Int × List FE :=
  if sizeBad l n = 0 then (if ∀ c ∈ cols w, c < (l.length : Int) then (sumB (zeros n) ((cols w).map (rd_Lsu8 l)), []) else ([], [⟨pickName, true, 2⟩])) else ([], [⟨pickName, true, sizeBad l n⟩])
theorem pick_ev (w : List Int) (l : List (List Int)) (n : Int) (hw : ∀ x ∈ w, U64 x) (hn : w.length ≤ 100000000) (hl : l.length < 9223372036854775807) : Ev (fun k => symbol_Pick.f k w l n) (pickR w l n) := by
  unfold symbol_Pick.f pickR
  refine Ev.bind (check_ev l n hl) ?_
  by_cases h : sizeBad l n = 0
  · obtain ⟨h1, h2, h3⟩ := sizeBad_zero h
    simp only [if_pos h]
    have hz : (zeros n).length = n.toNat := by simp [zeros]
    have hp := pick_l0 l (cols w) [] (zeros n) (by have := colsFrom_length w 0 (64 * w.length); simp [cols]; omega) (fun c hc => by obtain ⟨m, rfl, _⟩ := cols_mem hc; omega) (fun s hs => by have := h3 s hs; omega) (by omega)
    refine Ev.congr (fun k => ?_) (Ev.bind (f := fun k t => symbol_Pick.l0 k l (zeros n) t (t.length : Int) 0) (unpack_ev w hw hn) hp)
    rw [if_pos (by omega), if_pos (by omega)]
    rfl
  · simp only [if_neg h]
    rw [new_eqS _ _ h]
    exact Ev.now _

/-! ### Xor -/
def xorName : ByteArray := ⟨#[115, 121, 109, 98, 111, 108, 46, 88, 111, 114]⟩
theorem copyL_self (n : Nat) (l : List Int) (h : l.length = n) : copyL (List.replicate n 0) l = l := by
  unfold copyL
  rw [List.length_replicate, List.take_of_length_le (by omega), List.drop_eq_nil_of_le (by simp; omega), List.append_nil]
def xorR (a b : List Int) : List Int × List FE := if a.length = b.length then (addB a b, []) else ([], [⟨xorName, true, 2⟩])
theorem xor_ev (a b : List Int) (ha : a.length ≤ 281474976710656) : Ev (fun k => symbol_Xor.f k a b) (xorR a b) := by
  unfold symbol_Xor.f xorR
  by_cases h : a.length = b.length
  · rw [if_pos h]
    have hi := into_ev a [b] (by simp) (by simp [h]) (by omega)
    refine Ev.congr (fun k => ?_) (Ev.bind (f := fun _ t => some (t, ([] : List FE))) hi (Ev.now _))
    rw [if_pos (by omega), if_pos (by omega), if_pos (by omega), Int.toNat_natCast, copyL_self _ _ rfl]
  · rw [if_neg h]
    refine Ev.congr (fun k => ?_) (Ev.now _)
    rw [if_neg (by omega), new_eqS _ 2 (by decide)]
    rfl
end Go.Proofs.Ytbhnhmkbccjnpaa.Pure
