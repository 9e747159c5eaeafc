/-
  The plain law SymbolGoes: for any symbols' bytes and any two sets of columns, what the printed law function tells is true.
-/
import Derived.Test.YtbhnhmkbccjnpaaPureC
import Derived.Test.YtbhnhmkbccjnpaaPureSplit
import Derived.Test.YtbhnhmkbccjnpaaPxGoes
namespace Go.Proofs.Ytbhnhmkbccjnpaa.Pure
open Go.RowKit Go.Proofs.Ytbhnhmkbccjnpaa.P Go.Proofs.YtbhnhmkbccjnpaaW.PrintWords Go.Proofs.YtbhnhmkbccjnpaaW.PrintLast Go.Proofs.YtbhnhmkbccjnpaaW.PrintErr Go.Proofs.YtbhnhmkbccjnpaaW.PrintMore
set_option linter.unusedVariables false
set_option linter.unusedSimpArgs false

theorem cutBytes_l0 (S : List (List Int)) : ∀ (P : List (List Int)) (acc : List Int), (P ++ S).length < 9223372036854775807 → acc.length ≤ 400 →
    ∃ t, Ev (fun k => geyserlaw04_cutBytes.l0 k (P ++ S) acc (P.length : Int)) t ∧ t.length ≤ 400 := by
  induction S with
  | nil =>
    intro P acc hP ha
    refine ⟨acc, Ev.step (f := fun _ => some acc) (fun k => ?_) (Ev.now _), ha⟩
    rw [geyserlaw04_cutBytes.l0, if_neg (by simp)]
  | cons s S ih =>
    intro P acc hP ha
    have hlen : (P ++ s :: S).length = P.length + (S.length + 1) := by simp
    by_cases hc : acc.length < 200
    · have hm : 0 ≤ mn (s.length : Int) 200 ∧ mn (s.length : Int) 200 ≤ (s.length : Int) ∧ mn (s.length : Int) 200 ≤ 200 := by unfold mn; split <;> omega
      have ht : (s.take (mn (s.length : Int) 200).toNat).length ≤ 200 := by rw [List.length_take]; omega
      obtain ⟨t, h', hl⟩ := ih (P ++ [s]) (acc ++ s.take (mn (s.length : Int) 200).toNat) (by simpa using hP) (by rw [List.length_append]; omega)
      have e1 : P ++ [s] ++ S = P ++ s :: S := by simp
      have e2 : ((P ++ [s]).length : Int) = wrap64 ((P.length : Int) + 1) := by rw [w64s (by omega) (by omega)]; simp
      rw [e1, e2] at h'
      refine ⟨t, Ev.step (fun k => ?_) h', hl⟩
      rw [geyserlaw04_cutBytes.l0, if_pos (by omega), if_pos (by omega), if_pos (by omega), rd_row, if_pos hm.1, if_pos hm.2.1, if_pos (by omega)]
    · refine ⟨acc, Ev.step (f := fun _ => some acc) (fun k => ?_) (Ev.now _), ha⟩
      rw [geyserlaw04_cutBytes.l0, if_pos (by omega), if_neg (by omega)]
theorem cutBytes_ev (l : List (List Int)) (hl : l.length < 9223372036854775807) : ∃ t, Ev (fun k => geyserlaw04_cutBytes.f k l) t ∧ t.length ≤ 400 :=
  cutBytes_l0 l [] [] (by simpa using hl) (by simp)

/-! ### one word's columns -/
theorem hasB_one (w : Nat) (c : Nat) (hc : c < 64) : hasB [(w : Int)] c = w.testBit c := by
  unfold hasB
  rw [show c / 64 = 0 by omega, show c % 64 = c by omega]
  simp
def pickW (l : List (List Int)) (w : Nat) (cs : List Nat) : List (List Int) := (cs.filter fun c => w.testBit c).map fun c : Nat => rd_Lsu8 l (c : Int)
theorem cols_one (l : List (List Int)) (w : Nat) : (cols [(w : Int)]).map (rd_Lsu8 l) = pickW l w (List.range' 0 64) := by
  unfold cols colsFrom pickW
  rw [List.map_map]
  show List.map _ (List.filter (hasB [(w : Int)]) (List.range' 0 64)) = _
  rw [List.filter_congr (q := fun c => w.testBit c) (fun c hc => hasB_one w c (by have := List.mem_range'_1.1 hc; omega))]
  rfl
theorem add_cancel (a b s : List Int) (ha : s.length = a.length) (hb : s.length = b.length) : addB (addB a s) (addB b s) = addB a b := by
  apply List.ext_getElem?
  intro i
  simp only [addB, List.getElem?_zipWith]
  rcases Nat.lt_or_ge i s.length with h | h
  · rw [List.getElem?_eq_getElem h, List.getElem?_eq_getElem (show i < a.length by omega), List.getElem?_eq_getElem (show i < b.length by omega)]
    simp only [Option.some.injEq]
    rw [bxor_bv (bxor _ _) (bxor _ _), bxor_bv a[i] b[i], bv_bxor, bv_bxor]
    generalize bv a[i] = x
    generalize bv b[i] = y
    generalize bv s[i] = z
    have : x ^^^ z ^^^ (y ^^^ z) = x ^^^ y := by
      rw [BitVec.xor_assoc, BitVec.xor_comm y z, ← BitVec.xor_assoc z z y, BitVec.xor_self, BitVec.zero_xor]
    rw [this]
  · rw [List.getElem?_eq_none h, List.getElem?_eq_none (show a.length ≤ i by omega)]
theorem sum_goes (l : List (List Int)) (x y n : Nat) : ∀ (cs : List Nat) (A B : List Int), A.length = n → B.length = n → (∀ c ∈ cs, x.testBit c = true ∨ y.testBit c = true → (rd_Lsu8 l (c : Int)).length = n) →
    addB (sumB A (pickW l x cs)) (sumB B (pickW l y cs)) = sumB (addB A B) (pickW l (x ^^^ y) cs) := by
  intro cs
  induction cs with
  | nil => intro A B _ _ _; rfl
  | cons c cs ih =>
    intro A B hA hB h
    have h' : ∀ d ∈ cs, x.testBit d = true ∨ y.testBit d = true → (rd_Lsu8 l (d : Int)).length = n := fun d hd => h d (by simp [hd])
    have hx : (x ^^^ y).testBit c = (x.testBit c ^^ y.testBit c) := Nat.testBit_xor ..
    cases cx : x.testBit c <;> cases cy : y.testBit c
    · have e1 : pickW l x (c :: cs) = pickW l x cs := by simp [pickW, cx]
      have e2 : pickW l y (c :: cs) = pickW l y cs := by simp [pickW, cy]
      have e3 : pickW l (x ^^^ y) (c :: cs) = pickW l (x ^^^ y) cs := by simp [pickW, hx, cx, cy]
      rw [e1, e2, e3]; exact ih A B hA hB h'
    · have hr := h c (by simp) (.inr cy)
      have e1 : pickW l x (c :: cs) = pickW l x cs := by simp [pickW, cx]
      have e2 : pickW l y (c :: cs) = rd_Lsu8 l (c : Int) :: pickW l y cs := by simp [pickW, cy]
      have e3 : pickW l (x ^^^ y) (c :: cs) = rd_Lsu8 l (c : Int) :: pickW l (x ^^^ y) cs := by simp [pickW, hx, cx, cy]
      rw [e1, e2, e3]
      show addB (sumB A _) (sumB (addB B _) _) = sumB (addB (addB A B) _) _
      rw [ih A _ hA (by rw [addB_length _ _ (by omega)]; exact hB) h', addB_assoc]
    · have hr := h c (by simp) (.inl cx)
      have e1 : pickW l x (c :: cs) = rd_Lsu8 l (c : Int) :: pickW l x cs := by simp [pickW, cx]
      have e2 : pickW l y (c :: cs) = pickW l y cs := by simp [pickW, cy]
      have e3 : pickW l (x ^^^ y) (c :: cs) = rd_Lsu8 l (c : Int) :: pickW l (x ^^^ y) cs := by simp [pickW, hx, cx, cy]
      rw [e1, e2, e3]
      show addB (sumB (addB A _) _) (sumB B _) = sumB (addB (addB A B) _) _
      rw [ih _ B (by rw [addB_length _ _ (by omega)]; exact hA) hB h', addB_swap]
    · have hr := h c (by simp) (.inl cx)
      have e1 : pickW l x (c :: cs) = rd_Lsu8 l (c : Int) :: pickW l x cs := by simp [pickW, cx]
      have e2 : pickW l y (c :: cs) = rd_Lsu8 l (c : Int) :: pickW l y cs := by simp [pickW, cy]
      have e3 : pickW l (x ^^^ y) (c :: cs) = pickW l (x ^^^ y) cs := by simp [pickW, hx, cx, cy]
      rw [e1, e2, e3]
      show addB (sumB (addB A _) _) (sumB (addB B _) _) = _
      rw [ih _ _ (by rw [addB_length _ _ (by omega)]; exact hA) (by rw [addB_length _ _ (by omega)]; exact hB) h', add_cancel A B _ (by omega) (by omega)]

theorem pick_one (l : List (List Int)) (w : Nat) (h3 : ∀ s ∈ l, s.length = 3) (hl : l.length ≤ 60) (hw : w < 2 ^ l.length) : Ev (fun k => symbol_Pick.f k [(w : Int)] l 3) (sumB [0, 0, 0] (pickW l w (List.range' 0 64)), []) := by
  have hw2 : w < 18446744073709551616 := Nat.lt_of_lt_of_le hw (Nat.le_trans (Nat.pow_le_pow_right (by decide) hl) (by decide))
  have := pick_ev [(w : Int)] l 3 (by intro x hx; simp at hx; subst hx; unfold U64; omega) (by simp) (by omega)
  have e : pickR [(w : Int)] l 3 = (sumB [0, 0, 0] (pickW l w (List.range' 0 64)), []) := by
    unfold pickR
    have hs : sizeBad l 3 = 0 := by
      unfold sizeBad
      rw [if_neg (by omega), if_pos (fun s hs => by have := h3 s hs; omega)]
    rw [if_pos hs, if_pos, cols_one]
    · rfl
    · intro c hc
      obtain ⟨m, rfl, h1, h2⟩ := cols_mem hc
      have hm : m < 64 := by simpa using h1
      rw [hasB_one w m hm] at h2
      rcases Nat.lt_or_ge m l.length with h | h
      · omega
      · rw [Nat.testBit_lt_two_pow (Nat.lt_of_lt_of_le hw (Nat.pow_le_pow_right (by decide) h))] at h2
        cases h2
  rw [e] at this
  exact this
theorem pickW_length (l : List (List Int)) (w : Nat) (h3 : ∀ s ∈ l, s.length = 3) (hw : w < 2 ^ l.length) (cs : List Nat) : ∀ s ∈ pickW l w cs, s.length = 3 := by
  intro s hs
  unfold pickW at hs
  simp only [List.mem_map, List.mem_filter] at hs
  obtain ⟨c, ⟨_, hc⟩, rfl⟩ := hs
  rcases Nat.lt_or_ge c l.length with h | h
  · unfold rd_Lsu8
    rw [Int.toNat_natCast, List.getD_eq_getElem?_getD, List.getElem?_eq_getElem h]
    exact h3 _ (List.getElem_mem _)
  · rw [Nat.testBit_lt_two_pow (Nat.lt_of_lt_of_le hw (Nat.pow_le_pow_right (by decide) h))] at hc
    cases hc
theorem mask_eq (a n : Nat) (ha : a < 18446744073709551616) (hn : n ≤ 60) : Go.bits .and .u64 (a : Int) (IntKind.u64.wrap (shl .u64 1 (IntKind.u64.wrap (n : Int)) - 1)) = ((a % 2 ^ n : Nat) : Int) := by
  have hp : 2 ^ n ≤ 2 ^ 60 := Nat.pow_le_pow_right (by decide) hn
  have hp1 : 1 ≤ 2 ^ n := Nat.one_le_two_pow
  have e1 : IntKind.u64.wrap (n : Int) = (n : Int) := by rw [Go.IntKind.wrap_u64]; omega
  have e2 : shl .u64 1 (n : Int) = ((2 ^ n : Nat) : Int) := by
    unfold shl
    rw [Int.toNat_natCast, show IntKind.u64.bits = 64 from rfl, Nat.min_eq_left (by omega), Go.IntKind.wrap_u64, Int.one_mul]
    have : ((2 : Int) ^ n) = ((2 ^ n : Nat) : Int) := by push_cast; rfl
    rw [this]
    omega
  have e3 : IntKind.u64.wrap (((2 ^ n : Nat) : Int) - 1) = ((2 ^ n - 1 : Nat) : Int) := by
    rw [Go.IntKind.wrap_u64]
    omega
  rw [e1, e2, e3, bits_and_u64_nat a _ ha (by omega), Nat.and_two_pow_sub_one_eq_mod]
theorem goes_j0 (l : List (List Int)) (a b : Nat) (ha : a < 18446744073709551616) (hb : b < 18446744073709551616) (h3 : ∀ s ∈ l, s.length = 3) (hl : l.length ≤ 60) : Ev (fun k => geyserlaw04_SymbolGoes.j0 k l (a : Int) (b : Int)) true := by
  have hp1 : 1 ≤ 2 ^ l.length := Nat.one_le_two_pow
  have hp : 2 ^ l.length ≤ 2 ^ 60 := Nat.pow_le_pow_right (by decide) hl
  have ma := mask_eq a l.length ha hl
  have mb := mask_eq b l.length hb hl
  have xa : a % 2 ^ l.length < 2 ^ l.length := Nat.mod_lt _ (by omega)
  have xb : b % 2 ^ l.length < 2 ^ l.length := Nat.mod_lt _ (by omega)
  generalize a % 2 ^ l.length = x at *
  generalize b % 2 ^ l.length = y at *
  have mx := bits_xor_u64_nat x y (by omega) (by omega)
  have hxy : x ^^^ y < 2 ^ l.length := Nat.xor_lt_two_pow xa xb
  have p1 := pick_one l x h3 hl xa
  have p2 := pick_one l y h3 hl xb
  have p3 := pick_one l (x ^^^ y) h3 hl hxy
  have len : ∀ w, w < 2 ^ l.length → (sumB [0, 0, 0] (pickW l w (List.range' 0 64))).length = 3 := fun w hw => sumB_length _ _ (pickW_length l w h3 hw _)
  have key := sum_goes l x y 3 (List.range' 0 64) [0, 0, 0] [0, 0, 0] rfl rfl (by
    intro c _ hc
    rcases Nat.lt_or_ge c l.length with h | h
    · unfold rd_Lsu8
      rw [Int.toNat_natCast, List.getD_eq_getElem?_getD, List.getElem?_eq_getElem h]
      exact h3 _ (List.getElem_mem _)
    · have hh := Nat.pow_le_pow_right (show 0 < 2 by decide) h
      rcases hc with hc | hc
      · rw [Nat.testBit_lt_two_pow (Nat.lt_of_lt_of_le xa hh)] at hc; cases hc
      · rw [Nat.testBit_lt_two_pow (Nat.lt_of_lt_of_le xb hh)] at hc; cases hc)
  have e0 : addB [0, 0, 0] [0, 0, 0] = [0, 0, 0] := by decide +kernel
  rw [e0] at key
  have px := xor_ev (sumB [0, 0, 0] (pickW l x (List.range' 0 64))) (sumB [0, 0, 0] (pickW l y (List.range' 0 64))) (by rw [len x xa]; decide)
  have ex : xorR (sumB [0, 0, 0] (pickW l x (List.range' 0 64))) (sumB [0, 0, 0] (pickW l y (List.range' 0 64))) = (sumB [0, 0, 0] (pickW l (x ^^^ y) (List.range' 0 64)), []) := by
    unfold xorR
    rw [if_pos (by rw [len x xa, len y xb]), key]
  rw [ex] at px
  have last : Ev (fun k => (geyserlaw04_awake.f k).bind fun t388 => (some t388)) true := Ev.bind (f := fun _ t => some t) awake04_ev (Ev.now _)
  refine Ev.step (f := fun k => (symbol_Pick.f k [(x : Int)] l 3).bind fun p => (symbol_Pick.f k [(y : Int)] l 3).bind fun q => (symbol_Pick.f k [((x ^^^ y : Nat) : Int)] l 3).bind fun z => (symbol_Xor.f k p.1 q.1).bind fun s =>
      (if (p.2.length : Int) = 0 then (if (q.2.length : Int) = 0 then (if (z.2.length : Int) = 0 then (if (s.2.length : Int) = 0 then (if (strOfNums s.1).toList = (strOfNums z.1).toList then ((geyserlaw04_awake.f k).bind fun t388 => (some t388)) else (some false)) else (some false)) else (some false)) else (some false)) else (some false))) (fun k => ?_) ?_
  · rw [geyserlaw04_SymbolGoes.j0, if_pos (by rw [Go.IntKind.wrap_u64]; omega), ma, mb, mx]
  · refine Ev.bind p1 (Ev.bind p2 (Ev.bind p3 (Ev.bind px ?_)))
    simp only [List.length_nil]
    refine Ev.congr (fun k => ?_) last
    rw [if_pos (by rfl), if_pos (by rfl), if_pos (by rfl), if_pos (by rfl), if_pos (by first | rfl | trivial)]
theorem SymbolGoes (l : List (List Int)) (a b : Int) (ha : U64 a) (hb : U64 b) (hl : l.length < 9223372036854775807) : ∃ k, geyserlaw04_SymbolGoes.f k l a b = some true := by
  obtain ⟨x, rfl⟩ := Int.eq_ofNat_of_zero_le ha.1
  obtain ⟨y, rfl⟩ := Int.eq_ofNat_of_zero_le hb.1
  have ha2 := ha.2
  have hb2 := hb.2
  refine Ev.rounds ?_
  obtain ⟨t, ht, htl⟩ := cutBytes_ev l hl
  have hs := rsp_ev t 3 (by omega) (by omega) (by omega)
  have hlen := splitL_length 3 (by omega) t.length t
  have h3 := splitL_mem 3 t.length t
  generalize splitL t.length 3 t = r at *
  unfold geyserlaw04_SymbolGoes.f
  refine Ev.bind ht (Ev.bind hs ?_)
  by_cases h : (r.length : Int) > 60
  · have := goes_j0 (r.take 60) x y (by omega) (by omega) (fun s hs => h3 s (List.mem_of_mem_take hs)) (by rw [List.length_take]; omega)
    refine Ev.congr (fun k => ?_) this
    rw [if_pos h, if_pos (by omega)]
    rfl
  · have := goes_j0 r x y (by omega) (by omega) h3 (by omega)
    refine Ev.congr (fun k => ?_) this
    rw [if_neg h]
end Go.Proofs.Ytbhnhmkbccjnpaa.Pure
