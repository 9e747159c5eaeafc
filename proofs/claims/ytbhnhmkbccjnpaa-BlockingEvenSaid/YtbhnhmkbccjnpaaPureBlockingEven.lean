/-
  The plain law BlockingEven: for every size, symbol and most that are 64-bit numbers, what the printed law function tells is true.
-/
import Derived.Test.YtbhnhmkbccjnpaaPureB
import Derived.Test.YtbhnhmkbccjnpaaPx22
namespace Go.Proofs.Ytbhnhmkbccjnpaa.Pure
open Go.RowKit Go.Proofs.Ytbhnhmkbccjnpaa.P Go.Proofs.YtbhnhmkbccjnpaaW.PrintWords Go.Proofs.YtbhnhmkbccjnpaaW.PrintLast Go.Proofs.YtbhnhmkbccjnpaaW.PrintErr Go.Proofs.YtbhnhmkbccjnpaaW.PrintMore
set_option linter.unusedVariables false

theorem ref14_symbols (s b : Int) (h0 : 0 ≤ s) (h1 : 1 ≤ b) (h2 : s ≤ 9223372036854775807) : geyserref14_Symbols.f s b = some (T s b) := by
  unfold geyserref14_Symbols.f
  have e1 : Int.tmod s b = s % b := Int.tmod_eq_emod_of_nonneg h0
  have e2 : Int.tdiv s b = s / b := Int.tdiv_eq_ediv_of_nonneg h0
  have e4 := Int.emod_nonneg s (show b ≠ 0 by omega)
  have e5 := Int.emod_lt_of_pos s (show 0 < b by omega)
  have e6 := Int.mul_ediv_add_emod s b
  have e3 : 0 ≤ s / b := Int.ediv_nonneg h0 (by omega)
  have e7 : s / b ≤ b * (s / b) := by
    have := Int.mul_le_mul_of_nonneg_right h1 e3
    omega
  rw [if_neg (by omega), e1, e2]
  unfold T U
  by_cases c : 0 < s % b
  · rw [if_pos c, if_pos c, w64 (x := s / b) (by omega) (by omega), w64 (by omega) (by omega)]
    unfold mx
    split
    · rfl
    · congr 1; omega
  · rw [if_neg (by omega), if_neg c]
    by_cases hs : s = 0
    · subst hs
      rw [if_pos rfl, Int.zero_ediv]
      simp [wrap64, mx]
    · have : 1 ≤ s / b := by
        rcases Int.lt_or_le 0 (s / b) with h | h
        · omega
        · have hz : s / b = 0 := by omega
          rw [hz] at e6
          simp at e6
          omega
      rw [if_neg hs, w64 (by omega) (by omega)]
      unfold mx
      split
      · congr 1; omega
      · congr 1; omega

theorem even_loop (s b m B r q : Int) (j : Nat) (hs : 0 ≤ s) (hs2 : s ≤ 9223372036854775807) (hb : 1 ≤ b) (hB : 1 ≤ B) (hB2 : B ≤ 16) (hr : 0 ≤ r) (hr2 : r < B) (hq : 1 ≤ q) (hm0 : 1 ≤ m) (hm2 : m ≤ 128) (hm : (if 0 < r then q + 1 else q) ≤ m)
    (hw : whyR s b B r q = 0) (ht : B * q + r = T s b) (hlt : (B - 1) * m < T s b) : ∀ (d : Nat) (i : Int), B - i = d → 0 ≤ i →
      geyserlaw14_BlockingEven.l0 (d + 6 + j) s b m (i * q + (if i < r then i else r)) i s b B r q = some true := by
  have hqm : q ≤ m := by split at hm <;> omega
  have hBq : B * q ≤ 16 * 128 := Int.mul_le_mul hB2 (by omega) (by omega) (by omega)
  have hBm : (B - 1) * m ≤ 16 * 128 := Int.mul_le_mul (by omega) (by omega) (by omega) (by omega)
  have hBm0 : 0 ≤ (B - 1) * m := Int.mul_nonneg (by omega) (by omega)
  intro d
  induction d with
  | zero =>
    intro i hi h0
    obtain rfl : i = B := by omega
    rw [show 0 + 6 + j = (j + 5) + 1 by omega, geyserlaw14_BlockingEven.l0, if_neg (by omega), ref14_symbols s b hs hb hs2]
    simp only [Option.bind_some]
    rw [if_neg (show ¬ i < r by omega), if_pos ht, w64 (x := i - 1) (by omega) (by omega), w64 (by omega) (by omega), if_pos (by omega), awake14_k j]
    rfl
  | succ d ih =>
    intro i hi h0
    have hlt : i < B := by omega
    have e1 : (i + 1) * q = i * q + q := by rw [Int.add_mul]; omega
    have e2 : i * q ≤ B * q := Int.mul_le_mul_of_nonneg_right (by omega) (by omega)
    have e3 : 0 ≤ i * q := Int.mul_nonneg h0 (by omega)
    have next := ih (i + 1) (by omega) (by omega)
    rw [show d + 1 + 6 + j = (d + 6 + j) + 1 by omega, geyserlaw14_BlockingEven.l0, if_pos hlt, show d + 6 + j = (d + 2 + j) + 4 by omega, source_eq _ s b B r q i hs2 (by omega) (by omega)]
    simp only [Option.bind_some]
    rw [show d + 6 + j = (d + 2 + j) + 4 by omega, e1] at next
    by_cases c : i < r
    · have e4 : sourceR s b B r q i = (q + 1, []) := by
        unfold sourceR
        rw [if_pos hw, if_neg (by omega), if_pos c]
      have e6 : (if i < r then i else r) = i := if_pos c
      rw [e4, e6]
      rw [if_pos (show 0 < r by omega)] at hm
      simp only []
      rw [if_pos (by rfl), if_neg (by omega), if_neg (by omega), if_neg (by omega), w64 (x := q + 1) (by omega) (by omega), if_pos rfl, w64 (by omega) (by omega), w64 (by omega) (by omega)]
      have e5 : i * q + i + (q + 1) = i * q + q + (if i + 1 < r then i + 1 else r) := by split <;> omega
      rw [e5]; exact next
    · have e4 : sourceR s b B r q i = (q, []) := by
        unfold sourceR
        rw [if_pos hw, if_neg (by omega), if_neg c]
      have e6 : (if i < r then i else r) = r := if_neg c
      rw [e4, e6]
      simp only []
      rw [if_pos (by rfl), if_neg (by omega), if_neg (by omega)]
      simp only [if_true]
      rw [w64 (by omega) (by omega), w64 (by omega) (by omega)]
      have e5 : i * q + r + q = i * q + q + (if i + 1 < r then i + 1 else r) := by split <;> omega
      rw [e5]; exact next

theorem BlockingEven (s b m : Int) (hs2 : s ≤ 9223372036854775807) : geyserlaw14_BlockingEven.f 30 s b m = some true := by
  unfold geyserlaw14_BlockingEven.f
  rw [of_eq 29 s b m hs2]
  simp only [Option.bind_some]
  unfold OfR
  by_cases h : inRange s b m
  · rw [if_pos h]
    by_cases hu : U (T s b) m > 16
    · rw [if_pos hu]
      simp only []
      rw [if_neg (by decide), if_pos (by decide), awake14_k 25]; rfl
    · rw [if_neg hu]
      obtain ⟨p1, p2, p3, p4, p5, p6, p7, p8⟩ := plan_right s b m h hs2 hu
      obtain ⟨h0, h1, h3, h4, h5⟩ := h
      simp only []
      have hq : T s b / U (T s b) m ≤ m := by split at p6 <;> omega
      rw [if_pos (by rfl), show (30 : Nat) = 26 + 4 from rfl, check_eq 26 _ _ _ _ _ hs2 (by omega) (by omega)]
      simp only [Option.bind_some]
      unfold checkR
      rw [if_pos p1, if_pos (by rfl)]
      have := even_loop s b m _ _ _ (30 - 6 - (U (T s b) m).toNat) h0 hs2 h1 p2 (by omega) p3 p4 p5 h4 h5 p6 p1 p7 p8 (U (T s b) m).toNat 0 (by omega) (by omega)
      rw [show (U (T s b) m).toNat + 6 + (30 - 6 - (U (T s b) m).toNat) = 26 + 4 by omega, Int.zero_mul, Int.zero_add] at this
      have e0 : (if (0 : Int) < T s b % U (T s b) m then (0 : Int) else T s b % U (T s b) m) = 0 := by split <;> omega
      rw [e0] at this
      exact this
  · rw [if_neg h]
    simp only []
    rw [if_neg (by decide), if_pos (by decide), awake14_k 25]; rfl
end Go.Proofs.Ytbhnhmkbccjnpaa.Pure
