/-
  Plain laws of the package blocking, on what the printed functions say: sizes, the plan of an object, whether a plan is right, how many symbols a block has.
-/
import Derived.Test.YtbhnhmkbccjnpaaPx22
import Derived.KernelRfl
namespace Go.Proofs.Ytbhnhmkbccjnpaa.Pure
open Go.RowKit Go.Proofs.Ytbhnhmkbccjnpaa.P Go.Proofs.YtbhnhmkbccjnpaaW.PrintWords Go.Proofs.YtbhnhmkbccjnpaaW.PrintLast Go.Proofs.YtbhnhmkbccjnpaaW.PrintErr Go.Proofs.YtbhnhmkbccjnpaaW.PrintMore
set_option linter.unusedVariables false

theorem w64 {x : Int} (h0 : -9223372036854775808 ≤ x) (h1 : x ≤ 9223372036854775807) : wrap64 x = x := by unfold wrap64; omega

/-- A quotient, rounded up. -/
def U (n b : Int) : Int := n / b + (if 0 < n % b then 1 else 0)
/-- How many symbols. -/
def T (s b : Int) : Int := mx 1 (U s b)
theorem up_eq (n b : Int) (h0 : 0 ≤ n) (h1 : 1 ≤ b) (h2 : n ≤ 9223372036854775807) : blocking_up.f n b = some (U n b) := by
  unfold blocking_up.f; rw [if_pos ⟨h0, h1, h2⟩]; rfl
theorem U_bounds (n b : Int) (h0 : 0 ≤ n) (h1 : 1 ≤ b) : 0 ≤ U n b ∧ U n b ≤ n ∧ n ≤ U n b * b ∧ (1 ≤ n → (U n b - 1) * b < n ∧ 1 ≤ U n b) := by
  have e2 := Int.mul_ediv_add_emod n b
  have e3 : 0 ≤ n / b := Int.ediv_nonneg h0 (by omega)
  have e4 := Int.emod_nonneg n (show b ≠ 0 by omega)
  have e5 := Int.emod_lt_of_pos n (show 0 < b by omega)
  have e6 : n / b ≤ b * (n / b) := by
    have := Int.mul_le_mul_of_nonneg_right h1 e3
    omega
  have e7 : n / b * b = b * (n / b) := Int.mul_comm _ _
  unfold U
  generalize n / b = q at *
  generalize n % b = r at *
  split
  · rename_i hr
    have e8 : (q + 1) * b = b * q + b := by rw [Int.add_mul]; omega
    rw [e8]
    have e9 : q + 1 - 1 = q := by omega
    rw [e9, e7]
    omega
  · rename_i hr
    have e8 : (q + 0) * b = b * q := by rw [Int.add_zero]; omega
    have e9 : (q + 0 - 1) * b = b * q - b := by rw [Int.sub_mul, Int.add_zero]; omega
    rw [e8, e9]
    generalize hp : b * q = p at *
    refine ⟨by omega, by omega, by omega, fun h => ⟨by omega, ?_⟩⟩
    rcases Int.lt_or_le 0 q with h' | h'
    · omega
    · have : q = 0 := by omega
      subst this
      simp at hp
      omega
theorem T_bounds (s b : Int) (h0 : 0 ≤ s) (h1 : 1 ≤ b) (h2 : s ≤ 9223372036854775807) : 1 ≤ T s b ∧ T s b ≤ 9223372036854775807 := by
  have := U_bounds s b h0 h1
  unfold T mx
  split <;> omega
theorem symbols_eq (s b : Int) (h0 : 0 ≤ s) (h1 : 1 ≤ b) (h2 : s ≤ 9223372036854775807) : blocking_symbols.f s b = some (T s b) := by
  unfold blocking_symbols.f; rw [up_eq s b h0 h1 h2]; rfl

def inRange (s b m : Int) : Prop := 0 ≤ s ∧ 1 ≤ b ∧ b ≤ 64 ∧ 1 ≤ m ∧ m ≤ 128
instance (s b m : Int) : Decidable (inRange s b m) := by unfold inRange; infer_instance
/-- The name of blocking.Of in its errors. -/
def ofName : ByteArray := ⟨#[98, 108, 111, 99, 107, 105, 110, 103, 46, 79, 102]⟩
/-- The plan of an object, or why there is none. -/
def OfR (s b m : Int) : Int × Int × Int × Int × Int × List FE :=
  if inRange s b m then
    (if U (T s b) m > 16 then (0, 0, 0, 0, 0, [⟨ofName, true, 3⟩]) else (s, b, U (T s b) m, T s b % U (T s b) m, T s b / U (T s b) m, []))
  else (0, 0, 0, 0, 0, [⟨ofName, true, 1⟩])
theorem new_eq (c : ByteArray) (n : Int) (h : n ≠ 0) : fault_New.f c n = some [⟨c, true, n⟩] := by unfold fault_New.f; rw [if_neg h]
theorem new_zero (c : ByteArray) : fault_New.f c 0 = some [] := rfl
theorem of_bad (k : Nat) (s b m : Int) : blocking_Of.j0 (k + 1) s b m true = some (0, 0, 0, 0, 0, [⟨ofName, true, 1⟩]) := by
  rw [blocking_Of.j0, if_pos rfl, new_eq _ 1 (by decide)]
  rfl
theorem of_good (k : Nat) (s b m : Int) (h : inRange s b m) (h2 : s ≤ 9223372036854775807) : blocking_Of.j0 (k + 1) s b m false = some (OfR s b m) := by
  obtain ⟨h0, h1, h3, h4, h5⟩ := h
  have ht := T_bounds s b h0 h1 h2
  have hu := U_bounds (T s b) m (by omega) h4
  have hu1 := (hu.2.2.2 ht.1).2
  have e0 : OfR s b m = (if U (T s b) m > 16 then (0, 0, 0, 0, 0, [⟨ofName, true, 3⟩]) else (s, b, U (T s b) m, T s b % U (T s b) m, T s b / U (T s b) m, [])) := if_pos ⟨h0, h1, h3, h4, h5⟩
  rw [e0, blocking_Of.j0, if_neg (by simp), symbols_eq s b h0 h1 h2]
  simp only [Option.bind_some]
  rw [up_eq _ _ (by omega) h4 ht.2]
  simp only [Option.bind_some]
  by_cases hb : U (T s b) m > 16
  · rw [if_pos hb, if_pos hb, new_eq _ 3 (by decide)]; rfl
  · rw [if_neg hb, if_neg hb, if_neg (by omega)]
    have e1 : Int.tmod (T s b) (U (T s b) m) = T s b % U (T s b) m := Int.tmod_eq_emod_of_nonneg (by omega)
    have e2 : Int.tdiv (T s b) (U (T s b) m) = T s b / U (T s b) m := Int.tdiv_eq_ediv_of_nonneg (by omega)
    have e3 : 0 ≤ T s b / U (T s b) m := Int.ediv_nonneg (by omega) (by omega)
    have e4 : T s b / U (T s b) m ≤ T s b := Int.ediv_le_self _ (by omega)
    rw [e1, e2, w64 (by omega) (by omega)]
theorem of_eq (k : Nat) (s b m : Int) (h2 : s ≤ 9223372036854775807) : blocking_Of.f (k + 1) s b m = some (OfR s b m) := by
  have bad : ¬ inRange s b m → OfR s b m = (0, 0, 0, 0, 0, [⟨ofName, true, 1⟩]) := fun h => by unfold OfR; rw [if_neg h]
  unfold blocking_Of.f
  by_cases h0 : s < 0
  · rw [if_pos h0, of_bad, bad (by unfold inRange; omega)]
  rw [if_neg h0]
  by_cases h1 : b < 1
  · rw [if_pos h1, of_bad, bad (by unfold inRange; omega)]
  rw [if_neg h1]
  by_cases h3 : b > 64
  · rw [if_pos h3, of_bad, bad (by unfold inRange; omega)]
  rw [if_neg h3]
  by_cases h4 : m < 1
  · rw [if_pos h4, of_bad, bad (by unfold inRange; omega)]
  rw [if_neg h4]
  by_cases h5 : m > 128
  · rw [decide_eq_true h5, of_bad, bad (by unfold inRange; omega)]
  · rw [decide_eq_false h5]
    exact of_good k s b m ⟨by omega, by omega, by omega, by omega, by omega⟩ h2

/-- Why a plan is not right: 0, if it is. -/
def whyR (s b n l q : Int) : Int :=
  if s < 0 ∨ b < 1 ∨ b > 64 then 1
  else if n < 1 ∨ n > 16 ∨ l < 0 ∨ l ≥ n ∨ q < 1 ∨ q > 128 ∨ (l > 0 ∧ q = 128) then 2
  else if n * q + l = T s b then 0 else 2
theorem why_bad (k : Nat) (s b n l q : Int) : blocking_why.j0 (k + 1) true s b n l q = some 1 := by rw [blocking_why.j0, if_pos rfl]
theorem why_form (k : Nat) (s b n l q : Int) : blocking_why.j3 (k + 1) true s b n l q = some 2 := by rw [blocking_why.j3, if_pos rfl]
theorem why_j2 (k : Nat) (x s b n l q : Int) (hs : 0 ≤ s) (hb : 1 ≤ b) (h2 : s ≤ 9223372036854775807)
    (hx : x = if l > 0 ∧ q < 129 then q + 1 else q) :
    blocking_why.j2 (k + 2) x s b n l q = some (if n < 1 ∨ n > 16 ∨ l < 0 ∨ l ≥ n ∨ q < 1 ∨ q > 128 ∨ (l > 0 ∧ q = 128) then 2 else if n * q + l = T s b then 0 else 2) := by
  rw [blocking_why.j2]
  by_cases c1 : n < 1
  · rw [if_pos c1, why_form, if_pos (.inl c1)]
  rw [if_neg c1]
  by_cases c2 : n > 16
  · rw [if_pos c2, why_form, if_pos (.inr (.inl c2))]
  rw [if_neg c2]
  by_cases c3 : l < 0
  · rw [if_pos c3, why_form, if_pos (.inr (.inr (.inl c3)))]
  rw [if_neg c3]
  by_cases c4 : l ≥ n
  · rw [if_pos c4, why_form, if_pos (.inr (.inr (.inr (.inl c4))))]
  rw [if_neg c4]
  by_cases c5 : q < 1
  · rw [if_pos c5, why_form, if_pos (.inr (.inr (.inr (.inr (.inl c5)))))]
  rw [if_neg c5]
  by_cases c6 : x > 128
  · rw [decide_eq_true c6, why_form, if_pos]
    split at hx <;> omega
  · rw [decide_eq_false c6]
    have hq : q ≤ 128 ∧ ¬ (l > 0 ∧ q = 128) := by split at hx <;> omega
    rw [if_neg (by omega)]
    rw [blocking_why.j3, if_neg (by simp), symbols_eq s b hs hb h2]
    simp only [Option.bind_some]
    have e1 : 0 ≤ n * q := Int.mul_nonneg (by omega) (by omega)
    have e2 : n * q ≤ 16 * 128 := Int.mul_le_mul (by omega) (by omega) (by omega) (by omega)
    rw [w64 (x := n * q) (by omega) (by omega), w64 (by omega) (by omega)]
    split <;> rfl
theorem why_j0 (k : Nat) (s b n l q : Int) (hs : 0 ≤ s) (hb : 1 ≤ b) (h2 : s ≤ 9223372036854775807) (hq : q ≤ 9223372036854775807) (hq0 : -9223372036854775808 ≤ q) :
    blocking_why.j0 (k + 4) false s b n l q = some (if n < 1 ∨ n > 16 ∨ l < 0 ∨ l ≥ n ∨ q < 1 ∨ q > 128 ∨ (l > 0 ∧ q = 128) then 2 else if n * q + l = T s b then 0 else 2) := by
  rw [blocking_why.j0, if_neg (by simp)]
  by_cases c1 : l > 0
  · rw [if_pos c1]
    rw [blocking_why.j1]
    by_cases c2 : q < 129
    · rw [if_pos (decide_eq_true c2), w64 (by omega) (by omega)]
      exact why_j2 k _ s b n l q hs hb h2 (by rw [if_pos ⟨c1, c2⟩])
    · rw [if_neg (by simp; omega)]
      exact why_j2 k _ s b n l q hs hb h2 (by rw [if_neg (by omega)])
  · rw [if_neg c1]
    rw [blocking_why.j1, if_neg (by simp)]
    exact why_j2 k _ s b n l q hs hb h2 (by rw [if_neg (by omega)])
theorem why_eq (k : Nat) (s b n l q : Int) (h2 : s ≤ 9223372036854775807) (hq : q ≤ 9223372036854775807) (hq0 : -9223372036854775808 ≤ q) : blocking_why.f (k + 4) s b n l q = some (whyR s b n l q) := by
  unfold blocking_why.f whyR
  by_cases h0 : s < 0
  · rw [if_pos h0, why_bad, if_pos (.inl h0)]
  rw [if_neg h0]
  by_cases h1 : b < 1
  · rw [if_pos h1, why_bad, if_pos (.inr (.inl h1))]
  rw [if_neg h1]
  by_cases h3 : b > 64
  · rw [decide_eq_true h3, why_bad, if_pos (.inr (.inr h3))]
  · rw [decide_eq_false h3, if_neg (by omega)]
    exact why_j0 k s b n l q (by omega) (by omega) h2 hq hq0
def checkName : ByteArray := ⟨#[98, 108, 111, 99, 107, 105, 110, 103, 46, 67, 104, 101, 99, 107]⟩
def sourceName : ByteArray := ⟨#[98, 108, 111, 99, 107, 105, 110, 103, 46, 83, 111, 117, 114, 99, 101]⟩
def checkR (s b n l q : Int) : List FE := if whyR s b n l q = 0 then [] else [⟨checkName, true, whyR s b n l q⟩]
theorem check_eq (k : Nat) (s b n l q : Int) (h2 : s ≤ 9223372036854775807) (hq : q ≤ 9223372036854775807) (hq0 : -9223372036854775808 ≤ q) : blocking_Check.f (k + 4) s b n l q = some (checkR s b n l q) := by
  unfold blocking_Check.f
  rw [why_eq k s b n l q h2 hq hq0]
  simp only [Option.bind_some]
  unfold checkR fault_New.f
  rfl
/-- How many symbols a block has; why that can't be told. -/
def sourceR (s b n l q i : Int) : Int × List FE :=
  if whyR s b n l q = 0 then (if i < 0 ∨ i ≥ n then (0, [⟨sourceName, true, 1⟩]) else (if i < l then q + 1 else q, [])) else (0, [⟨sourceName, false, 0⟩])
theorem source_eq (k : Nat) (s b n l q i : Int) (h2 : s ≤ 9223372036854775807) (hq : q ≤ 9223372036854775807) (hq0 : -9223372036854775808 ≤ q) : blocking_Source.f (k + 4) s b n l q i = some (sourceR s b n l q i) := by
  unfold blocking_Source.f
  rw [check_eq k s b n l q h2 hq hq0]
  simp only [Option.bind_some]
  unfold sourceR checkR
  by_cases hw : whyR s b n l q = 0
  · rw [if_pos hw, if_pos hw, if_pos (by simp)]
    have hq2 : q ≤ 128 := by
      unfold whyR at hw
      split at hw
      · cases hw
      · split at hw
        · cases hw
        · omega
    by_cases c1 : i < 0
    · rw [if_pos c1, if_pos (.inl c1)]
      rw [blocking_Source.j0, if_pos rfl, new_eq _ 1 (by decide)]; rfl
    rw [if_neg c1]
    by_cases c2 : i ≥ n
    · rw [if_pos (.inr c2), decide_eq_true c2]
      rw [blocking_Source.j0, if_pos rfl, new_eq _ 1 (by decide)]; rfl
    · rw [if_neg (by omega), decide_eq_false c2]
      rw [blocking_Source.j0, if_neg (by simp)]
      unfold blocking_source.f
      by_cases c3 : i < l
      · rw [if_pos c3, if_pos c3, w64 (by omega) (by omega)]; rfl
      · rw [if_neg c3, if_neg c3]; rfl
  · rw [if_neg hw, if_neg hw, if_neg (by simp)]
    unfold fault_Wrap.f
    rw [if_neg (by simp)]; rfl
theorem awake14 : geyserlaw14_awake.f 5 = some true := by kernel_rfl
theorem awake14_k (k : Nat) : geyserlaw14_awake.f (k + 5) = some true := by
  induction k with
  | zero => exact awake14
  | succ k ih => exact geyserlaw14_awake.mono (k + 5) true ih

/-- A plan that is told is right. -/
theorem plan_right (s b m : Int) (h : inRange s b m) (h2 : s ≤ 9223372036854775807) (hu : ¬ U (T s b) m > 16) :
    whyR s b (U (T s b) m) (T s b % U (T s b) m) (T s b / U (T s b) m) = 0 ∧ 1 ≤ U (T s b) m ∧ 0 ≤ T s b % U (T s b) m ∧ T s b % U (T s b) m < U (T s b) m ∧ 1 ≤ T s b / U (T s b) m ∧
      (if 0 < T s b % U (T s b) m then T s b / U (T s b) m + 1 else T s b / U (T s b) m) ≤ m ∧ U (T s b) m * (T s b / U (T s b) m) + T s b % U (T s b) m = T s b ∧ (U (T s b) m - 1) * m < T s b := by
  obtain ⟨h0, h1, h3, h4, h5⟩ := h
  have ht := T_bounds s b h0 h1 h2
  obtain ⟨u1, u2, u3, u4⟩ := U_bounds (T s b) m (by omega) h4
  obtain ⟨u5, u6⟩ := u4 ht.1
  have e2 := Int.mul_ediv_add_emod (T s b) (U (T s b) m)
  have e4 := Int.emod_nonneg (T s b) (show U (T s b) m ≠ 0 by omega)
  have e5 := Int.emod_lt_of_pos (T s b) (show 0 < U (T s b) m by omega)
  unfold whyR
  generalize T s b = t at *
  generalize U t m = B at *
  generalize t / B = q at *
  generalize t % B = r at *
  have q1 : 1 ≤ q := by
    rcases Int.lt_or_le 0 q with h | h
    · omega
    · have : B * q ≤ 0 := Int.mul_nonpos_of_nonneg_of_nonpos (by omega) h
      omega
  have q2 : (if 0 < r then q + 1 else q) ≤ m := by
    split
    · rcases Int.lt_or_le q m with h | h
      · omega
      · have : B * m ≤ B * q := Int.mul_le_mul_of_nonneg_left h (by omega)
        omega
    · rcases Int.lt_or_le m q with h | h
      · have : B * (m + 1) ≤ B * q := Int.mul_le_mul_of_nonneg_left (by omega) (by omega)
        rw [Int.mul_add, Int.mul_one] at this
        omega
      · exact h
  refine ⟨?_, by omega, e4, e5, q1, q2, e2, u5⟩
  rw [if_neg (by omega), if_neg, if_pos e2]
  split at q2 <;> omega
end Go.Proofs.Ytbhnhmkbccjnpaa.Pure
