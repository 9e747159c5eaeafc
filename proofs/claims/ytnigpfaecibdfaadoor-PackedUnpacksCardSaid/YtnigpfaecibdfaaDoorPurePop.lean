/-
  How many bits of a word are 1: what bits.OnesCount64's sums say.
-/
import Derived.Test.YtnigpfaecibdfaaDoorPxOnes
import Derived.Laws.Bits64b
import Derived.Laws.Bits128
namespace Go.Proofs.YtnigpfaecibdfaaDoor.Pure
open Go.RowKit Go.Proofs.YtnigpfaecibdfaaDoor.P Go.Proofs.YtnigpfaecibdfaaDoorW.PrintWords Go.Proofs.YtnigpfaecibdfaaDoorW.PrintLast Go.Proofs.YtnigpfaecibdfaaDoorW.PrintErr Go.Proofs.YtnigpfaecibdfaaDoorW.PrintMore
set_option linter.unusedVariables false
set_option linter.unusedSimpArgs false
/-- How many of the lowest n bits are 1. -/
def popN : Nat → Nat → Nat
  | 0, _ => 0
  | n + 1, x => x % 2 + popN n (x / 2)
def M5 : Nat → Nat | 0 => 0 | n + 1 => 4 * M5 n + 1
def M3 : Nat → Nat | 0 => 0 | n + 1 => 16 * M3 n + 3
def MF : Nat → Nat | 0 => 0 | n + 1 => 256 * MF n + 15
theorem and_split (k a b x y : Nat) (ha : a < 2 ^ k) (hb : b < 2 ^ k) : (2 ^ k * x + a) &&& (2 ^ k * y + b) = 2 ^ k * (x &&& y) + (a &&& b) := by
  apply Nat.eq_of_testBit_eq
  intro i
  rw [Nat.testBit_and, Nat.testBit_two_pow_mul_add _ ha, Nat.testBit_two_pow_mul_add _ hb, Nat.testBit_two_pow_mul_add _ (Nat.and_lt_two_pow _ hb)]
  split <;> rw [Nat.testBit_and]
theorem split4 (x m : Nat) : x &&& (4 * m + 1) = 4 * ((x / 4) &&& m) + x % 2 := by
  have h := and_split 2 (x % 4) 1 (x / 4) m (by omega) (by decide)
  have e : 2 ^ 2 * (x / 4) + x % 4 = x := by omega
  rw [e, Nat.and_one_is_mod] at h
  have e2 : x % 4 % 2 = x % 2 := by omega
  rw [e2] at h
  exact h
theorem split16 (x m : Nat) : x &&& (16 * m + 3) = 16 * ((x / 16) &&& m) + x % 4 := by
  have h := and_split 4 (x % 16) 3 (x / 16) m (by omega) (by decide)
  have e : 2 ^ 4 * (x / 16) + x % 16 = x := by omega
  have e3 : x % 16 &&& 3 = x % 16 % 4 := Nat.and_two_pow_sub_one_eq_mod _ 2
  rw [e, e3] at h
  have e2 : x % 16 % 4 = x % 4 := by omega
  rw [e2] at h
  exact h
theorem split256 (x m : Nat) : x &&& (256 * m + 15) = 256 * ((x / 256) &&& m) + x % 16 := by
  have h := and_split 8 (x % 256) 15 (x / 256) m (by omega) (by decide)
  have e : 2 ^ 8 * (x / 256) + x % 256 = x := by omega
  have e3 : x % 256 &&& 15 = x % 256 % 16 := Nat.and_two_pow_sub_one_eq_mod _ 4
  rw [e, e3] at h
  have e2 : x % 256 % 16 = x % 16 := by omega
  rw [e2] at h
  exact h
def S1 (n x : Nat) : Nat := ((x / 2) &&& M5 n) + (x &&& M5 n)
def S2 (n x : Nat) : Nat := ((x / 4) &&& M3 n) + (x &&& M3 n)
def popB (x : Nat) : Nat := x % 2 + x / 2 % 2 + x / 4 % 2 + x / 8 % 2
theorem S1_succ (n x : Nat) : S1 (n + 1) x = 4 * S1 n (x / 4) + (x / 2 % 2 + x % 2) := by
  unfold S1
  rw [M5, split4, split4]
  have e : x / 2 / 4 = x / 4 / 2 := by omega
  rw [e]
  omega
theorem S2_succ (n x : Nat) : S2 (n + 1) x = 16 * S2 n (x / 16) + (x / 4 % 4 + x % 4) := by
  unfold S2
  rw [M3, split16, split16]
  have e : x / 4 / 16 = x / 16 / 4 := by omega
  rw [e]
  omega
def C2 : Nat → Nat → Nat
  | 0, _ => 0
  | n + 1, x => 16 * C2 n (x / 16) + popB x
theorem popB_le (x : Nat) : popB x ≤ 4 := by unfold popB; omega
theorem S2_S1 : ∀ n x, S2 n (S1 (2 * n) x) = C2 n x
  | 0, _ => by unfold S2; simp [M3, C2]
  | n + 1, x => by
    have ih := S2_S1 n (x / 16)
    have e : 2 * (n + 1) = 2 * n + 1 + 1 := by omega
    have e2 : x / 4 / 4 = x / 16 := by omega
    have e0 : x / 4 / 2 = x / 8 := by omega
    rw [e, S2_succ, S1_succ, S1_succ, e2, C2, ← ih, e0]
    unfold popB
    have ha : x % 2 < 2 := Nat.mod_lt _ (by decide)
    have hb : x / 2 % 2 < 2 := Nat.mod_lt _ (by decide)
    have hc : x / 4 % 2 < 2 := Nat.mod_lt _ (by decide)
    have hd : x / 8 % 2 < 2 := Nat.mod_lt _ (by decide)
    generalize S1 (2 * n) (x / 16) = r
    generalize x % 2 = a at *
    generalize x / 2 % 2 = b at *
    generalize x / 4 % 2 = c at *
    generalize x / 8 % 2 = d at *
    have e3 : (4 * (4 * r + (d + c)) + (b + a)) / 16 = r := by omega
    rw [e3]
    omega
def C3 : Nat → Nat → Nat
  | 0, _ => 0
  | n + 1, x => 256 * C3 n (x / 256) + (popB x + popB (x / 16))
theorem C2_mod (n x : Nat) : C2 n x % 16 ≤ 4 := by
  cases n with
  | zero => simp [C2]
  | succ n => rw [C2]; have := popB_le x; omega
theorem S3_C2 : ∀ n x, (C2 (2 * n) x / 16 + C2 (2 * n) x) &&& MF n = C3 n x
  | 0, _ => by simp [MF, C3]
  | n + 1, x => by
    have ih := S3_C2 n (x / 256)
    have hm := C2_mod (2 * n) (x / 256)
    have e : 2 * (n + 1) = 2 * n + 1 + 1 := by omega
    have e2 : x / 16 / 16 = x / 256 := by omega
    have p0 := popB_le x
    have p1 := popB_le (x / 16)
    rw [e, C2, C2, e2, MF, split256, C3, ← ih]
    generalize C2 (2 * n) (x / 256) = z at *
    generalize popB x = a at *
    generalize popB (x / 16) = b at *
    have e3 : ((16 * (16 * z + b) + a) / 16 + (16 * (16 * z + b) + a)) / 256 = z / 16 + z := by omega
    rw [e3]
    omega
theorem popN_four (n x : Nat) : popN (n + 4) x = popB x + popN n (x / 16) := by
  simp only [popN]
  unfold popB
  have e : x / 2 / 2 / 2 / 2 = x / 16 := by omega
  rw [e]
  omega
theorem M5_32 : M5 32 = 6148914691236517205 := by decide
theorem M3_16 : M3 16 = 3689348814741910323 := by decide
theorem MF_8 : MF 8 = 1085102592571150095 := by decide
theorem fin (y A B : Nat) (h : y = A + 4294967296 * B) (hA : A < 4294967296) : (y + y / 4294967296) % 128 = (A % 128 + B % 128) % 128 := by omega
/-- The last byte of the sums is the number of bits. -/
theorem last (x : Nat) (y4 y5 y6 : Nat) (h4 : y4 = C3 8 x + C3 8 x / 256) (h5 : y5 = y4 + y4 / 65536) (h6 : y6 = y5 + y5 / 4294967296) : y6 % 128 = popN 64 x := by
  have e : popN 64 x = popN (60 + 4) x := rfl
  rw [e]
  simp only [C3, Nat.div_div_eq_div_mul, Nat.reduceMul] at h4
  rw [popN_four 60, popN_four 56, popN_four 52, popN_four 48, popN_four 44, popN_four 40, popN_four 36, popN_four 32, popN_four 28, popN_four 24, popN_four 20, popN_four 16, popN_four 12, popN_four 8, popN_four 4, popN_four 0, popN]
  simp only [Nat.div_div_eq_div_mul, Nat.reduceMul]
  have q0 := popB_le x
  have q1 := popB_le (x / 16)
  have q2 := popB_le (x / 256)
  have q3 := popB_le (x / 4096)
  have q4 := popB_le (x / 65536)
  have q5 := popB_le (x / 1048576)
  have q6 := popB_le (x / 16777216)
  have q7 := popB_le (x / 268435456)
  have q8 := popB_le (x / 4294967296)
  have q9 := popB_le (x / 68719476736)
  have q10 := popB_le (x / 1099511627776)
  have q11 := popB_le (x / 17592186044416)
  have q12 := popB_le (x / 281474976710656)
  have q13 := popB_le (x / 4503599627370496)
  have q14 := popB_le (x / 72057594037927936)
  have q15 := popB_le (x / 1152921504606846976)
  generalize popB x = a0 at *
  generalize popB (x / 16) = a1 at *
  generalize popB (x / 256) = a2 at *
  generalize popB (x / 4096) = a3 at *
  generalize popB (x / 65536) = a4 at *
  generalize popB (x / 1048576) = a5 at *
  generalize popB (x / 16777216) = a6 at *
  generalize popB (x / 268435456) = a7 at *
  generalize popB (x / 4294967296) = a8 at *
  generalize popB (x / 68719476736) = a9 at *
  generalize popB (x / 1099511627776) = a10 at *
  generalize popB (x / 17592186044416) = a11 at *
  generalize popB (x / 281474976710656) = a12 at *
  generalize popB (x / 4503599627370496) = a13 at *
  generalize popB (x / 72057594037927936) = a14 at *
  generalize popB (x / 1152921504606846976) = a15 at *
  obtain ⟨c0, hc0⟩ : ∃ c, c = a0 + a1 := ⟨_, rfl⟩
  obtain ⟨c1, hc1⟩ : ∃ c, c = a2 + a3 := ⟨_, rfl⟩
  obtain ⟨c2, hc2⟩ : ∃ c, c = a4 + a5 := ⟨_, rfl⟩
  obtain ⟨c3, hc3⟩ : ∃ c, c = a6 + a7 := ⟨_, rfl⟩
  obtain ⟨c4, hc4⟩ : ∃ c, c = a8 + a9 := ⟨_, rfl⟩
  obtain ⟨c5, hc5⟩ : ∃ c, c = a10 + a11 := ⟨_, rfl⟩
  obtain ⟨c6, hc6⟩ : ∃ c, c = a12 + a13 := ⟨_, rfl⟩
  obtain ⟨c7, hc7⟩ : ∃ c, c = a14 + a15 := ⟨_, rfl⟩
  rw [← hc0, ← hc1, ← hc2, ← hc3, ← hc4, ← hc5, ← hc6, ← hc7] at h4
  have k0 : c0 ≤ 8 := by omega
  have k1 : c1 ≤ 8 := by omega
  have k2 : c2 ≤ 8 := by omega
  have k3 : c3 ≤ 8 := by omega
  have k4 : c4 ≤ 8 := by omega
  have k5 : c5 ≤ 8 := by omega
  have k6 : c6 ≤ 8 := by omega
  have k7 : c7 ≤ 8 := by omega
  have g : y6 % 128 = c0 + c1 + c2 + c3 + c4 + c5 + c6 + c7 := by
    clear hc0 hc1 hc2 hc3 hc4 hc5 hc6 hc7 q0 q1 q2 q3 q4 q5 q6 q7 q8 q9 q10 q11 q12 q13 q14 q15
    have d4 : y4 = (c0 + c1) + 256 * ((c1 + c2) + 256 * ((c2 + c3) + 256 * ((c3 + c4) + 256 * ((c4 + c5) + 256 * ((c5 + c6) + 256 * ((c6 + c7) + 256 * c7)))))) := by omega
    clear h4
    have d5 : y5 = (c0 + c1 + c2 + c3) + 256 * ((c1 + c2 + c3 + c4) + 256 * ((c2 + c3 + c4 + c5) + 256 * ((c3 + c4 + c5 + c6) + 256 * ((c4 + c5 + c6 + c7) + 256 * ((c5 + c6 + c7) + 256 * ((c6 + c7) + 256 * c7)))))) := by omega
    clear h5 d4
    have hA : c0 + c1 + c2 + c3 + 256 * (c1 + c2 + c3 + c4 + 256 * (c2 + c3 + c4 + c5 + 256 * (c3 + c4 + c5 + c6))) < 4294967296 := by omega
    have h7 := fin y5 (c0 + c1 + c2 + c3 + 256 * (c1 + c2 + c3 + c4 + 256 * (c2 + c3 + c4 + c5 + 256 * (c3 + c4 + c5 + c6)))) (c4 + c5 + c6 + c7 + 256 * (c5 + c6 + c7 + 256 * (c6 + c7 + 256 * c7))) (by rw [d5]; omega) hA
    rw [h6, h7]
    clear h7 hA d5 h6
    omega
  rw [g]
  omega

/-! ### bits.OnesCount64 -/
theorem and_u (a : Nat) (m : Nat) (ha : a < 18446744073709551616) (hm : m < 18446744073709551616) : Go.bits .and .u64 (a : Int) (m : Int) = ((a &&& m : Nat) : Int) := bits_and_u64_nat a m ha hm
theorem wrap_u (a : Nat) (ha : a < 18446744073709551616) : IntKind.u64.wrap (a : Int) = (a : Int) := by rw [IntKind.wrap_u64]; omega
theorem S1_le (x : Nat) : S1 32 x ≤ 12297829382473034410 := by
  unfold S1
  have h1 : (x / 2) &&& M5 32 ≤ M5 32 := Nat.and_le_right
  have h2 : x &&& M5 32 ≤ M5 32 := Nat.and_le_right
  have := M5_32
  omega
theorem S2_le (x : Nat) : S2 16 x ≤ 7378697629483820646 := by
  unfold S2
  have h1 : (x / 4) &&& M3 16 ≤ M3 16 := Nat.and_le_right
  have h2 : x &&& M3 16 ≤ M3 16 := Nat.and_le_right
  have := M3_16
  omega
theorem ones_eq (a : Int) (ha : 0 ≤ a ∧ a < 18446744073709551616) : bits_OnesCount64.f a = some ((popN 64 a.toNat : Nat) : Int) := by
  obtain ⟨n, rfl⟩ := Int.eq_ofNat_of_zero_le ha.1
  have hn : n < 18446744073709551616 := by have := ha.2; omega
  rw [Int.toNat_natCast]
  have b1 := S1_le n
  have e1 : IntKind.u64.wrap (Go.bits .and .u64 ((n : Int) / 2) 6148914691236517205 + Go.bits .and .u64 (n : Int) 6148914691236517205) = ((S1 32 n : Nat) : Int) := by
    have h1 := and_u (n / 2) 6148914691236517205 (by omega) (by decide)
    have h2 := and_u n 6148914691236517205 hn (by decide)
    have h3 : ((n / 2 : Nat) : Int) = (n : Int) / 2 := by omega
    rw [h3] at h1
    have h4 : ((6148914691236517205 : Nat) : Int) = 6148914691236517205 := rfl
    rw [h4] at h1 h2
    rw [h1, h2, ← wrap_u (S1 32 n) (by omega)]
    unfold S1
    rw [M5_32]
    push_cast
    rfl
  generalize hx : S1 32 n = x at *
  have b2 := S2_le x
  have e2 : IntKind.u64.wrap (Go.bits .and .u64 ((x : Int) / 4) 3689348814741910323 + Go.bits .and .u64 (x : Int) 3689348814741910323) = ((S2 16 x : Nat) : Int) := by
    have h1 := and_u (x / 4) 3689348814741910323 (by omega) (by decide)
    have h2 := and_u x 3689348814741910323 (by omega) (by decide)
    have h3 : ((x / 4 : Nat) : Int) = (x : Int) / 4 := by omega
    rw [h3] at h1
    have h4 : ((3689348814741910323 : Nat) : Int) = 3689348814741910323 := rfl
    rw [h4] at h1 h2
    rw [h1, h2, ← wrap_u (S2 16 x) (by omega)]
    unfold S2
    rw [M3_16]
    push_cast
    rfl
  have h2' : S2 16 x = C2 16 n := by rw [← hx]; exact S2_S1 16 n
  generalize hy : S2 16 x = y at *
  have e3 : Go.bits .and .u64 (IntKind.u64.wrap ((y : Int) / 16 + (y : Int))) 1085102592571150095 = ((C3 8 n : Nat) : Int) := by
    have h1 : (y : Int) / 16 + (y : Int) = ((y / 16 + y : Nat) : Int) := by omega
    have h3 := and_u (y / 16 + y) 1085102592571150095 (by omega) (by decide)
    have h4 : ((1085102592571150095 : Nat) : Int) = 1085102592571150095 := rfl
    rw [h4] at h3
    have h5 := S3_C2 8 n
    rw [MF_8] at h5
    rw [h1, wrap_u _ (by omega), h3, h2']
    exact congrArg (fun t : Nat => (t : Int)) h5
  have b3 : C3 8 n ≤ 1085102592571150095 := by
    have h5 := S3_C2 8 n
    rw [MF_8] at h5
    rw [← h5]
    exact Nat.and_le_right
  have hl := last n (C3 8 n + C3 8 n / 256) _ _ rfl rfl rfl
  generalize C3 8 n = z at *
  have e4 : IntKind.u64.wrap ((z : Int) + (z : Int) / 256) = ((z + z / 256 : Nat) : Int) := by
    have h1 : (z : Int) + (z : Int) / 256 = ((z + z / 256 : Nat) : Int) := by omega
    rw [h1, wrap_u _ (by omega)]
  have b4 : z + z / 256 ≤ 2000000000000000000 := by omega
  generalize z + z / 256 = u at *
  have e5 : IntKind.u64.wrap ((u : Int) + (u : Int) / 65536) = ((u + u / 65536 : Nat) : Int) := by
    have h1 : (u : Int) + (u : Int) / 65536 = ((u + u / 65536 : Nat) : Int) := by omega
    rw [h1, wrap_u _ (by omega)]
  have b5 : u + u / 65536 ≤ 4000000000000000000 := by omega
  generalize u + u / 65536 = v at *
  have e6 : wrap64 (IntKind.u64.wrap ((v : Int) + (v : Int) / 4294967296)) = ((v + v / 4294967296 : Nat) : Int) := by
    have h1 : (v : Int) + (v : Int) / 4294967296 = ((v + v / 4294967296 : Nat) : Int) := by omega
    rw [h1, wrap_u _ (by omega)]
    unfold wrap64
    omega
  unfold bits_OnesCount64.f
  rw [e1, e2, e3, e4, e5, e6, i64_and127, ← hl]
  rfl
theorem popN_le : ∀ n x, popN n x ≤ n
  | 0, _ => Nat.le_refl _
  | n + 1, x => by have := popN_le n (x / 2); rw [popN]; omega
end Go.Proofs.YtnigpfaecibdfaaDoor.Pure
