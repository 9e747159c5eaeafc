/-
  The law PackedOdd, on what the printed function says: whether an odd number is 1 in both goes over an exclusive or.
-/
import Derived.Test.YtnigpfaecibdfaaDoorPureX
import Derived.Test.YtnigpfaecibdfaaDoorPurePop
import Derived.Test.YtnigpfaecibdfaaDoorPureAwake02
import Derived.Test.YtnigpfaecibdfaaDoorPxOdd
namespace Go.Proofs.YtnigpfaecibdfaaDoor.Pure
open Go.RowKit Go.Proofs.YtnigpfaecibdfaaDoor.P Go.Proofs.YtnigpfaecibdfaaDoorW.PrintWords Go.Proofs.YtnigpfaecibdfaaDoorW.PrintLast Go.Proofs.YtnigpfaecibdfaaDoorW.PrintErr Go.Proofs.YtnigpfaecibdfaaDoorW.PrintMore
set_option linter.unusedVariables false
set_option linter.unusedSimpArgs false
/-! ### how many bits are 1 in both -/
theorem popN_bits : ∀ n x y z : Nat, (∀ i, (x ^^^ y).testBit i = (x.testBit i ^^ y.testBit i)) → popN n ((x ^^^ y) &&& z) % 2 = (popN n (x &&& z) + popN n (y &&& z)) % 2
  | 0, _, _, _, _ => rfl
  | n + 1, x, y, z, _ => by
    have ih := popN_bits n (x / 2) (y / 2) (z / 2) (fun i => Nat.testBit_xor _ _ _)
    have e1 : ((x ^^^ y) &&& z) / 2 = (x / 2 ^^^ y / 2) &&& (z / 2) := by rw [Nat.and_div_two, Nat.xor_div_two]
    have e2 : (x &&& z) / 2 = x / 2 &&& z / 2 := Nat.and_div_two
    have e3 : (y &&& z) / 2 = y / 2 &&& z / 2 := Nat.and_div_two
    have e4 : ((x ^^^ y) &&& z) % 2 = ((x &&& z) % 2 + (y &&& z) % 2) % 2 := by
      have key : ∀ n : Nat, n % 2 = (n.testBit 0).toNat := by
        intro n
        rw [Nat.testBit_zero]
        rcases Nat.mod_two_eq_zero_or_one n with h | h <;> simp [h]
      rw [key ((x ^^^ y) &&& z), key (x &&& z), key (y &&& z), Nat.testBit_and, Nat.testBit_and, Nat.testBit_and, Nat.testBit_xor]
      cases x.testBit 0 <;> cases y.testBit 0 <;> cases z.testBit 0 <;> rfl
    rw [popN, popN, popN, e1, e2, e3]
    omega
def wand (a b : Int) : Int := Go.bits .and .u64 a b
theorem wand_eq (a b : Int) (ha : U64 a) (hb : U64 b) : wand a b = ((a.toNat &&& b.toNat : Nat) : Int) := by
  obtain ⟨n, rfl⟩ := Int.eq_ofNat_of_zero_le ha.1
  obtain ⟨m, rfl⟩ := Int.eq_ofNat_of_zero_le hb.1
  have h1 := ha.2
  have h2 := hb.2
  exact bits_and_u64_nat n m (by omega) (by omega)
theorem wxor_nat (a b : Int) (ha : U64 a) (hb : U64 b) : (wxor a b).toNat = a.toNat ^^^ b.toNat := by
  obtain ⟨n, rfl⟩ := Int.eq_ofNat_of_zero_le ha.1
  obtain ⟨m, rfl⟩ := Int.eq_ofNat_of_zero_le hb.1
  have h1 := ha.2
  have h2 := hb.2
  rw [wxor_wv]
  unfold wv
  rw [BitVec.ofInt_natCast, BitVec.ofInt_natCast, Int.toNat_natCast, Int.toNat_natCast, Int.toNat_natCast, BitVec.toNat_xor, BitVec.toNat_ofNat, BitVec.toNat_ofNat, Nat.mod_eq_of_lt (by omega), Nat.mod_eq_of_lt (by omega)]
def both (a b : Int) : Nat := popN 64 (a.toNat &&& b.toNat)
theorem both_eq (a b : Int) (ha : U64 a) (hb : U64 b) : bits_OnesCount64.f (wand a b) = some ((both a b : Nat) : Int) := by
  have h := wand_eq a b ha hb
  have hl : a.toNat &&& b.toNat < 2 ^ 64 := Nat.and_lt_two_pow _ (by have := hb.2; have := hb.1; omega)
  rw [h, ones_eq _ ⟨by omega, by omega⟩, Int.toNat_natCast]
  rfl
theorem both_le (a b : Int) : both a b ≤ 64 := popN_le 64 _
theorem both_xor (a b c : Int) (ha : U64 a) (hb : U64 b) : both (wxor a b) c % 2 = (both a c + both b c) % 2 := by
  unfold both
  rw [wxor_nat a b ha hb]
  exact popN_bits 64 _ _ _ (fun i => Nat.testBit_xor _ _ _)
def bothW : List Int → List Int → Nat
  | a :: l, b :: m => both a b + bothW l m
  | _, _ => 0
theorem bothW_le : ∀ l m : List Int, bothW l m ≤ 64 * l.length
  | [], _ => by simp [bothW]
  | _ :: _, [] => by simp [bothW]
  | a :: l, b :: m => by have := bothW_le l m; have := both_le a b; simp only [bothW, List.length_cons]; omega
theorem bothW_xor : ∀ a b c : List Int, a.length = b.length → b.length = c.length → (∀ x ∈ a, U64 x) → (∀ x ∈ b, U64 x) → bothW (xorW a b) c % 2 = (bothW a c + bothW b c) % 2
  | [], [], _, _, _, _, _ => by simp [bothW, xorW]
  | [], _ :: _, _, h, _, _, _ => by simp at h
  | _ :: _, [], _, h, _, _, _ => by simp at h
  | _ :: _, _ :: _, [], _, h, _, _ => by simp at h
  | x :: a, y :: b, z :: c, h1, h2, ha, hb => by
    have ih := bothW_xor a b c (by simpa using h1) (by simpa using h2) (fun t ht => ha t (by simp [ht])) (fun t ht => hb t (by simp [ht]))
    have hx := both_xor x y z (ha x (by simp)) (hb y (by simp))
    have e : xorW (x :: a) (y :: b) = wxor x y :: xorW a b := rfl
    rw [e, bothW, bothW, bothW]
    omega
theorem odd_l0 (S : List Int) : ∀ (P Q T : List Int) (n : Nat), P.length = Q.length → T.length = S.length → (P ++ S).length ≤ 1000000 → n ≤ 64 * P.length → (∀ x ∈ S, U64 x) → (∀ x ∈ T, U64 x) →
    Ev (fun k => packed_Odd.l0 k (P ++ S) (Q ++ T) (n : Int) ((P ++ S).length : Int) (P.length : Int)) (decide ((n + bothW S T) % 2 = 1), []) := by
  induction S with
  | nil =>
    intro P Q T n hPQ hT hP hn _ _
    have e : bothW [] T = 0 := by cases T <;> rfl
    rw [e]
    refine Ev.step (f := fun _ => some (decide ((n + 0) % 2 = 1), [])) (fun k => ?_) (Ev.now _)
    rw [packed_Odd.l0, if_neg (by simp)]
    have e2 : Int.tmod (n : Int) 2 = ((n % 2 : Nat) : Int) := by rw [Int.tmod_eq_emod_of_nonneg (by omega)]; rfl
    rw [e2, Nat.add_zero]
    by_cases h : n % 2 = 1
    · rw [h]; rfl
    · have h0 : n % 2 = 0 := by omega
      rw [h0]; rfl
  | cons s S ih =>
    intro P Q T n hPQ hT hP hn hS hTu
    obtain ⟨t, T, rfl⟩ : ∃ t T', T = t :: T' := by cases T with | nil => simp at hT | cons t T => exact ⟨t, T, rfl⟩
    have h1 : (P ++ s :: S).length = P.length + (S.length + 1) := by simp
    have h2 : (Q ++ t :: T).length = P.length + (S.length + 1) := by simp at hT ⊢; omega
    have hb := both_le s t
    have h' := ih (P ++ [s]) (Q ++ [t]) T (n + both s t) (by simp [hPQ]) (by simpa using hT) (by simpa using hP) (by simp; omega) (fun x hx => hS x (by simp [hx])) (fun x hx => hTu x (by simp [hx]))
    have e1 : P ++ [s] ++ S = P ++ s :: S := by simp
    have e2 : Q ++ [t] ++ T = Q ++ t :: T := by simp
    have e4 : n + both s t + bothW S T = n + bothW (s :: S) (t :: T) := by rw [bothW]; omega
    have e5 : ((P ++ [s]).length : Int) = wrap64 ((P.length : Int) + 1) := by rw [w64s (by omega) (by omega)]; simp
    have e6 : ((n + both s t : Nat) : Int) = wrap64 ((n : Int) + ((both s t : Nat) : Int)) := by rw [w64s (by omega) (by omega)]; simp
    rw [e1, e2, e4, e5, e6] at h'
    refine Ev.step (fun k => ?_) h'
    have r1 : rd (P ++ s :: S) (P.length : Int) = s := rd_mid P S s
    have r2 : rd (Q ++ t :: T) (P.length : Int) = t := by rw [hPQ]; exact rd_mid Q T t
    have r3 := both_eq s t (hS s (by simp)) (hTu t (by simp))
    unfold wand at r3
    rw [packed_Odd.l0, if_pos (by omega), if_pos (by omega), if_pos (by omega), if_pos (by omega), r1, r2, r3]
    rfl
theorem odd_ev (a b : List Int) (h : a.length = b.length) (hl : a.length ≤ 1000000) (ha : ∀ x ∈ a, U64 x) (hb : ∀ x ∈ b, U64 x) : Ev (fun k => packed_Odd.f k a b) (decide (bothW a b % 2 = 1), []) := by
  unfold packed_Odd.f
  have hx := odd_l0 a [] [] b 0 rfl h.symm (by simpa using hl) (by simp) ha hb
  rw [Nat.zero_add] at hx
  refine Ev.congr (fun k => ?_) hx
  rw [if_pos (by omega)]
  rfl
theorem odd_j0 (a b c : List Int) (h1 : a.length = b.length) (h2 : b.length = c.length) (h : a.length ≤ 20) (ha : ∀ x ∈ a, U64 x) (hb : ∀ x ∈ b, U64 x) (hc : ∀ x ∈ c, U64 x) : Ev (fun k => geyserlaw02_PackedOdd.j0 k a b c false) true := by
  have l1 := xorW_len a b h1
  refine Ev.step (f := fun k => (packed_Xor.f k a b).bind fun bt265 => ((packed_Odd.f k bt265.1 c).bind fun bt271 => ((packed_Odd.f k a c).bind fun bt275 => ((packed_Odd.f k b c).bind fun bt279 => (if (bt265.2.length : Int) = 0 then (if (bt271.2.length : Int) = 0 then (if (bt275.2.length : Int) = 0 then (if (bt279.2.length : Int) = 0 then (if (bt271.1 == (bt275.1 != bt279.1)) = true then ((geyserlaw02_awake.f k).bind fun t283 => (some t283)) else (some false)) else (some false)) else (some false)) else (some false)) else (some false)))))) (fun k => ?_) ?_
  · rw [geyserlaw02_PackedOdd.j0, if_neg (by decide)]
  · refine Ev.bind (wxor_ev a b h1 (by omega)) ?_
    refine Ev.bind (odd_ev (xorW a b) c (by omega) (by omega) (xorW_u64 a b) hc) ?_
    refine Ev.bind (odd_ev a c (by omega) (by omega) ha hc) ?_
    refine Ev.bind (odd_ev b c (by omega) (by omega) hb hc) ?_
    have hx := bothW_xor a b c h1 h2 ha hb
    have he : (decide (bothW (xorW a b) c % 2 = 1) == (decide (bothW a c % 2 = 1) != decide (bothW b c % 2 = 1))) = true := by
      rcases Nat.mod_two_eq_zero_or_one (bothW a c) with p | p <;> rcases Nat.mod_two_eq_zero_or_one (bothW b c) with q | q
      all_goals
        have e : bothW (xorW a b) c % 2 = (bothW a c % 2 + bothW b c % 2) % 2 := by omega
        rw [p, q] at e
        rw [e, p, q]
        rfl
    refine Ev.congr (fun k => ?_) (Ev.bind (f := fun _ t => some t) awake02_ev (Ev.now _))
    simp only [List.length_nil]
    rw [if_pos (by omega), if_pos (by omega), if_pos (by omega), if_pos (by omega), if_pos he]
theorem odd_j0_not (a b c : List Int) : Ev (fun k => geyserlaw02_PackedOdd.j0 k a b c true) true := by
  refine Ev.step (f := fun k => (geyserlaw02_awake.f k).bind fun t => some t) (fun k => ?_) (Ev.bind (f := fun _ t => some t) awake02_ev (Ev.now _))
  rw [geyserlaw02_PackedOdd.j0, if_pos rfl]
/-- The law, for all words. -/
theorem PackedOdd (a b c : List Int) (ha : ∀ x ∈ a, U64 x) (hb : ∀ x ∈ b, U64 x) (hc : ∀ x ∈ c, U64 x) : ∃ k, geyserlaw02_PackedOdd.f k a b c = some true := by
  refine Ev.rounds ?_
  obtain ⟨x, hx, lx, ux⟩ := cut_eq a
  obtain ⟨y, hy, ly, uy⟩ := cut_eq b
  obtain ⟨z, hz, lz, uz⟩ := cut_eq c
  unfold geyserlaw02_PackedOdd.f
  rw [hx, hy, hz]
  simp only [Option.bind_some]
  by_cases h1 : (x.length : Int) = (y.length : Int)
  · simp only [if_pos h1]
    by_cases h2 : (y.length : Int) = (z.length : Int)
    · have e : ((y.length : Int) != (z.length : Int)) = false := by simpa using h2
      rw [e]
      exact odd_j0 x y z (by omega) (by omega) lx (ux ha) (uy hb) (uz hc)
    · have e : ((y.length : Int) != (z.length : Int)) = true := by simpa using h2
      rw [e]
      exact odd_j0_not x y z
  · simp only [if_neg h1]
    exact odd_j0_not x y z
end Go.Proofs.YtnigpfaecibdfaaDoor.Pure
