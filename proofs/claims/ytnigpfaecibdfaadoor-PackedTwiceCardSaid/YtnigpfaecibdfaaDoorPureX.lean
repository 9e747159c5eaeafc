/-
  Plain laws of the package packed: the exclusive or of words, words that are the same, how many bits nothing has.
-/
import Derived.Test.YtnigpfaecibdfaaDoorPureP
import Derived.Test.YtnigpfaecibdfaaDoorPxXor
namespace Go.Proofs.YtnigpfaecibdfaaDoor.Pure
open Go.RowKit Go.Proofs.YtnigpfaecibdfaaDoor.P Go.Proofs.YtnigpfaecibdfaaDoorW.PrintWords Go.Proofs.YtnigpfaecibdfaaDoorW.PrintLast Go.Proofs.YtnigpfaecibdfaaDoorW.PrintErr Go.Proofs.YtnigpfaecibdfaaDoorW.PrintMore
set_option linter.unusedVariables false
set_option linter.unusedSimpArgs false

/-! ### words -/
def wxor (a b : Int) : Int := Go.bits .xor .u64 a b
def wv (a : Int) : BitVec 64 := BitVec.ofInt 64 a
theorem wxor_wv (a b : Int) : wxor a b = ((wv a ^^^ wv b).toNat : Int) := by
  unfold wxor Go.bits wv
  show IntKind.u64.wrap _ = _
  rw [IntKind.wrap_u64]
  have := (BitVec.ofInt 64 a ^^^ BitVec.ofInt 64 b).isLt
  show (((BitVec.ofInt 64 a ^^^ BitVec.ofInt 64 b).toNat : Int)) % 18446744073709551616 = ((BitVec.ofInt 64 a ^^^ BitVec.ofInt 64 b).toNat : Int)
  omega
theorem wv_nat (x : BitVec 64) : wv ((x.toNat : Int)) = x := by
  unfold wv
  rw [BitVec.ofInt_natCast]
  simp
theorem wv_wxor (a b : Int) : wv (wxor a b) = wv a ^^^ wv b := by rw [wxor_wv, wv_nat]
theorem wxor_comm (a b : Int) : wxor a b = wxor b a := by rw [wxor_wv, wxor_wv, BitVec.xor_comm]
theorem wxor_assoc (a b c : Int) : wxor (wxor a b) c = wxor a (wxor b c) := by rw [wxor_wv (wxor a b) c, wxor_wv a (wxor b c), wv_wxor, wv_wxor, BitVec.xor_assoc]
theorem wxor_self (a : Int) : wxor a a = 0 := by rw [wxor_wv, BitVec.xor_self]; rfl
theorem wxor_u64 (a b : Int) : U64 (wxor a b) := by
  rw [wxor_wv]
  have := (wv a ^^^ wv b).isLt
  exact ⟨by omega, by omega⟩

/-! ### rows of words -/
def xorW (a b : List Int) : List Int := List.zipWith wxor a b
theorem xorW_len (a b : List Int) (h : a.length = b.length) : (xorW a b).length = a.length := by simp [xorW, h]
theorem xorW_comm (a b : List Int) : xorW a b = xorW b a := by
  unfold xorW
  rw [List.zipWith_comm]
  congr 1
  funext x y
  exact wxor_comm y x
theorem xorW_assoc : ∀ a b c : List Int, xorW (xorW a b) c = xorW a (xorW b c)
  | [], _, _ => by simp [xorW]
  | _ :: _, [], _ => by simp [xorW]
  | _ :: _, _ :: _, [] => by simp [xorW]
  | x :: a, y :: b, z :: c => by
    have h := xorW_assoc a b c
    unfold xorW at h ⊢
    simp only [List.zipWith_cons_cons, wxor_assoc, h]
theorem xorW_self : ∀ a : List Int, xorW a a = List.replicate a.length 0
  | [] => rfl
  | x :: a => by
    have h := xorW_self a
    unfold xorW at h ⊢
    simp only [List.zipWith_cons_cons, wxor_self, h, List.length_cons, List.replicate_succ]
theorem xorW_u64 (a b : List Int) : ∀ x ∈ xorW a b, U64 x := by
  intro x hx
  unfold xorW at hx
  obtain ⟨i, hi, rfl⟩ := List.mem_iff_getElem.1 hx
  rw [List.getElem_zipWith]
  exact wxor_u64 _ _
theorem xor_l0 (S : List Int) : ∀ (P Q T X Y : List Int), P.length = Q.length → X.length = P.length → T.length = S.length → Y.length = S.length → (P ++ S).length < 9223372036854775807 →
    Ev (fun k => packed_Xor.l0 k (P ++ S) (Q ++ T) (X ++ Y) ((P ++ S).length : Int) (P.length : Int)) (X ++ xorW S T, []) := by
  induction S with
  | nil =>
    intro P Q T X Y hPQ hX hT hY hP
    obtain rfl : T = [] := List.eq_nil_of_length_eq_zero (by simpa using hT)
    obtain rfl : Y = [] := List.eq_nil_of_length_eq_zero (by simpa using hY)
    have e : xorW [] [] = [] := rfl
    rw [e]
    refine Ev.step (f := fun _ => some (X ++ [], [])) (fun k => ?_) (Ev.now _)
    rw [packed_Xor.l0, if_neg (by simp)]
  | cons s S ih =>
    intro P Q T X Y hPQ hX hT hY hP
    obtain ⟨t, T, rfl⟩ : ∃ t T', T = t :: T' := by cases T with | nil => simp at hT | cons t T => exact ⟨t, T, rfl⟩
    obtain ⟨y, Y, rfl⟩ : ∃ t T', Y = t :: T' := by cases Y with | nil => simp at hY | cons t T => exact ⟨t, T, rfl⟩
    have h1 : (P ++ s :: S).length = P.length + (S.length + 1) := by simp
    have h2 : (Q ++ t :: T).length = P.length + (S.length + 1) := by simp at hT ⊢; omega
    have h3 : (X ++ y :: Y).length = P.length + (S.length + 1) := by simp at hY ⊢; omega
    have h' := ih (P ++ [s]) (Q ++ [t]) T (X ++ [wxor s t]) Y (by simp [hPQ]) (by simp [hX]) (by simpa using hT) (by simpa using hY) (by simpa using hP)
    have e1 : P ++ [s] ++ S = P ++ s :: S := by simp
    have e2 : Q ++ [t] ++ T = Q ++ t :: T := by simp
    have e3 : X ++ [wxor s t] ++ Y = X ++ wxor s t :: Y := by simp
    have e4 : X ++ [wxor s t] ++ xorW S T = X ++ xorW (s :: S) (t :: T) := by simp [xorW]
    have e5 : ((P ++ [s]).length : Int) = wrap64 ((P.length : Int) + 1) := by rw [w64s (by omega) (by omega)]; simp
    rw [e1, e2, e3, e4, e5] at h'
    refine Ev.step (fun k => ?_) h'
    have r1 : rd (P ++ s :: S) (P.length : Int) = s := rd_mid P S s
    have r2 : rd (Q ++ t :: T) (P.length : Int) = t := by rw [hPQ]; exact rd_mid Q T t
    have r3 : (X ++ y :: Y).set (P.length : Int).toNat (Go.bits .xor .u64 s t) = X ++ wxor s t :: Y := by
      rw [Int.toNat_natCast, ← hX, List.set_append_right _ _ (Nat.le_refl _), Nat.sub_self]; rfl
    rw [packed_Xor.l0, if_pos (by omega), if_pos (by omega), if_pos (by omega), if_pos (by omega), if_pos (by omega), r1, r2, r3]
/-- What Xor answers of as many words. -/
theorem wxor_ev (a b : List Int) (h : a.length = b.length) (ha : a.length ≤ 1000000) : Ev (fun k => packed_Xor.f k a b) (xorW a b, []) := by
  unfold packed_Xor.f
  have hx := xor_l0 a [] [] b [] (List.replicate a.length 0) rfl rfl h.symm (by simp) (by simp; omega)
  refine Ev.congr (fun k => ?_) hx
  rw [if_pos (by omega), if_pos (by omega), if_pos (by omega), Int.toNat_natCast]
  simp only [Option.bind_some, List.nil_append, List.length_replicate, List.length_nil]
  rfl

/-! ### SameWords -/
theorem same_l0 (S : List Int) : ∀ P : List Int, (P ++ S).length < 9223372036854775807 → Ev (fun k => geyserref02_SameWords.l0 k (P ++ S) (P ++ S) (P.length : Int)) true := by
  induction S with
  | nil =>
    intro P hP
    refine Ev.step (f := fun _ => some true) (fun k => ?_) (Ev.now _)
    rw [geyserref02_SameWords.l0, if_neg (by simp)]
  | cons c S ih =>
    intro P hP
    have hlen : (P ++ c :: S).length = P.length + (S.length + 1) := by simp
    have h' := ih (P ++ [c]) (by simpa using hP)
    have e1 : P ++ [c] ++ S = P ++ c :: S := by simp
    have e2 : ((P ++ [c]).length : Int) = wrap64 ((P.length : Int) + 1) := by rw [w64s (by omega) (by omega)]; simp
    rw [e1, e2] at h'
    refine Ev.step (fun k => ?_) h'
    rw [geyserref02_SameWords.l0, if_pos (by omega), if_pos (by omega), if_pos (by omega), if_pos rfl]
theorem same_ev (a : List Int) (h : a.length < 9223372036854775807) : Ev (fun k => geyserref02_SameWords.f k a a) true := by
  unfold geyserref02_SameWords.f
  simp only [if_true]
  exact same_l0 a [] (by simpa using h)

/-! ### Count of nothing -/
theorem ones_zero : bits_OnesCount64.f 0 = some 0 := by decide +kernel
theorem count0_l0 (n : Nat) (hn : n < 9223372036854775807) : ∀ d i : Nat, i + d = n → Ev (fun k => packed_Count.l0 k 0 (List.replicate n 0) (n : Int) (i : Int)) 0 := by
  intro d
  induction d with
  | zero =>
    intro i hi
    refine Ev.step (f := fun _ => some 0) (fun k => ?_) (Ev.now _)
    rw [packed_Count.l0, if_neg (by omega)]
  | succ d ih =>
    intro i hi
    have h' := ih (i + 1) (by omega)
    have e2 : ((i + 1 : Nat) : Int) = wrap64 ((i : Int) + 1) := by rw [w64s (by omega) (by omega)]; simp
    have e3 : rd (List.replicate n 0) (i : Int) = 0 := by
      unfold rd
      rw [Int.toNat_natCast, List.getD_eq_getElem?_getD, List.getElem?_replicate]; split <;> rfl
    rw [e2] at h'
    refine Ev.step (fun k => ?_) h'
    rw [packed_Count.l0, if_pos (by omega), if_pos (by omega), if_pos (by rw [List.length_replicate]; omega), e3, ones_zero]
    have e4 : wrap64 ((0 : Int) + 0) = 0 := by rw [w64s (by decide) (by decide)]; rfl
    simp only [Option.bind_some]
    rw [e4]
theorem count0_ev (n : Nat) (hn : n < 9223372036854775807) : Ev (fun k => packed_Count.f k (List.replicate n 0)) 0 := by
  unfold packed_Count.f
  rw [List.length_replicate]
  exact count0_l0 n hn n 0 (by omega)

/-! ### cut -/
theorem cut_eq (l : List Int) : ∃ c, geyserlaw02_cut.f l = some c ∧ c.length ≤ 20 ∧ ((∀ x ∈ l, U64 x) → ∀ x ∈ c, U64 x) := by
  unfold geyserlaw02_cut.f
  refine ⟨_, rfl, ?_, ?_⟩
  · split
    · simp; omega
    · omega
  · intro hx
    split
    · exact fun x hm => hx x (List.mem_of_mem_take hm)
    · exact hx
end Go.Proofs.YtnigpfaecibdfaaDoor.Pure
