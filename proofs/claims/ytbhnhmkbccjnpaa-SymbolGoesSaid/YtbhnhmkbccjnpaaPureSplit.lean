/-
  Plain laws of the reference's Split, on what the printed function says: bytes as symbols of a size.
-/
import Derived.Test.YtbhnhmkbccjnpaaPureS
import Derived.Test.YtbhnhmkbccjnpaaPxRsp
namespace Go.Proofs.Ytbhnhmkbccjnpaa.Pure
open Go.RowKit Go.Proofs.Ytbhnhmkbccjnpaa.P Go.Proofs.YtbhnhmkbccjnpaaW.PrintWords Go.Proofs.YtbhnhmkbccjnpaaW.PrintLast Go.Proofs.YtbhnhmkbccjnpaaW.PrintErr Go.Proofs.YtbhnhmkbccjnpaaW.PrintMore
set_option linter.unusedVariables false
set_option linter.unusedSimpArgs false

/-- A symbol: the first bytes, filled up with bytes 0. -/
def padS (n : Nat) (u : List Int) : List Int := u.take n ++ List.replicate (n - u.length) 0
theorem padS_length (n : Nat) (u : List Int) : (padS n u).length = n := by simp [padS]; omega
def splitL : Nat → Nat → List Int → List (List Int)
  | 0, _, _ => []
  | f + 1, n, u => if u.length = 0 then [] else padS n u :: splitL f n (u.drop n)
theorem splitL_length (n : Nat) (hn : 1 ≤ n) : ∀ (f : Nat) (u : List Int), (splitL f n u).length ≤ u.length := by
  intro f
  induction f with
  | zero => intro u; simp [splitL]
  | succ f ih =>
    intro u
    unfold splitL
    split
    · simp
    · have := ih (u.drop n)
      simp only [List.length_cons, List.length_drop] at this ⊢
      omega
theorem splitL_mem (n : Nat) : ∀ (f : Nat) (u : List Int), ∀ s ∈ splitL f n u, s.length = n := by
  intro f
  induction f with
  | zero => intro u s hs; simp [splitL] at hs
  | succ f ih =>
    intro u s hs
    unfold splitL at hs
    split at hs
    · simp at hs
    · rcases List.mem_cons.1 hs with rfl | hs
      · exact padS_length n u
      · exact ih _ s hs
theorem rsp_inner (t : List Int) (n : Nat) (acc : List (List Int)) (pos : Nat) (r : List (List Int)) (hn : n ≤ 64) (hp : pos < t.length) (ht : t.length ≤ 5864062014804) (hacc : acc.length < 5864062014805)
    (h : Ev (fun k => geyserref04_Split.l0 k t (n : Int) (acc ++ [padS n (t.drop pos)]) (wrap64 ((pos : Int) + (n : Int)))) r) :
    ∀ (d i : Nat), i + d = n → pos + i ≤ t.length → Ev (fun k => geyserref04_Split.l1 k t (n : Int) acc (pos : Int) ((t.drop pos).take i ++ List.replicate d 0) (i : Int)) r := by
  intro d
  induction d with
  | zero =>
    intro i hi hb
    refine Ev.step (fun k => ?_) h
    rw [geyserref04_Split.l1, if_neg (by omega), if_pos hacc]
    have e : padS n (t.drop pos) = (t.drop pos).take i ++ List.replicate 0 0 := by
      unfold padS
      rw [show i = n by omega, show n - (t.drop pos).length = 0 by rw [List.length_drop]; omega]
    rw [e]
  | succ d ih =>
    intro i hi hb
    have hlen : ((t.drop pos).take i).length = i := by rw [List.length_take, List.length_drop]; omega
    have e1 : wrap64 ((pos : Int) + (i : Int)) = ((pos + i : Nat) : Int) := by rw [w64s (by omega) (by omega)]; rfl
    have e2 : wrap64 ((i : Int) + 1) = ((i + 1 : Nat) : Int) := by rw [w64s (by omega) (by omega)]; rfl
    by_cases hb2 : pos + i < t.length
    · have h' := ih (i + 1) (by omega) (by omega)
      refine Ev.step (fun k => ?_) h'
      rw [geyserref04_Split.l1, if_pos (by omega), e1, if_pos (by omega), if_pos (by omega), if_pos (by omega), if_pos (by rw [List.length_append, List.length_replicate, hlen]; omega), e2]
      have e3 : rd t ((pos + i : Nat) : Int) = t.getD (pos + i) 0 := by unfold rd; rw [Int.toNat_natCast]
      have e4 : (t.drop pos).take (i + 1) = (t.drop pos).take i ++ [t.getD (pos + i) 0] := by
        rw [List.take_succ_eq_append_getElem (by rw [List.length_drop]; omega), List.getElem_drop, List.getD_eq_getElem?_getD, List.getElem?_eq_getElem hb2]
        rfl
      have e5 : List.replicate (d + 1) (0 : Int) = 0 :: List.replicate d 0 := rfl
      have e6 := set_mid ((t.drop pos).take i) (List.replicate d 0) 0 (t.getD (pos + i) 0)
      rw [hlen] at e6
      rw [e3, Int.toNat_natCast, e5, e6, e4]
    · refine Ev.step (fun k => ?_) h
      rw [geyserref04_Split.l1, if_pos (by omega), e1, if_neg (by omega), if_pos hacc]
      have e : padS n (t.drop pos) = (t.drop pos).take i ++ List.replicate (d + 1) 0 := by
        unfold padS
        rw [List.length_drop, List.take_of_length_le (show (t.drop pos).length ≤ n by rw [List.length_drop]; omega), List.take_of_length_le (show (t.drop pos).length ≤ i by rw [List.length_drop]; omega), show n - (t.length - pos) = d + 1 by omega]
      rw [e]
theorem rsp_outer (t : List Int) (n : Nat) (hn0 : 1 ≤ n) (hn : n ≤ 64) (ht : t.length ≤ 5864062014804) : ∀ (f pos : Nat) (acc : List (List Int)), t.length ≤ pos + f → acc.length + (t.length - pos) ≤ 5864062014804 → pos ≤ t.length + 64 →
    Ev (fun k => geyserref04_Split.l0 k t (n : Int) acc (pos : Int)) (acc ++ splitL f n (t.drop pos)) := by
  intro f
  induction f with
  | zero =>
    intro pos acc hf hacc hpos
    have e : splitL 0 n (t.drop pos) = [] := rfl
    rw [e, List.append_nil]
    refine Ev.step (f := fun _ => some acc) (fun k => ?_) (Ev.now _)
    rw [geyserref04_Split.l0, if_neg (by omega)]
  | succ f ih =>
    intro pos acc hf hacc hpos
    by_cases hp : pos < t.length
    · have h' := ih (pos + n) (acc ++ [padS n (t.drop pos)]) (by omega) (by simp; omega) (by omega)
      have e1 : ((pos + n : Nat) : Int) = wrap64 ((pos : Int) + (n : Int)) := by rw [w64s (by omega) (by omega)]; rfl
      have e2 : acc ++ splitL (f + 1) n (t.drop pos) = acc ++ [padS n (t.drop pos)] ++ splitL f n (t.drop (pos + n)) := by
        have hl : ¬ (t.drop pos).length = 0 := by rw [List.length_drop]; omega
        rw [splitL, if_neg hl, List.drop_drop, List.append_assoc]
        rfl
      rw [e1] at h'
      rw [e2]
      have hi := rsp_inner t n acc pos _ hn hp ht (by omega) h' n 0 (by omega) (by omega)
      refine Ev.step (fun k => ?_) hi
      rw [geyserref04_Split.l0, if_pos (by omega), if_pos (by omega), if_pos (by omega), Int.toNat_natCast, List.take_zero, List.nil_append]
      rfl
    · have e : splitL (f + 1) n (t.drop pos) = [] := by
        rw [splitL, if_pos (by rw [List.length_drop]; omega)]
      rw [e, List.append_nil]
      refine Ev.step (f := fun _ => some acc) (fun k => ?_) (Ev.now _)
      rw [geyserref04_Split.l0, if_neg (by omega)]
theorem rsp_ev (t : List Int) (n : Nat) (hn0 : 1 ≤ n) (hn : n ≤ 64) (ht : t.length ≤ 5864062014804) : Ev (fun k => geyserref04_Split.f k t (n : Int)) (splitL t.length n t) := by
  have h := rsp_outer t n hn0 hn ht t.length 0 [] (by omega) (by simp; omega) (by omega)
  rw [List.nil_append, List.drop_zero] at h
  exact h
end Go.Proofs.Ytbhnhmkbccjnpaa.Pure
