/-
  Words of this session's own: the builtin copy into a row of the call's own, as one event of the walk.
-/
import Derived.Test.YtomeefngdnmdaaaDoorProg
import Derived.Test.YtomeefngdnmdaaaDoorWWords
import Derived.Test.YtomeefngdnmdaaaDoorWLast
import Derived.Test.YtomeefngdnmdaaaDoorWMore
import Derived.WalkKit
import Derived.Laws.CopyOwn
namespace Go.Proofs.YtomeefngdnmdaaaDoorW.PrintErr
open Go.RowKit Go.Proofs.YtomeefngdnmdaaaDoorW.PrintWords Go.Proofs.YtomeefngdnmdaaaDoorW.PrintLast Go.Proofs.YtomeefngdnmdaaaDoorW.PrintMore

/-- How many elements a copy lays over, and what the row is then. -/
def copyN {α : Type} (xs ys : List α) : Nat := Nat.min ys.length xs.length
def copyL {α : Type} (xs ys : List α) : List α := ys.take xs.length ++ xs.drop ys.length
theorem copyL_length {α : Type} (xs ys : List α) : (copyL xs ys).length = xs.length := by
  simp [copyL]; omega

section
variable {P : Program} {ops : Array Oper} {Q : Exit → Act → World → Prop} {rest : List Oper} {o : Oper} {a : Act} {w0 W : World}
theorem R_copy_event {α : Type} {enc : α → Value} {h1 : ∀ x, (enc x).oneCell' = true} (base : Nat) (hgd : o.guard = none) (d s : Operand) (dT sT : TypeId)
    (ho : o.op = .call { callee := .builtin .copy, args := #[d, s], argTypes := #[dT, sT] }) (elem : TypeId) (hu : P.underlying dT = some (.slice elem)) (hsz : (P.info? elem).map (·.size) = some 1)
    (dv : Value) (xs : List α) (sA : Option Addr) (sn sc : Nat) (ys : List α) (ok : Nat → Prop) (hd : a.eval d = dv) (hs : a.eval s = .slice sA sn sc)
    (HO : (Kd.scalar enc h1).R elem W base ok dv xs) (HS : (Kd.scalar enc h1).C W sA sn ys) (HB : Below base w0 W)
    (h : ∀ w', (Kd.scalar enc h1).R elem w' base ok dv (copyL xs ys) → Below base w0 w' → W.grownBy w' dv.ownBlock → wpList P ops Q rest (a.put o.dst (.int .i64 ((copyN xs ys : Nat) : Int))) w') : wpList P ops Q (o :: rest) a W := by
  have hn : ys.length = sn := HS.1
  subst hn
  obtain ⟨A, c, rfl⟩ := Kd.R_slice HO
  by_cases h0 : copyN xs ys = 0
  · have e1 : copyL xs ys = xs := by
      unfold copyN at h0
      rcases Nat.min_eq_zero_iff.1 (show min ys.length xs.length = 0 from h0) with h0 | h0
      · obtain rfl := List.eq_nil_of_length_eq_zero h0
        simp [copyL]
      · obtain rfl := List.eq_nil_of_length_eq_zero h0
        simp [copyL]
    refine wpList_copy_nothing hgd d s dT sT ho elem hu hsz A sA xs.length c ys.length sc hd hs h0 ?_
    have := h W (by rw [e1]; exact HO) HB ⟨rfl, rfl, rfl, Nat.le_refl _, fun _ _ _ => rfl⟩
    rw [h0] at this
    exact this
  · have hx : 0 < xs.length := by
      unfold copyN at h0
      rcases Nat.eq_zero_or_pos xs.length with e | e
      · rw [e] at h0; exact absurd (Nat.min_zero _) h0
      · exact e
    have hy : 0 < ys.length := by
      unfold copyN at h0
      rcases Nat.eq_zero_or_pos ys.length with e | e
      · rw [e] at h0; exact absurd (Nat.zero_min _) h0
      · exact e
    have own := Kd.own_of_R HO
    obtain ⟨hlen, hcase⟩ := own
    rcases hcase with ⟨_, hz⟩ | ⟨g, cap, cur, he, hbg, hh, hcap, hmax, hcur, htake⟩
    · omega
    injection he with hA _ hc
    subst hA; subst hc
    obtain ⟨ad, e1, hcell⟩ := HS.2.2 hy
    subst e1
    have hmin : ((encs enc ys).take xs.length).length = Nat.min ys.length xs.length := by
      rw [List.length_take, encs_length]; exact Nat.min_comm _ _
    refine wpList_copy_own hgd d s dT sT ho elem hu hsz g 0 xs.length c ad ys.length sc hd hs cur elem hh ((encs enc ys).take xs.length) hmin ?_ ?_ ?_ ?_
    · intro j v hj
      rw [List.getElem?_take] at hj
      split at hj
      · rename_i hjx
        simp only [encs, List.getElem?_map, Option.map_eq_some_iff] at hj
        obtain ⟨y, hy1, rfl⟩ := hj
        obtain ⟨cs, hcs, hk, hcc⟩ := hcell j y hy1
        have hk' : cs = [enc y] := hk
        subst hk'
        have := hcc 0 (enc y) rfl
        rw [show (Kd.scalar enc h1).sz = 1 from rfl, Nat.mul_one, Nat.add_zero] at this
        exact this
      · cases hj
    · rw [hmin, Nat.zero_add, hcur, Nat.mul_one]; exact Nat.le_trans (Nat.min_le_right _ _) hcap
    · intro v hv
      have hv' := List.mem_of_mem_take hv
      simp only [encs, List.mem_map] at hv'
      obtain ⟨y, _, rfl⟩ := hv'
      exact h1 y
    · have hm : ((encs enc ys).take xs.length).length = copyN xs ys := hmin
      rw [hm]
      generalize hW : W.setRow g (cur.toList.take 0 ++ ((encs enc ys).take xs.length ++ cur.toList.drop (0 + copyN xs ys))).toArray = w1
      have hb1 : w1.heap[g]? = some (.cells (cur.toList.take 0 ++ ((encs enc ys).take xs.length ++ cur.toList.drop (0 + copyN xs ys))).toArray elem (0, 0)) := by rw [← hW]; exact setRow_heap W g _ _ elem _ hh
      have hgrow : W.grownBy w1 (some g) := by
        rw [← hW]
        exact ⟨rfl, rfl, rfl, by simp [World.setRow], fun k _ hk => setRow_other W g k _ (fun e => hk (by rw [e]))⟩
      have hlen2 : (copyL xs ys).length = xs.length := copyL_length xs ys
      have hcl : cur.toList.length = c := by simpa using hcur
      have hcn : copyN xs ys ≤ xs.length := Nat.min_le_right _ _
      have hdrop : (encs enc xs).drop (copyN xs ys) = encs enc (xs.drop ys.length) := by
        unfold encs
        rw [← List.map_drop]
        congr 1
        unfold copyN
        rcases Nat.le_total ys.length xs.length with hle | hle
        · rw [show Nat.min ys.length xs.length = ys.length from Nat.min_eq_left hle]
        · rw [show Nat.min ys.length xs.length = xs.length from Nat.min_eq_right hle, List.drop_length, List.drop_eq_nil_of_le hle]
      refine h w1 (Kd.R_of_own ⟨?_, .inr ⟨g, c, _, ?_, hbg, hb1, ?_, hmax, ?_, ?_⟩⟩ (fun k hk => HO.1 k hk)) (HB.grown hgrow (Nat.le_trans hbg (Nat.le_of_lt (Array.getElem?_eq_some_iff.1 hh).1)) (fun k hk => by cases hk; exact hbg)) hgrow
      · rw [encs_length, Nat.mul_one]
      · rw [hlen2]
      · rw [hlen2]; exact hcap
      · simp only [List.take_zero, List.nil_append, Nat.zero_add, List.size_toArray, List.length_append, List.length_drop, Nat.mul_one]
        rw [hm, hcl]
        omega
      · rw [hlen2, Nat.mul_one]
        simp only [List.take_zero, List.nil_append, Nat.zero_add]
        rw [List.take_append, hm]
        have e4 : ((encs enc ys).take xs.length).take xs.length = (encs enc ys).take xs.length := List.take_of_length_le (by rw [hm]; exact hcn)
        rw [e4]
        have e5 : (cur.toList.drop (copyN xs ys)).take (xs.length - copyN xs ys) = (encs enc xs).drop (copyN xs ys) := by
          rw [← htake, Nat.mul_one, List.drop_take]
        rw [e5, hdrop]
        simp [encs, copyL]
end
end Go.Proofs.YtomeefngdnmdaaaDoorW.PrintErr
