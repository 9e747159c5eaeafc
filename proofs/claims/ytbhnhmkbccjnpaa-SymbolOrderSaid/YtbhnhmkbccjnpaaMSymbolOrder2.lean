-- joined by merge.py: PureSymbolOrder
import Derived.Test.YtbhnhmkbccjnpaaMSymbolOrder1
namespace Go.Proofs.Ytbhnhmkbccjnpaa.Pure
open Go.RowKit Go.Proofs.Ytbhnhmkbccjnpaa.P Go.Proofs.YtbhnhmkbccjnpaaW.PrintWords Go.Proofs.YtbhnhmkbccjnpaaW.PrintLast Go.Proofs.YtbhnhmkbccjnpaaW.PrintErr Go.Proofs.YtbhnhmkbccjnpaaW.PrintMore
set_option linter.unusedVariables false
set_option linter.unusedSimpArgs false
def inB (l : List Int) : Prop := ∀ x ∈ l, 0 ≤ x ∧ x ≤ 255
theorem addB_in (a b : List Int) : inB (addB a b) := by
  intro x hx
  obtain ⟨i, hi, rfl⟩ := List.getElem_of_mem hx
  simp only [addB, List.getElem_zipWith]
  exact bxor_range _ _
theorem sumB_in (l : List (List Int)) : ∀ x : List Int, inB x → inB (sumB x l) := by
  induction l with
  | nil => intro x h; exact h
  | cons s l ih => intro x _; exact ih _ (addB_in x s)
theorem zeros_in (n : Int) : inB (zeros n) := by
  intro x hx
  rw [List.eq_of_mem_replicate hx]
  omega
theorem addB_three (a : List Int) (h : inB a) : addB (addB a a) a = a := by
  apply List.ext_getElem
  · simp [addB]
  · intro i h1 h2
    simp only [addB, List.getElem_zipWith]
    have hm := h _ (List.getElem_mem h2)
    rw [bxor_self, bxor_zero hm.1 hm.2]
theorem addB_self_zero (a : List Int) : allZero (addB a a) = true := by
  unfold allZero
  rw [List.all_eq_true]
  intro x hx
  obtain ⟨i, hi, rfl⟩ := List.getElem_of_mem hx
  simp only [addB, List.getElem_zipWith, bxor_self]
  rfl
theorem sumB_perm {l m : List (List Int)} (h : l.Perm m) (x : List Int) : sumB x l = sumB x m :=
  h.foldl_eq' (fun a _ b _ z => addB_swap z a b) x
theorem sumB_snoc (x : List Int) (l : List (List Int)) (s : List Int) : sumB x (l ++ [s]) = addB (sumB x l) s := by
  simp [sumB]
/-- The list, turned by r. -/
def turn (l : List (List Int)) (r : Nat) : List (List Int) := (List.range l.length).map fun i => rd_Lsu8 l (((i + r) % l.length : Nat) : Int)
theorem rd_nat (l : List (List Int)) (i : Nat) (h : i < l.length) : rd_Lsu8 l (i : Int) = l[i] := by
  have e : l = l.take i ++ l[i] :: l.drop (i + 1) := by
    rw [← List.drop_eq_getElem_cons h, List.take_append_drop]
  have h2 := rd_row (l.take i) l[i] (l.drop (i + 1))
  rw [← e, List.length_take, Nat.min_eq_left (Nat.le_of_lt h)] at h2
  exact h2
theorem turn_eq (l : List (List Int)) (r : Nat) (hr : r < l.length) : turn l r = l.drop r ++ l.take r := by
  apply List.ext_getElem
  · simp [turn]; omega
  · intro i h1 h2
    have hi : i < l.length := by simpa [turn] using h1
    simp only [turn, List.getElem_map, List.getElem_range]
    rw [rd_nat _ _ (Nat.mod_lt _ (by omega))]
    by_cases hc : i + r < l.length
    · rw [List.getElem_append_left (by simp; omega), List.getElem_drop]
      congr 1
      rw [Nat.mod_eq_of_lt hc]; omega
    · rw [List.getElem_append_right (by simp; omega), List.getElem_take]
      congr 1
      rw [Nat.mod_eq_sub_mod (by omega), Nat.mod_eq_of_lt (by omega)]
      simp; omega
theorem turn_perm (l : List (List Int)) (r : Nat) (hr : r < l.length) : (turn l r).Perm l := by
  rw [turn_eq l r hr]
  have h := @List.perm_append_comm _ (l.drop r) (l.take r)
  rw [List.take_append_drop] at h
  exact h
theorem turn_idx (n : Nat) (by_ : Int) (i : Nat) (hn : n < 5864062014805) (hi : i < n) :
    Int.tmod (wrap64 ((i : Int) + wrap64 (Int.tmod (IntKind.u64.wrap by_) (IntKind.u64.wrap (n : Int))))) (n : Int) = (((i + ((IntKind.u64.wrap by_).toNat % n)) % n : Nat) : Int) := by
  have hw : IntKind.u64.wrap (n : Int) = (n : Int) := by rw [IntKind.wrap_u64]; omega
  have h0 : 0 ≤ IntKind.u64.wrap by_ := by rw [IntKind.wrap_u64]; omega
  obtain ⟨m, hm⟩ := Int.eq_ofNat_of_zero_le h0
  rw [hw, hm]
  have e1 : Int.tmod (m : Int) (n : Int) = ((m % n : Nat) : Int) := by rw [Int.ofNat_tmod]
  have hlt : m % n < n := Nat.mod_lt _ (by omega)
  rw [e1, Int.toNat_natCast]
  generalize m % n = q at hlt
  have e2 : wrap64 (q : Int) = (q : Int) := w64s (by omega) (by omega)
  have e3 : wrap64 ((i : Int) + (q : Int)) = ((i + q : Nat) : Int) := by rw [w64s (by omega) (by omega)]; simp
  rw [e2, e3, Int.ofNat_tmod]
theorem order_end (l : List (List Int)) (n by_ : Int) (m : List (List Int)) (hl : l.length < 5864062014802) (h : sizeBad l n = 0) (hm : m.Perm l) (j : Int) (hj : j = (l.length : Int)) :
    Ev (fun k => geyserlaw04_SymbolOrder.l0 k l n by_ (sumB (zeros n) l) m j) true := by
  obtain ⟨h1, h2, h3⟩ := sizeBad_zero h
  have hml : m.length = l.length := hm.length_eq
  have hz : (zeros n).length = n.toNat := by simp [zeros]
  have ha : ((sumB (zeros n) l).length : Int) = n := by
    rw [sumB_length l (zeros n) (fun s hs => by have := h3 s hs; omega), hz]; omega
  obtain ⟨a, ea⟩ : ∃ a, a = sumB (zeros n) l := ⟨_, rfl⟩
  have hin : inB a := by rw [ea]; exact sumB_in l _ (zeros_in n)
  rw [← ea] at ha ⊢
  have bad (q : List (List Int)) (hq : ∀ s ∈ q, (s.length : Int) = n) : sizeBad q n = 0 := by
    unfold sizeBad; rw [if_neg (by omega), if_pos hq]
  have r1 : sumR m n = (a, []) := by
    unfold sumR; rw [if_pos (bad m (fun s hs => h3 s (hm.mem_iff.1 hs))), sumB_perm hm, ← ea]
  have r2 : sumR (m ++ [a, a]) n = (a, []) := by
    have e : m ++ [a, a] = (m ++ [a]) ++ [a] := by simp
    unfold sumR
    rw [if_pos (bad _ (fun s hs => by
      rcases List.mem_append.1 hs with q | q
      · exact h3 s (hm.mem_iff.1 q)
      · simp at q; rw [q]; exact ha)), e, sumB_snoc, sumB_snoc, sumB_perm hm, ← ea, addB_three a hin]
  have r3 : sumR (l ++ [a]) n = (addB a a, []) := by
    unfold sumR
    rw [if_pos (bad _ (fun s hs => by
      rcases List.mem_append.1 hs with q | q
      · exact h3 s q
      · simp at q; rw [q]; exact ha)), sumB_snoc, ← ea]
  have s1 := sum_ev m n (by omega)
  have s2 := sum_ev (m ++ [a, a]) n (by simp; omega)
  have s3 := sum_ev (l ++ [a]) n (by simp; omega)
  rw [r1] at s1
  rw [r2] at s2
  rw [r3] at s3
  have hlen : (addB a a).length = a.length := addB_length a a rfl
  have sz := zero_ev (addB a a) (by omega)
  rw [addB_self_zero] at sz
  refine Ev.step (f := fun k => (symbol_Sum.f k m n).bind fun t1 => (symbol_Sum.f k (m ++ [a, a]) n).bind fun t2 => (symbol_Sum.f k (l ++ [a]) n).bind fun t3 => (if (t1.2.length : Int) = 0 then (if (t2.2.length : Int) = 0 then (if (t3.2.length : Int) = 0 then (if (strOfNums a).toList = (strOfNums t1.1).toList then (if (strOfNums a).toList = (strOfNums t2.1).toList then ((symbol_Zero.f k t3.1).bind fun t187 => (if t187 = true then ((geyserlaw04_awake.f k).bind fun t188 => (some t188)) else (some false))) else (some false)) else (some false)) else (some false)) else (some false)) else (some false))) (fun k => ?_) ?_
  · rw [geyserlaw04_SymbolOrder.l0, if_neg (by omega)]
    simp only [Option.bind_some, List.nil_append, List.length_nil, List.length_cons]
    have c1 : m.length + (0 + 1 + 1) < 5864062014805 := by omega
    have c2 : 0 + l.length < 5864062014805 := by omega
    have c3 : l.length < 5864062014805 := by omega
    simp only [c1, c2, c3, if_true]
  · refine Ev.bind s1 (Ev.bind s2 (Ev.bind s3 ?_))
    simp only [List.length_nil, if_true, Int.natCast_zero]
    refine Ev.bind sz ?_
    simp only [if_true]
    exact Ev.bind awake04_ev (Ev.now _)
theorem order_l0 (l : List (List Int)) (n by_ : Int) (hl : l.length < 5864062014802) (h : sizeBad l n = 0) (d : Nat) : ∀ i : Nat, i + d = l.length →
    Ev (fun k => geyserlaw04_SymbolOrder.l0 k l n by_ (sumB (zeros n) l) ((turn l ((IntKind.u64.wrap by_).toNat % l.length)).take i) (i : Int)) true := by
  induction d with
  | zero =>
    intro i hi
    refine order_end l n by_ _ hl h ?_ _ (by omega)
    have ht : (turn l ((IntKind.u64.wrap by_).toNat % l.length)).length = l.length := by simp [turn]
    rw [List.take_of_length_le (by omega)]
    by_cases h0 : l.length = 0
    · rw [List.length_eq_zero_iff.1 h0]; exact List.Perm.refl _
    · exact turn_perm _ _ (Nat.mod_lt _ (by omega))
  | succ d ih =>
    intro i hi
    have h' := ih (i + 1) (by omega)
    have hx := turn_idx l.length by_ i (by omega) (by omega)
    have hm : (i + (IntKind.u64.wrap by_).toNat % l.length) % l.length < l.length := Nat.mod_lt _ (by omega)
    have hw : IntKind.u64.wrap (l.length : Int) = (l.length : Int) := by rw [IntKind.wrap_u64]; omega
    have ht : (turn l ((IntKind.u64.wrap by_).toNat % l.length)).length = l.length := by simp [turn]
    have e1 : (turn l ((IntKind.u64.wrap by_).toNat % l.length)).take (i + 1) = (turn l ((IntKind.u64.wrap by_).toNat % l.length)).take i ++ [rd_Lsu8 l (((i + (IntKind.u64.wrap by_).toNat % l.length) % l.length : Nat) : Int)] := by
      rw [List.take_add_one, List.getElem?_eq_getElem (by omega)]
      simp [turn]
    have e2 : ((i + 1 : Nat) : Int) = wrap64 ((i : Int) + 1) := by rw [w64s (by omega) (by omega)]; simp
    rw [e1, e2] at h'
    refine Ev.step (fun k => ?_) h'
    rw [geyserlaw04_SymbolOrder.l0, if_pos (by omega), if_neg (by rw [hw]; omega), if_neg (by omega), hx, if_pos (by omega), if_pos (by omega), if_pos (by rw [List.length_take]; omega)]
theorem SymbolOrder (l : List (List Int)) (n by_ : Int) (hl : l.length < 5864062014802) : ∃ k, geyserlaw04_SymbolOrder.f k l n by_ = some true := by
  refine Ev.rounds (g := fun k => geyserlaw04_SymbolOrder.f k l n by_) ?_
  unfold geyserlaw04_SymbolOrder.f
  refine Ev.bind (sum_ev l n (by omega)) ?_
  by_cases h : sizeBad l n = 0
  · have e : sumR l n = (sumB (zeros n) l, []) := if_pos h
    rw [e]
    exact order_l0 l n by_ hl h l.length 0 (by omega)
  · have e : sumR l n = ([], [⟨sumName, true, sizeBad l n⟩]) := if_neg h
    rw [e]
    simp only [Option.bind_some, List.length_cons, List.length_nil]
    refine Ev.congr (fun k => ?_) (Ev.bind (f := fun _ t => some t) awake04_ev (Ev.now _))
    rw [if_neg (by simp), if_pos (by simp)]
end Go.Proofs.Ytbhnhmkbccjnpaa.Pure
