-- joined by join.py: PureE3 Px22 Px23 ElimMValue Px24 Px38 ElimMAll Px39 ElimMWhole Px26 ElimMClashed Px41 PureE4 Px27 PureAwake05
import Derived.Test.YtjmgkknbgffbjaaDoorMElimOrder3
namespace Go.Proofs.YtjmgkknbgffbjaaDoor.Pure
open Go.RowKit Go.Proofs.YtjmgkknbgffbjaaDoor.P Go.Proofs.YtjmgkknbgffbjaaDoorW.PrintWords Go.Proofs.YtjmgkknbgffbjaaDoorW.PrintLast Go.Proofs.YtjmgkknbgffbjaaDoorW.PrintErr Go.Proofs.YtjmgkknbgffbjaaDoorW.PrintMore Go.Proofs.YtjmgkknbgffbjaaDoor.Lin
set_option linter.unusedVariables false
set_option linter.unusedSimpArgs false
def pf (D : Nat → Nat → Bool) (v : V) (p : Nat) : Nat → Nat → Bool
  | _, 0 => false
  | c, d + 1 => ((v c && D c p) != pf D v p (c + 1) d)
theorem pf_vx (D : Nat → Nat → Bool) (u v : V) (p : Nat) : ∀ d c, pf D (vx u v) p c d = (pf D u p c d != pf D v p c d)
  | 0, _ => rfl
  | d + 1, c => by
    show ((vx u v c && D c p) != pf D (vx u v) p (c + 1) d) = (((u c && D c p) != pf D u p (c + 1) d) != ((v c && D c p) != pf D v p (c + 1) d))
    rw [pf_vx D u v p d (c + 1)]
    show (((u c != v c) && D c p) != _) = _
    cases u c <;> cases v c <;> cases D c p <;> cases pf D u p (c + 1) d <;> cases pf D v p (c + 1) d <;> rfl
theorem pf_none (D : Nat → Nat → Bool) (v : V) (p : Nat) : ∀ d c, (∀ c', c ≤ c' → c' < c + d → v c' = false) → pf D v p c d = false
  | 0, _, _ => rfl
  | d + 1, c, h => by
    show ((v c && D c p) != pf D v p (c + 1) d) = false
    rw [h c (Nat.le_refl _) (by omega), pf_none D v p d (c + 1) (fun c' h1 h2 => h c' (by omega) (by omega))]
    rfl
theorem pf_congr (D : Nat → Nat → Bool) (u v : V) (p : Nat) : ∀ d c, (∀ c', c ≤ c' → c' < c + d → u c' = v c') → pf D u p c d = pf D v p c d
  | 0, _, _ => rfl
  | d + 1, c, h => by
    show ((u c && D c p) != pf D u p (c + 1) d) = ((v c && D c p) != pf D v p (c + 1) d)
    rw [h c (Nat.le_refl _) (by omega), pf_congr D u v p d (c + 1) (fun c' h1 h2 => h c' (by omega) (by omega))]
theorem pf_split (D : Nat → Nat → Bool) (v : V) (p e : Nat) : ∀ d c, pf D v p c (d + e) = (pf D v p c d != pf D v p (c + d) e)
  | 0, c => by
    rw [Nat.zero_add, Nat.add_zero]
    show _ = (false != _)
    cases pf D v p c e <;> rfl
  | d + 1, c => by
    rw [show d + 1 + e = (d + e) + 1 by omega]
    show ((v c && D c p) != pf D v p (c + 1) (d + e)) = (((v c && D c p) != pf D v p (c + 1) d) != pf D v p (c + (d + 1)) e)
    rw [pf_split D v p e d (c + 1), show c + 1 + d = c + (d + 1) by omega]
    cases (v c && D c p) <;> cases pf D v p (c + 1) d <;> cases pf D v p (c + (d + 1)) e <;> rfl
theorem pf_one (D : Nat → Nat → Bool) (v : V) (p n c : Nat) (hc : c < n) (hv : ∀ d, d < n → v d = decide (d = c)) : pf D v p 0 n = D c p := by
  rw [show n = c + ((n - c - 1) + 1) by omega, pf_split, pf_none D v p c 0 (fun d _ h => by rw [hv d (by omega), decide_eq_false (by omega)]), Nat.zero_add]
  show (false != ((v c && D c p) != pf D v p (c + 1) (n - c - 1))) = D c p
  rw [pf_none D v p (n - c - 1) (c + 1) (fun d h1 h2 => by rw [hv d (by omega), decide_eq_false (by omega)]), hv c hc, decide_eq_true rfl]
  cases D c p <;> rfl
def Tr (n : Nat) (D : Nat → Nat → Bool) (v : V) : Prop := ∀ p, v (n + p) = pf D v p 0 n
theorem Tr.zero (n : Nat) (D : Nat → Nat → Bool) : Tr n D v0 := fun p => (pf_none D v0 p n 0 (fun _ _ _ => rfl)).symm
theorem Tr.vx {n : Nat} {D : Nat → Nat → Bool} {u v : V} (h : Tr n D u) (k : Tr n D v) : Tr n D (Lin.vx u v) := fun p => by
  rw [pf_vx, ← h p, ← k p]; rfl
theorem Tr.sp {n : Nat} {D : Nat → Nat → Bool} {L : List V} (hL : ∀ u ∈ L, Tr n D u) {v : V} (h : Sp L v) : Tr n D v := by
  induction h with
  | zero => exact Tr.zero n D
  | add hu _ ih => exact (hL _ hu).vx ih
theorem byB_ext {m : Nat} {s t : List Int} (hs : SymOK m s) (ht : SymOK m t) (h : ∀ p, byB s p = byB t p) : s = t := by
  refine List.ext_getElem (by rw [hs.len, ht.len]) (fun i h1 h2 => ?_)
  have b1 := hs.b _ (List.getElem_mem h1)
  have b2 := ht.b _ (List.getElem_mem h2)
  have e : (s[i]).toNat = (t[i]).toNat := by
    refine Nat.eq_of_testBit_eq (fun j => ?_)
    by_cases hj : j < 8
    · have := h (8 * i + j)
      unfold byB at this
      rw [show (8 * i + j) / 8 = i by omega, show (8 * i + j) % 8 = j by omega, List.getD_eq_getElem?_getD, List.getElem?_eq_getElem h1, List.getD_eq_getElem?_getD, List.getElem?_eq_getElem h2] at this
      exact this
    · have hp : 256 ≤ 2 ^ j := Nat.le_trans (show 256 ≤ 2 ^ 8 by decide) (Nat.pow_le_pow_right (by decide) (by omega))
      rw [Nat.testBit_lt_two_pow (by omega), Nat.testBit_lt_two_pow (by omega)]
  omega
theorem SymOK.zeros (m : Nat) : SymOK m (zeros (m : Int)) :=
  ⟨by unfold Pure.zeros; rw [Int.toNat_natCast, List.length_replicate], fun x hx => by
    obtain rfl := List.eq_of_mem_replicate hx
    exact ⟨Int.le_refl _, by decide⟩⟩
theorem byB_zeros (m p : Nat) : byB (zeros (m : Int)) p = false := by
  unfold byB zeros
  rw [List.getD_eq_getElem?_getD, List.getElem?_replicate]
  by_cases h : p / 8 < (m : Int).toNat
  · rw [if_pos h]; exact Nat.zero_testBit _
  · rw [if_neg h]; exact Nat.zero_testBit _
theorem allZero_zeros (n : Int) : allZero (zeros n) = true := by
  unfold allZero zeros
  rw [List.all_eq_true]
  intro x hx
  rw [List.eq_of_mem_replicate hx]
  rfl
theorem allZero_of {m : Nat} {s : List Int} (hs : SymOK m s) (h : ∀ p, byB s p = false) : allZero s = true := by
  rw [byB_ext hs (SymOK.zeros m) (fun p => by rw [h p, byB_zeros])]
  exact allZero_zeros _
def DS (S : List (List Int)) : Nat → Nat → Bool := fun c p => byB (S.getD c []) p
theorem sum_bits {m : Nat} (S : List (List Int)) (hS : ∀ s ∈ S, SymOK m s) (l : List Int) : ∀ (d c : Nat) (x : List Int), SymOK m x → (∀ c', c ≤ c' → c' < c + d → hasB l c' = true → c' < S.length) →
    SymOK m (sumB x ((colsFrom l c d).map (rd_Lsu8 S))) ∧ ∀ p, byB (sumB x ((colsFrom l c d).map (rd_Lsu8 S))) p = (byB x p != pf (DS S) (hasB l) p c d) := by
  intro d
  induction d with
  | zero =>
    intro c x hx _
    refine ⟨hx, fun p => ?_⟩
    show byB x p = (byB x p != false)
    cases byB x p <;> rfl
  | succ d ih =>
    intro c x hx h
    have e0 : colsFrom l c (d + 1) = if hasB l c = true then (c : Int) :: colsFrom l (c + 1) d else colsFrom l (c + 1) d := by
      unfold colsFrom
      rw [List.range'_succ, List.filter_cons]
      by_cases hb : hasB l c = true
      · rw [if_pos hb, if_pos hb, List.map_cons]
      · rw [if_neg hb, if_neg hb]
    rw [e0]
    by_cases hb : hasB l c = true
    · have hcs := h c (Nat.le_refl _) (by omega) hb
      have er : rd_Lsu8 S (c : Int) = S.getD c [] := by unfold rd_Lsu8; rw [Int.toNat_natCast]
      have hm : SymOK m (S.getD c []) := by
        rw [List.getD_eq_getElem?_getD, List.getElem?_eq_getElem hcs]
        exact hS _ (List.getElem_mem hcs)
      rw [if_pos hb, List.map_cons, er]
      obtain ⟨h1, h2⟩ := ih (c + 1) (addB x (S.getD c [])) (hx.add hm) (fun c' a b => h c' (by omega) (by omega))
      refine ⟨h1, fun p => ?_⟩
      show byB (sumB (addB x (S.getD c [])) _) p = (byB x p != ((hasB l c && DS S c p) != pf (DS S) (hasB l) p (c + 1) d))
      rw [h2 p, byB_add hx hm, hb]
      show ((byB x p != DS S c p) != _) = _
      cases byB x p <;> cases DS S c p <;> cases pf (DS S) (hasB l) p (c + 1) d <;> rfl
    · have hb' : hasB l c = false := by simpa using hb
      rw [if_neg hb]
      obtain ⟨h1, h2⟩ := ih (c + 1) x hx (fun c' a b => h c' (by omega) (by omega))
      refine ⟨h1, fun p => ?_⟩
      show byB (sumB x _) p = (byB x p != ((hasB l c && DS S c p) != pf (DS S) (hasB l) p (c + 1) d))
      rw [h2 p, hb']
      cases byB x p <;> cases pf (DS S) (hasB l) p (c + 1) d <;> rfl
def tsym (m : Nat) (S : List (List Int)) (r : List Int) : List Int := sumB (zeros (m : Int)) ((cols r).map (rd_Lsu8 S))
theorem J_lo {n c : Nat} (r s : List Int) (h : c < n) : J n r s c = hasB r c := if_pos h
theorem J_hi (n p : Nat) (r s : List Int) : J n r s (n + p) = byB s p := by
  unfold J
  rw [if_neg (by omega), Nat.add_sub_cancel_left]
theorem tsym_ok {m : Nat} {S : List (List Int)} (hS : ∀ s ∈ S, SymOK m s) {r : List Int} (hr : RowOK S.length r) : SymOK m (tsym m S r) ∧ Tr S.length (DS S) (J S.length r (tsym m S r)) := by
  have hc : ∀ c', hasB r c' = true → c' < S.length := fun c' h => by
    rcases Nat.lt_or_ge c' S.length with g | g
    · exact g
    · rw [hr.hi c' g] at h; cases h
  obtain ⟨h1, h2⟩ := sum_bits S hS r (64 * r.length) 0 (zeros (m : Int)) (SymOK.zeros m) (fun c' _ _ h => hc c' h)
  refine ⟨h1, fun p => ?_⟩
  rw [J_hi]
  have h3 : byB (tsym m S r) p = (byB (zeros (m : Int)) p != pf (DS S) (hasB r) p 0 (64 * r.length)) := h2 p
  rw [h3, byB_zeros, pf_congr (DS S) (J S.length r (tsym m S r)) (hasB r) p S.length 0 (fun c _ h => J_lo r _ (by omega))]
  have hle : S.length ≤ 64 * r.length := by rw [hr.len]; unfold nW; rw [Int.toNat_natCast]; omega
  rw [show 64 * r.length = S.length + (64 * r.length - S.length) by omega, pf_split, pf_none (DS S) (hasB r) p (64 * r.length - S.length) (0 + S.length) (fun c h _ => hr.hi c (by omega))]
  cases pf (DS S) (hasB r) p 0 S.length <;> rfl
theorem sym_ev {m : Nat} (h1 : 1 ≤ m) (h2 : m ≤ 64) {S : List (List Int)} (hS : ∀ s ∈ S, SymOK m s) {a : Int} (hr : RowOK S.length [a]) (rows : List Int) :
    Ev (fun k => geyserlaw05_True_sym.f k (m : Int) S rows a) (tsym m S [a]) := by
  have hc : ∀ c ∈ cols [a], 0 ≤ c ∧ c < (S.length : Int) := fun c hc => by
    obtain ⟨q, rfl, _, hb⟩ := cols_mem hc
    rcases Nat.lt_or_ge q S.length with g | g
    · omega
    · rw [hr.hi q g] at hb; cases hb
  have hl : (cols [a]).length ≤ 64 := colsFrom_length [a] 0 64
  have e1 := refunpack_ev [a] hr.u (by show 1 ≤ 1000000; decide)
  have e2 := picked_ev (cols [a]) S (by omega) hc
  have e3 := rsum_ev ((cols [a]).map (rd_Lsu8 S)) (m : Int) (by rw [List.length_map]; omega) (by omega) (by omega) (fun s hs => by
    obtain ⟨c, h, rfl⟩ := List.mem_map.1 hs
    obtain ⟨g1, g2⟩ := hc c h
    have : rd_Lsu8 S c ∈ S := by
      unfold rd_Lsu8
      rw [List.getD_eq_getElem?_getD, List.getElem?_eq_getElem (by omega)]
      exact List.getElem_mem _
    rw [(hS _ this).len])
  unfold geyserlaw05_True_sym.f
  exact Ev.bind e1 (Ev.bind e2 (Ev.bind e3 (Ev.now _)))
def pr (n : Nat) (v : V) : V := fun c => if c < n then v c else false
theorem pr_vx (n : Nat) (u v : V) : pr n (vx u v) = vx (pr n u) (pr n v) := by
  funext c
  unfold pr vx
  by_cases h : c < n
  · simp [h]
  · simp [h]
theorem pr_v0 (n : Nat) : pr n v0 = v0 := by funext c; unfold pr v0; by_cases h : c < n <;> simp [h]
theorem pr_sp {n : Nat} {L : List V} {v : V} (h : Sp L v) : Sp (L.map (pr n)) (pr n v) := by
  induction h with
  | zero => rw [pr_v0]; exact Sp.zero
  | add hu _ ih => rw [pr_vx]; exact Sp.add (List.mem_map_of_mem hu) ih
theorem pr_J {n : Nat} {r : List Int} (hr : RowOK n r) (s : List Int) : pr n (J n r s) = hasB r := by
  funext c
  unfold pr
  by_cases h : c < n
  · rw [if_pos h, J_lo r s h]
  · rw [if_neg h, hr.hi c (by omega)]
theorem pr_KV {x : S74} {n m : Nat} (hI : SI x n m) : (KV n x).map (pr n) = x.f2.map fun e => hasB e.f0 := by
  unfold KV
  rw [List.map_map]
  refine List.map_congr_left (fun e he => ?_)
  exact pr_J (hI.kept e he).1 _
structure TI (x : S74) (n m : Nat) (D : Nat → Nat → Bool) (L : List V) : Prop where
  si : SI x n m
  ip : ∃ P, IP x n P
  f4 : x.f4 = false
  tr : ∀ v ∈ L, Tr n D v
  up : ∀ v ∈ L, Sp (KV n x) v
  dn : ∀ v ∈ KV n x, Sp L v
  kl : x.f2.length ≤ L.length
theorem IP.map_fst {x : S74} {n : Nat} {P : List Nat} (h : IP x n P) : ((x.f2.map fun e => hasB e.f0).zip P).map (·.1) = x.f2.map fun e => hasB e.f0 :=
  List.map_fst_zip (by rw [List.length_map, h.plen]; exact Nat.le_refl _)
theorem TI.null {x : S74} {n m : Nat} {D : Nat → Nat → Bool} {L : List V} (h : TI x n m D L) {row : List Int} (hr : RowOK n row) (hs : Sp (x.f2.map fun e => hasB e.f0) (hasB row)) (hz : ∀ c, c < n → 0 ≤ rd x.f3 (c : Int) → hasB row c = false) : ∀ c, hasB row c = false := by
  obtain ⟨P, hP⟩ := h.ip
  have := tri_zero' _ hP.tri hP.own (hasB row) (by rw [hP.map_fst]; exact hs) (fun q hq => by
    have hm : q.2 ∈ P := (List.of_mem_zip hq).2
    obtain ⟨h1, h2⟩ := hP.lt _ hm
    exact hz _ h1 h2)
  intro c
  rw [this]; rfl
theorem TI.trK {x : S74} {n m : Nat} {D : Nat → Nat → Bool} {L : List V} (h : TI x n m D L) : ∀ v ∈ KV n x, Tr n D v := fun v hv => Tr.sp h.tr (h.dn v hv)
theorem TI.new {n m : Nat} (h1 : 1 ≤ n) (h2 : n ≤ 4096) (h3 : 1 ≤ m) (h4 : m ≤ 64) (D : Nat → Nat → Bool) : TI (newS n m) n m D [] :=
  ⟨SI.new h1 h2 h3 h4, ⟨[], IP.new n m⟩, rfl, (fun v hv => by cases hv), (fun v hv => by cases hv), (fun v hv => by cases hv), Nat.le_refl _⟩
theorem KV_fresh (n : Nat) (x : S74) (row sym : List Int) (c : Nat) : KV n (freshS x row sym c) = KV n x ++ [J n row sym] := by
  unfold KV freshS
  rw [List.map_append]; rfl
theorem vx_back {L : List V} {a b : V} (h : Sp L (vx a b)) (k : Sp L b) : Sp L a := by
  have := h.vx k
  rwa [vx_cancel] at this
theorem TI.add {x : S74} {n m : Nat} {D : Nat → Nat → Bool} {L : List V} (h : TI x n m D L) (hL : L.length < 1000000) {row sym : List Int} (hr : RowOK n row) (hs : SymOK m sym) (ht : Tr n D (J n row sym)) :
    (∃ x', Ev (fun k => elim_System_Add.f k [x] row sym) (1, [], [x']) ∧ TI x' n m D (L ++ [J n row sym]) ∧ x'.f2.length = x.f2.length + 1 ∧ ¬ Sp (L.map (pr n)) (hasB row)) ∨
    (Ev (fun k => elim_System_Add.f k [x] row sym) (2, [], [x]) ∧ TI x n m D (L ++ [J n row sym]) ∧ Sp L (J n row sym)) := by
  have hkl := h.kl
  obtain ⟨row', sym', hr', hs', hsp, hz, hc⟩ := eadd_ev h.si h.f4 (by omega) hr hs
  have tr1 : Tr n D (J n row' sym') := by
    have h1 := Tr.sp h.trK hsp
    have h2 := ht.vx h1
    rwa [← vx_assoc, vx_self, zero_vx] at h2
  have tr2 : ∀ v ∈ L ++ [J n row sym], Tr n D v := fun v hv => by
    rcases List.mem_append.1 hv with g | g
    · exact h.tr v g
    · obtain rfl : v = J n row sym := by simpa using g
      exact ht
  have lft : ∀ {v}, Sp L v → Sp (L ++ [J n row sym]) v := fun g => g.sub (fun u hu => List.mem_append_left _ hu)
  rcases hc with ⟨c, hc, hat, hb, hsi, he⟩ | ⟨h0, hc⟩
  · refine .inl ⟨_, he, ⟨hsi, ?_, rfl, tr2, ?_, ?_, ?_⟩, ?_, ?_⟩
    · obtain ⟨P, hP⟩ := h.ip
      exact ⟨_, hP.fresh h.si hc hat hb hz⟩
    · intro v hv
      rw [KV_fresh]
      rcases List.mem_append.1 hv with g | g
      · exact (h.up v g).sub (fun u hu => List.mem_append_left _ hu)
      · obtain rfl : v = J n row sym := by simpa using g
        exact vx_back (hsp.sub (fun u hu => List.mem_append_left _ hu)) (Sp.mem (by simp))
    · intro v hv
      rw [KV_fresh] at hv
      rcases List.mem_append.1 hv with g | g
      · exact lft (h.dn v g)
      · obtain rfl : v = J n row' sym' := by simpa using g
        have h1 : Sp (L ++ [J n row sym]) (vx (J n row sym) (J n row' sym')) := lft (hsp.trans h.dn)
        rw [vx_comm] at h1
        exact vx_back h1 (Sp.mem (by simp))
    · show (x.f2 ++ [_]).length ≤ (L ++ [_]).length
      simp only [List.length_append, List.length_singleton]
      omega
    · show (x.f2 ++ [_]).length = _
      simp
    · intro hh
      have h1 : Sp (x.f2.map fun e => hasB e.f0) (hasB row) := by
        refine hh.trans (fun u hu => ?_)
        obtain ⟨w, hw, rfl⟩ := List.mem_map.1 hu
        rw [← pr_KV h.si]
        exact pr_sp (h.up w hw)
      have h2 := pr_sp (n := n) hsp
      rw [pr_vx, pr_J hr, pr_J hr', pr_KV h.si, vx_comm] at h2
      have h3 := h.null hr' (vx_back h2 h1) hz c
      rw [h3] at hb
      cases hb
  · have hz0 : ∀ p, byB sym' p = false := fun p => by
      have := tr1 p
      rw [J_hi] at this
      rw [this]
      exact pf_none D _ p n 0 (fun c _ hc => by rw [J_lo row' sym' (by omega), h0 c])
    have hj : J n row' sym' = v0 := by
      funext c
      by_cases hc : c < n
      · rw [J_lo row' sym' hc, h0 c]; rfl
      · rw [show c = n + (c - n) by omega, J_hi, hz0]; rfl
    rw [hj, vx_zero] at hsp
    rcases hc with ⟨ha, he⟩ | ⟨ha, he⟩
    · refine .inr ⟨he, ⟨h.si, h.ip, h.f4, tr2, ?_, ?_, ?_⟩, hsp.trans h.dn⟩
      · intro v hv
        rcases List.mem_append.1 hv with g | g
        · exact h.up v g
        · obtain rfl : v = J n row sym := by simpa using g
          exact hsp
      · exact fun v hv => lft (h.dn v hv)
      · rw [List.length_append]; omega
    · rw [allZero_of hs' hz0] at ha
      cases ha
theorem TI.rk {x : S74} {n m : Nat} {D : Nat → Nat → Bool} {L : List V} (h : TI x n m D L) : Rk (L.map (pr n)) x.f2.length := by
  obtain ⟨P, hP⟩ := h.ip
  have hi := tri_ind _ hP.tri hP.own
  rw [hP.map_fst] at hi
  refine ⟨_, hi, by rw [List.length_reverse, List.length_map], fun b hb => ?_, fun v hv => ?_⟩
  · have hb' := List.mem_reverse.1 hb
    rw [← pr_KV h.si] at hb'
    obtain ⟨w, hw, rfl⟩ := List.mem_map.1 hb'
    exact pr_sp (h.dn w hw)
  · obtain ⟨w, hw, rfl⟩ := List.mem_map.1 hv
    have := pr_sp (n := n) (h.up w hw)
    rw [pr_KV h.si] at this
    exact this.sub (fun u hu => List.mem_reverse.2 hu)
theorem shl1 (j : Nat) (hj : j < 64) : shl .u64 1 (j : Int) = ((2 ^ j : Nat) : Int) := by
  have hp : (2 : Nat) ^ j < 2 ^ 64 := Nat.pow_lt_pow_right (by decide) hj
  unfold shl
  rw [Int.toNat_natCast, show IntKind.u64.bits = 64 from rfl, Nat.min_eq_left (by omega), Int.one_mul]
  have e : ((2 : Int) ^ j) = ((2 ^ j : Nat) : Int) := by push_cast; rfl
  rw [e]
  exact wrap_u _ hp
theorem mask_row (n : Nat) (h1 : 1 ≤ n) (h2 : n ≤ 12) (a : Int) (ha : U64 a) : RowOK n [Go.bits .and .u64 a (IntKind.u64.wrap ((shl .u64 1 (IntKind.u64.wrap (n : Int))) - 1))] := by
  have e1 : IntKind.u64.wrap (n : Int) = (n : Int) := wrap_u n (by omega)
  have hp : 1 ≤ 2 ^ n := Nat.one_le_two_pow
  have hp2 : (2 : Nat) ^ n < 2 ^ 64 := Nat.pow_lt_pow_right (by decide) (by omega)
  have hp3 : (2 : Nat) ^ n < 18446744073709551616 := hp2
  have e2 : IntKind.u64.wrap ((shl .u64 1 (IntKind.u64.wrap (n : Int))) - 1) = ((2 ^ n - 1 : Nat) : Int) := by
    rw [e1, shl1 n (by omega), show ((2 ^ n : Nat) : Int) - 1 = ((2 ^ n - 1 : Nat) : Int) by omega, wrap_u _ (by omega)]
  rw [e2]
  obtain ⟨q, rfl⟩ := Int.eq_ofNat_of_zero_le ha.1
  have hq : q < 18446744073709551616 := by have := ha.2; omega
  rw [bits_and_u64_nat q (2 ^ n - 1) hq (by omega), Nat.and_two_pow_sub_one_eq_mod]
  have hm : q % 2 ^ n < 2 ^ n := Nat.mod_lt _ hp
  generalize q % 2 ^ n = M at hm ⊢
  refine ⟨by unfold nW; rw [Int.toNat_natCast]; show 1 = _; omega, fun x hx => ?_, fun c hc => ?_⟩
  · obtain rfl : x = _ := by simpa using hx
    exact ⟨by omega, by omega⟩
  · by_cases hc2 : c < 64
    · unfold hasB
      rw [show c / 64 = 0 by omega, show c % 64 = c by omega]
      show (_ && ((M : Int)).toNat.testBit c) = false
      rw [Int.toNat_natCast, Nat.testBit_lt_two_pow (Nat.lt_of_lt_of_le hm (Nat.pow_le_pow_right (by decide) hc)), Bool.and_false]
    · exact hasB_big (by show 64 * 1 ≤ c; omega)
theorem fit_l1 (m : Int) (a0 : Int) (l1 : List (List Int)) (S : List (List Int)) (h1 : 1 ≤ S.length) (h2 : S.length ≤ 12) (R : List Int) (hR : ∀ x ∈ R, U64 x) :
    ∀ (d : Nat) (i : Nat) (acc : List Int), i + d = min R.length 24 → acc.length = i → (∀ a ∈ acc, RowOK S.length [a]) →
    ∃ rows : List Int, Ev (fun k => geyserlaw05_fit.l1 k (i : Int) a0 l1 R m S acc) (m, S, rows) ∧ rows.length ≤ 24 ∧ ∀ a ∈ rows, RowOK S.length [a] := by
  intro d
  induction d with
  | zero =>
    intro i acc hi hl ha
    refine ⟨acc, ?_, by omega, ha⟩
    refine Ev.step (f := fun _ => some (m, S, acc)) (fun k => ?_) (Ev.now _)
    rw [geyserlaw05_fit.l1]
    by_cases c : (i : Int) < (R.length : Int)
    · rw [if_pos c, if_neg (by omega)]
    · rw [if_neg c]
  | succ d ih =>
    intro i acc hi hl ha
    have hw : wrap64 ((i : Int) + 1) = ((i + 1 : Nat) : Int) := by rw [w64s (by omega) (by omega)]; rfl
    have hu : IntKind.u64.wrap (S.length : Int) = (S.length : Int) := wrap_u S.length (by omega)
    have hm : rd R (i : Int) ∈ R := by unfold rd; rw [Int.toNat_natCast]; exact getD_mem (by omega)
    obtain ⟨rows, he, g⟩ := ih (i + 1) (acc ++ [Go.bits .and .u64 (rd R (i : Int)) (IntKind.u64.wrap ((shl .u64 1 (IntKind.u64.wrap (S.length : Int))) - 1))]) (by omega) (by simp; omega) (fun a h => by
      rcases List.mem_append.1 h with h | h
      · exact ha a h
      · obtain rfl : a = _ := by simpa using h
        exact mask_row S.length h1 h2 _ (hR _ hm))
    refine ⟨rows, Ev.step (fun k => ?_) he, g⟩
    rw [geyserlaw05_fit.l1, if_pos (by omega), if_pos (by omega), if_pos (by omega), if_pos (by rw [hu]; omega), if_pos (by omega), hw]
theorem copy_sym (m : Nat) (s : List Int) (hs : ∀ x ∈ s, 0 ≤ x ∧ x ≤ 255) : SymOK m (copyL (List.replicate m 0) s) :=
  ⟨by rw [copyL_length, List.length_replicate], fun x hx => by
    unfold copyL at hx
    rcases List.mem_append.1 hx with h | h
    · exact hs x (List.mem_of_mem_take h)
    · obtain rfl := List.eq_of_mem_replicate (List.mem_of_mem_drop h)
      exact ⟨Int.le_refl _, by decide⟩⟩
theorem fit_l0 (m : Nat) (hm : 1 ≤ m) (hm4 : m ≤ 4) (a0 : Int) (L : List (List Int)) (hL : ∀ s ∈ L, ∀ x ∈ s, 0 ≤ x ∧ x ≤ 255) (R : List Int) (hR : ∀ x ∈ R, U64 x) :
    ∀ (d : Nat) (i : Nat) (acc : List (List Int)), i + d = min L.length 12 → acc.length = i → (∀ s ∈ acc, SymOK m s) →
    ∃ (S : List (List Int)) (rows : List Int), Ev (fun k => geyserlaw05_fit.l0 k (m : Int) (i : Int) a0 L R (m : Int) acc) ((m : Int), S, rows) ∧ (1 ≤ S.length ∧ S.length ≤ 12) ∧ (∀ s ∈ S, SymOK m s) ∧ rows.length ≤ 24 ∧ ∀ a ∈ rows, RowOK S.length [a] := by
  intro d
  induction d with
  | zero =>
    intro i acc hi hl ha
    have key : ∀ {r}, Ev (fun k => geyserlaw05_fit.j1 k (m : Int) a0 L R (m : Int) acc) r → Ev (fun k => geyserlaw05_fit.l0 k (m : Int) (i : Int) a0 L R (m : Int) acc) r := fun h => Ev.step (fun k => by
      rw [geyserlaw05_fit.l0]
      by_cases c : (i : Int) < (L.length : Int)
      · rw [if_pos c, if_neg (by omega)]
      · rw [if_neg c]) h
    by_cases h0 : acc.length = 0
    · have hz : SymOK m (List.replicate m (0 : Int)) := by
        have := SymOK.zeros m
        unfold zeros at this
        rwa [Int.toNat_natCast] at this
      obtain ⟨rows, he, g1, g2⟩ := fit_l1 (m : Int) a0 L [List.replicate m 0] (by simp) (by simp) R hR (min R.length 24) 0 [] (by omega) rfl (fun a h => by cases h)
      refine ⟨[List.replicate m 0], rows, key (Ev.step (f := fun k => geyserlaw05_fit.j2 k a0 L R (m : Int) [List.replicate m 0]) (fun k => ?_) (Ev.step (fun k => ?_) he)), ⟨by simp, by simp⟩, (fun s hs => by
        obtain rfl : s = _ := by simpa using hs
        exact hz), g1, g2⟩
      · rw [geyserlaw05_fit.j1, if_pos (by omega), if_pos (by omega), Int.toNat_natCast, if_pos (by omega)]
      · rw [geyserlaw05_fit.j2]; rfl
    · obtain ⟨rows, he, g1, g2⟩ := fit_l1 (m : Int) a0 L acc (by omega) (by omega) R hR (min R.length 24) 0 [] (by omega) rfl (fun a h => by cases h)
      refine ⟨acc, rows, key (Ev.step (f := fun k => geyserlaw05_fit.j2 k a0 L R (m : Int) acc) (fun k => ?_) (Ev.step (fun k => ?_) he)), ⟨by omega, by omega⟩, ha, g1, g2⟩
      · rw [geyserlaw05_fit.j1, if_neg (by omega)]
      · rw [geyserlaw05_fit.j2]; rfl
  | succ d ih =>
    intro i acc hi hl ha
    have hw : wrap64 ((i : Int) + 1) = ((i + 1 : Nat) : Int) := by rw [w64s (by omega) (by omega)]; rfl
    have hmem : rd_Lsu8 L (i : Int) ∈ L := by
      unfold rd_Lsu8
      rw [Int.toNat_natCast, List.getD_eq_getElem?_getD, List.getElem?_eq_getElem (by omega)]
      exact List.getElem_mem _
    obtain ⟨S, rows, he, g⟩ := ih (i + 1) (acc ++ [copyL (List.replicate m 0) (rd_Lsu8 L (i : Int))]) (by omega) (by simp; omega) (fun s h => by
      rcases List.mem_append.1 h with h | h
      · exact ha s h
      · obtain rfl : s = _ := by simpa using h
        exact copy_sym m _ (hL _ hmem))
    refine ⟨S, rows, Ev.step (fun k => ?_) he, g⟩
    rw [geyserlaw05_fit.l0, if_pos (by omega), if_pos (by omega), if_pos (by omega), if_pos (by rw [Int.toNat_natCast]; omega), if_pos (by omega), if_pos (by omega), hw, Int.toNat_natCast]
theorem fit_ev (a0 : Int) (L : List (List Int)) (hL : ∀ s ∈ L, ∀ x ∈ s, 0 ≤ x ∧ x ≤ 255) (R : List Int) (hR : ∀ x ∈ R, U64 x) :
    ∃ (m : Nat) (S : List (List Int)) (rows : List Int), Ev (fun k => geyserlaw05_fit.f k a0 L R) ((m : Int), S, rows) ∧ (1 ≤ m ∧ m ≤ 4) ∧ (1 ≤ S.length ∧ S.length ≤ 12) ∧ (∀ s ∈ S, SymOK m s) ∧ rows.length ≤ 24 ∧ ∀ a ∈ rows, RowOK S.length [a] := by
  have hm : ∃ m : Nat, wrap64 (1 + (wrap64 (Int.tmod (IntKind.u64.wrap (a0)) 4))) = (m : Int) ∧ 1 ≤ m ∧ m ≤ 4 := by
    have h0 : 0 ≤ IntKind.u64.wrap a0 := by rw [IntKind.wrap_u64]; omega
    rw [Int.tmod_eq_emod_of_nonneg h0]
    generalize IntKind.u64.wrap a0 = b at h0
    refine ⟨(1 + b % 4).toNat, ?_, by omega, by omega⟩
    rw [w64s (x := b % 4) (by omega) (by omega), w64s (by omega) (by omega)]
    omega
  obtain ⟨m, e, h1, h2⟩ := hm
  obtain ⟨S, rows, he, g⟩ := fit_l0 m h1 h2 a0 L hL R hR (min L.length 12) 0 [] (by omega) rfl (fun s h => by cases h)
  refine ⟨m, S, rows, ?_, ⟨h1, h2⟩, g⟩
  unfold geyserlaw05_fit.f
  rw [e]
  exact he
end Go.Proofs.YtjmgkknbgffbjaaDoor.Pure
namespace Go.Proofs.YtjmgkknbgffbjaaDoor.P
open Go.RowKit Go.Proofs.YtjmgkknbgffbjaaDoorW.PrintWords Go.Proofs.YtjmgkknbgffbjaaDoorW.PrintLast Go.Proofs.YtjmgkknbgffbjaaDoorW.PrintErr Go.Proofs.YtjmgkknbgffbjaaDoorW.PrintMore
attribute [local go_sem] max2_int min2_int max_two min_two max_three min_three max_four min_four run_eql_errOf run_neq_errOf eqGuard_errOf run_eql_ptrOf run_neq_ptrOf eqGuard_ptrOf   -- for this text's walks alone
set_option linter.unusedVariables false
set_option linter.unusedSimpArgs false
def packed_check.l0 : Nat → Int → List Int → Int → Int → Option (Int)
 | 0, _, _, _, _ => none
 | k + 1, x1, x13, x14, x15 => if x15 < x14 then (if 0 ≤ x15 then (if x15 < (x13.length : Int) then (if (rd x13 x15) < 0 then (some 1) else (if (rd x13 x15) ≥ x1 then (some 1) else (packed_check.l0 k x1 x13 x14 (wrap64 (x15 + 1))))) else (none)) else (none)) else (some 0)
def packed_check.f (k : Nat) (l0 : List Int) (a1 : Int) : Option (Int) := if a1 < 0 then (some 1) else (if a1 > 4096 then (some 1) else (packed_check.l0 k a1 l0 (l0.length : Int) 0))
theorem packed_check.mono_l : ∀ k, (∀ y0 y1 y2 y3, LeO (packed_check.l0 k y0 y1 y2 y3) (packed_check.l0 (k + 1) y0 y1 y2 y3))
 | 0 => fun _ _ _ _ r h => by simp [packed_check.l0] at h
 | k + 1 => by
  have ih0 := packed_check.mono_l k
  ·intro y0 y1 y2 y3; unfold packed_check.l0
   repeat' first
   | (with_reducible exact ih0 _ _ _ _)
   | (with_reducible exact LeO.refl _)
   | (with_reducible exact LeO.none _)
   | (with_reducible refine LeO.ite ?_ ?_)
   | (with_reducible refine LeO.bind ?_ (fun _ => ?_))
   | exact ih0 _ _ _ _
   | exact LeO.none _
   | refine LeO.ite ?_ ?_
   | refine LeO.bind ?_ (fun _ => ?_)
theorem packed_check.mono : ∀ a0 a1 k, LeO (packed_check.f k a0 a1) (packed_check.f (k + 1) a0 a1) := by
 intro a0 a1 k; have ih0 := packed_check.mono_l k; unfold packed_check.f
 repeat' first
   | (with_reducible exact ih0 _ _ _ _)
   | (with_reducible exact LeO.refl _)
   | (with_reducible exact LeO.none _)
   | (with_reducible refine LeO.ite ?_ ?_)
   | (with_reducible refine LeO.bind ?_ (fun _ => ?_))
   | exact ih0 _ _ _ _
   | exact LeO.none _
   | refine LeO.ite ?_ ?_
   | refine LeO.bind ?_ (fun _ => ?_)
set_option maxHeartbeats 8000000 in
set_option maxRecDepth 100000 in
theorem packed_check.calls (k : Nat) (A0 : Option Addr) (c0 : Nat) (l0 : List Int) (a1 : Int) (r : Int) (w : World) (hr0 : Kd.C (Kd.int .i64) w A0 l0.length l0) (hc0 : l0.length ≤ c0) (h : packed_check.f k l0 a1 = some r) :
  Calls Tryd.prog 53 #[.slice A0 l0.length c0, .int .i64 a1] w fun e w' => e = .returned (.int .i64 r) ∧ Drawn0 w w' := by
 have HR0 := AQ hr0; have HC0 := AQ hc0; clear hr0 hc0; have H : (if a1 < 0 then (some 1) else (if a1 > 4096 then (some 1) else (packed_check.l0 k a1 l0 (l0.length : Int) 0))) = some r := h; clear h
 by_cases c3 : a1 < 0
 ·rw [if_pos c3] at H; have c3b0 : decide (a1 < 0) = true := decide_eq_true c3; clear c3; obtain rfl := Option.some.inj H; go_enter Tryd.func53, Tryd.ntmps53; go_wp2; go_ret; exact ⟨by first | rfl | (simp; done) | (simp [*]; done), by repeat (first | exact Drawn0.refl _ | apply Drawn0.step)⟩
 ·rw [if_neg c3] at H; have c3b0 : decide (a1 < 0) = false := decide_eq_false c3; clear c3
  by_cases c4 : a1 > 4096
  ·rw [if_pos c4] at H; have c4b0 : decide (4096 < a1) = true := decide_eq_true c4; clear c4; obtain rfl := Option.some.inj H; go_enter Tryd.func53, Tryd.ntmps53; go_wp2; go_ret; exact ⟨by first | rfl | (simp; done) | (simp [*]; done), by repeat (first | exact Drawn0.refl _ | apply Drawn0.step)⟩
  ·rw [if_neg c4] at H; have c4b0 : decide (4096 < a1) = false := decide_eq_false c4; clear c4; have H' := AQ H; clear H; go_enter Tryd.func53, Tryd.ntmps53; go_wp2; go_loopg [15] k (fun kq v15 w' => ∃ (x15_1 : Int), v15 = .int .i64 x15_1 ∧ Aside0 (packed_check.l0 kq a1 l0 (l0.length : Int) x15_1 = some r) ∧ Aside0 (kq ≤ k) ∧ Drawn0 w w')
   case atStart => exact ⟨(0), (by first | rfl | (simp; done) | (simp [*]; done)), H', ⟨Nat.le_refl _⟩, by repeat (first | exact Drawn0.refl _ | apply Drawn0.step)⟩
   case round =>
    clear H'; (try clear p2); (try clear c3); (try clear c3b0); (try clear c4); (try clear c4b0); obtain ⟨x15_1, rfl, HA, HK1, ⟨m1, rfl⟩⟩ := hrel; cases gk with
    | zero => exact absurd HA.out (by simp [packed_check.l0])
    | succ k1 =>
     have H := HA.out; clear HA; simp only [packed_check.l0] at H
     by_cases c5 : x15_1 < (l0.length : Int)
     ·rw [if_pos c5] at H; have c5b0 : decide (x15_1 < (l0.length : Int)) = true := decide_eq_true c5; clear c5
      by_cases c6 : 0 ≤ x15_1
      ·rw [if_pos c6] at H; have c6b0 : decide (0 ≤ x15_1) = true := decide_eq_true c6; clear c6
       by_cases c7 : x15_1 < (l0.length : Int)
       ·rw [if_pos c7] at H; have c7b0 : decide (x15_1 < (l0.length : Int)) = true := decide_eq_true c7; clear c7
        by_cases c8 : (rd l0 x15_1) < 0
        ·rw [if_pos c8] at H; have c8b0 : decide ((rd l0 x15_1) < 0) = true := decide_eq_true c8; clear c8; obtain rfl := Option.some.inj H; have p231 : 0 ≤ (x15_1 : Int) := PD; have q231 : x15_1 < (l0.length : Int) := PD; obtain ⟨ad231, e231, hx231_0⟩ := Kd.at_int HR0.out x15_1 p231 q231; cases e231; replace p231 := eq_true p231; replace q231 := eq_true q231; go_wp2; go_ret; exact ⟨by first | rfl | (simp; done) | (simp [*]; done), by repeat (first | exact Drawn0.refl _ | apply Drawn0.step)⟩
        ·rw [if_neg c8] at H; have c8b0 : decide ((rd l0 x15_1) < 0) = false := decide_eq_false c8; clear c8
         by_cases c9 : (rd l0 x15_1) ≥ a1
         ·rw [if_pos c9] at H; have c9b0 : decide (a1 ≤ (rd l0 x15_1)) = true := decide_eq_true c9; clear c9; obtain rfl := Option.some.inj H; have p231 : 0 ≤ (x15_1 : Int) := PD; have q231 : x15_1 < (l0.length : Int) := PD; obtain ⟨ad231, e231, hx231_0⟩ := Kd.at_int HR0.out x15_1 p231 q231; cases e231; replace p231 := eq_true p231; replace q231 := eq_true q231; go_wp2; go_ret; exact ⟨by first | rfl | (simp; done) | (simp [*]; done), by repeat (first | exact Drawn0.refl _ | apply Drawn0.step)⟩
         ·rw [if_neg c9] at H; have c9b0 : decide (a1 ≤ (rd l0 x15_1)) = false := decide_eq_false c9; clear c9; have H' := AQ H; clear H; have p231 : 0 ≤ (x15_1 : Int) := PD; have q231 : x15_1 < (l0.length : Int) := PD; obtain ⟨ad231, e231, hx231_0⟩ := Kd.at_int HR0.out x15_1 p231 q231; cases e231; replace p231 := eq_true p231; replace q231 := eq_true q231; go_wp2; go_roundg k1
          case measure => have := HK1.out; omega
          case rel => exact ⟨(wrap64 (x15_1 + 1)), (by first | rfl | (simp; done) | (simp [*]; done)), H', ⟨by have := HK1.out; omega⟩, by repeat (first | exact Drawn0.refl _ | apply Drawn0.step)⟩
       ·rw [if_neg c7] at H; exact absurd H (by simp)
      ·rw [if_neg c6] at H; exact absurd H (by simp)
     ·rw [if_neg c5] at H; have c5b0 : decide (x15_1 < (l0.length : Int)) = false := decide_eq_false c5; clear c5; obtain rfl := Option.some.inj H; go_wp2; go_ret; exact ⟨by first | rfl | (simp; done) | (simp [*]; done), by repeat (first | exact Drawn0.refl _ | apply Drawn0.step)⟩
end Go.Proofs.YtjmgkknbgffbjaaDoor.P
namespace Go.Proofs.YtjmgkknbgffbjaaDoor.P
open Go.RowKit Go.Proofs.YtjmgkknbgffbjaaDoorW.PrintWords Go.Proofs.YtjmgkknbgffbjaaDoorW.PrintLast Go.Proofs.YtjmgkknbgffbjaaDoorW.PrintErr Go.Proofs.YtjmgkknbgffbjaaDoorW.PrintMore
attribute [local go_sem] max2_int min2_int max_two min_two max_three min_three max_four min_four run_eql_errOf run_neq_errOf eqGuard_errOf run_eql_ptrOf run_neq_ptrOf eqGuard_ptrOf   -- for this text's walks alone
set_option linter.unusedVariables false
set_option linter.unusedSimpArgs false
def packed_Pack.l0 : Nat → List Int → List Int → Int → Int → Option (List Int × List FE)
 | 0, _, _, _, _ => none
 | k + 1, x7, x20, x21, x22 => if x22 < x21 then (if 0 ≤ x22 then (if x22 < (x20.length : Int) then ((packed_Has.f x7 (rd x20 x22)).bind fun t241 => (if t241 = true then ((fault_New.f (⟨#[112, 97, 99, 107, 101, 100, 46, 80, 97, 99, 107]⟩ : ByteArray) 2).bind fun t242 => (some (([] : List Int), t242))) else (if 0 ≤ (wrap64 (Int.tdiv (rd x20 x22) 64)) then (if (wrap64 (Int.tdiv (rd x20 x22) 64)) < (x7.length : Int) then (if 0 ≤ (Int.tmod (rd x20 x22) 64) then (packed_Pack.l0 k (x7.set ((wrap64 (Int.tdiv (rd x20 x22) 64)) : Int).toNat (Go.bits .or .u64 (rd x7 (wrap64 (Int.tdiv (rd x20 x22) 64))) (shl .u64 1 (Int.tmod (rd x20 x22) 64)))) x20 x21 (wrap64 (x22 + 1))) else (none)) else (none)) else (none)))) else (none)) else (none)) else (some (x7, ([] : List FE)))
def packed_Pack.f (k : Nat) (l0 : List Int) (a1 : Int) : Option (List Int × List FE) := (packed_check.f k l0 a1).bind fun t232 => (if t232 = 0 then ((packed_Size.f a1).bind fun t236 => (if 0 ≤ t236 then (if (t236 : Int).toNat ≤ 35184372088832 then (packed_Pack.l0 k (List.replicate (t236 : Int).toNat 0) l0 (l0.length : Int) 0) else (none)) else (none))) else ((fault_New.f (⟨#[112, 97, 99, 107, 101, 100, 46, 80, 97, 99, 107]⟩ : ByteArray) t232).bind fun t233 => (some (([] : List Int), t233))))
theorem packed_Pack.mono_l : ∀ k, (∀ y0 y1 y2 y3, LeO (packed_Pack.l0 k y0 y1 y2 y3) (packed_Pack.l0 (k + 1) y0 y1 y2 y3))
 | 0 => fun _ _ _ _ r h => by simp [packed_Pack.l0] at h
 | k + 1 => by
  have ih0 := packed_Pack.mono_l k
  ·intro y0 y1 y2 y3; unfold packed_Pack.l0
   repeat' first
   | (with_reducible exact ih0 _ _ _ _)
   | (with_reducible exact packed_check.mono _ _ _)
   | (with_reducible exact LeO.refl _)
   | (with_reducible exact LeO.none _)
   | (with_reducible refine LeO.ite ?_ ?_)
   | (with_reducible refine LeO.bind ?_ (fun _ => ?_))
   | exact ih0 _ _ _ _
   | exact packed_check.mono _ _ _
   | exact LeO.none _
   | refine LeO.ite ?_ ?_
   | refine LeO.bind ?_ (fun _ => ?_)
theorem packed_Pack.mono : ∀ a0 a1 k, LeO (packed_Pack.f k a0 a1) (packed_Pack.f (k + 1) a0 a1) := by
 intro a0 a1 k; have ih0 := packed_Pack.mono_l k; unfold packed_Pack.f
 repeat' first
   | (with_reducible exact ih0 _ _ _ _)
   | (with_reducible exact packed_check.mono _ _ _)
   | (with_reducible exact LeO.refl _)
   | (with_reducible exact LeO.none _)
   | (with_reducible refine LeO.ite ?_ ?_)
   | (with_reducible refine LeO.bind ?_ (fun _ => ?_))
   | exact ih0 _ _ _ _
   | exact packed_check.mono _ _ _
   | exact LeO.none _
   | refine LeO.ite ?_ ?_
   | refine LeO.bind ?_ (fun _ => ?_)
def packed_Pack.T10 : Bool × List (List Nat × List Nat) := (true, [([], []), ([], []), ([1], [1]), ([0, 2], [0, 2]), ([3], [3]), ([], []), ([5], [5]), ([6], [6]), ([4, 7], [4, 7]), ([0, 2, 0, 1, 2, 3, 4, 5, 6, 7, 8], [0, 2]), ([9, 8, 0, 1, 2, 3, 4, 5, 6, 7, 8], [8, 9])])
def packed_Pack.B10 : List Nat := [0, 0, 2, 7, 15, 0, 32, 96, 255, 511, 1023]
theorem packed_Pack.tab10 : rtab .any (opsOf Tryd.f35 10) = packed_Pack.T10 := by kernel_rfl
theorem packed_Pack.bits10 : waitsOk packed_Pack.T10.2 packed_Pack.B10 = true := by kernel_rfl
set_option maxHeartbeats 8000000 in
set_option maxRecDepth 100000 in
theorem packed_Pack.calls (k : Nat) (A0 : Option Addr) (c0 : Nat) (l0 : List Int) (a1 : Int) (r1 : List Int) (r2 : List FE) (w : World) (hr0 : Kd.C (Kd.int .i64) w A0 l0.length l0) (hc0 : l0.length ≤ c0) (h : packed_Pack.f k l0 a1 = some (r1, r2)) :
  Calls Tryd.prog 35 #[.slice A0 l0.length c0, .int .i64 a1] w fun e w' => ∃ v0_ v1_ : Value, e = .returned (.tuple #[v0_, (errOf v1_)]) ∧ Kd.R (Kd.int .u64) 35 w' w.heap.size (fun _ => True) v0_ r1 ∧ Kd.R kF 95 w' w.heap.size (fun _ => True) v1_ r2 ∧ Below w.heap.size w w' := by
 have HR0 := AQ hr0; have HC0 := AQ hc0; clear hr0 hc0; have HB := AQ (Below.refl w.heap.size w); have H : ((packed_check.f k l0 a1).bind fun t232 => (if t232 = 0 then ((packed_Size.f a1).bind fun t236 => (if 0 ≤ t236 then (if (t236 : Int).toNat ≤ 35184372088832 then (packed_Pack.l0 k (List.replicate (t236 : Int).toNat 0) l0 (l0.length : Int) 0) else (none)) else (none))) else ((fault_New.f (⟨#[112, 97, 99, 107, 101, 100, 46, 80, 97, 99, 107]⟩ : ByteArray) t232).bind fun t233 => (some (([] : List Int), t233))))) = some (r1, r2) := h; clear h; replace H := Option.bind_eq_some_iff.mp H; obtain ⟨t232, A30, H⟩ := H; replace H : (if t232 = 0 then ((packed_Size.f a1).bind fun t236 => (if 0 ≤ t236 then (if (t236 : Int).toNat ≤ 35184372088832 then (packed_Pack.l0 k (List.replicate (t236 : Int).toNat 0) l0 (l0.length : Int) 0) else (none)) else (none))) else ((fault_New.f (⟨#[112, 97, 99, 107, 101, 100, 46, 80, 97, 99, 107]⟩ : ByteArray) t232).bind fun t233 => (some (([] : List Int), t233)))) = some (r1, r2) := H; have A3 := AQ A30; clear A30
 by_cases c4 : t232 = 0
 ·rw [if_pos c4] at H; have c4b0 : (t232 == 0) = true := beq_iff_eq.mpr c4; have c4b1 : (t232 != 0) = false := bne_eq_false_iff_eq.mpr c4; clear c4; replace H := Option.bind_eq_some_iff.mp H; obtain ⟨t236, A50, H⟩ := H; replace H : (if 0 ≤ t236 then (if (t236 : Int).toNat ≤ 35184372088832 then (packed_Pack.l0 k (List.replicate (t236 : Int).toNat 0) l0 (l0.length : Int) 0) else (none)) else (none)) = some (r1, r2) := H; have A5 := AQ A50; clear A50
  by_cases c6 : 0 ≤ t236
  ·rw [if_pos c6] at H; have c6b0 := eq_true c6; have c6b1 : decide (0 ≤ t236) = true := decide_eq_true c6; clear c6
   by_cases c7 : (t236 : Int).toNat ≤ 35184372088832
   ·rw [if_pos c7] at H; have c7b0 := eq_true c7; have c7b1 : decide ((t236 : Int).toNat ≤ 35184372088832) = true := decide_eq_true c7; clear c7; obtain ⟨y237, hy237⟩ : ∃ y_ : List Int, y_ = (List.replicate (t236 : Int).toNat 0) := ⟨_, rfl⟩; replace H : (packed_Pack.l0 k y237 l0 (l0.length : Int) 0) = some (r1, r2) := (by first | (rw [hy237]; with_reducible exact H) | (have H2_ := (Option.bind_some _ _).symm.trans H; rw [hy237]; with_reducible exact H2_) | (have H2_ := (Option.bind_some _ _).symm.trans H; with_reducible exact H2_) | with_reducible exact H | (rw [hy237]; exact H) | exact H); have Ny237 := AQ hy237; clear hy237; have H' := AQ H; clear H; go_enter Tryd.func35, Tryd.ntmps35; go_wp2_with (first | ((with_reducible refine gate_callee (f := 53) rfl ?_); refine gL (some 12) rfl rfl Tryd.func53 #[.slice A0 l0.length c0, .int .i64 a1] rfl ?_; (with_reducible refine (packed_check.calls k _ _ l0 a1 t232 _ ?side1 ?side2 A3.out).mono ?_); (case side1 => repeat (first | exact HR0.out | (with_reducible refine Kd.C_alloc ?_ _) | (with_reducible refine Kd.C_drewN ?_ _) | (with_reducible refine Kd.C_drew ?_))); (case side2 => exact HC0.out); rintro e w' ⟨rfl, ⟨nd, rfl⟩⟩; refine ⟨_, rfl, ?_⟩) | ((with_reducible refine gate_callee (f := 46) rfl ?_); refine gL (some 18) rfl rfl Tryd.func46 #[.int .i64 a1] rfl ?_; (with_reducible refine (packed_Size.calls a1 t236 _ A5.out).mono ?_); rintro e w' ⟨rfl, ⟨nd, rfl⟩⟩; refine ⟨_, rfl, ?_⟩) | ((with_reducible refine gate_dst (N := 19) rfl ?_); refine Kd.R_make (Kd.int .u64) _ 35 rfl (N := 19) rfl 23 _ _ rfl t236 rfl rfl Tryd.underlying23 (.int .u64 0) 8 info35 rfl (by decide) (by omega) 0 (ok := fun _ => True) (okp := fun _ => True) rfl (fun _ hk => hk) trivial (PD) (Nat.le_trans (Nat.mul_le_mul_right _ (PD : t236.toNat ≤ 35184372088832)) (by omega)) (Below.refl _ _) (Nat.le_refl _) ?_; intro v238 w8 ho9 hb hg_ hnew_; clear hg_ hnew_; (first | rw [← Ny237.out] at ho9 | (simp only [Int.reduceToNat] at ho9; rw [← Ny237.out] at ho9)); have n0_ := AQ (Kd.R_lower ho9 (below_size (PB HB))); have n1_ := AQ (below_step (PB HB) hb); clear HB; have HO239 := n0_; have HB := n1_; clear n0_ n1_; clear hb ho9)); go_loopg [22] k (fun kq v22 w' => ∃ (x7_1 : List Int) (x22_1 : Int), v22 = .int .i64 x22_1 ∧ Aside0 (packed_Pack.l0 kq x7_1 l0 (l0.length : Int) x22_1 = some (r1, r2)) ∧ Aside0 (kq ≤ k) ∧ Aside0 (Kd.R (Kd.int .u64) 35 w' w.heap.size (fun _ => True) v238 x7_1) ∧ Aside0 (Below w.heap.size w w'))
    case atStart => exact ⟨(y237), (0), (by first | rfl | (simp; done) | (simp [*]; done)), H', ⟨Nat.le_refl _⟩, ⟨PR HO239⟩, ⟨PB HB⟩⟩
    case round =>
     clear H'; (try clear p2); (try clear c3); (try clear c4); (try clear c4b0); (try clear c4b1); (try clear c5); (try clear c6); (try clear c6b0); (try clear c6b1); (try clear c7); (try clear c7b0); (try clear c7b1); obtain ⟨x7_1, x22_1, rfl, HA, HK1, HO_7, HB⟩ := hrel; cases gk with
     | zero => exact absurd HA.out (by simp [packed_Pack.l0])
     | succ k1 =>
      have H := HA.out; clear HA; simp only [packed_Pack.l0] at H
      by_cases c10 : x22_1 < (l0.length : Int)
      ·rw [if_pos c10] at H; have c10b0 : decide (x22_1 < (l0.length : Int)) = true := decide_eq_true c10; clear c10
       by_cases c11 : 0 ≤ x22_1
       ·rw [if_pos c11] at H; have c11b0 : decide (0 ≤ x22_1) = true := decide_eq_true c11; clear c11
        by_cases c12 : x22_1 < (l0.length : Int)
        ·rw [if_pos c12] at H; have c12b0 : decide (x22_1 < (l0.length : Int)) = true := decide_eq_true c12; clear c12; replace H := Option.bind_eq_some_iff.mp H; obtain ⟨t241, A130, H⟩ := H; replace H : (if t241 = true then ((fault_New.f (⟨#[112, 97, 99, 107, 101, 100, 46, 80, 97, 99, 107]⟩ : ByteArray) 2).bind fun t242 => (some (([] : List Int), t242))) else (if 0 ≤ (wrap64 (Int.tdiv (rd l0 x22_1) 64)) then (if (wrap64 (Int.tdiv (rd l0 x22_1) 64)) < (x7_1.length : Int) then (if 0 ≤ (Int.tmod (rd l0 x22_1) 64) then (packed_Pack.l0 k1 (x7_1.set ((wrap64 (Int.tdiv (rd l0 x22_1) 64)) : Int).toNat (Go.bits .or .u64 (rd x7_1 (wrap64 (Int.tdiv (rd l0 x22_1) 64))) (shl .u64 1 (Int.tmod (rd l0 x22_1) 64)))) l0 (l0.length : Int) (wrap64 (x22_1 + 1))) else (none)) else (none)) else (none))) = some (r1, r2) := H; have A13 := AQ A130; clear A130
         by_cases c14 : t241 = true
         ·subst c14; have H1 : ((fault_New.f (⟨#[112, 97, 99, 107, 101, 100, 46, 80, 97, 99, 107]⟩ : ByteArray) 2).bind fun t242 => (some (([] : List Int), t242))) = some (r1, r2) := (by rw [if_pos rfl] at H; exact H); clear H; have H := H1; clear H1; replace H := Option.bind_eq_some_iff.mp H; obtain ⟨t242, A150, H⟩ := H; replace H : (some (([] : List Int), t242)) = some (r1, r2) := H; have A15 := AQ A150; clear A150; simp only [Option.some.injEq, Prod.mk.injEq] at H; obtain ⟨rfl, rfl⟩ := H; have p240 : 0 ≤ (x22_1 : Int) := PD; have q240 : x22_1 < (l0.length : Int) := PD; obtain ⟨ad240, e240, hx240_0⟩ := Kd.at_int HR0.out x22_1 p240 q240; cases e240; (first | replace hx240_0 := PH HB hx240_0 | skip); replace p240 := eq_true p240; replace q240 := eq_true q240; obtain ⟨Ao16, co16, eo16⟩ := Kd.R_slice HO_7.out; subst eo16; go_wp2_with (first | ((with_reducible refine gate_callee (f := 48) rfl ?_); refine gL (some 28) rfl rfl Tryd.func48 #[.slice Ao16 x7_1.length co16, .int .i64 (rd l0 x22_1)] rfl ?_; (with_reducible refine (packed_Has.calls _ _ x7_1 (rd l0 x22_1) true _ ?side1 ?side2 A13.out).mono ?_); (case side1 => exact QC HO_7); (case side2 => exact (Kd.R_reads' HO_7.out).2.1); rintro e w' ⟨rfl, ⟨nd, rfl⟩⟩; refine ⟨_, rfl, ?_⟩) | ((with_reducible refine gate_callee (f := 28) rfl ?_); refine gL (some 29) rfl rfl Tryd.func28 #[.string (⟨#[112, 97, 99, 107, 101, 100, 46, 80, 97, 99, 107]⟩ : ByteArray), .int .i64 2] rfl ?_; (with_reducible refine (fault_New.calls (⟨#[112, 97, 99, 107, 101, 100, 46, 80, 97, 99, 107]⟩ : ByteArray) 2 t242 _ A15.out).mono ?_); rintro e w17 ⟨v243, rfl, ho0, hb⟩; refine ⟨_, rfl, ?_⟩; have n0_ := AQ (Kd.R_below (PR HO_7) hb); have n1_ := AQ (Kd.R_lower ho0 (below_size (PB HB))); have n2_ := AQ (below_step (PB HB) hb); clear HO_7; clear HB; have HO_7 := n0_; have HO244 := n1_; have HB := n2_; clear n0_ n1_ n2_; (try clear hb); (try clear hb2); (try clear hk); (try clear hi); (try clear ho0))); go_ret2; exact ⟨_, _, by first | rfl | (simp [errW_none, errW_some] <;> rfl) | (simp [*, errW_none, errW_some] <;> rfl), by first | exact Kd.R_nil _ _ _ _ _ | exact Kd.N_nil _ _ _ _ _ | exact Kd.V_nil _ _ _ _ _ | exact Kd.Q_nil _ _ _ _ _ | exact Kd.S_nil _ _ _ _ _, PR HO244, PB HB⟩
         ·replace c14 := Bool.eq_false_iff.mpr c14; subst c14; have H1 : (if 0 ≤ (wrap64 (Int.tdiv (rd l0 x22_1) 64)) then (if (wrap64 (Int.tdiv (rd l0 x22_1) 64)) < (x7_1.length : Int) then (if 0 ≤ (Int.tmod (rd l0 x22_1) 64) then (packed_Pack.l0 k1 (x7_1.set ((wrap64 (Int.tdiv (rd l0 x22_1) 64)) : Int).toNat (Go.bits .or .u64 (rd x7_1 (wrap64 (Int.tdiv (rd l0 x22_1) 64))) (shl .u64 1 (Int.tmod (rd l0 x22_1) 64)))) l0 (l0.length : Int) (wrap64 (x22_1 + 1))) else (none)) else (none)) else (none)) = some (r1, r2) := (by rw [if_neg (show ¬ (false = true) by decide)] at H; exact H); clear H; have H := H1; clear H1; obtain ⟨ji18, hji18⟩ : ∃ j_ : Int, (wrap64 (Int.tdiv (rd l0 x22_1) 64)) = j_ := ⟨_, rfl⟩; replace H : (if 0 ≤ (ji18) then (if (ji18) < (x7_1.length : Int) then (if 0 ≤ (Int.tmod (rd l0 x22_1) 64) then (packed_Pack.l0 k1 (x7_1.set ((ji18) : Int).toNat (Go.bits .or .u64 (rd x7_1 (ji18)) (shl .u64 1 (Int.tmod (rd l0 x22_1) 64)))) l0 (l0.length : Int) (wrap64 (x22_1 + 1))) else (none)) else (none)) else (none)) = some (r1, r2) := (by first | (rw [hji18] at H; exact H) | (simp only [hji18] at H ⊢; exact H)); (try rw [hji18] at A13); have hji18w : (IntKind.i64.wrap (Int.tdiv (rd l0 x22_1) 64)) = ji18 := (i64_w _).trans hji18
          by_cases c19 : 0 ≤ (ji18)
          ·rw [if_pos c19] at H; have c19b0 : decide (0 ≤ (ji18)) = true := decide_eq_true c19; clear c19
           by_cases c20 : (ji18) < (x7_1.length : Int)
           ·rw [if_pos c20] at H; have c20b0 : decide ((ji18) < (x7_1.length : Int)) = true := decide_eq_true c20; clear c20; obtain ⟨ji21, hji21⟩ : ∃ j_ : Int, (Int.tmod (rd l0 x22_1) 64) = j_ := ⟨_, rfl⟩; replace H : (if 0 ≤ (ji21) then (packed_Pack.l0 k1 (x7_1.set ((ji18) : Int).toNat (Go.bits .or .u64 (rd x7_1 (ji18)) (shl .u64 1 (ji21)))) l0 (l0.length : Int) (wrap64 (x22_1 + 1))) else (none)) = some (r1, r2) := (by first | (rw [hji21] at H; exact H) | (simp only [hji21] at H ⊢; exact H)); (try rw [hji21] at A13)
            by_cases c22 : 0 ≤ (ji21)
            ·rw [if_pos c22] at H; have c22b0 := eq_true c22; have c22b1 : decide (0 ≤ (ji21)) = true := decide_eq_true c22; clear c22; obtain ⟨ji23, hji23⟩ : ∃ j_ : Int, (shl .u64 1 (ji21)) = j_ := ⟨_, rfl⟩; replace H : (packed_Pack.l0 k1 (x7_1.set ((ji18) : Int).toNat (Go.bits .or .u64 (rd x7_1 (ji18)) (ji23))) l0 (l0.length : Int) (wrap64 (x22_1 + 1))) = some (r1, r2) := (by first | (rw [hji23] at H; exact H) | (simp only [hji23] at H ⊢; exact H)); (try rw [hji23] at A13); have hji23_ : (IntKind.u64.wrap (1 * 2 ^ min (ji21).toNat 64)) = ji23 := hji23; have hji23z : (ji21) ≤ 64 → (IntKind.u64.wrap (1 * 2 ^ (ji21).toNat)) = ji23 := shl_small hji23; have hji23u : (IntKind.u64.wrap (2 ^ min (ji21).toNat 64)) = ji23 := (by have h_ := hji23_; rw [Int.one_mul] at h_; exact h_); have hji23v : (ji21) ≤ 64 → (IntKind.u64.wrap (2 ^ (ji21).toNat)) = ji23 := fun hle_ => by have h_ := hji23z hle_; rw [Int.one_mul] at h_; exact h_
             obtain ⟨y246, hy246⟩ : ∃ y_ : List Int, y_ = (x7_1.set ((ji18) : Int).toNat (Go.bits .or .u64 (rd x7_1 (ji18)) (ji23))) := ⟨_, rfl⟩; replace H : (packed_Pack.l0 k1 y246 l0 (l0.length : Int) (wrap64 (x22_1 + 1))) = some (r1, r2) := (by first | (rw [hy246]; with_reducible exact H) | (have H2_ := (Option.bind_some _ _).symm.trans H; rw [hy246]; with_reducible exact H2_) | (have H2_ := (Option.bind_some _ _).symm.trans H; with_reducible exact H2_) | with_reducible exact H | (rw [hy246]; exact H) | exact H); have Ny246 := AQ hy246; clear hy246; have H' := AQ H; clear H; have p240 : 0 ≤ (x22_1 : Int) := PD; have q240 : x22_1 < (l0.length : Int) := PD; obtain ⟨ad240, e240, hx240_0⟩ := Kd.at_int HR0.out x22_1 p240 q240; cases e240; (first | replace hx240_0 := PH HB hx240_0 | skip); replace p240 := eq_true p240; replace q240 := eq_true q240; obtain ⟨Ao25, co25, eo25⟩ := Kd.R_slice HO_7.out; subst eo25; (try go_wp2_with (first | ((with_reducible refine gate_callee (f := 48) rfl ?_); refine gL (some 28) rfl rfl Tryd.func48 #[.slice Ao25 x7_1.length co25, .int .i64 (rd l0 x22_1)] rfl ?_; (with_reducible refine (packed_Has.calls _ _ x7_1 (rd l0 x22_1) false _ ?side1 ?side2 A13.out).mono ?_); (case side1 => exact QC HO_7); (case side2 => exact (Kd.R_reads' HO_7.out).2.1); rintro e w' ⟨rfl, ⟨nd, rfl⟩⟩; refine ⟨_, rfl, ?_⟩; (try (rw [drewN_self wr]; generalize hq_ : World.drewN wr _ = wr; have n0_ : Aside0 (Kd.R (Kd.int .u64) 35 wr w.heap.size (fun _ => True) (.slice Ao25 x7_1.length co25) x7_1) := ⟨by rw [← hq_]; exact (PR HO_7)⟩; have n1_ : Aside0 (Below w.heap.size w wr) := ⟨by rw [← hq_]; exact (PB HB)⟩; clear HO_7 HB hq_; have HO_7 := n0_; have HB := n1_; clear n0_ n1_))))); have n0_ := AQ (Kd.R_drew HO_7.out); have n1_ := AQ (below_drew1 HB.out); clear HO_7; clear HB; have HO_7 := n0_; have HB := n1_; clear n0_ n1_; have p245 : 0 ≤ ((ji18) : Int) := PD; have q245 : (ji18) < (x7_1.length : Int) := PD; obtain ⟨ad245, e245, hx245_0⟩ := Kd.at_int (Kd.R_reads' HO_7.out).2.2 (ji18) p245 q245; cases e245; replace p245 := eq_true p245; replace q245 := eq_true q245; have p24 : 0 ≤ ((ji18) : Int) := PD; have q24 : ((ji18) : Int) < ((x7_1.length : Int) : Int) := PD; obtain ⟨go24, co24, eo24, gb24, gl24, cl24, HG24⟩ := Kd.R_form HO_7.out (by omega); (first | cases eo24 | (injection eo24 with ea_ en_ ec_; (first | subst ea_ | (injection ea_ with ea_; subst ea_)); subst ec_; clear en_)); have GB24 := AQ gb24; have GG24 := AQ HG24; clear gb24 gl24 HG24; (first | simp only [add_plain] at hx245_0 | skip); obtain ⟨hx24_0, hf24_0⟩ := Kd.R_celln 0 HO_7.out ((ji18) : Int) p24 q24; replace p24 := eq_true p24; replace q24 := eq_true q24; have HP27 := Kd.R_putn HO_7.out ((ji18) : Int) (Go.bits .or .u64 (rd x7_1 (ji18)) (ji23)); rw [← Ny246.out] at HP27; have HQ27 := AQ HP27; clear HP27; refine start_ (n := 11) (S := fun w' => w'.cell? ⟨go24, ((ji18)).toNat, none⟩ = some (.int .u64 (rd x7_1 (ji18)))) (ds := [10]) #[false, false, false, false, false, false, false, false, false, false, false] (by kernel_rfl) rfl rfl (hx245_0) (fun hHeld => ?_); refine with_tabW packed_Pack.tab10 packed_Pack.bits10 (fun HT_ HW_ => ?_)
             generalize wr.drew = w26 at HO_7 HB GG24 HQ27 hf24_0 hx245_0 hx24_0 hHeld ⊢; refine pure_ (i := 0) (N := some 30) (v := ?_) (a' := ?_) #[true, false, false, false, false, false, false, false, false, false, false] rfl rfl (any_of HT_.out (by kernel_rfl)) (fun _ _ _ h => h) (Or.inl ⟨by rfl, ?_⟩) ?_ ?_; rotate_left
             ·intro w'; go_simp
              with_reducible rfl
             rotate_left
             ·simp only [Act.put, qT, qZ, qS, i64_w, i32_w]; rfl
             refine pure_ (i := 1) (N := some 31) (v := ?_) (a' := ?_) #[true, true, false, false, false, false, false, false, false, false, false] rfl rfl (any_of HT_.out (by kernel_rfl)) (fun _ _ _ h => h) (Or.inl ⟨by rfl, ?_⟩) ?_ ?_; rotate_left
             ·intro w'; go_simp
              with_reducible rfl
             rotate_left
             ·simp only [Act.put, qT, qZ, qS, i64_w, i32_w]; rfl
             refine pure_ (i := 2) (N := some 32) (v := ?_) (a' := ?_) #[true, true, true, false, false, false, false, false, false, false, false] rfl rfl (any_of HT_.out (by kernel_rfl)) (fun _ _ _ h => h) (Or.inl ⟨by rfl, ?_⟩) ?_ ?_; rotate_left
             ·intro w'; go_simp
              with_reducible rfl
             rotate_left
             ·simp only [Act.put, qT, qZ, qS, i64_w, i32_w]; rfl
             refine pure_ (i := 3) (N := some 33) (v := ?_) (a' := ?_) #[true, true, true, true, false, false, false, false, false, false, false] rfl rfl (any_of HT_.out (by kernel_rfl)) (fun _ _ _ h => h) (Or.inl ⟨by rfl, ?_⟩) ?_ ?_; rotate_left
             ·intro w'; go_simp
              with_reducible rfl
             rotate_left
             ·simp only [Act.put, qT, qZ, qS, i64_w, i32_w]; rfl
             refine pure_ (i := 5) (N := some 35) (v := ?_) (a' := ?_) #[true, true, true, true, false, true, false, false, false, false, false] rfl rfl (any_of HT_.out (by kernel_rfl)) (fun _ _ _ h => h) (Or.inl ⟨by rfl, ?_⟩) ?_ ?_; rotate_left
             ·intro w'; go_simp
              with_reducible rfl
             rotate_left
             ·simp only [Act.put, qT, qZ, qS, i64_w, i32_w]; rfl
             refine pure_ (i := 6) (N := some 36) (v := ?_) (a' := ?_) #[true, true, true, true, false, true, true, false, false, false, false] rfl rfl (any_of HT_.out (by kernel_rfl)) (fun _ _ _ h => h) (Or.inl ⟨by rfl, ?_⟩) ?_ ?_; rotate_left
             ·intro w'; go_simp
              with_reducible rfl
             rotate_left
             ·simp only [Act.put, qT, qZ, qS, i64_w, i32_w]; rfl
             refine pure_ (i := 7) (N := some 37) (v := ?_) (a' := ?_) #[true, true, true, true, false, true, true, true, false, false, false] rfl rfl (any_of HT_.out (by kernel_rfl)) (fun _ _ _ h => h) (Or.inl ⟨by rfl, ?_⟩) ?_ ?_; rotate_left
             ·intro w'; go_simp
              with_reducible rfl
             rotate_left
             ·simp only [Act.put, qT, qZ, qS, i64_w, i32_w]; rfl
             refine take_ (i := 4) (N := some 34) (v := ?_) (a' := ?_) #[true, true, true, true, true, true, true, true, false, false, false] rfl rfl (take_ofW HT_.out HW_.out (by kernel_rfl)) (fun _ _ _ h => h) (Or.inl ⟨by rfl, ?_⟩) hHeld ?_ ?_; rotate_left
             ·intro w' s0; go_simp
              with_reducible rfl
             rotate_left
             ·simp only [Act.put, qT, qZ, qS, i64_w, i32_w]; rfl
             refine pure_ (i := 8) (N := some 38) (v := ?_) (a' := ?_) #[true, true, true, true, true, true, true, true, true, false, false] rfl rfl (any_of HT_.out (by kernel_rfl)) (fun _ _ _ h => h) (Or.inl ⟨by rfl, ?_⟩) ?_ ?_; rotate_left
             ·intro w'; go_simp
              with_reducible rfl
             rotate_left
             ·simp only [Act.put, qT, qZ, qS, i64_w, i32_w]; rfl
             refine pure_ (i := 9) (N := some 39) (v := ?_) (a' := ?_) #[true, true, true, true, true, true, true, true, true, true, false] rfl rfl (any_of HT_.out (by kernel_rfl)) (fun _ _ _ h => h) (Or.inl ⟨by rfl, ?_⟩) ?_ ?_; rotate_left
             ·intro w'; go_simp
              with_reducible rfl
             rotate_left
             ·simp only [Act.put, qT, qZ, qS, i64_w, i32_w]; rfl
             refine last_ (i := 10) (N := none) #[true, true, true, true, true, true, true, true, true, true, true] rfl rfl (one_of HT_.out (by kernel_rfl)) (by decide) (fun K hK => ?_); refine skip_ (w1 := ?_) (by rfl) rfl ?_ ?_; rotate_left
             ·go_simp; rfl
             refine hK.out _ _ ?_; clear hK K; refine done_ (done_of HT_.out (by kernel_rfl)) ?_; (try go_wp2); go_roundg k1
             case measure => have := HK1.out; omega
             case rel => exact ⟨(y246), (wrap64 (x22_1 + 1)), (by first | rfl | (simp; done) | (simp [*]; done)), H', ⟨by have := HK1.out; omega⟩, ⟨PR HQ27⟩, ⟨PX HB⟩⟩
            ·rw [if_neg c22] at H; exact absurd H (by simp)
           ·rw [if_neg c20] at H; exact absurd H (by simp)
          ·rw [if_neg c19] at H; exact absurd H (by simp)
        ·rw [if_neg c12] at H; exact absurd H (by simp)
       ·rw [if_neg c11] at H; exact absurd H (by simp)
      ·rw [if_neg c10] at H; have c10b0 : decide (x22_1 < (l0.length : Int)) = false := decide_eq_false c10; clear c10; simp only [Option.some.injEq, Prod.mk.injEq] at H; obtain ⟨rfl, rfl⟩ := H; go_wp2; go_ret2; exact ⟨_, (.slice none 0 0), by first | rfl | (simp [errW_none, errW_some] <;> rfl) | (simp [*, errW_none, errW_some] <;> rfl), PR HO_7, by first | exact Kd.R_nil _ _ _ _ _ | exact Kd.N_nil _ _ _ _ _ | exact Kd.V_nil _ _ _ _ _ | exact Kd.Q_nil _ _ _ _ _ | exact Kd.S_nil _ _ _ _ _, PB HB⟩
   ·rw [if_neg c7] at H; exact absurd H (by simp)
  ·rw [if_neg c6] at H; exact absurd H (by simp)
 ·rw [if_neg c4] at H; have c4b0 : (t232 == 0) = false := beq_eq_false_iff_ne.mpr c4; have c4b1 : (t232 != 0) = true := bne_iff_ne.mpr c4; replace H := Option.bind_eq_some_iff.mp H; obtain ⟨t233, A280, H⟩ := H; replace H : (some (([] : List Int), t233)) = some (r1, r2) := H; have A28 := AQ A280; clear A280; simp only [Option.some.injEq, Prod.mk.injEq] at H; obtain ⟨rfl, rfl⟩ := H; go_enter Tryd.func35, Tryd.ntmps35; go_wp2_with (first | ((with_reducible refine gate_callee (f := 53) rfl ?_); refine gL (some 12) rfl rfl Tryd.func53 #[.slice A0 l0.length c0, .int .i64 a1] rfl ?_; (with_reducible refine (packed_check.calls k _ _ l0 a1 t232 _ ?side1 ?side2 A3.out).mono ?_); (case side1 => repeat (first | exact HR0.out | (with_reducible refine Kd.C_alloc ?_ _) | (with_reducible refine Kd.C_drewN ?_ _) | (with_reducible refine Kd.C_drew ?_))); (case side2 => exact HC0.out); rintro e w' ⟨rfl, ⟨nd, rfl⟩⟩; refine ⟨_, rfl, ?_⟩) | ((with_reducible refine gate_callee (f := 28) rfl ?_); refine gL (some 16) rfl rfl Tryd.func28 #[.string (⟨#[112, 97, 99, 107, 101, 100, 46, 80, 97, 99, 107]⟩ : ByteArray), .int .i64 t232] rfl ?_; (with_reducible refine (fault_New.calls (⟨#[112, 97, 99, 107, 101, 100, 46, 80, 97, 99, 107]⟩ : ByteArray) t232 t233 _ A28.out).mono ?_); rintro e w29 ⟨v234, rfl, ho0, hb⟩; refine ⟨_, rfl, ?_⟩; have n0_ := AQ (Kd.R_lower ho0 (below_size (PB HB))); have n1_ := AQ (below_step (PB HB) hb); clear HB; have HO235 := n0_; have HB := n1_; clear n0_ n1_; (try clear hb); (try clear hb2); (try clear hk); (try clear hi); (try clear ho0))); go_ret2; exact ⟨_, _, by first | rfl | (simp [errW_none, errW_some] <;> rfl) | (simp [*, errW_none, errW_some] <;> rfl), by first | exact Kd.R_nil _ _ _ _ _ | exact Kd.N_nil _ _ _ _ _ | exact Kd.V_nil _ _ _ _ _ | exact Kd.Q_nil _ _ _ _ _ | exact Kd.S_nil _ _ _ _ _, PR HO235, PB HB⟩
end Go.Proofs.YtjmgkknbgffbjaaDoor.P
namespace Go.Proofs.YtjmgkknbgffbjaaDoor.P
open Go.RowKit Go.Proofs.YtjmgkknbgffbjaaDoorW.PrintWords Go.Proofs.YtjmgkknbgffbjaaDoorW.PrintLast Go.Proofs.YtjmgkknbgffbjaaDoorW.PrintErr Go.Proofs.YtjmgkknbgffbjaaDoorW.PrintMore
attribute [local go_sem] max2_int min2_int max_two min_two max_three min_three max_four min_four run_eql_errOf run_neq_errOf eqGuard_errOf   -- for this text's walks alone
set_option linter.unusedVariables false
set_option linter.unusedSimpArgs false
def elimM_Value.j0 : Nat → List (S74) → Int → Bool → Option (List Int × List FE)
 | 0, _, _, _ => none
 | k + 1, x0, x1, x29 => if x29 = true then ((fault_New.f (⟨#[101, 108, 105, 109, 46, 86, 97, 108, 117, 101]⟩ : ByteArray) 1).bind fun t279 => (some (([] : List Int), t279))) else (if 0 < (x0.length : Int) then ((packed_Pack.f k (([x1] : List Int)) ((rd_T74 x0 0).f0)).bind fun bt286 => (if 0 ≤ ((rd_T74 x0 0).f1) then (if ((rd_T74 x0 0).f1 : Int).toNat ≤ 281474976710656 then ((elimM_down.f k x0 bt286.1 (List.replicate ((rd_T74 x0 0).f1 : Int).toNat 0)).bind fun bt296 => (if bt296.2.2 ≥ 0 then ((fault_New.f (⟨#[101, 108, 105, 109, 46, 86, 97, 108, 117, 101]⟩ : ByteArray) 4).bind fun t304 => (some (([] : List Int), t304))) else (some ((copyL (List.replicate ((rd_T74 x0 0).f1 : Int).toNat 0) bt296.2.1), ([] : List FE))))) else (none)) else (none))) else (none))
def elimM_Value.f (k : Nat) (l0 : List (S74)) (a1 : Int) : Option (List Int × List FE) := if 0 < (l0.length : Int) then (if (rd_T74 l0 0).f4 = true then ((fault_New.f (⟨#[101, 108, 105, 109, 46, 86, 97, 108, 117, 101]⟩ : ByteArray) 7).bind fun t275 => (some (([] : List Int), t275))) else (if a1 < 0 then (elimM_Value.j0 k l0 a1 true) else (elimM_Value.j0 k l0 a1 (decide (a1 ≥ ((rd_T74 l0 0).f0)))))) else (none)
theorem elimM_Value.mono_l : ∀ k, (∀ y0 y1 y2, LeO (elimM_Value.j0 k y0 y1 y2) (elimM_Value.j0 (k + 1) y0 y1 y2))
 | 0 => fun _ _ _ r h => by simp [elimM_Value.j0] at h
 | k + 1 => by
  have ih0 := elimM_Value.mono_l k
  ·intro y0 y1 y2; unfold elimM_Value.j0
   repeat' first
   | (with_reducible exact ih0 _ _ _)
   | (with_reducible exact elimM_down.mono _ _ _ _)
   | (with_reducible exact packed_Pack.mono _ _ _)
   | (with_reducible exact LeO.refl _)
   | (with_reducible exact LeO.none _)
   | (with_reducible refine LeO.ite ?_ ?_)
   | (with_reducible refine LeO.bind ?_ (fun _ => ?_))
   | exact ih0 _ _ _
   | exact elimM_down.mono _ _ _ _
   | exact packed_Pack.mono _ _ _
   | exact LeO.none _
   | refine LeO.ite ?_ ?_
   | refine LeO.bind ?_ (fun _ => ?_)
theorem elimM_Value.mono : ∀ a0 a1 k, LeO (elimM_Value.f k a0 a1) (elimM_Value.f (k + 1) a0 a1) := by
 intro a0 a1 k; have ih0 := elimM_Value.mono_l k; unfold elimM_Value.f
 repeat' first
   | (with_reducible exact ih0 _ _ _)
   | (with_reducible exact elimM_down.mono _ _ _ _)
   | (with_reducible exact packed_Pack.mono _ _ _)
   | (with_reducible exact LeO.refl _)
   | (with_reducible exact LeO.none _)
   | (with_reducible refine LeO.ite ?_ ?_)
   | (with_reducible refine LeO.bind ?_ (fun _ => ?_))
   | exact ih0 _ _ _
   | exact elimM_down.mono _ _ _ _
   | exact packed_Pack.mono _ _ _
   | exact LeO.none _
   | refine LeO.ite ?_ ?_
   | refine LeO.bind ?_ (fun _ => ?_)
set_option maxHeartbeats 8000000 in
set_option maxRecDepth 100000 in
theorem elimM_Value.calls (k : Nat) (ad900 : Addr) (l0 : List (S74)) (a1 : Int) (r1 : List Int) (r2 : List FE) (w : World) (ht : TabIn w) (hr0 : Kd.C k74 w (some ad900) l0.length l0) (h : elimM_Value.f k l0 a1 = some (r1, r2)) :
  Calls Tryd.prog 13 #[.pointer (some ad900), .int .i64 a1] w fun e w' => ∃ v0_ v1_ : Value, e = .returned (.tuple #[v0_, (errOf v1_)]) ∧ Kd.R (Kd.int .u8) 5 w' w.heap.size (fun _ => True) v0_ r1 ∧ Kd.R kF 95 w' w.heap.size (fun _ => True) v1_ r2 ∧ Below w.heap.size w w' := by
 have hu77 := Tryd.underlying77; have HR0 := AQ hr0; clear hr0; have HB := AQ (Below.refl w.heap.size w); have HT := AQ ht; clear ht; have H : (if 0 < (l0.length : Int) then (if (rd_T74 l0 0).f4 = true then ((fault_New.f (⟨#[101, 108, 105, 109, 46, 86, 97, 108, 117, 101]⟩ : ByteArray) 7).bind fun t275 => (some (([] : List Int), t275))) else (if a1 < 0 then (elimM_Value.j0 k l0 a1 true) else (elimM_Value.j0 k l0 a1 (decide (a1 ≥ ((rd_T74 l0 0).f0)))))) else (none)) = some (r1, r2) := h; clear h
 by_cases c3 : 0 < (l0.length : Int)
 ·rw [if_pos c3] at H; have c3b0 : decide (0 < (l0.length : Int)) = true := decide_eq_true c3; have c3b1 : decide (0 < l0.length) = true := decide_eq_true (by omega); clear c3; obtain ⟨bq4, hbq4⟩ : ∃ b_ : Bool, b_ = ((rd_T74 l0 0).f4) := ⟨_, rfl⟩; replace H : (if bq4 = true then ((fault_New.f (⟨#[101, 108, 105, 109, 46, 86, 97, 108, 117, 101]⟩ : ByteArray) 7).bind fun t275 => (some (([] : List Int), t275))) else (if a1 < 0 then (elimM_Value.j0 k l0 a1 true) else (elimM_Value.j0 k l0 a1 (decide (a1 ≥ ((rd_T74 l0 0).f0)))))) = some (r1, r2) := (by rw [← hbq4] at H; exact H); have Nbq4 := AQ hbq4; clear hbq4
  by_cases c5 : bq4 = true
  ·subst c5; have H1 : ((fault_New.f (⟨#[101, 108, 105, 109, 46, 86, 97, 108, 117, 101]⟩ : ByteArray) 7).bind fun t275 => (some (([] : List Int), t275))) = some (r1, r2) := (by rw [if_pos rfl] at H; exact H); clear H; have H := H1; clear H1; replace H := Option.bind_eq_some_iff.mp H; obtain ⟨t275, A60, H⟩ := H; replace H : (some (([] : List Int), t275)) = some (r1, r2) := H; have A6 := AQ A60; clear A60; simp only [Option.some.injEq, Prod.mk.injEq] at H; obtain ⟨rfl, rfl⟩ := H; have p274 : 0 ≤ (0 : Int) := (by omega); have q274 : 0 < (l0.length : Int) := PD; obtain ⟨ad274, A274_2, c274_2, A274_3, c274_3, e274, hx274_0, hx274_1, hx274_2, hx274_3, hx274_4, hl274_2, hi274_2, hl274_3, hi274_3⟩ := at0_T74 HR0.out q274; (try rw [← Nbq4.out] at hx274_4); obtain rfl : ad900 = ad274 := (by injection e274); have qi274 : (0 < l0.length) = True := eq_true (by omega); have HR274_2 := AQ hi274_2; have HC274_2 := AQ hl274_2; clear hi274_2 hl274_2; have HR274_3 := AQ hi274_3; have HC274_3 := AQ hl274_3; clear hi274_3 hl274_3; replace p274 := eq_true p274; replace q274 := eq_true q274; go_enter Tryd.func13, Tryd.ntmps13; go_wp2_with (first | ((with_reducible refine gate_callee (f := 28) rfl ?_); refine gL (some 19) rfl rfl Tryd.func28 #[.string (⟨#[101, 108, 105, 109, 46, 86, 97, 108, 117, 101]⟩ : ByteArray), .int .i64 7] rfl ?_; (with_reducible refine (fault_New.calls (⟨#[101, 108, 105, 109, 46, 86, 97, 108, 117, 101]⟩ : ByteArray) 7 t275 _ A6.out).mono ?_); rintro e w7 ⟨v276, rfl, ho0, hb⟩; refine ⟨_, rfl, ?_⟩; have n0_ := AQ (Kd.R_lower ho0 (below_size (PB HB))); have n1_ := AQ (below_step (PB HB) hb); clear HB; have HO277 := n0_; have HB := n1_; clear n0_ n1_; (try clear hb); (try clear hb2); (try clear hk); (try clear hi); (try clear ho0))); go_ret2; exact ⟨_, _, by first | rfl | (simp [errW_none, errW_some] <;> rfl) | (simp [*, errW_none, errW_some] <;> rfl), by first | exact Kd.R_nil _ _ _ _ _ | exact Kd.N_nil _ _ _ _ _ | exact Kd.V_nil _ _ _ _ _ | exact Kd.Q_nil _ _ _ _ _ | exact Kd.S_nil _ _ _ _ _, PR HO277, PB HB⟩
  ·replace c5 := Bool.eq_false_iff.mpr c5; subst c5; have H1 : (if a1 < 0 then (elimM_Value.j0 k l0 a1 true) else (elimM_Value.j0 k l0 a1 (decide (a1 ≥ ((rd_T74 l0 0).f0))))) = some (r1, r2) := (by rw [if_neg (show ¬ (false = true) by decide)] at H; exact H); clear H; have H := H1; clear H1; have HC8 := AQ H; clear H; have p274 : 0 ≤ (0 : Int) := (by omega); have q274 : 0 < (l0.length : Int) := PD; obtain ⟨ad274, A274_2, c274_2, A274_3, c274_3, e274, hx274_0, hx274_1, hx274_2, hx274_3, hx274_4, hl274_2, hi274_2, hl274_3, hi274_3⟩ := at0_T74 HR0.out q274; (try rw [← Nbq4.out] at hx274_4); obtain rfl : ad900 = ad274 := (by injection e274); have qi274 : (0 < l0.length) = True := eq_true (by omega); have HR274_2 := AQ hi274_2; have HC274_2 := AQ hl274_2; clear hi274_2 hl274_2; have HR274_3 := AQ hi274_3; have HC274_3 := AQ hl274_3; clear hi274_3 hl274_3; replace p274 := eq_true p274; replace q274 := eq_true q274; go_enter Tryd.func13, Tryd.ntmps13; go_upto_region 3 with (fail); go_cut [29] (fun v29 wc => ∃ (kq : Nat) (x29_7 : Bool), v29 = .bool x29_7 ∧ Aside0 (elimM_Value.j0 kq l0 a1 x29_7 = some (r1, r2)) ∧ Aside0 (kq ≤ k) ∧ Aside0 (Below w.heap.size w wc))
   case first =>
    have H := HC8.out; clear HC8
    by_cases c9 : a1 < 0
    ·rw [if_pos c9] at H; have c9b0 : decide (a1 < 0) = true := decide_eq_true c9; clear c9; (first | rw [c9b0] | rw [c9b1] | (simp only [i64_w, i32_w]; rw [c9b0]) | skip); have H' := AQ H; clear H; go_wp2; go_meet
     case rel => exact ⟨_, (true), (by first | rfl | (simp; done) | (simp [*]; done)), H', ⟨by first | omega | exact Nat.le_refl _⟩, ⟨PB HB⟩⟩
    ·rw [if_neg c9] at H; have c9b0 : decide (a1 < 0) = false := decide_eq_false c9; clear c9; (first | rw [c9b0] | rw [c9b1] | (simp only [i64_w, i32_w]; rw [c9b0]) | skip); have H' := AQ H; clear H; have p278 : 0 ≤ (0 : Int) := (by omega); have q278 : 0 < (l0.length : Int) := PD; obtain ⟨ad278, A278_2, c278_2, A278_3, c278_3, e278, hx278_0, hx278_1, hx278_2, hx278_3, hx278_4, hl278_2, hi278_2, hl278_3, hi278_3⟩ := at0_T74 HR0.out q278; (try rw [← Nbq4.out] at hx278_4); obtain rfl : ad900 = ad278 := (by injection e278); have qi278 : (0 < l0.length) = True := eq_true (by omega); (first | replace hx278_0 := PH HB hx278_0 | skip); (first | replace hx278_1 := PH HB hx278_1 | skip); (first | replace hx278_2 := PH HB hx278_2 | skip); (first | replace hx278_3 := PH HB hx278_3 | skip); (first | replace hx278_4 := PH HB hx278_4 | skip); have HR278_2 := AQ hi278_2; have HC278_2 := AQ hl278_2; clear hi278_2 hl278_2; have HR278_3 := AQ hi278_3; have HC278_3 := AQ hl278_3; clear hi278_3 hl278_3; replace p278 := eq_true p278; replace q278 := eq_true q278; go_wp2; go_meet
     case rel => exact ⟨_, (decide (a1 ≥ ((rd_T74 l0 0).f0))), (by first | rfl | (simp; done) | (simp [*]; done)), H', ⟨by first | omega | exact Nat.le_refl _⟩, ⟨PB HB⟩⟩
   case rest =>
    clear HC8; (try clear c1); (try clear c2); (try clear p2); (try clear q2); (try clear hx2); (try clear qi2); (try clear c3); (try clear c3b0); (try clear c3b1); (try clear q4); (try clear c5); (try clear c9); (try clear c9b0); (try clear c9b1); (try clear hx274_0); (try clear hx274_1); (try clear hx274_2); (try clear hx274_3); (try clear hx274_4); (try clear hx278_0); (try clear hx278_1); (try clear hx278_2); (try clear hx278_3); (try clear hx278_4); (try clear p274); (try clear p278); (try clear q274); (try clear q278); obtain ⟨kq, x29_7, rfl, HA, HJ7, HB⟩ := hcut; cases kq with
    | zero => exact absurd HA.out (by simp [elimM_Value.j0])
    | succ kj7 =>
     have H := HA.out; clear HA; simp only [elimM_Value.j0] at H
     by_cases c10 : x29_7 = true
     ·subst c10; have H1 : ((fault_New.f (⟨#[101, 108, 105, 109, 46, 86, 97, 108, 117, 101]⟩ : ByteArray) 1).bind fun t279 => (some (([] : List Int), t279))) = some (r1, r2) := (by rw [if_pos rfl] at H; exact H); clear H; have H := H1; clear H1; replace H := Option.bind_eq_some_iff.mp H; obtain ⟨t279, A110, H⟩ := H; replace H : (some (([] : List Int), t279)) = some (r1, r2) := H; have A11 := AQ A110; clear A110; simp only [Option.some.injEq, Prod.mk.injEq] at H; obtain ⟨rfl, rfl⟩ := H; go_wp2_with (first | ((with_reducible refine gate_callee (f := 28) rfl ?_); refine gL (some 30) rfl rfl Tryd.func28 #[.string (⟨#[101, 108, 105, 109, 46, 86, 97, 108, 117, 101]⟩ : ByteArray), .int .i64 1] rfl ?_; (with_reducible refine (fault_New.calls (⟨#[101, 108, 105, 109, 46, 86, 97, 108, 117, 101]⟩ : ByteArray) 1 t279 _ A11.out).mono ?_); rintro e w12 ⟨v280, rfl, ho0, hb⟩; refine ⟨_, rfl, ?_⟩; have n0_ := AQ (Kd.R_lower ho0 (below_size (PB HB))); have n1_ := AQ (below_step (PB HB) hb); clear HB; have HO281 := n0_; have HB := n1_; clear n0_ n1_; (try clear hb); (try clear hb2); (try clear hk); (try clear hi); (try clear ho0))); go_ret2; exact ⟨_, _, by first | rfl | (simp [errW_none, errW_some] <;> rfl) | (simp [*, errW_none, errW_some] <;> rfl), by first | exact Kd.R_nil _ _ _ _ _ | exact Kd.N_nil _ _ _ _ _ | exact Kd.V_nil _ _ _ _ _ | exact Kd.Q_nil _ _ _ _ _ | exact Kd.S_nil _ _ _ _ _, PR HO281, PB HB⟩
     ·replace c10 := Bool.eq_false_iff.mpr c10; subst c10; have H1 : (if 0 < (l0.length : Int) then ((packed_Pack.f kj7 (([a1] : List Int)) ((rd_T74 l0 0).f0)).bind fun bt286 => (if 0 ≤ ((rd_T74 l0 0).f1) then (if ((rd_T74 l0 0).f1 : Int).toNat ≤ 281474976710656 then ((elimM_down.f kj7 l0 bt286.1 (List.replicate ((rd_T74 l0 0).f1 : Int).toNat 0)).bind fun bt296 => (if bt296.2.2 ≥ 0 then ((fault_New.f (⟨#[101, 108, 105, 109, 46, 86, 97, 108, 117, 101]⟩ : ByteArray) 4).bind fun t304 => (some (([] : List Int), t304))) else (some ((copyL (List.replicate ((rd_T74 l0 0).f1 : Int).toNat 0) bt296.2.1), ([] : List FE))))) else (none)) else (none))) else (none)) = some (r1, r2) := (by rw [if_neg (show ¬ (false = true) by decide)] at H; exact H); clear H; have H := H1; clear H1; obtain ⟨y282, hy282⟩ : ∃ y_ : List Int, y_ = (([a1] : List Int)) := ⟨_, rfl⟩; replace H : (if 0 < (l0.length : Int) then ((packed_Pack.f kj7 y282 ((rd_T74 l0 0).f0)).bind fun bt286 => (if 0 ≤ ((rd_T74 l0 0).f1) then (if ((rd_T74 l0 0).f1 : Int).toNat ≤ 281474976710656 then ((elimM_down.f kj7 l0 bt286.1 (List.replicate ((rd_T74 l0 0).f1 : Int).toNat 0)).bind fun bt296 => (if bt296.2.2 ≥ 0 then ((fault_New.f (⟨#[101, 108, 105, 109, 46, 86, 97, 108, 117, 101]⟩ : ByteArray) 4).bind fun t304 => (some (([] : List Int), t304))) else (some ((copyL (List.replicate ((rd_T74 l0 0).f1 : Int).toNat 0) bt296.2.1), ([] : List FE))))) else (none)) else (none))) else (none)) = some (r1, r2) := (by first | (rw [hy282]; with_reducible exact H) | (have H2_ := (Option.bind_some _ _).symm.trans H; rw [hy282]; with_reducible exact H2_) | (have H2_ := (Option.bind_some _ _).symm.trans H; with_reducible exact H2_) | with_reducible exact H | (rw [hy282]; exact H) | exact H); have Ny282 := AQ hy282; clear hy282
      by_cases c13 : 0 < (l0.length : Int)
      ·rw [if_pos c13] at H; have c13b0 : decide (0 < (l0.length : Int)) = true := decide_eq_true c13; have c13b1 : decide (0 < l0.length) = true := decide_eq_true (by omega); clear c13; replace H := Option.bind_eq_some_iff.mp H; obtain ⟨⟨t286, t287⟩, A140, H⟩ := H; replace H : (if 0 ≤ ((rd_T74 l0 0).f1) then (if ((rd_T74 l0 0).f1 : Int).toNat ≤ 281474976710656 then ((elimM_down.f kj7 l0 t286 (List.replicate ((rd_T74 l0 0).f1 : Int).toNat 0)).bind fun bt296 => (if bt296.2.2 ≥ 0 then ((fault_New.f (⟨#[101, 108, 105, 109, 46, 86, 97, 108, 117, 101]⟩ : ByteArray) 4).bind fun t304 => (some (([] : List Int), t304))) else (some ((copyL (List.replicate ((rd_T74 l0 0).f1 : Int).toNat 0) bt296.2.1), ([] : List FE))))) else (none)) else (none)) = some (r1, r2) := H; have A14 := AQ A140; clear A140
       by_cases c15 : 0 ≤ ((rd_T74 l0 0).f1)
       ·rw [if_pos c15] at H; have c15b0 := eq_true c15; have c15b1 : decide (0 ≤ ((rd_T74 l0 0).f1)) = true := decide_eq_true c15; clear c15
        by_cases c16 : ((rd_T74 l0 0).f1 : Int).toNat ≤ 281474976710656
        ·rw [if_pos c16] at H; have c16b0 := eq_true c16; have c16b1 : decide (((rd_T74 l0 0).f1 : Int).toNat ≤ 281474976710656) = true := decide_eq_true c16; clear c16; obtain ⟨y293, hy293⟩ : ∃ y_ : List Int, y_ = (List.replicate ((rd_T74 l0 0).f1 : Int).toNat 0) := ⟨_, rfl⟩; replace H : ((elimM_down.f kj7 l0 t286 y293).bind fun bt296 => (if bt296.2.2 ≥ 0 then ((fault_New.f (⟨#[101, 108, 105, 109, 46, 86, 97, 108, 117, 101]⟩ : ByteArray) 4).bind fun t304 => (some (([] : List Int), t304))) else (some ((copyL (List.replicate ((rd_T74 l0 0).f1 : Int).toNat 0) bt296.2.1), ([] : List FE))))) = some (r1, r2) := (by first | (rw [hy293]; with_reducible exact H) | (have H2_ := (Option.bind_some _ _).symm.trans H; rw [hy293]; with_reducible exact H2_) | (have H2_ := (Option.bind_some _ _).symm.trans H; with_reducible exact H2_) | with_reducible exact H | (rw [hy293]; exact H) | exact H); have Ny293 := AQ hy293; clear hy293; replace H := Option.bind_eq_some_iff.mp H; obtain ⟨⟨t296, t299, t302⟩, A170, H⟩ := H; replace H : (if t302 ≥ 0 then ((fault_New.f (⟨#[101, 108, 105, 109, 46, 86, 97, 108, 117, 101]⟩ : ByteArray) 4).bind fun t304 => (some (([] : List Int), t304))) else (some ((copyL (List.replicate ((rd_T74 l0 0).f1 : Int).toNat 0) t299), ([] : List FE)))) = some (r1, r2) := H; have A17 := AQ A170; clear A170
         by_cases c18 : t302 ≥ 0
         ·rw [if_pos c18] at H; have c18b0 : decide (0 ≤ t302) = true := decide_eq_true c18; clear c18; replace H := Option.bind_eq_some_iff.mp H; obtain ⟨t304, A190, H⟩ := H; replace H : (some (([] : List Int), t304)) = some (r1, r2) := H; have A19 := AQ A190; clear A190; simp only [Option.some.injEq, Prod.mk.injEq] at H; obtain ⟨rfl, rfl⟩ := H; go_wp2_with (first | ((with_reducible refine gate_dst (N := 33) rfl ?_); refine Kd.R_lit (Kd.int .i64) _ 3 ?hg (N := 33) ?hd (xs := ([a1] : List Int)) (inner := [.int .i64 a1]) (ok := fun _ => True) (okp := fun _ => True) ?hr ?hp (fun _ hk => hk) trivial (Below.refl _ _) (Nat.le_refl _) (by simp) ?_; (case hd => rfl); (case hg => rfl); (case hr => first | (go_simp; done) | (go_simp; rfl)); (case hp => exact (Reps.one (show Kd.M (Kd.int .i64) _ _ _ a1 [.int .i64 a1] from rfl) (Reps.none _ _))); intro v283 w20 ho21 hb hg_ hnew_; clear hg_ hnew_; (first | rw [← Ny282.out] at ho21 | (simp only [Int.reduceToNat] at ho21; rw [← Ny282.out] at ho21)); have n0_ := AQ (Kd.R_lower ho21 (below_size (PB HB))); have n1_ := AQ (below_step (PB HB) hb); clear HB; have HO284 := n0_; have HB := n1_; clear n0_ n1_; clear hb ho21; have p285 : 0 ≤ (0 : Int) := (by omega); have q285 : 0 < (l0.length : Int) := PD; obtain ⟨ad285, A285_2, c285_2, A285_3, c285_3, e285, hx285_0, hx285_1, hx285_2, hx285_3, hx285_4, hl285_2, hi285_2, hl285_3, hi285_3⟩ := at0_T74 HR0.out q285; (try rw [← Nbq4.out] at hx285_4); obtain rfl : ad900 = ad285 := (by injection e285); have qi285 : (0 < l0.length) = True := eq_true (by omega); (first | replace hx285_0 := PH HB hx285_0 | skip); (first | replace hx285_1 := PH HB hx285_1 | skip); (first | replace hx285_2 := PH HB hx285_2 | skip); (first | replace hx285_3 := PH HB hx285_3 | skip); (first | replace hx285_4 := PH HB hx285_4 | skip); have HR285_2 := AQ hi285_2; have HC285_2 := AQ hl285_2; clear hi285_2 hl285_2; have HR285_3 := AQ hi285_3; have HC285_3 := AQ hl285_3; clear hi285_3 hl285_3; replace p285 := eq_true p285; replace q285 := eq_true q285; obtain ⟨Ao22, co22, eo22⟩ := Kd.R_slice HO284.out; subst eo22) | ((with_reducible refine gate_callee (f := 35) rfl ?_); refine gL (some 38) rfl rfl Tryd.func35 #[.slice Ao22 y282.length co22, .int .i64 ((rd_T74 l0 0).f0)] rfl ?_; (with_reducible refine (packed_Pack.calls kj7 _ _ y282 ((rd_T74 l0 0).f0) t286 t287 _ ?side1 ?side2 A14.out).mono ?_); (case side1 => exact QC HO284); (case side2 => exact (Kd.R_reads' HO284.out).2.1); rintro e w23 ⟨v288, v290, rfl, ho0, ho1, hb⟩; refine ⟨_, rfl, ?_⟩; have n0_ := AQ (Kd.R_below (PR HO284) hb); have n1_ := AQ (Kd.R_lower ho0 (below_size (PB HB))); have n2_ := AQ (Kd.R_lower ho1 (below_size (PB HB))); have n3_ := AQ (below_step (PB HB) hb); clear HO284; clear HB; have HO284 := n0_; have HO289 := n1_; have HO291 := n2_; have HB := n3_; clear n0_ n1_ n2_ n3_; (try clear hb); (try clear hb2); (try clear hk); (try clear hi); (try clear ho0); (try clear ho1); have p292 : 0 ≤ (0 : Int) := (by omega); have q292 : 0 < (l0.length : Int) := PD; obtain ⟨ad292, A292_2, c292_2, A292_3, c292_3, e292, hx292_0, hx292_1, hx292_2, hx292_3, hx292_4, hl292_2, hi292_2, hl292_3, hi292_3⟩ := at0_T74 HR0.out q292; (try rw [← Nbq4.out] at hx292_4); obtain rfl : ad900 = ad292 := (by injection e292); have qi292 : (0 < l0.length) = True := eq_true (by omega); (first | replace hx292_0 := PH HB hx292_0 | skip); (first | replace hx292_1 := PH HB hx292_1 | skip); (first | replace hx292_2 := PH HB hx292_2 | skip); (first | replace hx292_3 := PH HB hx292_3 | skip); (first | replace hx292_4 := PH HB hx292_4 | skip); have HR292_2 := AQ hi292_2; have HC292_2 := AQ hl292_2; clear hi292_2 hl292_2; have HR292_3 := AQ hi292_3; have HC292_3 := AQ hl292_3; clear hi292_3 hl292_3; replace p292 := eq_true p292; replace q292 := eq_true q292) | ((with_reducible refine gate_dst (N := 48) rfl ?_); refine Kd.R_make (Kd.int .u8) _ 5 rfl (N := 48) rfl 36 _ _ rfl ((rd_T74 l0 0).f1) rfl rfl Tryd.underlying36 (.int .u8 0) 1 info5 rfl (by decide) (by omega) 0 (ok := fun _ => True) (okp := fun _ => True) rfl (fun _ hk => hk) trivial (PD) (Nat.le_trans (Nat.mul_le_mul_right _ (PD : ((rd_T74 l0 0).f1).toNat ≤ 281474976710656)) (by omega)) (Below.refl _ _) (Nat.le_refl _) ?_; intro v294 w24 ho25 hb hg_ hnew_; clear hg_ hnew_; (first | rw [← Ny293.out] at ho25 | (simp only [Int.reduceToNat] at ho25; rw [← Ny293.out] at ho25)); have n0_ := AQ (Kd.R_below (PR HO284) hb); have n1_ := AQ (Kd.R_below (PR HO289) hb); have n2_ := AQ (Kd.R_below (PR HO291) hb); have n3_ := AQ (Kd.R_lower ho25 (below_size (PB HB))); have n4_ := AQ (below_step (PB HB) hb); clear HO284; clear HO289; clear HO291; clear HB; have HO284 := n0_; have HO289 := n1_; have HO291 := n2_; have HO295 := n3_; have HB := n4_; clear n0_ n1_ n2_ n3_ n4_; clear hb ho25; obtain ⟨Ao26, co26, eo26⟩ := Kd.R_slice HO295.out; subst eo26; obtain ⟨Ao27, co27, eo27⟩ := Kd.R_slice HO289.out; subst eo27) | ((with_reducible refine gate_callee (f := 30) rfl ?_); refine gL (some 50) rfl rfl Tryd.func30 #[.pointer (some ad900), .agg #[.slice Ao27 t286.length co27, .slice Ao26 y293.length co26]] rfl ?_; (with_reducible refine (elimM_down.calls kj7 _ l0 _ _ t286 _ _ y293 t296 t299 t302 _ ?side1 ?side2 ?side3 ?side4 ?side5 ?side6 A17.out).mono ?_); (case side1 => first | exact HT.out | exact TabIn.below HT.out (PB HB) | (repeat (first | apply TabIn.drewN | apply TabIn.drew | exact HT.out))); (case side2 => repeat (first | exact (Kd.C_below HR0.out HB.out) | (with_reducible refine Kd.C_alloc ?_ _) | (with_reducible refine Kd.C_drewN ?_ _) | (with_reducible refine Kd.C_drew ?_))); (case side3 => exact QC HO289); (case side4 => exact (Kd.R_reads' HO289.out).2.1); (case side5 => exact QC HO295); (case side6 => exact (Kd.R_reads' HO295.out).2.1); rintro e w28 ⟨v297, v300, rfl, ho0, ho1, hb⟩; refine ⟨_, rfl, ?_⟩; have n0_ := AQ (Kd.R_below (PR HO284) hb); have n1_ := AQ (Kd.R_elder' (PR HO289) (Kd.R_base ho0) hb); have n2_ := AQ (Kd.R_below (PR HO291) hb); have n3_ := AQ (Kd.R_elder' (PR HO295) (Kd.R_base ho1) hb); have n4_ := AQ (Kd.R_lower (Kd.R_new' ho0 (Kd.R_lt (PR HO289))) (below_size (PB HB))); have n5_ := AQ (Kd.R_lower (Kd.R_new' ho1 (Kd.R_lt (PR HO295))) (below_size (PB HB))); have n6_ := AQ (below_step (PB HB) hb); clear HO284; clear HO289; clear HO291; clear HO295; clear HB; have HO284 := n0_; have HO289 := n1_; have HO291 := n2_; have HO295 := n3_; have HO298 := n4_; have HO301 := n5_; have HB := n6_; clear n0_ n1_ n2_ n3_ n4_ n5_ n6_; (try clear hb); (try clear hb2); (try clear hk); (try clear hi); (try clear ho0); (try clear ho1)) | ((with_reducible refine gate_dst (N := 8) rfl ?_); refine box_event ?hg (N := 8) ?hd (cs := #[.slice none 0 0, .slice none 0 0]) (t := 77) ?hr ?_; (case hd => rfl); (case hg => rfl); (case hr => first | (go_simp; done) | (go_simp; rfl)); intro gb303 hg w29 hbox hb; have n0_ := AQ (Kd.R_below (PR HO284) hb); have n1_ := AQ (Kd.R_below (PR HO289) hb); have n2_ := AQ (Kd.R_below (PR HO291) hb); have n3_ := AQ (Kd.R_below (PR HO295) hb); have n4_ := AQ (Kd.R_below (PR HO298) hb); have n5_ := AQ (Kd.R_below (PR HO301) hb); have n6_ := AQ (below_step (PB HB) hb); have n7_ := AQ (hbox); have n8_ := AQ ((by rw [hg]; exact (below_size (PB HB)) : w.heap.size ≤ gb303)); have n9_ := AQ ((by rw [hg]; exact (below_size (PB HB)) : w.heap.size ≤ gb303)); clear HO284; clear HO289; clear HO291; clear HO295; clear HO298; clear HO301; clear HB; have HO284 := n0_; have HO289 := n1_; have HO291 := n2_; have HO295 := n3_; have HO298 := n4_; have HO301 := n5_; have HB := n6_; have BK303 := n7_; have GW303 := n8_; have GE303 := n9_; clear n0_ n1_ n2_ n3_ n4_ n5_ n6_ n7_ n8_ n9_; clear hb hbox hg; obtain ⟨Ao30, co30, eo30⟩ := Kd.R_slice HO298.out; subst eo30; have hcz31_0 : w29.cell? ⟨gb303, 0, none⟩ = some (.slice none 0 0) := (blk_cell BK303.out 0).trans rfl; have hcz31_1 : w29.cell? ⟨gb303, 1, none⟩ = some (.slice none 0 0) := (blk_cell BK303.out 1).trans rfl; have hfz31_0 := blk_frozen BK303.out 0; have hfz31_1 := blk_frozen BK303.out 1; obtain ⟨Ao32, co32, eo32⟩ := Kd.R_slice HO301.out; subst eo32) | ((with_reducible refine gate_callee (f := 28) rfl ?_); refine gL (some 55) rfl rfl Tryd.func28 #[.string (⟨#[101, 108, 105, 109, 46, 86, 97, 108, 117, 101]⟩ : ByteArray), .int .i64 4] rfl ?_; (with_reducible refine (fault_New.calls (⟨#[101, 108, 105, 109, 46, 86, 97, 108, 117, 101]⟩ : ByteArray) 4 t304 _ A19.out).mono ?_); rintro e w33 ⟨v305, rfl, ho0, hb⟩; refine ⟨_, rfl, ?_⟩; have n0_ := AQ (Kd.R_below (PR (AQ (Kd.R_mono (Kd.R_far (p := ⟨gb303, 1, none⟩) (Kd.R_far (p := ⟨gb303, 0, none⟩) (Kd.R_types HO284.out BK303.out (by decide)) (fun _ hk => hk.2) (.slice Ao30 t296.length co30)) (fun _ hk => hk.2) (.slice Ao32 t299.length co32)) (fun _ h_ => h_.1)))) hb); have n1_ := AQ (Kd.R_below (PR (AQ (Kd.R_mono (Kd.R_far (p := ⟨gb303, 1, none⟩) (Kd.R_far (p := ⟨gb303, 0, none⟩) (Kd.R_types HO289.out BK303.out (by decide)) (fun _ hk => hk.2) (.slice Ao30 t296.length co30)) (fun _ hk => hk.2) (.slice Ao32 t299.length co32)) (fun _ h_ => h_.1)))) hb); have n2_ := AQ (Kd.R_below (PR (AQ (Kd.R_mono (Kd.R_far (p := ⟨gb303, 1, none⟩) (Kd.R_far (p := ⟨gb303, 0, none⟩) (Kd.R_types HO291.out BK303.out (by decide)) (fun _ hk => hk.2) (.slice Ao30 t296.length co30)) (fun _ hk => hk.2) (.slice Ao32 t299.length co32)) (fun _ h_ => h_.1)))) hb); have n3_ := AQ (Kd.R_below (PR (AQ (Kd.R_mono (Kd.R_far (p := ⟨gb303, 1, none⟩) (Kd.R_far (p := ⟨gb303, 0, none⟩) (Kd.R_types HO295.out BK303.out (by decide)) (fun _ hk => hk.2) (.slice Ao30 t296.length co30)) (fun _ hk => hk.2) (.slice Ao32 t299.length co32)) (fun _ h_ => h_.1)))) hb); have n4_ := AQ (Kd.R_below (PR (AQ (Kd.R_mono (Kd.R_far (p := ⟨gb303, 1, none⟩) (Kd.R_far (p := ⟨gb303, 0, none⟩) (Kd.R_types HO298.out BK303.out (by decide)) (fun _ hk => hk.2) (.slice Ao30 t296.length co30)) (fun _ hk => hk.2) (.slice Ao32 t299.length co32)) (fun _ h_ => h_.1)))) hb); have n5_ := AQ (Kd.R_below (PR (AQ (Kd.R_mono (Kd.R_far (p := ⟨gb303, 1, none⟩) (Kd.R_far (p := ⟨gb303, 0, none⟩) (Kd.R_types HO301.out BK303.out (by decide)) (fun _ hk => hk.2) (.slice Ao30 t296.length co30)) (fun _ hk => hk.2) (.slice Ao32 t299.length co32)) (fun _ h_ => h_.1)))) hb); have n6_ := AQ (Kd.R_lower ho0 (below_size (PX HB))); have n7_ := AQ (blk_below (g := gb303) (o := .cells #[.slice Ao30 t296.length co30, .slice Ao32 t299.length co32] 77 (0, 0)) (by (with_reducible repeat (first | refine blk_drewN ?_ _ | refine blk_drew ?_ | refine blk_alloc ?_ _)); refine blk_put (cs := #[.slice Ao30 t296.length co30, .slice none 0 0]) ?_ 1 _ rfl; (with_reducible repeat (first | refine blk_drewN ?_ _ | refine blk_drew ?_ | refine blk_alloc ?_ _)); refine blk_put (cs := #[.slice none 0 0, .slice none 0 0]) ?_ 0 _ rfl; exact PK BK303) hb); have n8_ := AQ (below_step (PX HB) hb); clear HO284; clear HO289; clear HO291; clear HO295; clear HO298; clear HO301; clear BK303; clear HB; have HO284 := n0_; have HO289 := n1_; have HO291 := n2_; have HO295 := n3_; have HO298 := n4_; have HO301 := n5_; have HO306 := n6_; have BK303 := n7_; have HB := n8_; clear n0_ n1_ n2_ n3_ n4_ n5_ n6_ n7_ n8_; (try clear hb); (try clear hb2); (try clear hk); (try clear hi); (try clear ho0))); go_ret2; exact ⟨_, _, by first | rfl | (simp [errW_none, errW_some] <;> rfl) | (simp [*, errW_none, errW_some] <;> rfl), by first | exact Kd.R_nil _ _ _ _ _ | exact Kd.N_nil _ _ _ _ _ | exact Kd.V_nil _ _ _ _ _ | exact Kd.Q_nil _ _ _ _ _ | exact Kd.S_nil _ _ _ _ _, PR HO306, PX HB⟩
         ·rw [if_neg c18] at H; have c18b0 : decide (0 ≤ t302) = false := decide_eq_false c18; clear c18; obtain ⟨y308, hy308⟩ : ∃ y_ : List Int, y_ = (List.replicate ((rd_T74 l0 0).f1 : Int).toNat 0) := ⟨_, rfl⟩; replace H : (some ((copyL y308 t299), ([] : List FE))) = some (r1, r2) := (by first | (rw [hy308]; with_reducible exact H) | (have H2_ := (Option.bind_some _ _).symm.trans H; rw [hy308]; with_reducible exact H2_) | (have H2_ := (Option.bind_some _ _).symm.trans H; with_reducible exact H2_) | with_reducible exact H | (rw [hy308]; exact H) | exact H); have Ny308 := AQ hy308; clear hy308; obtain ⟨y311, hy311⟩ : ∃ y_ : List Int, y_ = (copyL y308 t299) := ⟨_, rfl⟩; replace H : (some (y311, ([] : List FE))) = some (r1, r2) := (by first | (rw [hy311]; with_reducible exact H) | (have H2_ := (Option.bind_some _ _).symm.trans H; rw [hy311]; with_reducible exact H2_) | (have H2_ := (Option.bind_some _ _).symm.trans H; with_reducible exact H2_) | with_reducible exact H | (rw [hy311]; exact H) | exact H); have Ny311 := AQ hy311; clear hy311; simp only [Option.some.injEq, Prod.mk.injEq] at H; obtain ⟨rfl, rfl⟩ := H; go_wp2_with (first | ((with_reducible refine gate_dst (N := 33) rfl ?_); refine Kd.R_lit (Kd.int .i64) _ 3 ?hg (N := 33) ?hd (xs := ([a1] : List Int)) (inner := [.int .i64 a1]) (ok := fun _ => True) (okp := fun _ => True) ?hr ?hp (fun _ hk => hk) trivial (Below.refl _ _) (Nat.le_refl _) (by simp) ?_; (case hd => rfl); (case hg => rfl); (case hr => first | (go_simp; done) | (go_simp; rfl)); (case hp => exact (Reps.one (show Kd.M (Kd.int .i64) _ _ _ a1 [.int .i64 a1] from rfl) (Reps.none _ _))); intro v283 w34 ho35 hb hg_ hnew_; clear hg_ hnew_; (first | rw [← Ny282.out] at ho35 | (simp only [Int.reduceToNat] at ho35; rw [← Ny282.out] at ho35)); have n0_ := AQ (Kd.R_lower ho35 (below_size (PB HB))); have n1_ := AQ (below_step (PB HB) hb); clear HB; have HO284 := n0_; have HB := n1_; clear n0_ n1_; clear hb ho35; have p285 : 0 ≤ (0 : Int) := (by omega); have q285 : 0 < (l0.length : Int) := PD; obtain ⟨ad285, A285_2, c285_2, A285_3, c285_3, e285, hx285_0, hx285_1, hx285_2, hx285_3, hx285_4, hl285_2, hi285_2, hl285_3, hi285_3⟩ := at0_T74 HR0.out q285; (try rw [← Nbq4.out] at hx285_4); obtain rfl : ad900 = ad285 := (by injection e285); have qi285 : (0 < l0.length) = True := eq_true (by omega); (first | replace hx285_0 := PH HB hx285_0 | skip); (first | replace hx285_1 := PH HB hx285_1 | skip); (first | replace hx285_2 := PH HB hx285_2 | skip); (first | replace hx285_3 := PH HB hx285_3 | skip); (first | replace hx285_4 := PH HB hx285_4 | skip); have HR285_2 := AQ hi285_2; have HC285_2 := AQ hl285_2; clear hi285_2 hl285_2; have HR285_3 := AQ hi285_3; have HC285_3 := AQ hl285_3; clear hi285_3 hl285_3; replace p285 := eq_true p285; replace q285 := eq_true q285; obtain ⟨Ao36, co36, eo36⟩ := Kd.R_slice HO284.out; subst eo36) | ((with_reducible refine gate_callee (f := 35) rfl ?_); refine gL (some 38) rfl rfl Tryd.func35 #[.slice Ao36 y282.length co36, .int .i64 ((rd_T74 l0 0).f0)] rfl ?_; (with_reducible refine (packed_Pack.calls kj7 _ _ y282 ((rd_T74 l0 0).f0) t286 t287 _ ?side1 ?side2 A14.out).mono ?_); (case side1 => exact QC HO284); (case side2 => exact (Kd.R_reads' HO284.out).2.1); rintro e w37 ⟨v288, v290, rfl, ho0, ho1, hb⟩; refine ⟨_, rfl, ?_⟩; have n0_ := AQ (Kd.R_below (PR HO284) hb); have n1_ := AQ (Kd.R_lower ho0 (below_size (PB HB))); have n2_ := AQ (Kd.R_lower ho1 (below_size (PB HB))); have n3_ := AQ (below_step (PB HB) hb); clear HO284; clear HB; have HO284 := n0_; have HO289 := n1_; have HO291 := n2_; have HB := n3_; clear n0_ n1_ n2_ n3_; (try clear hb); (try clear hb2); (try clear hk); (try clear hi); (try clear ho0); (try clear ho1); have p292 : 0 ≤ (0 : Int) := (by omega); have q292 : 0 < (l0.length : Int) := PD; obtain ⟨ad292, A292_2, c292_2, A292_3, c292_3, e292, hx292_0, hx292_1, hx292_2, hx292_3, hx292_4, hl292_2, hi292_2, hl292_3, hi292_3⟩ := at0_T74 HR0.out q292; (try rw [← Nbq4.out] at hx292_4); obtain rfl : ad900 = ad292 := (by injection e292); have qi292 : (0 < l0.length) = True := eq_true (by omega); (first | replace hx292_0 := PH HB hx292_0 | skip); (first | replace hx292_1 := PH HB hx292_1 | skip); (first | replace hx292_2 := PH HB hx292_2 | skip); (first | replace hx292_3 := PH HB hx292_3 | skip); (first | replace hx292_4 := PH HB hx292_4 | skip); have HR292_2 := AQ hi292_2; have HC292_2 := AQ hl292_2; clear hi292_2 hl292_2; have HR292_3 := AQ hi292_3; have HC292_3 := AQ hl292_3; clear hi292_3 hl292_3; replace p292 := eq_true p292; replace q292 := eq_true q292) | ((with_reducible refine gate_dst (N := 48) rfl ?_); refine Kd.R_make (Kd.int .u8) _ 5 rfl (N := 48) rfl 36 _ _ rfl ((rd_T74 l0 0).f1) rfl rfl Tryd.underlying36 (.int .u8 0) 1 info5 rfl (by decide) (by omega) 0 (ok := fun _ => True) (okp := fun _ => True) rfl (fun _ hk => hk) trivial (PD) (Nat.le_trans (Nat.mul_le_mul_right _ (PD : ((rd_T74 l0 0).f1).toNat ≤ 281474976710656)) (by omega)) (Below.refl _ _) (Nat.le_refl _) ?_; intro v294 w38 ho39 hb hg_ hnew_; clear hg_ hnew_; (first | rw [← Ny293.out] at ho39 | (simp only [Int.reduceToNat] at ho39; rw [← Ny293.out] at ho39)); have n0_ := AQ (Kd.R_below (PR HO284) hb); have n1_ := AQ (Kd.R_below (PR HO289) hb); have n2_ := AQ (Kd.R_below (PR HO291) hb); have n3_ := AQ (Kd.R_lower ho39 (below_size (PB HB))); have n4_ := AQ (below_step (PB HB) hb); clear HO284; clear HO289; clear HO291; clear HB; have HO284 := n0_; have HO289 := n1_; have HO291 := n2_; have HO295 := n3_; have HB := n4_; clear n0_ n1_ n2_ n3_ n4_; clear hb ho39; obtain ⟨Ao40, co40, eo40⟩ := Kd.R_slice HO295.out; subst eo40; obtain ⟨Ao41, co41, eo41⟩ := Kd.R_slice HO289.out; subst eo41) | ((with_reducible refine gate_callee (f := 30) rfl ?_); refine gL (some 50) rfl rfl Tryd.func30 #[.pointer (some ad900), .agg #[.slice Ao41 t286.length co41, .slice Ao40 y293.length co40]] rfl ?_; (with_reducible refine (elimM_down.calls kj7 _ l0 _ _ t286 _ _ y293 t296 t299 t302 _ ?side1 ?side2 ?side3 ?side4 ?side5 ?side6 A17.out).mono ?_); (case side1 => first | exact HT.out | exact TabIn.below HT.out (PB HB) | (repeat (first | apply TabIn.drewN | apply TabIn.drew | exact HT.out))); (case side2 => repeat (first | exact (Kd.C_below HR0.out HB.out) | (with_reducible refine Kd.C_alloc ?_ _) | (with_reducible refine Kd.C_drewN ?_ _) | (with_reducible refine Kd.C_drew ?_))); (case side3 => exact QC HO289); (case side4 => exact (Kd.R_reads' HO289.out).2.1); (case side5 => exact QC HO295); (case side6 => exact (Kd.R_reads' HO295.out).2.1); rintro e w42 ⟨v297, v300, rfl, ho0, ho1, hb⟩; refine ⟨_, rfl, ?_⟩; have n0_ := AQ (Kd.R_below (PR HO284) hb); have n1_ := AQ (Kd.R_elder' (PR HO289) (Kd.R_base ho0) hb); have n2_ := AQ (Kd.R_below (PR HO291) hb); have n3_ := AQ (Kd.R_elder' (PR HO295) (Kd.R_base ho1) hb); have n4_ := AQ (Kd.R_lower (Kd.R_new' ho0 (Kd.R_lt (PR HO289))) (below_size (PB HB))); have n5_ := AQ (Kd.R_lower (Kd.R_new' ho1 (Kd.R_lt (PR HO295))) (below_size (PB HB))); have n6_ := AQ (below_step (PB HB) hb); clear HO284; clear HO289; clear HO291; clear HO295; clear HB; have HO284 := n0_; have HO289 := n1_; have HO291 := n2_; have HO295 := n3_; have HO298 := n4_; have HO301 := n5_; have HB := n6_; clear n0_ n1_ n2_ n3_ n4_ n5_ n6_; (try clear hb); (try clear hb2); (try clear hk); (try clear hi); (try clear ho0); (try clear ho1)) | ((with_reducible refine gate_dst (N := 8) rfl ?_); refine box_event ?hg (N := 8) ?hd (cs := #[.slice none 0 0, .slice none 0 0]) (t := 77) ?hr ?_; (case hd => rfl); (case hg => rfl); (case hr => first | (go_simp; done) | (go_simp; rfl)); intro gb303 hg w43 hbox hb; have n0_ := AQ (Kd.R_below (PR HO284) hb); have n1_ := AQ (Kd.R_below (PR HO289) hb); have n2_ := AQ (Kd.R_below (PR HO291) hb); have n3_ := AQ (Kd.R_below (PR HO295) hb); have n4_ := AQ (Kd.R_below (PR HO298) hb); have n5_ := AQ (Kd.R_below (PR HO301) hb); have n6_ := AQ (below_step (PB HB) hb); have n7_ := AQ (hbox); have n8_ := AQ ((by rw [hg]; exact (below_size (PB HB)) : w.heap.size ≤ gb303)); have n9_ := AQ ((by rw [hg]; exact (below_size (PB HB)) : w.heap.size ≤ gb303)); clear HO284; clear HO289; clear HO291; clear HO295; clear HO298; clear HO301; clear HB; have HO284 := n0_; have HO289 := n1_; have HO291 := n2_; have HO295 := n3_; have HO298 := n4_; have HO301 := n5_; have HB := n6_; have BK303 := n7_; have GW303 := n8_; have GE303 := n9_; clear n0_ n1_ n2_ n3_ n4_ n5_ n6_ n7_ n8_ n9_; clear hb hbox hg; obtain ⟨Ao44, co44, eo44⟩ := Kd.R_slice HO298.out; subst eo44; have hcz45_0 : w43.cell? ⟨gb303, 0, none⟩ = some (.slice none 0 0) := (blk_cell BK303.out 0).trans rfl; have hcz45_1 : w43.cell? ⟨gb303, 1, none⟩ = some (.slice none 0 0) := (blk_cell BK303.out 1).trans rfl; have hfz45_0 := blk_frozen BK303.out 0; have hfz45_1 := blk_frozen BK303.out 1; obtain ⟨Ao46, co46, eo46⟩ := Kd.R_slice HO301.out; subst eo46; have p307 : 0 ≤ (0 : Int) := (by omega); have q307 : 0 < (l0.length : Int) := PD; obtain ⟨ad307, A307_2, c307_2, A307_3, c307_3, e307, hx307_0, hx307_1, hx307_2, hx307_3, hx307_4, hl307_2, hi307_2, hl307_3, hi307_3⟩ := at0_T74 HR0.out q307; (try rw [← Nbq4.out] at hx307_4); obtain rfl : ad900 = ad307 := (by injection e307); have qi307 : (0 < l0.length) = True := eq_true (by omega); have hn307_0 : ad900.block ≠ gb303 := Nat.ne_of_lt (Nat.lt_of_lt_of_le (by have := World.block_lt_of_cell? _ _ hx307_0; first | rwa [add_block] at this | exact this) GW303.out); have hn307_1 : ad900.block ≠ gb303 := Nat.ne_of_lt (Nat.lt_of_lt_of_le (by have := World.block_lt_of_cell? _ _ hx307_0; first | rwa [add_block] at this | exact this) GW303.out); (first | replace hx307_0 := PH HB hx307_0 | skip); (first | replace hx307_1 := PH HB hx307_1 | skip); (first | replace hx307_2 := PH HB hx307_2 | skip); (first | replace hx307_3 := PH HB hx307_3 | skip); (first | replace hx307_4 := PH HB hx307_4 | skip); have HR307_2 := AQ hi307_2; have HC307_2 := AQ hl307_2; clear hi307_2 hl307_2; have HR307_3 := AQ hi307_3; have HC307_3 := AQ hl307_3; clear hi307_3 hl307_3; replace hx307_0 := (cell_far (p := ⟨gb303, 0, none⟩) (by first | (rw [add_block]; exact hn307_0) | (show (Addr.add _ _).block ≠ _; rw [add_block]; exact hn307_0) | exact hn307_0) (.slice Ao44 t296.length co44)).trans hx307_0; replace hx307_1 := (cell_far (p := ⟨gb303, 0, none⟩) (by first | (rw [add_block]; exact hn307_0) | (show (Addr.add _ _).block ≠ _; rw [add_block]; exact hn307_0) | exact hn307_0) (.slice Ao44 t296.length co44)).trans hx307_1; replace hx307_2 := (cell_far (p := ⟨gb303, 0, none⟩) (by first | (rw [add_block]; exact hn307_0) | (show (Addr.add _ _).block ≠ _; rw [add_block]; exact hn307_0) | exact hn307_0) (.slice Ao44 t296.length co44)).trans hx307_2; replace hx307_3 := (cell_far (p := ⟨gb303, 0, none⟩) (by first | (rw [add_block]; exact hn307_0) | (show (Addr.add _ _).block ≠ _; rw [add_block]; exact hn307_0) | exact hn307_0) (.slice Ao44 t296.length co44)).trans hx307_3; replace hx307_4 := (cell_far (p := ⟨gb303, 0, none⟩) (by first | (rw [add_block]; exact hn307_0) | (show (Addr.add _ _).block ≠ _; rw [add_block]; exact hn307_0) | exact hn307_0) (.slice Ao44 t296.length co44)).trans hx307_4; replace hx307_0 := (cell_far (p := ⟨gb303, 1, none⟩) (by first | (rw [add_block]; exact hn307_1) | (show (Addr.add _ _).block ≠ _; rw [add_block]; exact hn307_1) | exact hn307_1) (.slice Ao46 t299.length co46)).trans hx307_0; replace hx307_1 := (cell_far (p := ⟨gb303, 1, none⟩) (by first | (rw [add_block]; exact hn307_1) | (show (Addr.add _ _).block ≠ _; rw [add_block]; exact hn307_1) | exact hn307_1) (.slice Ao46 t299.length co46)).trans hx307_1; replace hx307_2 := (cell_far (p := ⟨gb303, 1, none⟩) (by first | (rw [add_block]; exact hn307_1) | (show (Addr.add _ _).block ≠ _; rw [add_block]; exact hn307_1) | exact hn307_1) (.slice Ao46 t299.length co46)).trans hx307_2; replace hx307_3 := (cell_far (p := ⟨gb303, 1, none⟩) (by first | (rw [add_block]; exact hn307_1) | (show (Addr.add _ _).block ≠ _; rw [add_block]; exact hn307_1) | exact hn307_1) (.slice Ao46 t299.length co46)).trans hx307_3; replace hx307_4 := (cell_far (p := ⟨gb303, 1, none⟩) (by first | (rw [add_block]; exact hn307_1) | (show (Addr.add _ _).block ≠ _; rw [add_block]; exact hn307_1) | exact hn307_1) (.slice Ao46 t299.length co46)).trans hx307_4; clear hn307_0; clear hn307_1; replace p307 := eq_true p307; replace q307 := eq_true q307) | ((with_reducible refine gate_dst (N := 60) rfl ?_); refine Kd.R_make (Kd.int .u8) _ 5 rfl (N := 60) rfl 36 _ _ rfl ((rd_T74 l0 0).f1) rfl rfl Tryd.underlying36 (.int .u8 0) 1 info5 rfl (by decide) (by omega) 0 (ok := fun _ => True) (okp := fun _ => True) rfl (fun _ hk => hk) trivial (PD) (Nat.le_trans (Nat.mul_le_mul_right _ (PD : ((rd_T74 l0 0).f1).toNat ≤ 281474976710656)) (by omega)) (Below.refl _ _) (Nat.le_refl _) ?_; intro v309 w47 ho48 hb hg_ hnew_; clear hg_ hnew_; (first | rw [← Ny308.out] at ho48 | (simp only [Int.reduceToNat] at ho48; rw [← Ny308.out] at ho48)); have n0_ := AQ (Kd.R_below (PR (AQ (Kd.R_mono (Kd.R_far (p := ⟨gb303, 1, none⟩) (Kd.R_far (p := ⟨gb303, 0, none⟩) (Kd.R_types HO284.out BK303.out (by decide)) (fun _ hk => hk.2) (.slice Ao44 t296.length co44)) (fun _ hk => hk.2) (.slice Ao46 t299.length co46)) (fun _ h_ => h_.1)))) hb); have n1_ := AQ (Kd.R_below (PR (AQ (Kd.R_mono (Kd.R_far (p := ⟨gb303, 1, none⟩) (Kd.R_far (p := ⟨gb303, 0, none⟩) (Kd.R_types HO289.out BK303.out (by decide)) (fun _ hk => hk.2) (.slice Ao44 t296.length co44)) (fun _ hk => hk.2) (.slice Ao46 t299.length co46)) (fun _ h_ => h_.1)))) hb); have n2_ := AQ (Kd.R_below (PR (AQ (Kd.R_mono (Kd.R_far (p := ⟨gb303, 1, none⟩) (Kd.R_far (p := ⟨gb303, 0, none⟩) (Kd.R_types HO291.out BK303.out (by decide)) (fun _ hk => hk.2) (.slice Ao44 t296.length co44)) (fun _ hk => hk.2) (.slice Ao46 t299.length co46)) (fun _ h_ => h_.1)))) hb); have n3_ := AQ (Kd.R_elder' (PR (AQ (Kd.R_mono (Kd.R_far (p := ⟨gb303, 1, none⟩) (Kd.R_far (p := ⟨gb303, 0, none⟩) (Kd.R_types HO295.out BK303.out (by decide)) (fun _ hk => hk.2) (.slice Ao44 t296.length co44)) (fun _ hk => hk.2) (.slice Ao46 t299.length co46)) (fun _ h_ => h_.1)))) (Kd.R_base ho48) hb); have n4_ := AQ (Kd.R_below (PR (AQ (Kd.R_mono (Kd.R_far (p := ⟨gb303, 1, none⟩) (Kd.R_far (p := ⟨gb303, 0, none⟩) (Kd.R_types HO298.out BK303.out (by decide)) (fun _ hk => hk.2) (.slice Ao44 t296.length co44)) (fun _ hk => hk.2) (.slice Ao46 t299.length co46)) (fun _ h_ => h_.1)))) hb); have n5_ := AQ (Kd.R_elder' (PR (AQ (Kd.R_mono (Kd.R_far (p := ⟨gb303, 1, none⟩) (Kd.R_far (p := ⟨gb303, 0, none⟩) (Kd.R_types HO301.out BK303.out (by decide)) (fun _ hk => hk.2) (.slice Ao44 t296.length co44)) (fun _ hk => hk.2) (.slice Ao46 t299.length co46)) (fun _ h_ => h_.1)))) (Kd.R_base ho48) hb); have n6_ := AQ (Kd.R_lower (Kd.R_new' (Kd.R_new' ho48 (Kd.R_lt (PR (AQ (Kd.R_mono (Kd.R_far (p := ⟨gb303, 1, none⟩) (Kd.R_far (p := ⟨gb303, 0, none⟩) (Kd.R_types HO295.out BK303.out (by decide)) (fun _ hk => hk.2) (.slice Ao44 t296.length co44)) (fun _ hk => hk.2) (.slice Ao46 t299.length co46)) (fun _ h_ => h_.1)))))) (Kd.R_lt (PR (AQ (Kd.R_mono (Kd.R_far (p := ⟨gb303, 1, none⟩) (Kd.R_far (p := ⟨gb303, 0, none⟩) (Kd.R_types HO301.out BK303.out (by decide)) (fun _ hk => hk.2) (.slice Ao44 t296.length co44)) (fun _ hk => hk.2) (.slice Ao46 t299.length co46)) (fun _ h_ => h_.1)))))) (below_size (PX HB))); have n7_ := AQ (blk_below (g := gb303) (o := .cells #[.slice Ao44 t296.length co44, .slice Ao46 t299.length co46] 77 (0, 0)) (by (with_reducible repeat (first | refine blk_drewN ?_ _ | refine blk_drew ?_ | refine blk_alloc ?_ _)); refine blk_put (cs := #[.slice Ao44 t296.length co44, .slice none 0 0]) ?_ 1 _ rfl; (with_reducible repeat (first | refine blk_drewN ?_ _ | refine blk_drew ?_ | refine blk_alloc ?_ _)); refine blk_put (cs := #[.slice none 0 0, .slice none 0 0]) ?_ 0 _ rfl; exact PK BK303) hb); have n8_ := AQ (below_step (PX HB) hb); clear HO284; clear HO289; clear HO291; clear HO295; clear HO298; clear HO301; clear BK303; clear HB; have HO284 := n0_; have HO289 := n1_; have HO291 := n2_; have HO295 := n3_; have HO298 := n4_; have HO301 := n5_; have HO310 := n6_; have BK303 := n7_; have HB := n8_; clear n0_ n1_ n2_ n3_ n4_ n5_ n6_ n7_ n8_; clear hb ho48; have hcz49_0 : w47.cell? ⟨gb303, 0, none⟩ = some (.slice Ao44 t296.length co44) := (blk_cell BK303.out 0).trans rfl; have hcz49_1 : w47.cell? ⟨gb303, 1, none⟩ = some (.slice Ao46 t299.length co46) := (blk_cell BK303.out 1).trans rfl; have hfz49_0 := blk_frozen BK303.out 0; have hfz49_1 := blk_frozen BK303.out 1; obtain ⟨Ao50, co50, eo50⟩ := Kd.R_slice HO310.out; subst eo50; have n_ := AQ (Kd.R_mono (ok' := (fun k_ => some k_ ≠ (.slice Ao40 y293.length co40 : Value).ownBlock ∧ some k_ ≠ (.slice Ao46 t299.length co46 : Value).ownBlock)) HO310.out (fun k_ hk => ⟨hk.1.2, hk.2⟩)); clear HO310; have HO310 := n_; clear n_) | ((with_reducible refine gate_builtin (b := .copy) (xs := #[.tmp 61, .tmp 63]) rfl ?_); refine R_copy_event (w0 := w) w.heap.size rfl (.tmp 61) (.tmp 63) 36 36 rfl 5 Tryd.underlying36 (by kernel_rfl) (.slice Ao50 y308.length co50) y308 Ao46 _ co46 t299 (fun k_ => some k_ ≠ (.slice Ao40 y293.length co40 : Value).ownBlock ∧ some k_ ≠ (.slice Ao46 t299.length co46 : Value).ownBlock) rfl rfl (PR HO310) ?cS (PX HB) ?_; (case cS => exact QC HO301); intro w52 hp_ hb_ hg; rw [← Ny311.out] at hp_; have hw := True.intro; have n0_ := AQ (Kd.R_over' (v := (.slice Ao50 y308.length co50)) (PR HO284) (Kd.R_typed HO310.out) (by decide) hg); have n1_ := AQ (Kd.R_over' (v := (.slice Ao50 y308.length co50)) (PR HO289) (Kd.R_typed HO310.out) (by decide) hg); have n2_ := AQ (Kd.R_over' (v := (.slice Ao50 y308.length co50)) (PR HO291) (Kd.R_typed HO310.out) (by decide) hg); have n3_ := AQ (Kd.R_after (v := (.slice Ao50 y308.length co50)) (v1 := (.slice Ao50 y308.length co50)) (ok := (fun k_ => some k_ ≠ (.slice Ao46 t299.length co46 : Value).ownBlock)) (by (with_reducible repeat (first | apply Kd.R_alloc | apply Kd.R_drewN | apply Kd.R_drew)); exact Kd.R_mono HO295.out (fun _ hk => ⟨hk.1.2, hk.2⟩)) hg (.inl rfl)); have n4_ := AQ (Kd.R_over' (v := (.slice Ao50 y308.length co50)) (PR HO298) (Kd.R_typed HO310.out) (by decide) hg); have n5_ := AQ (Kd.R_after (v := (.slice Ao50 y308.length co50)) (v1 := (.slice Ao50 y308.length co50)) (ok := (fun k_ => some k_ ≠ (.slice Ao40 y293.length co40 : Value).ownBlock)) (by (with_reducible repeat (first | apply Kd.R_alloc | apply Kd.R_drewN | apply Kd.R_drew)); exact Kd.R_mono HO301.out (fun _ hk => ⟨hk.1.2, hk.2⟩)) hg (.inl rfl)); have n6_ := AQ (blk_grown (g := gb303) (o := .cells #[.slice Ao44 t296.length co44, .slice Ao46 t299.length co46] 77 (0, 0)) (PK BK303) hg (Kd.R_ne HO310.out BK303.out (by decide))); have n7_ := AQ (hp_); have n8_ := AQ (hb_); clear HO284; clear HO289; clear HO291; clear HO295; clear HO298; clear HO301; clear BK303; clear HO310; clear HB; have HO284 := n0_; have HO289 := n1_; have HO291 := n2_; have HO295 := n3_; have HO298 := n4_; have HO301 := n5_; have BK303 := n6_; have HO310 := n7_; have HB := n8_; clear n0_ n1_ n2_ n3_ n4_ n5_ n6_ n7_ n8_; clear hg hw hp_ hb_)); go_ret2; exact ⟨_, (.slice none 0 0), by first | rfl | (simp [errW_none, errW_some] <;> rfl) | (simp [*, errW_none, errW_some] <;> rfl), by (with_reducible repeat (first | apply Kd.R_alloc | apply Kd.R_drewN | apply Kd.R_drew)); exact Kd.R_mono HO310.out (fun _ hk => trivial), by first | exact Kd.R_nil _ _ _ _ _ | exact Kd.N_nil _ _ _ _ _ | exact Kd.V_nil _ _ _ _ _ | exact Kd.Q_nil _ _ _ _ _ | exact Kd.S_nil _ _ _ _ _, PX HB⟩
        ·rw [if_neg c16] at H; exact absurd H (by simp)
       ·rw [if_neg c15] at H; exact absurd H (by simp)
      ·rw [if_neg c13] at H; exact absurd H (by simp)
 ·rw [if_neg c3] at H; exact absurd H (by simp)
end Go.Proofs.YtjmgkknbgffbjaaDoor.P
namespace Go.Proofs.YtjmgkknbgffbjaaDoor.P
open Go.RowKit Go.Proofs.YtjmgkknbgffbjaaDoorW.PrintWords Go.Proofs.YtjmgkknbgffbjaaDoorW.PrintLast Go.Proofs.YtjmgkknbgffbjaaDoorW.PrintErr Go.Proofs.YtjmgkknbgffbjaaDoorW.PrintMore
attribute [local go_sem] max2_int min2_int max_two min_two max_three min_three max_four min_four run_eql_errOf run_neq_errOf eqGuard_errOf run_eql_ptrOf run_neq_ptrOf eqGuard_ptrOf   -- for this text's walks alone
set_option linter.unusedVariables false
set_option linter.unusedSimpArgs false
def elim_System_Value.f (k : Nat) (l0 : List S74) (a1 : Int) : Option (List Int × List FE) := if l0.length = 0 then some ([], [⟨(⟨#[101, 108, 105, 109, 46, 86, 97, 108, 117, 101]⟩ : ByteArray), true, 7⟩]) else elimM_Value.f k l0 a1
theorem elim_System_Value.mono : ∀ a0 a1 k, LeO (elim_System_Value.f k a0 a1) (elim_System_Value.f (k + 1) a0 a1) := by
 intro a0 a1 k; unfold elim_System_Value.f; exact LeO.ite (LeO.refl _) (elimM_Value.mono a0 a1 k)
theorem elim_System_Value.calls (k : Nat) (A0 : Option Addr) (c0 : Nat) (l0 : List S74) (a1 : Int) (r1 : List Int) (r2 : List FE) (w : World) (ht : TabIn w) (hr0 : Kd.C k74 w A0 l0.length l0) (hc0 : l0.length ≤ c0) (h : elim_System_Value.f k l0 a1 = some (r1, r2)) :
  Calls Tryd.prog 13 #[ptrOf (.slice A0 l0.length c0), .int .i64 a1] w fun e w' => ∃ v0_ v1_ : Value, e = .returned (.tuple #[v0_, (errOf v1_)]) ∧ Kd.R (Kd.int .u8) 5 w' w.heap.size (fun _ => True) v0_ r1 ∧ Kd.R kF 95 w' w.heap.size (fun _ => True) v1_ r2 ∧ Below w.heap.size w w' := by
 unfold elim_System_Value.f at h
 by_cases hz : l0.length = 0
 ·rw [if_pos hz] at h; obtain ⟨rfl, rfl⟩ := Prod.mk.inj (Option.some.inj h); rw [hz, ptrOf_zero]; refine (elim_Value.nil w _).mono fun e w' hx => ?_
  obtain ⟨v1_, he, h1, hb⟩ := hx; exact ⟨_, v1_, he, Kd.R_nil _ _ _ _ _, h1, hb⟩
 ·rw [if_neg hz] at h; obtain ⟨_, _, hA⟩ := id hr0; obtain ⟨ad, rfl, _⟩ := hA (Nat.pos_of_ne_zero hz); rw [ptrOf_pos _ _ _ hz]; exact elimM_Value.calls k ad l0 a1 r1 r2 w ht hr0 h
def fault_Wrap.f (a0 : ByteArray) (l1 : List FE) : Option (List FE) := match l1 with
 | [] => some []
 | [x] => some [⟨a0, false, wrapNum x⟩]
 | _ :: _ :: _ => none
theorem fault_Wrap.calls (a0 : ByteArray) (P1_ : Nat → Prop) (u9001_ : Value) (l1 : List FE) (r : List FE) (w0 w : World) (hB : Below w0.heap.size w0 w) (ho1 : Kd.R kF0 95 w w0.heap.size P1_ u9001_ l1) (h : fault_Wrap.f a0 l1 = some r) :
  Calls Tryd.prog 38 #[.string a0, errOf u9001_] w fun e w' => ∃ v0_ : Value, e = .returned (errOf v0_) ∧ Kd.R kF 95 w' w0.heap.size (fun k_ => (P1_ k_ ∨ w.heap.size ≤ k_)) v0_ r ∧ Below w0.heap.size w0 w' ∧ Kept w w' (fun k_ => P1_ k_) := by
 obtain ⟨A, c, rfl⟩ := Kd.R_slice ho1; unfold fault_Wrap.f at h
 match l1, ho1, h with
 | [], ho1, h =>
  obtain rfl := Option.some.inj h; rw [show errOf (.slice A ([] : List FE).length c) = .nilIface from rfl]; clear ho1; have HB := AQ hB; clear hB; go_enter Tryd.func38, Tryd.ntmps38; go_wp2; go_ret; exact ⟨.slice none 0 0, rfl, fault_none _ _ _, HB.out, Kept.refl _ _⟩
 | [x], ho1, h =>
  obtain rfl := Option.some.inj h; have HO := AQ ho1; rw [errOf_pos _ _ _ (by simp)]; have HB := AQ hB; clear hB ho1; go_enter Tryd.func38, Tryd.ntmps38; go_wp2; go_ret; exact ⟨.slice (some ⟨w.heap.size, 0, none⟩) 1 1, rfl, wrap_row w w0 P1_ a0 x A _ c HB.out.size HO.out, below_alloc HB.out _, (Kept.refl w _).alloc _⟩
end Go.Proofs.YtjmgkknbgffbjaaDoor.P
namespace Go.Proofs.YtjmgkknbgffbjaaDoor.P
open Go.RowKit Go.Proofs.YtjmgkknbgffbjaaDoorW.PrintWords Go.Proofs.YtjmgkknbgffbjaaDoorW.PrintLast Go.Proofs.YtjmgkknbgffbjaaDoorW.PrintErr Go.Proofs.YtjmgkknbgffbjaaDoorW.PrintMore
attribute [local go_sem] max2_int min2_int max_two min_two max_three min_three max_four min_four run_eql_errOf run_neq_errOf eqGuard_errOf   -- for this text's walks alone
set_option linter.unusedVariables false
set_option linter.unusedSimpArgs false
def elimM_All.l0 : Nat → List (S74) → List (List Int) → Int → Int → Option ((List (List Int)) × List FE)
 | 0, _, _, _, _ => none
 | k + 1, x0, x4, x20, x21 => if x21 < x20 then ((elimM_Value.f k x0 x21).bind fun bt409 => (if (bt409.2.length : Int) = 0 then (if x4.length < 5864062014805 then (elimM_All.l0 k x0 (x4 ++ [bt409.1]) x20 (wrap64 (x21 + 1))) else (none)) else ((fault_Wrap.f (⟨#[101, 108, 105, 109, 46, 65, 108, 108]⟩ : ByteArray) bt409.2).bind fun t418 => (some (([] : List (List Int)), t418))))) else (some (x4, ([] : List FE)))
def elimM_All.f (k : Nat) (l0 : List (S74)) : Option ((List (List Int)) × List FE) := if 0 < (l0.length : Int) then (if (rd_T74 l0 0).f4 = true then ((fault_New.f (⟨#[101, 108, 105, 109, 46, 65, 108, 108]⟩ : ByteArray) 7).bind fun t405 => (some (([] : List (List Int)), t405))) else (elimM_All.l0 k l0 ([] : List (List Int)) ((rd_T74 l0 0).f0) 0)) else (none)
theorem elimM_All.mono_l : ∀ k, (∀ y0 y1 y2 y3, LeO (elimM_All.l0 k y0 y1 y2 y3) (elimM_All.l0 (k + 1) y0 y1 y2 y3))
 | 0 => fun _ _ _ _ r h => by simp [elimM_All.l0] at h
 | k + 1 => by
  have ih0 := elimM_All.mono_l k
  ·intro y0 y1 y2 y3; unfold elimM_All.l0
   repeat' first
   | (with_reducible exact ih0 _ _ _ _)
   | (with_reducible exact elimM_Value.mono _ _ _)
   | (with_reducible exact LeO.refl _)
   | (with_reducible exact LeO.none _)
   | (with_reducible refine LeO.ite ?_ ?_)
   | (with_reducible refine LeO.bind ?_ (fun _ => ?_))
   | exact ih0 _ _ _ _
   | exact elimM_Value.mono _ _ _
   | exact LeO.none _
   | refine LeO.ite ?_ ?_
   | refine LeO.bind ?_ (fun _ => ?_)
theorem elimM_All.mono : ∀ a0 k, LeO (elimM_All.f k a0) (elimM_All.f (k + 1) a0) := by
 intro a0 k; have ih0 := elimM_All.mono_l k; unfold elimM_All.f
 repeat' first
   | (with_reducible exact ih0 _ _ _ _)
   | (with_reducible exact elimM_Value.mono _ _ _)
   | (with_reducible exact LeO.refl _)
   | (with_reducible exact LeO.none _)
   | (with_reducible refine LeO.ite ?_ ?_)
   | (with_reducible refine LeO.bind ?_ (fun _ => ?_))
   | exact ih0 _ _ _ _
   | exact elimM_Value.mono _ _ _
   | exact LeO.none _
   | refine LeO.ite ?_ ?_
   | refine LeO.bind ?_ (fun _ => ?_)
set_option maxHeartbeats 8000000 in
set_option maxRecDepth 100000 in
theorem elimM_All.calls (k : Nat) (ad900 : Addr) (l0 : List (S74)) (r1 : List (List Int)) (r2 : List FE) (w : World) (ht : TabIn w) (hr0 : Kd.C k74 w (some ad900) l0.length l0) (h : elimM_All.f k l0 = some (r1, r2)) :
  Calls Tryd.prog 17 #[.pointer (some ad900)] w fun e w' => ∃ v0_ v1_ : Value, e = .returned (.tuple #[v0_, (errOf v1_)]) ∧ Kd.S (Kd.slice 5 (Kd.int .u8)) 36 w' w.heap.size (fun _ => True) v0_ r1 ∧ Kd.R kF 95 w' w.heap.size (fun _ => True) v1_ r2 ∧ Below w.heap.size w w' := by
 have HR0 := AQ hr0; clear hr0; have HB := AQ (Below.refl w.heap.size w); have HT := AQ ht; clear ht; have H : (if 0 < (l0.length : Int) then (if (rd_T74 l0 0).f4 = true then ((fault_New.f (⟨#[101, 108, 105, 109, 46, 65, 108, 108]⟩ : ByteArray) 7).bind fun t405 => (some (([] : List (List Int)), t405))) else (elimM_All.l0 k l0 ([] : List (List Int)) ((rd_T74 l0 0).f0) 0)) else (none)) = some (r1, r2) := h; clear h
 by_cases c2 : 0 < (l0.length : Int)
 ·rw [if_pos c2] at H; have c2b0 : decide (0 < (l0.length : Int)) = true := decide_eq_true c2; have c2b1 : decide (0 < l0.length) = true := decide_eq_true (by omega); clear c2; obtain ⟨bq3, hbq3⟩ : ∃ b_ : Bool, b_ = ((rd_T74 l0 0).f4) := ⟨_, rfl⟩; replace H : (if bq3 = true then ((fault_New.f (⟨#[101, 108, 105, 109, 46, 65, 108, 108]⟩ : ByteArray) 7).bind fun t405 => (some (([] : List (List Int)), t405))) else (elimM_All.l0 k l0 ([] : List (List Int)) ((rd_T74 l0 0).f0) 0)) = some (r1, r2) := (by rw [← hbq3] at H; exact H); have Nbq3 := AQ hbq3; clear hbq3
  by_cases c4 : bq3 = true
  ·subst c4; have H1 : ((fault_New.f (⟨#[101, 108, 105, 109, 46, 65, 108, 108]⟩ : ByteArray) 7).bind fun t405 => (some (([] : List (List Int)), t405))) = some (r1, r2) := (by rw [if_pos rfl] at H; exact H); clear H; have H := H1; clear H1; replace H := Option.bind_eq_some_iff.mp H; obtain ⟨t405, A50, H⟩ := H; replace H : (some (([] : List (List Int)), t405)) = some (r1, r2) := H; have A5 := AQ A50; clear A50; simp only [Option.some.injEq, Prod.mk.injEq] at H; obtain ⟨rfl, rfl⟩ := H; have p404 : 0 ≤ (0 : Int) := (by omega); have q404 : 0 < (l0.length : Int) := PD; obtain ⟨ad404, A404_2, c404_2, A404_3, c404_3, e404, hx404_0, hx404_1, hx404_2, hx404_3, hx404_4, hl404_2, hi404_2, hl404_3, hi404_3⟩ := at0_T74 HR0.out q404; (try rw [← Nbq3.out] at hx404_4); obtain rfl : ad900 = ad404 := (by injection e404); have qi404 : (0 < l0.length) = True := eq_true (by omega); have HR404_2 := AQ hi404_2; have HC404_2 := AQ hl404_2; clear hi404_2 hl404_2; have HR404_3 := AQ hi404_3; have HC404_3 := AQ hl404_3; clear hi404_3 hl404_3; replace p404 := eq_true p404; replace q404 := eq_true q404; go_enter Tryd.func17, Tryd.ntmps17; go_wp2_with (first | ((with_reducible refine gate_callee (f := 28) rfl ?_); refine gL (some 16) rfl rfl Tryd.func28 #[.string (⟨#[101, 108, 105, 109, 46, 65, 108, 108]⟩ : ByteArray), .int .i64 7] rfl ?_; (with_reducible refine (fault_New.calls (⟨#[101, 108, 105, 109, 46, 65, 108, 108]⟩ : ByteArray) 7 t405 _ A5.out).mono ?_); rintro e w6 ⟨v406, rfl, ho0, hb⟩; refine ⟨_, rfl, ?_⟩; have n0_ := AQ (Kd.R_lower ho0 (below_size (PB HB))); have n1_ := AQ (below_step (PB HB) hb); clear HB; have HO407 := n0_; have HB := n1_; clear n0_ n1_; (try clear hb); (try clear hb2); (try clear hk); (try clear hi); (try clear ho0))); go_ret2; exact ⟨_, _, by first | rfl | (simp [errW_none, errW_some] <;> rfl) | (simp [*, errW_none, errW_some] <;> rfl), by first | exact Kd.S_nil _ _ _ _ _ | exact Kd.N_nil _ _ _ _ _ | exact Kd.V_nil _ _ _ _ _ | exact Kd.Q_nil _ _ _ _ _ | exact Kd.R_nil _ _ _ _ _, PR HO407, PB HB⟩
  ·replace c4 := Bool.eq_false_iff.mpr c4; subst c4; have H1 : (elimM_All.l0 k l0 ([] : List (List Int)) ((rd_T74 l0 0).f0) 0) = some (r1, r2) := (by rw [if_neg (show ¬ (false = true) by decide)] at H; exact H); clear H; have H := H1; clear H1; have H' := AQ H; clear H; have p404 : 0 ≤ (0 : Int) := (by omega); have q404 : 0 < (l0.length : Int) := PD; obtain ⟨ad404, A404_2, c404_2, A404_3, c404_3, e404, hx404_0, hx404_1, hx404_2, hx404_3, hx404_4, hl404_2, hi404_2, hl404_3, hi404_3⟩ := at0_T74 HR0.out q404; (try rw [← Nbq3.out] at hx404_4); obtain rfl : ad900 = ad404 := (by injection e404); have qi404 : (0 < l0.length) = True := eq_true (by omega); have HR404_2 := AQ hi404_2; have HC404_2 := AQ hl404_2; clear hi404_2 hl404_2; have HR404_3 := AQ hi404_3; have HC404_3 := AQ hl404_3; clear hi404_3 hl404_3; replace p404 := eq_true p404; replace q404 := eq_true q404; have p408 : 0 ≤ (0 : Int) := (by omega); have q408 : 0 < (l0.length : Int) := PD; obtain ⟨ad408, A408_2, c408_2, A408_3, c408_3, e408, hx408_0, hx408_1, hx408_2, hx408_3, hx408_4, hl408_2, hi408_2, hl408_3, hi408_3⟩ := at0_T74 HR0.out q408; (try rw [← Nbq3.out] at hx408_4); obtain rfl : ad900 = ad408 := (by injection e408); have qi408 : (0 < l0.length) = True := eq_true (by omega); have HR408_2 := AQ hi408_2; have HC408_2 := AQ hl408_2; clear hi408_2 hl408_2; have HR408_3 := AQ hi408_3; have HC408_3 := AQ hl408_3; clear hi408_3 hl408_3; replace p408 := eq_true p408; replace q408 := eq_true q408; have ea_ := Option.some.inj (hx404_2.symm.trans hx408_2); injection ea_ with ea_ en_ ec_; subst ea_; subst ec_; clear en_; have ea_ := Option.some.inj (hx404_3.symm.trans hx408_3); injection ea_ with ea_ en_ ec_; subst ea_; subst ec_; clear en_; go_enter Tryd.func17, Tryd.ntmps17; go_wp2; go_loopg [4, 21] k (fun kq v4 v21 w' => ∃ (x4_1 : List (List Int)) (x21_1 : Int), v21 = .int .i64 x21_1 ∧ Aside0 (elimM_All.l0 kq l0 x4_1 ((rd_T74 l0 0).f0) x21_1 = some (r1, r2)) ∧ Aside0 (kq ≤ k) ∧ Aside0 (Kd.S (Kd.slice 5 (Kd.int .u8)) 36 w' w.heap.size (fun _ => True) v4 x4_1) ∧ Aside0 (Below w.heap.size w w'))
   case atStart => exact ⟨(([] : List (List Int))), (0), (by first | rfl | (simp; done) | (simp [*]; done)), H', ⟨Nat.le_refl _⟩, ⟨by first | exact Kd.S_nil _ _ _ _ _ | exact Kd.N_nil _ _ _ _ _ | exact Kd.V_nil _ _ _ _ _ | exact Kd.Q_nil _ _ _ _ _ | exact Kd.R_nil _ _ _ _ _⟩, ⟨PB HB⟩⟩
   case round =>
    clear H'; (try clear c1); (try clear c2); (try clear c2b0); (try clear c2b1); (try clear p2); (try clear q3); (try clear c4); (try clear p4); (try clear q4); (try clear hx4); (try clear qi4); (try clear hx404_0); (try clear hx404_1); (try clear hx404_2); (try clear hx404_3); (try clear hx404_4); (try clear hx408_0); (try clear hx408_1); (try clear hx408_2); (try clear hx408_3); (try clear hx408_4); (try clear p404); (try clear p408); (try clear q404); (try clear q408); obtain ⟨x4_1, x21_1, rfl, HA, HK1, HO_4, HB⟩ := hrel; cases gk with
    | zero => exact absurd HA.out (by simp [elimM_All.l0])
    | succ k1 =>
     have H := HA.out; clear HA; simp only [elimM_All.l0] at H
     by_cases c7 : x21_1 < ((rd_T74 l0 0).f0)
     ·rw [if_pos c7] at H; have c7b0 : decide (x21_1 < ((rd_T74 l0 0).f0)) = true := decide_eq_true c7; clear c7; replace H := Option.bind_eq_some_iff.mp H; obtain ⟨⟨t409, t410⟩, A80, H⟩ := H; replace H : (if (t410.length : Int) = 0 then (if x4_1.length < 5864062014805 then (elimM_All.l0 k1 l0 (x4_1 ++ [t409]) ((rd_T74 l0 0).f0) (wrap64 (x21_1 + 1))) else (none)) else ((fault_Wrap.f (⟨#[101, 108, 105, 109, 46, 65, 108, 108]⟩ : ByteArray) t410).bind fun t418 => (some (([] : List (List Int)), t418)))) = some (r1, r2) := H; have A8 := AQ A80; clear A80
      by_cases c9 : (t410.length : Int) = 0
      ·rw [if_pos c9] at H; have c9b0 : ((t410.length : Int) == 0) = true := beq_iff_eq.mpr c9; have c9b1 : ((t410.length : Int) != 0) = false := bne_eq_false_iff_eq.mpr c9; clear c9
       by_cases c10 : x4_1.length < 5864062014805
       ·rw [if_pos c10] at H; have LMc10 := AQ c10; clear c10; obtain ⟨y415, hy415⟩ : ∃ y_ : List (List Int), y_ = (x4_1 ++ [t409]) := ⟨_, rfl⟩; replace H : (elimM_All.l0 k1 l0 y415 ((rd_T74 l0 0).f0) (wrap64 (x21_1 + 1))) = some (r1, r2) := (by first | (rw [hy415]; with_reducible exact H) | (have H2_ := (Option.bind_some _ _).symm.trans H; rw [hy415]; with_reducible exact H2_) | (have H2_ := (Option.bind_some _ _).symm.trans H; with_reducible exact H2_) | with_reducible exact H | (rw [hy415]; exact H) | exact H); have Ny415 := AQ hy415; clear hy415; have H' := AQ H; clear H; go_wp2_with (first | ((with_reducible refine gate_callee (f := 13) rfl ?_); refine gL (some 27) rfl rfl Tryd.func13 #[.pointer (some ad900), .int .i64 x21_1] rfl ?_; (with_reducible refine (elimM_Value.calls k1 _ l0 x21_1 t409 t410 _ ?side1 ?side2 A8.out).mono ?_); (case side1 => first | exact HT.out | exact TabIn.below HT.out (PB HB) | (repeat (first | apply TabIn.drewN | apply TabIn.drew | exact HT.out))); (case side2 => repeat (first | exact (Kd.C_below HR0.out HB.out) | (with_reducible refine Kd.C_alloc ?_ _) | (with_reducible refine Kd.C_drewN ?_ _) | (with_reducible refine Kd.C_drew ?_))); rintro e w11 ⟨v411, v413, rfl, ho0, ho1, hb⟩; refine ⟨_, rfl, ?_⟩; have n0_ := AQ (Kd.S_elder' (PS HO_4) (Kd.R_base ho0) hb); have n1_ := AQ (Kd.R_lower ho0 (below_size (PB HB))); have n2_ := AQ (Kd.R_lower ho1 (below_size (PB HB))); have n3_ := AQ (below_step (PB HB) hb); clear HO_4; clear HB; have HO_4 := n0_; have HO412 := n1_; have HO414 := n2_; have HB := n3_; clear n0_ n1_ n2_ n3_; (try clear hb); (try clear hb2); (try clear hk); (try clear hi); (try clear ho0); (try clear ho1); obtain ⟨Ao12, co12, eo12⟩ := Kd.R_slice HO414.out; subst eo12; obtain ⟨Ao14, co14, eo14⟩ := Kd.R_slice HO412.out; subst eo14) | ((with_reducible refine gate_builtin (b := .append) (xs := #[.tmp 34, .tmp 36]) rfl ?_); at_builtin; refine Kd.S_append (Kd.slice 5 (Kd.int .u8)) (w0 := w) w.heap.size rfl (.tmp 34) (.tmp 36) 22 36 (.slice none 0 0) 24 rfl Tryd.underlying22 info36 rfl (by decide) (by omega) u4 x4_1 t409 [.slice Ao14 t409.length co14] (fun _ => True) (fun k_ => some k_ = (.slice Ao14 t409.length co14 : Value).ownBlock) rfl rfl ?aP (fun k_ hk_ => ((Kd.R_mono (ok' := fun k_ => ((fun _ => True)) k_ ∧ some k_ ≠ (u4 : Value).ownBlock) (Kd.R_apart' (HO412.out) (Kd.S_typed HO_4.out) (by decide)) (fun k_ hk => ⟨trivial, hk.2⟩))).1 k_ hk_.symm) ?aF ?aO ?aB ?aS ?aL ?_; (case aP => exact Kd.M_row (Kd.R_mono (Kd.R_tight rfl (Kd.R_mono (ok' := fun k_ => ((fun _ => True)) k_ ∧ some k_ ≠ (u4 : Value).ownBlock) (Kd.R_apart' (HO412.out) (Kd.S_typed HO_4.out) (by decide)) (fun k_ hk => ⟨trivial, hk.2⟩))) (fun _ h_ => h_))); (case aB => exact (PB HB)); (case aF => exact (fun _ _ => trivial)); (case aO => exact (by (with_reducible repeat (first | apply Kd.S_alloc | apply Kd.S_drewN | apply Kd.S_drew)); exact Kd.S_mono HO_4.out (fun k_ hk => ⟨trivial, fun e_ => hk.2 e_⟩))); (case aS => exact (below_size (PB HB))); (case aL => have := LMc10.out; omega); intro v416 w13 ho hb hg hat; rw [← Ny415.out] at ho; have n0_ := AQ (Kd.R_over' (PR HO414) (Kd.S_typed (PS HO_4)) (by decide) hg); have n1_ := AQ (hb); have n2_ := AQ (ho); clear HO414; clear HB; clear HO_4; clear HO412; have HO414 := n0_; have HB := n1_; have HO417 := n2_; clear n0_ n1_ n2_; clear ho hb hg hat)); go_roundg k1
        case measure => have := HK1.out; omega
        case rel => exact ⟨(y415), (wrap64 (x21_1 + 1)), (by first | rfl | (simp; done) | (simp [*]; done)), H', ⟨by have := HK1.out; omega⟩, ⟨PS HO417⟩, ⟨PB HB⟩⟩
       ·rw [if_neg c10] at H; exact absurd H (by simp)
      ·rw [if_neg c9] at H; have c9b0 : ((t410.length : Int) == 0) = false := beq_eq_false_iff_ne.mpr c9; have c9b1 : ((t410.length : Int) != 0) = true := bne_iff_ne.mpr c9; have c9b2 : ¬ (t410 = []) := fun h_ => c9 (by rw [h_]; rfl)
       replace H := Option.bind_eq_some_iff.mp H; obtain ⟨t418, A150, H⟩ := H; replace H : (some (([] : List (List Int)), t418)) = some (r1, r2) := H; have A15 := AQ A150; clear A150; simp only [Option.some.injEq, Prod.mk.injEq] at H; obtain ⟨rfl, rfl⟩ := H; go_wp2_with (first | ((with_reducible refine gate_callee (f := 13) rfl ?_); refine gL (some 27) rfl rfl Tryd.func13 #[.pointer (some ad900), .int .i64 x21_1] rfl ?_; (with_reducible refine (elimM_Value.calls k1 _ l0 x21_1 t409 t410 _ ?side1 ?side2 A8.out).mono ?_); (case side1 => first | exact HT.out | exact TabIn.below HT.out (PB HB) | (repeat (first | apply TabIn.drewN | apply TabIn.drew | exact HT.out))); (case side2 => repeat (first | exact (Kd.C_below HR0.out HB.out) | (with_reducible refine Kd.C_alloc ?_ _) | (with_reducible refine Kd.C_drewN ?_ _) | (with_reducible refine Kd.C_drew ?_))); rintro e w16 ⟨v411, v413, rfl, ho0, ho1, hb⟩; refine ⟨_, rfl, ?_⟩; have n0_ := AQ (Kd.S_elder' (PS HO_4) (Kd.R_base ho0) hb); have n1_ := AQ (Kd.R_lower ho0 (below_size (PB HB))); have n2_ := AQ (Kd.R_lower ho1 (below_size (PB HB))); have n3_ := AQ (below_step (PB HB) hb); clear HO_4; clear HB; have HO_4 := n0_; have HO412 := n1_; have HO414 := n2_; have HB := n3_; clear n0_ n1_ n2_ n3_; (try clear hb); (try clear hb2); (try clear hk); (try clear hi); (try clear ho0); (try clear ho1); obtain ⟨Ao17, co17, eo17⟩ := Kd.R_slice HO414.out; subst eo17) | ((with_reducible refine gate_callee (f := 38) rfl ?_); refine gL (some 33) rfl rfl Tryd.func38 #[.string (⟨#[101, 108, 105, 109, 46, 65, 108, 108]⟩ : ByteArray), errOf (.slice Ao17 t410.length co17)] rfl ?_; (with_reducible refine (fault_Wrap.calls (⟨#[101, 108, 105, 109, 46, 65, 108, 108]⟩ : ByteArray) (fun k_ => some k_ = (.slice Ao17 t410.length co17 : Value).ownBlock) (.slice Ao17 t410.length co17) t410 t418 w _ ?side1 ?side2 A15.out).mono ?_); (case side1 => exact PB HB); (case side2 => exact Kd.R_tight rfl (kF0_of HO414.out)); rintro e w18 ⟨v419, rfl, ho0, hb, hkp⟩; refine ⟨_, rfl, ?_⟩; have n0_ := AQ (Kd.S_mono (ok' := fun k_ => some k_ ≠ (v411 : Value).ownBlock) (Kd.S_keptB ((Kd.S_apart' HO_4.out (Kd.R_typed HO414.out) (by decide))) hkp (fun k_ hk_ hs_ => (hk_.2) hs_)) (fun k_ hk_ => hk_.1.1.2)); have n1_ := AQ (Kd.R_mono (ok' := fun k_ => True) (Kd.R_keptB ((Kd.R_apart' HO412.out (Kd.R_typed HO414.out) (by decide))) hkp (fun k_ hk_ hs_ => (hk_.2) hs_)) (fun k_ hk_ => trivial)); have n2_ := AQ (Kd.R_mono (ok' := fun k_ => True) ho0 (fun k_ hk_ => trivial)); have n3_ := AQ (hb); clear HO_4; clear HO412; clear HB; clear HO414; have HO_4 := n0_; have HO412 := n1_; have HO420 := n2_; have HB := n3_; clear n0_ n1_ n2_ n3_; (try clear hb); (try clear hkp); (try clear ho0))); go_ret2; exact ⟨_, _, by first | rfl | (simp [errW_none, errW_some] <;> rfl) | (simp [*, errW_none, errW_some] <;> rfl), by first | exact Kd.S_nil _ _ _ _ _ | exact Kd.N_nil _ _ _ _ _ | exact Kd.V_nil _ _ _ _ _ | exact Kd.Q_nil _ _ _ _ _ | exact Kd.R_nil _ _ _ _ _, PR HO420, PB HB⟩
     ·rw [if_neg c7] at H; have c7b0 : decide (x21_1 < ((rd_T74 l0 0).f0)) = false := decide_eq_false c7; clear c7; simp only [Option.some.injEq, Prod.mk.injEq] at H; obtain ⟨rfl, rfl⟩ := H; go_wp2; go_ret2; exact ⟨_, (.slice none 0 0), by first | rfl | (simp [errW_none, errW_some] <;> rfl) | (simp [*, errW_none, errW_some] <;> rfl), PS HO_4, by first | exact Kd.R_nil _ _ _ _ _ | exact Kd.N_nil _ _ _ _ _ | exact Kd.V_nil _ _ _ _ _ | exact Kd.Q_nil _ _ _ _ _ | exact Kd.S_nil _ _ _ _ _, PB HB⟩
 ·rw [if_neg c2] at H; exact absurd H (by simp)
end Go.Proofs.YtjmgkknbgffbjaaDoor.P
namespace Go.Proofs.YtjmgkknbgffbjaaDoor.P
open Go.RowKit Go.Proofs.YtjmgkknbgffbjaaDoorW.PrintWords Go.Proofs.YtjmgkknbgffbjaaDoorW.PrintLast Go.Proofs.YtjmgkknbgffbjaaDoorW.PrintErr Go.Proofs.YtjmgkknbgffbjaaDoorW.PrintMore
attribute [local go_sem] max2_int min2_int max_two min_two max_three min_three max_four min_four run_eql_errOf run_neq_errOf eqGuard_errOf run_eql_ptrOf run_neq_ptrOf eqGuard_ptrOf   -- for this text's walks alone
set_option linter.unusedVariables false
set_option linter.unusedSimpArgs false
def elim_System_All.f (k : Nat) (l0 : List S74) : Option (List (List Int) × List FE) := if l0.length = 0 then some ([], [⟨(⟨#[101, 108, 105, 109, 46, 65, 108, 108]⟩ : ByteArray), true, 7⟩]) else elimM_All.f k l0
theorem elim_System_All.mono : ∀ a0 k, LeO (elim_System_All.f k a0) (elim_System_All.f (k + 1) a0) := by
 intro a0 k; unfold elim_System_All.f; exact LeO.ite (LeO.refl _) (elimM_All.mono a0 k)
theorem elim_System_All.calls (k : Nat) (A0 : Option Addr) (c0 : Nat) (l0 : List S74) (r1 : List (List Int)) (r2 : List FE) (w : World) (ht : TabIn w) (hr0 : Kd.C k74 w A0 l0.length l0) (hc0 : l0.length ≤ c0) (h : elim_System_All.f k l0 = some (r1, r2)) :
  Calls Tryd.prog 17 #[ptrOf (.slice A0 l0.length c0)] w fun e w' => ∃ v0_ v1_ : Value, e = .returned (.tuple #[v0_, (errOf v1_)]) ∧ Kd.S (Kd.slice 5 (Kd.int .u8)) 36 w' w.heap.size (fun _ => True) v0_ r1 ∧ Kd.R kF 95 w' w.heap.size (fun _ => True) v1_ r2 ∧ Below w.heap.size w w' := by
 unfold elim_System_All.f at h
 by_cases hz : l0.length = 0
 ·rw [if_pos hz] at h; obtain ⟨rfl, rfl⟩ := Prod.mk.inj (Option.some.inj h); rw [hz, ptrOf_zero]; refine (elim_All.nil w).mono fun e w' hx => ?_
  obtain ⟨v1_, he, h1, hb⟩ := hx; exact ⟨_, v1_, he, Kd.S_nil _ _ _ _ _, h1, hb⟩
 ·rw [if_neg hz] at h; obtain ⟨_, _, hA⟩ := id hr0; obtain ⟨ad, rfl, _⟩ := hA (Nat.pos_of_ne_zero hz); rw [ptrOf_pos _ _ _ hz]; exact elimM_All.calls k ad l0 r1 r2 w ht hr0 h
end Go.Proofs.YtjmgkknbgffbjaaDoor.P
namespace Go.Proofs.YtjmgkknbgffbjaaDoor.P
open Go.RowKit Go.Proofs.YtjmgkknbgffbjaaDoorW.PrintWords Go.Proofs.YtjmgkknbgffbjaaDoorW.PrintLast Go.Proofs.YtjmgkknbgffbjaaDoorW.PrintErr Go.Proofs.YtjmgkknbgffbjaaDoorW.PrintMore
attribute [local go_sem] max2_int min2_int max_two min_two max_three min_three max_four min_four run_eql_errOf run_neq_errOf eqGuard_errOf   -- for this text's walks alone
set_option linter.unusedVariables false
set_option linter.unusedSimpArgs false
def elimM_Whole.f (l0 : List (S74)) : Option (Bool) := if 0 < (l0.length : Int) then (if (((rd_T74 l0 0).f2).length : Int) = ((rd_T74 l0 0).f0) then (some (!((rd_T74 l0 0).f4))) else (some false)) else (none)
set_option maxHeartbeats 8000000 in
set_option maxRecDepth 100000 in
theorem elimM_Whole.calls (ad900 : Addr) (l0 : List (S74)) (r : Bool) (w : World) (hr0 : Kd.C k74 w (some ad900) l0.length l0) (h : elimM_Whole.f l0 = some r) :
  Calls Tryd.prog 18 #[.pointer (some ad900)] w fun e w' => e = .returned (.bool r) ∧ Drawn0 w w' := by
 have HR0 := AQ hr0; clear hr0; have H : (if 0 < (l0.length : Int) then (if (((rd_T74 l0 0).f2).length : Int) = ((rd_T74 l0 0).f0) then (some (!((rd_T74 l0 0).f4))) else (some false)) else (none)) = some r := h; clear h
 by_cases c2 : 0 < (l0.length : Int)
 ·rw [if_pos c2] at H; have c2b0 : decide (0 < (l0.length : Int)) = true := decide_eq_true c2; have c2b1 : decide (0 < l0.length) = true := decide_eq_true (by omega); clear c2
  by_cases c3 : (((rd_T74 l0 0).f2).length : Int) = ((rd_T74 l0 0).f0)
  ·rw [if_pos c3] at H; have c3b0 : ((((rd_T74 l0 0).f2).length : Int) == ((rd_T74 l0 0).f0)) = true := beq_iff_eq.mpr c3; have c3b1 : ((((rd_T74 l0 0).f2).length : Int) != ((rd_T74 l0 0).f0)) = false := bne_eq_false_iff_eq.mpr c3; clear c3; obtain rfl := Option.some.inj H; have p313 : 0 ≤ (0 : Int) := (by omega); have q313 : 0 < (l0.length : Int) := PD; obtain ⟨ad313, A313_2, c313_2, A313_3, c313_3, e313, hx313_0, hx313_1, hx313_2, hx313_3, hx313_4, hl313_2, hi313_2, hl313_3, hi313_3⟩ := at0_T74 HR0.out q313; obtain rfl : ad900 = ad313 := (by injection e313); have qi313 : (0 < l0.length) = True := eq_true (by omega); have HR313_2 := AQ hi313_2; have HC313_2 := AQ hl313_2; clear hi313_2 hl313_2; have HR313_3 := AQ hi313_3; have HC313_3 := AQ hl313_3; clear hi313_3 hl313_3; replace p313 := eq_true p313; replace q313 := eq_true q313; have p314 : 0 ≤ (0 : Int) := (by omega); have q314 : 0 < (l0.length : Int) := PD; obtain ⟨ad314, A314_2, c314_2, A314_3, c314_3, e314, hx314_0, hx314_1, hx314_2, hx314_3, hx314_4, hl314_2, hi314_2, hl314_3, hi314_3⟩ := at0_T74 HR0.out q314; obtain rfl : ad900 = ad314 := (by injection e314); have qi314 : (0 < l0.length) = True := eq_true (by omega); have HR314_2 := AQ hi314_2; have HC314_2 := AQ hl314_2; clear hi314_2 hl314_2; have HR314_3 := AQ hi314_3; have HC314_3 := AQ hl314_3; clear hi314_3 hl314_3; replace p314 := eq_true p314; replace q314 := eq_true q314; have ea_ := Option.some.inj (hx313_2.symm.trans hx314_2); injection ea_ with ea_ en_ ec_; subst ea_; subst ec_; clear en_; have ea_ := Option.some.inj (hx313_3.symm.trans hx314_3); injection ea_ with ea_ en_ ec_; subst ea_; subst ec_; clear en_; have p315 : 0 ≤ (0 : Int) := (by omega); have q315 : 0 < (l0.length : Int) := PD; obtain ⟨ad315, A315_2, c315_2, A315_3, c315_3, e315, hx315_0, hx315_1, hx315_2, hx315_3, hx315_4, hl315_2, hi315_2, hl315_3, hi315_3⟩ := at0_T74 HR0.out q315; obtain rfl : ad900 = ad315 := (by injection e315); have qi315 : (0 < l0.length) = True := eq_true (by omega); have HR315_2 := AQ hi315_2; have HC315_2 := AQ hl315_2; clear hi315_2 hl315_2; have HR315_3 := AQ hi315_3; have HC315_3 := AQ hl315_3; clear hi315_3 hl315_3; replace p315 := eq_true p315; replace q315 := eq_true q315; have ea_ := Option.some.inj (hx313_2.symm.trans hx315_2); injection ea_ with ea_ en_ ec_; subst ea_; subst ec_; clear en_; have ea_ := Option.some.inj (hx313_3.symm.trans hx315_3); injection ea_ with ea_ en_ ec_; subst ea_; subst ec_; clear en_; go_enter Tryd.func18, Tryd.ntmps18; go_wp2
   repeat (go_quiet (fail); try go_wp2)
   go_ret; exact ⟨by first | rfl | (simp; done) | (simp [*]; done), by repeat (first | exact Drawn0.refl _ | apply Drawn0.step)⟩
  ·rw [if_neg c3] at H; have c3b0 : ((((rd_T74 l0 0).f2).length : Int) == ((rd_T74 l0 0).f0)) = false := beq_eq_false_iff_ne.mpr c3; have c3b1 : ((((rd_T74 l0 0).f2).length : Int) != ((rd_T74 l0 0).f0)) = true := bne_iff_ne.mpr c3; obtain rfl := Option.some.inj H; have p313 : 0 ≤ (0 : Int) := (by omega); have q313 : 0 < (l0.length : Int) := PD; obtain ⟨ad313, A313_2, c313_2, A313_3, c313_3, e313, hx313_0, hx313_1, hx313_2, hx313_3, hx313_4, hl313_2, hi313_2, hl313_3, hi313_3⟩ := at0_T74 HR0.out q313; obtain rfl : ad900 = ad313 := (by injection e313); have qi313 : (0 < l0.length) = True := eq_true (by omega); have HR313_2 := AQ hi313_2; have HC313_2 := AQ hl313_2; clear hi313_2 hl313_2; have HR313_3 := AQ hi313_3; have HC313_3 := AQ hl313_3; clear hi313_3 hl313_3; replace p313 := eq_true p313; replace q313 := eq_true q313; have p314 : 0 ≤ (0 : Int) := (by omega); have q314 : 0 < (l0.length : Int) := PD; obtain ⟨ad314, A314_2, c314_2, A314_3, c314_3, e314, hx314_0, hx314_1, hx314_2, hx314_3, hx314_4, hl314_2, hi314_2, hl314_3, hi314_3⟩ := at0_T74 HR0.out q314; obtain rfl : ad900 = ad314 := (by injection e314); have qi314 : (0 < l0.length) = True := eq_true (by omega); have HR314_2 := AQ hi314_2; have HC314_2 := AQ hl314_2; clear hi314_2 hl314_2; have HR314_3 := AQ hi314_3; have HC314_3 := AQ hl314_3; clear hi314_3 hl314_3; replace p314 := eq_true p314; replace q314 := eq_true q314; have ea_ := Option.some.inj (hx313_2.symm.trans hx314_2); injection ea_ with ea_ en_ ec_; subst ea_; subst ec_; clear en_; have ea_ := Option.some.inj (hx313_3.symm.trans hx314_3); injection ea_ with ea_ en_ ec_; subst ea_; subst ec_; clear en_; go_enter Tryd.func18, Tryd.ntmps18; go_wp2
   repeat (go_quiet (fail); try go_wp2)
   go_ret; exact ⟨by first | rfl | (simp; done) | (simp [*]; done), by repeat (first | exact Drawn0.refl _ | apply Drawn0.step)⟩
 ·rw [if_neg c2] at H; exact absurd H (by simp)
end Go.Proofs.YtjmgkknbgffbjaaDoor.P
namespace Go.Proofs.YtjmgkknbgffbjaaDoor.P
open Go.RowKit Go.Proofs.YtjmgkknbgffbjaaDoorW.PrintWords Go.Proofs.YtjmgkknbgffbjaaDoorW.PrintLast Go.Proofs.YtjmgkknbgffbjaaDoorW.PrintErr Go.Proofs.YtjmgkknbgffbjaaDoorW.PrintMore
attribute [local go_sem] max2_int min2_int max_two min_two max_three min_three max_four min_four run_eql_errOf run_neq_errOf eqGuard_errOf run_eql_ptrOf run_neq_ptrOf eqGuard_ptrOf   -- for this text's walks alone
set_option linter.unusedVariables false
set_option linter.unusedSimpArgs false
def elim_System_Whole.f (l0 : List S74) : Option Bool := if l0.length = 0 then some false else elimM_Whole.f l0
theorem elim_System_Whole.calls (A0 : Option Addr) (c0 : Nat) (l0 : List S74) (r : Bool) (w : World) (hr0 : Kd.C k74 w A0 l0.length l0) (hc0 : l0.length ≤ c0) (h : elim_System_Whole.f l0 = some r) :
  Calls Tryd.prog 18 #[ptrOf (.slice A0 l0.length c0)] w fun e w' => e = .returned (.bool r) ∧ Below w.heap.size w w' := by
 unfold elim_System_Whole.f at h
 by_cases hz : l0.length = 0
 ·rw [if_pos hz] at h; obtain rfl := Option.some.inj h; rw [hz, ptrOf_zero]; exact elim_Whole.nil w
 ·rw [if_neg hz] at h; obtain ⟨_, _, hA⟩ := id hr0; obtain ⟨ad, rfl, _⟩ := hA (Nat.pos_of_ne_zero hz); rw [ptrOf_pos _ _ _ hz]; refine (elimM_Whole.calls ad l0 r w hr0 h).mono fun e w' hx => ?_
  obtain ⟨m, rfl⟩ := hx.2.out; exact ⟨hx.1, pw_below_drewN (Below.refl _ _) m⟩
end Go.Proofs.YtjmgkknbgffbjaaDoor.P
namespace Go.Proofs.YtjmgkknbgffbjaaDoor.P
open Go.RowKit Go.Proofs.YtjmgkknbgffbjaaDoorW.PrintWords Go.Proofs.YtjmgkknbgffbjaaDoorW.PrintLast Go.Proofs.YtjmgkknbgffbjaaDoorW.PrintErr Go.Proofs.YtjmgkknbgffbjaaDoorW.PrintMore
attribute [local go_sem] max2_int min2_int max_two min_two max_three min_three max_four min_four run_eql_errOf run_neq_errOf eqGuard_errOf   -- for this text's walks alone
set_option linter.unusedVariables false
set_option linter.unusedSimpArgs false
def elimM_Clashed.f (l0 : List (S74)) : Option (Bool) := if 0 < (l0.length : Int) then (some ((rd_T74 l0 0).f4)) else (none)
set_option maxHeartbeats 8000000 in
set_option maxRecDepth 100000 in
theorem elimM_Clashed.calls (ad900 : Addr) (l0 : List (S74)) (r : Bool) (w : World) (hr0 : Kd.C k74 w (some ad900) l0.length l0) (h : elimM_Clashed.f l0 = some r) :
  Calls Tryd.prog 20 #[.pointer (some ad900)] w fun e w' => e = .returned (.bool r) ∧ Drawn0 w w' := by
 have HR0 := AQ hr0; clear hr0; have H : (if 0 < (l0.length : Int) then (some ((rd_T74 l0 0).f4)) else (none)) = some r := h; clear h
 by_cases c2 : 0 < (l0.length : Int)
 ·rw [if_pos c2] at H; have c2b0 : decide (0 < (l0.length : Int)) = true := decide_eq_true c2; have c2b1 : decide (0 < l0.length) = true := decide_eq_true (by omega); clear c2; obtain rfl := Option.some.inj H; have p423 : 0 ≤ (0 : Int) := (by omega); have q423 : 0 < (l0.length : Int) := PD; obtain ⟨ad423, A423_2, c423_2, A423_3, c423_3, e423, hx423_0, hx423_1, hx423_2, hx423_3, hx423_4, hl423_2, hi423_2, hl423_3, hi423_3⟩ := at0_T74 HR0.out q423; obtain rfl : ad900 = ad423 := (by injection e423); have qi423 : (0 < l0.length) = True := eq_true (by omega); have HR423_2 := AQ hi423_2; have HC423_2 := AQ hl423_2; clear hi423_2 hl423_2; have HR423_3 := AQ hi423_3; have HC423_3 := AQ hl423_3; clear hi423_3 hl423_3; replace p423 := eq_true p423; replace q423 := eq_true q423; go_enter Tryd.func20, Tryd.ntmps20; go_wp2; go_ret; exact ⟨by first | rfl | (simp; done) | (simp [*]; done), by repeat (first | exact Drawn0.refl _ | apply Drawn0.step)⟩
 ·rw [if_neg c2] at H; exact absurd H (by simp)
end Go.Proofs.YtjmgkknbgffbjaaDoor.P
namespace Go.Proofs.YtjmgkknbgffbjaaDoor.P
open Go.RowKit Go.Proofs.YtjmgkknbgffbjaaDoorW.PrintWords Go.Proofs.YtjmgkknbgffbjaaDoorW.PrintLast Go.Proofs.YtjmgkknbgffbjaaDoorW.PrintErr Go.Proofs.YtjmgkknbgffbjaaDoorW.PrintMore
attribute [local go_sem] max2_int min2_int max_two min_two max_three min_three max_four min_four run_eql_errOf run_neq_errOf eqGuard_errOf run_eql_ptrOf run_neq_ptrOf eqGuard_ptrOf   -- for this text's walks alone
set_option linter.unusedVariables false
set_option linter.unusedSimpArgs false
def elim_System_Clashed.f (l0 : List S74) : Option Bool := if l0.length = 0 then some false else elimM_Clashed.f l0
theorem elim_System_Clashed.calls (A0 : Option Addr) (c0 : Nat) (l0 : List S74) (r : Bool) (w : World) (hr0 : Kd.C k74 w A0 l0.length l0) (hc0 : l0.length ≤ c0) (h : elim_System_Clashed.f l0 = some r) :
  Calls Tryd.prog 20 #[ptrOf (.slice A0 l0.length c0)] w fun e w' => e = .returned (.bool r) ∧ Below w.heap.size w w' := by
 unfold elim_System_Clashed.f at h
 by_cases hz : l0.length = 0
 ·rw [if_pos hz] at h; obtain rfl := Option.some.inj h; rw [hz, ptrOf_zero]; exact elim_Clashed.nil w
 ·rw [if_neg hz] at h; obtain ⟨_, _, hA⟩ := id hr0; obtain ⟨ad, rfl, _⟩ := hA (Nat.pos_of_ne_zero hz); rw [ptrOf_pos _ _ _ hz]; refine (elimM_Clashed.calls ad l0 r w hr0 h).mono fun e w' hx => ?_
  obtain ⟨m, rfl⟩ := hx.2.out; exact ⟨hx.1, pw_below_drewN (Below.refl _ _) m⟩
end Go.Proofs.YtjmgkknbgffbjaaDoor.P
namespace Go.Proofs.YtjmgkknbgffbjaaDoor.Pure
open Go.RowKit Go.Proofs.YtjmgkknbgffbjaaDoor.P Go.Proofs.YtjmgkknbgffbjaaDoorW.PrintWords Go.Proofs.YtjmgkknbgffbjaaDoorW.PrintLast Go.Proofs.YtjmgkknbgffbjaaDoorW.PrintErr Go.Proofs.YtjmgkknbgffbjaaDoorW.PrintMore Go.Proofs.YtjmgkknbgffbjaaDoor.Lin
set_option linter.unusedVariables false
set_option linter.unusedSimpArgs false
theorem shl_one (j : Nat) (hj : j < 64) : shl .u64 1 (j : Int) = ((2 ^ j : Nat) : Int) := by
  have h : (2 : Nat) ^ j < 2 ^ 64 := Nat.pow_lt_pow_right (by decide) hj
  unfold shl
  rw [Int.toNat_natCast, show IntKind.u64.bits = 64 from rfl, Nat.min_eq_left (by omega), Int.one_mul, IntKind.wrap_u64]
  have h2 : ((2 : Int) ^ j) = ((2 ^ j : Nat) : Int) := by push_cast; rfl
  rw [h2]
  generalize (2 : Nat) ^ j = q at h ⊢
  omega
theorem hasB_zero (n c : Nat) : hasB (List.replicate n 0) c = false := by
  unfold hasB
  have : (List.replicate n (0 : Int)).getD (c / 64) 0 = 0 := by
    rw [List.getD_eq_getElem?_getD, List.getElem?_replicate]; split <;> rfl
  rw [this]
  simp
def setB (x : List Int) (c : Int) : List Int := x.set ((wrap64 (Int.tdiv c 64)) : Int).toNat (Go.bits .or .u64 (rd x (wrap64 (Int.tdiv c 64))) (shl .u64 1 (Int.tmod c 64)))
theorem setB_eq (x : List Int) (c : Nat) (hc : c < 9223372036854775807) : setB x (c : Int) = x.set (c / 64) (Go.bits .or .u64 (x.getD (c / 64) 0) ((2 ^ (c % 64) : Nat) : Int)) := by
  unfold setB rd
  have e1 : Int.tdiv (c : Int) 64 = ((c / 64 : Nat) : Int) := by rw [Int.tdiv_eq_ediv_of_nonneg (by omega)]; rfl
  have e2 : Int.tmod (c : Int) 64 = ((c % 64 : Nat) : Int) := by rw [Int.tmod_eq_emod_of_nonneg (by omega)]; rfl
  rw [e1, e2, w64s (by omega) (by omega), Int.toNat_natCast, shl_one _ (by omega)]
theorem word_or (a : Int) (ha : U64 a) (j : Nat) (hj : j < 64) : Go.bits .or .u64 a ((2 ^ j : Nat) : Int) = ((a.toNat ||| 2 ^ j : Nat) : Int) := by
  obtain ⟨n, rfl⟩ := Int.eq_ofNat_of_zero_le ha.1
  have hn : n < 18446744073709551616 := by have := ha.2; omega
  have h : (2 : Nat) ^ j < 2 ^ 64 := Nat.pow_lt_pow_right (by decide) hj
  rw [bits_or_u64_nat n (2 ^ j) hn (by omega), Int.toNat_natCast]
theorem setB_len (x : List Int) (c : Int) : (setB x c).length = x.length := by simp [setB]
theorem setB_u64 (x : List Int) (hx : ∀ a ∈ x, U64 a) (c : Nat) (hc : c < 64 * x.length) (hc' : c < 9223372036854775807) : ∀ a ∈ setB x (c : Int), U64 a := by
  rw [setB_eq x c hc', word_or _ (hx _ (getD_mem (by omega))) _ (Nat.mod_lt _ (by decide))]
  intro a ha
  rcases List.mem_or_eq_of_mem_set ha with h | h
  · exact hx a h
  · subst h
    have h1 := hx _ (getD_mem (l := x) (i := c / 64) (by omega))
    have h2 : (x.getD (c / 64) 0).toNat < 2 ^ 64 := by have := h1.2; omega
    have h3 : (2 : Nat) ^ (c % 64) < 2 ^ 64 := Nat.pow_lt_pow_right (by decide) (Nat.mod_lt _ (by decide))
    have h4 : (x.getD (c / 64) 0).toNat ||| 2 ^ (c % 64) < 2 ^ 64 := Nat.or_lt_two_pow h2 h3
    exact ⟨by omega, by omega⟩
theorem setB_has (x : List Int) (hx : ∀ a ∈ x, U64 a) (c : Nat) (hc : c < 64 * x.length) (hc' : c < 9223372036854775807) (d : Nat) : hasB (setB x (c : Int)) d = (hasB x d || decide (d = c)) := by
  rw [setB_eq x c hc', word_or _ (hx _ (getD_mem (by omega))) _ (Nat.mod_lt _ (by decide))]
  unfold hasB
  rw [List.length_set]
  by_cases h : d / 64 = c / 64
  · have e : (x.set (c / 64) (((x.getD (c / 64) 0).toNat ||| 2 ^ (c % 64) : Nat) : Int)).getD (d / 64) 0 = (((x.getD (c / 64) 0).toNat ||| 2 ^ (c % 64) : Nat) : Int) := by
      rw [h, List.getD_eq_getElem?_getD, List.getElem?_set_self (by omega)]; rfl
    rw [e, Int.toNat_natCast, Nat.testBit_or, Nat.testBit_two_pow, h, decide_eq_true (show c / 64 < x.length by omega), Bool.true_and, Bool.true_and]
    congr 1
    by_cases h2 : d = c
    · subst h2; simp
    · rw [decide_eq_false h2, decide_eq_false (by omega)]
  · have e : (x.set (c / 64) (((x.getD (c / 64) 0).toNat ||| 2 ^ (c % 64) : Nat) : Int)).getD (d / 64) 0 = x.getD (d / 64) 0 := by
      rw [List.getD_eq_getElem?_getD, List.getElem?_set_ne (by omega), List.getD_eq_getElem?_getD]
    rw [e, decide_eq_false (show ¬ d = c by omega), Bool.or_false]
def packName : ByteArray := ⟨#[112, 97, 99, 107, 101, 100, 46, 80, 97, 99, 107]⟩
theorem pcheck_l0 (n : Int) (S : List Int) : ∀ P : List Int, (P ++ S).length < 9223372036854775807 →
    Ev (fun k => packed_check.l0 k n (P ++ S) ((P ++ S).length : Int) (P.length : Int)) (if ∀ c ∈ S, 0 ≤ c ∧ c < n then 0 else 1) := by
  induction S with
  | nil =>
    intro P hP
    rw [if_pos (by simp)]
    refine Ev.step (f := fun _ => some 0) (fun k => ?_) (Ev.now _)
    rw [packed_check.l0, if_neg (by simp)]
  | cons c S ih =>
    intro P hP
    have hlen : (P ++ c :: S).length = P.length + (S.length + 1) := by simp
    by_cases hc : 0 ≤ c ∧ c < n
    · have h' := ih (P ++ [c]) (by simpa using hP)
      have e1 : P ++ [c] ++ S = P ++ c :: S := by simp
      have e2 : ((P ++ [c]).length : Int) = wrap64 ((P.length : Int) + 1) := by rw [w64s (by omega) (by omega)]; simp
      have e3 : (if ∀ t ∈ c :: S, 0 ≤ t ∧ t < n then (0 : Int) else 1) = (if ∀ t ∈ S, 0 ≤ t ∧ t < n then 0 else 1) := by
        by_cases hS : ∀ t ∈ S, 0 ≤ t ∧ t < n
        · rw [if_pos hS, if_pos (by intro t ht; rcases List.mem_cons.1 ht with rfl | ht; exact hc; exact hS t ht)]
        · rw [if_neg hS, if_neg (fun h => hS (fun t ht => h t (by simp [ht])))]
      rw [e1, e2] at h'
      rw [e3]
      refine Ev.step (fun k => ?_) h'
      rw [packed_check.l0, if_pos (by omega), if_pos (by omega), if_pos (by omega), rd_mid, if_neg (by omega), if_neg (by omega)]
    · rw [if_neg (fun h => hc (h c (by simp)))]
      refine Ev.step (f := fun _ => some 1) (fun k => ?_) (Ev.now _)
      rw [packed_check.l0, if_pos (by omega), if_pos (by omega), if_pos (by omega), rd_mid]
      by_cases h0 : c < 0
      · rw [if_pos h0]
      · rw [if_neg h0, if_pos (by omega)]
def colsBad (l : List Int) (n : Int) : Int := if 0 ≤ n ∧ n ≤ 4096 ∧ ∀ c ∈ l, 0 ≤ c ∧ c < n then 0 else 1
theorem pcheck_ev (l : List Int) (n : Int) (hl : l.length < 9223372036854775807) : Ev (fun k => packed_check.f k l n) (colsBad l n) := by
  unfold packed_check.f colsBad
  by_cases h0 : n < 0
  · simp only [if_pos h0]; rw [if_neg (by omega)]; exact Ev.now _
  · by_cases h1 : n > 4096
    · simp only [if_neg h0, if_pos h1]; rw [if_neg (by omega)]; exact Ev.now _
    · simp only [if_neg h0, if_neg h1]
      have h := pcheck_l0 n l [] (by simpa using hl)
      have e : (if 0 ≤ n ∧ n ≤ 4096 ∧ ∀ c ∈ l, 0 ≤ c ∧ c < n then (0 : Int) else 1) = (if ∀ c ∈ l, 0 ≤ c ∧ c < n then 0 else 1) := by
        by_cases hS : ∀ t ∈ l, 0 ≤ t ∧ t < n
        · rw [if_pos hS, if_pos ⟨by omega, by omega, hS⟩]
        · rw [if_neg hS, if_neg (fun h => hS h.2.2)]
      rw [e]
      exact h
theorem word_facts (m n : Nat) (hm : m < 64 * n) (hn : n ≤ 1000000) : 0 ≤ wrap64 (Int.tdiv (m : Int) 64) ∧ wrap64 (Int.tdiv (m : Int) 64) < (n : Int) ∧ 0 ≤ Int.tmod (m : Int) 64 := by
  have e3 : Int.tdiv (m : Int) 64 = ((m / 64 : Nat) : Int) := by rw [Int.tdiv_eq_ediv_of_nonneg (by omega)]; rfl
  have e4 : Int.tmod (m : Int) 64 = ((m % 64 : Nat) : Int) := by rw [Int.tmod_eq_emod_of_nonneg (by omega)]; rfl
  rw [e3, e4, w64s (by omega) (by omega)]
  exact ⟨by omega, by omega, by omega⟩
theorem pack_l0 (S : List Int) : ∀ (P x : List Int), (P ++ S).length < 9223372036854775807 → (∀ c ∈ S, 0 ≤ c ∧ c < 64 * (x.length : Int)) → (∀ a ∈ x, U64 a) → x.length ≤ 1000000 →
    ∃ r, Ev (fun k => packed_Pack.l0 k x (P ++ S) ((P ++ S).length : Int) (P.length : Int)) r ∧
      (r = ([], [⟨packName, true, 2⟩]) ∨ ∃ y, r = (y, []) ∧ y.length = x.length ∧ (∀ a ∈ y, U64 a) ∧ S.Nodup ∧ (∀ c ∈ S, hasB x c.toNat = false) ∧ ∀ d : Nat, hasB y d = (hasB x d || decide ((d : Int) ∈ S))) := by
  induction S with
  | nil =>
    intro P x hP _ hx _
    refine ⟨(x, []), ?_, .inr ⟨x, rfl, rfl, hx, List.nodup_nil, by simp, by simp⟩⟩
    refine Ev.step (f := fun _ => some (x, [])) (fun k => ?_) (Ev.now _)
    rw [packed_Pack.l0, if_neg (by simp)]
  | cons c S ih =>
    intro P x hP hS hx hn
    have hlen : (P ++ c :: S).length = P.length + (S.length + 1) := by simp
    obtain ⟨m, rfl⟩ := Int.eq_ofNat_of_zero_le (hS c (by simp)).1
    have hm : m < 64 * x.length := by have := (hS (m : Int) (by simp)).2; omega
    have hm' : m < 9223372036854775807 := by omega
    by_cases hb : hasB x m = true
    · refine ⟨_, ?_, .inl rfl⟩
      refine Ev.step (f := fun _ => some ([], [⟨packName, true, 2⟩])) (fun k => ?_) (Ev.now _)
      rw [packed_Pack.l0, if_pos (by omega), if_pos (by omega), if_pos (by omega), rd_mid, has_eq x hx m hm']
      simp only [Option.bind_some]
      rw [if_pos hb, new_eqS _ 2 (by decide)]
      rfl
    · have h1 := setB_len x (m : Int)
      obtain ⟨r, hr, h⟩ := ih (P ++ [(m : Int)]) (setB x (m : Int)) (by simpa using hP) (fun t ht => by rw [h1]; exact hS t (by simp [ht])) (setB_u64 x hx m hm (by omega)) (by omega)
      have e1 : P ++ [(m : Int)] ++ S = P ++ (m : Int) :: S := by simp
      have e2 : ((P ++ [(m : Int)]).length : Int) = wrap64 ((P.length : Int) + 1) := by rw [w64s (by omega) (by omega)]; simp
      rw [e1, e2] at hr
      refine ⟨r, ?_, ?_⟩
      · refine Ev.step (fun k => ?_) hr
        obtain ⟨f1, f2, f3⟩ := word_facts m x.length hm hn
        rw [packed_Pack.l0, if_pos (by omega), if_pos (by omega), if_pos (by omega), rd_mid, has_eq x hx m hm']
        simp only [Option.bind_some]
        rw [if_neg hb, if_pos f1, if_pos f2, if_pos f3]
        rfl
      · rcases h with h | ⟨y, h, hy, hu, hnd, hno, hh⟩
        · exact .inl h
        · refine .inr ⟨y, h, by rw [hy, h1], hu, ?_, ?_, ?_⟩
          · refine List.nodup_cons.2 ⟨fun hin => ?_, hnd⟩
            have := hno _ hin
            rw [Int.toNat_natCast, setB_has x hx m hm (by omega)] at this
            simp at this
          · intro t ht
            rcases List.mem_cons.1 ht with rfl | ht
            · rw [Int.toNat_natCast]; simpa using hb
            · have := hno t ht
              rw [setB_has x hx m hm (by omega)] at this
              simp at this
              exact this.1
          · intro d
            rw [hh d, setB_has x hx m hm (by omega)]
            by_cases hd : d = m
            · subst hd; simp
            · have : ¬ (d : Int) = (m : Int) := by omega
              simp [hd, this]
theorem pack_ev (l : List Int) (n : Int) (hl : l.length < 9223372036854775807) : ∃ r, Ev (fun k => packed_Pack.f k l n) r ∧
    ((∃ e, e ≠ 0 ∧ r = ([], [⟨packName, true, e⟩])) ∨ ∃ y, r = (y, []) ∧ y.length = (n.toNat + 63) / 64 ∧ n ≤ 4096 ∧ (∀ a ∈ y, U64 a) ∧ l.Nodup ∧ (∀ c ∈ l, 0 ≤ c ∧ c < n) ∧ ∀ d : Nat, hasB y d = decide ((d : Int) ∈ l)) := by
  have hc := pcheck_ev l n hl
  unfold packed_Pack.f
  by_cases h : 0 ≤ n ∧ n ≤ 4096 ∧ ∀ c ∈ l, 0 ≤ c ∧ c < n
  · have e0 : colsBad l n = 0 := by unfold colsBad; rw [if_pos h]
    obtain ⟨h0, h1, h2⟩ := h
    have hlen : (List.replicate ((n.toNat + 63) / 64) (0 : Int)).length = (n.toNat + 63) / 64 := by simp
    obtain ⟨r, hr, ho⟩ := pack_l0 l [] (List.replicate ((n.toNat + 63) / 64) 0) (by simpa using hl) (fun c hc => by have := h2 c hc; rw [hlen]; omega) (fun a ha => by have := List.eq_of_mem_replicate ha; subst this; exact ⟨by decide, by decide⟩) (by rw [hlen]; omega)
    refine ⟨r, ?_, ?_⟩
    · refine Ev.bind hc ?_
      simp only [e0, if_true, psize_eq n h0 h1, Option.bind_some, Int.toNat_natCast]
      refine Ev.congr (fun k => ?_) hr
      rw [if_pos (by omega), if_pos (by omega)]
      rfl
    · rcases ho with rfl | ⟨y, rfl, hy, hu, hnd, hno, hh⟩
      · exact .inl ⟨2, by decide, rfl⟩
      · refine .inr ⟨y, rfl, by rw [hy, hlen], h1, hu, hnd, h2, fun d => ?_⟩
        rw [hh d, hasB_zero, Bool.false_or]
  · have e0 : colsBad l n = 1 := by unfold colsBad; rw [if_neg h]
    refine ⟨([], [⟨packName, true, 1⟩]), ?_, .inl ⟨1, by decide, rfl⟩⟩
    refine Ev.bind hc ?_
    simp only [e0]
    refine Ev.congr (fun k => ?_) (Ev.now _)
    rw [if_neg (by decide), new_eqS _ 1 (by decide)]
    rfl
theorem one_ev {n : Nat} (h1 : 1 ≤ n) (h2 : n ≤ 4096) {c : Nat} (hc : c < n) : ∃ pk, Ev (fun k => packed_Pack.f k [(c : Int)] (n : Int)) (pk, []) ∧ RowOK n pk ∧ ∀ d, hasB pk d = decide (d = c) := by
  obtain ⟨r, hr, h⟩ := pack_ev [(c : Int)] (n : Int) (by show 1 < _; decide)
  have hin : ∀ t ∈ [(c : Int)], 0 ≤ t ∧ t < (n : Int) := fun t ht => by
    obtain rfl : t = (c : Int) := by simpa using ht
    exact ⟨by omega, by omega⟩
  rcases h with ⟨e, he, hr'⟩ | ⟨y, rfl, hy, _, hu, _, _, hh⟩
  · exfalso
    have hc0 := pcheck_ev [(c : Int)] (n : Int) (by show 1 < _; decide)
    have e0 : colsBad [(c : Int)] (n : Int) = 0 := by unfold colsBad; rw [if_pos ⟨by omega, by omega, hin⟩]
    rw [e0] at hc0
    have hlen : (List.replicate ((n : Int).toNat + 63) (0 : Int)).length = (n : Int).toNat + 63 := by simp
    have hb0 : hasB (List.replicate (nW (n : Int)) 0) c = false := hasB_zero _ _
    have g : Ev (fun k => packed_Pack.f k [(c : Int)] (n : Int)) (setB (List.replicate (nW (n : Int)) 0) (c : Int), []) := by
      obtain ⟨f1, f2, f3⟩ := word_facts c (nW (n : Int)) (by unfold nW; rw [Int.toNat_natCast]; omega) (by have := nW_pos h2; omega)
      unfold packed_Pack.f
      refine Ev.bind hc0 ?_
      refine Ev.congr (f := fun k => packed_Pack.l0 k (List.replicate (nW (n : Int)) 0) [(c : Int)] 1 0) (fun k => ?_) ?_
      · rw [if_pos rfl, psize_eq (n : Int) (by omega) (by omega), Option.bind_some, if_pos (by omega), Int.toNat_natCast, if_pos (by omega)]
        rfl
      · refine Ev.step (f := fun k => packed_Pack.l0 k (setB (List.replicate (nW (n : Int)) 0) (c : Int)) [(c : Int)] 1 1) (fun k => ?_) (Ev.step (f := fun _ => some (setB (List.replicate (nW (n : Int)) 0) (c : Int), [])) (fun k => ?_) (Ev.now _))
        · have er : rd [(c : Int)] 0 = (c : Int) := rfl
          rw [packed_Pack.l0, if_pos (by decide), if_pos (by decide), if_pos (by show (0 : Int) < 1; decide), er, has_eq _ (fun a ha => by have := List.eq_of_mem_replicate ha; subst this; exact ⟨by decide, by decide⟩) c (by omega), hb0, Option.bind_some, if_neg Bool.false_ne_true, if_pos f1, if_pos (by rw [List.length_replicate]; exact f2), if_pos f3, show wrap64 (0 + 1) = 1 from w64s (by decide) (by decide)]
          rfl
        · rw [packed_Pack.l0, if_neg (by decide)]
    obtain ⟨K1, g1⟩ := g
    obtain ⟨K2, g2⟩ := hr
    have e1 := g1 (max K1 K2) (Nat.le_max_left _ _)
    have e2 := g2 (max K1 K2) (Nat.le_max_right _ _)
    rw [e1] at e2
    have e3 := Option.some.inj e2
    rw [hr'] at e3
    have e4 := congrArg Prod.snd e3
    cases e4
  · refine ⟨y, hr, ⟨by rw [hy]; rfl, hu, fun d hd => by rw [hh d]; simp; omega⟩, fun d => ?_⟩
    rw [hh d]
    by_cases h : d = c
    · subst h; simp
    · rw [decide_eq_false h]
      simp
      omega
def ev (c : Nat) : V := fun d => decide (d = c)
def valName : ByteArray := ⟨#[101, 108, 105, 109, 46, 86, 97, 108, 117, 101]⟩
theorem rd8_in {S : List (List Int)} {c : Nat} (h : c < S.length) : S.getD c [] ∈ S := by
  rw [List.getD_eq_getElem?_getD, List.getElem?_eq_getElem h]
  exact List.getElem_mem h
theorem val_ev {x : S74} {m : Nat} {S : List (List Int)} {L : List V} (hS : ∀ s ∈ S, SymOK m s) (h : TI x S.length m (DS S) L) {c : Nat} (hc : c < S.length) :
    (Ev (fun k => elim_System_Value.f k [x] (c : Int)) (S.getD c [], []) ∧ Sp (L.map (pr S.length)) (ev c)) ∨
    (Ev (fun k => elim_System_Value.f k [x] (c : Int)) ([], [⟨valName, true, 4⟩]) ∧ ¬ Sp (L.map (pr S.length)) (ev c)) := by
  have hI := h.si
  have n2 := hI.n2
  have m2 := hI.m2
  obtain ⟨pk, he, hr, hh⟩ := one_ev hI.n1 n2 hc
  obtain ⟨row', sym', first', hd, hr', hs', hsp, hD⟩ := down_ev hI hr (SymOK.zeros m)
  have hpk : hasB pk = ev c := by funext d; exact hh d
  have key : ∀ {r}, Ev (fun k => if first' ≥ 0 then some (([] : List Int), [(⟨valName, true, 4⟩ : FE)]) else some (copyL (List.replicate m 0) sym', ([] : List FE))) r → Ev (fun k => elim_System_Value.f k [x] (c : Int)) r := fun g => by
    refine Ev.congr (f := fun k => elimM_Value.j0 k [x] (c : Int) false) (fun k => ?_) (Ev.step (f := fun k => (packed_Pack.f k [(c : Int)] (S.length : Int)).bind fun bt286 => (elimM_down.f k [x] bt286.1 (zeros (m : Int))).bind fun bt296 => (if bt296.2.2 ≥ 0 then some ([], [(⟨valName, true, 4⟩ : FE)]) else some (copyL (List.replicate m 0) bt296.2.1, ([] : List FE)))) (fun k => ?_) (Ev.bind he (Ev.bind hd g)))
    · unfold elim_System_Value.f
      rw [if_neg (by simp)]
      unfold elimM_Value.f
      rw [if_pos (by simp), hd_sys, h.f4, if_neg Bool.false_ne_true, if_neg (by omega), hI.f0, decide_eq_false (by omega)]
    · rw [elimM_Value.j0, if_neg Bool.false_ne_true, if_pos (by simp), hd_sys, hI.f0, hI.f1]
      refine congrArg _ (funext fun bt => ?_)
      rw [if_pos (by omega), Int.toNat_natCast, if_pos (by omega)]
      rfl
  have hspL : Sp L (vx (J S.length pk (zeros (m : Int))) (J S.length row' sym')) := hsp.trans h.dn
  rcases hD.2 with ⟨e, hz⟩ | ⟨c0, e, hc0, hat, hb, hlow⟩
  · refine .inl ⟨?_, ?_⟩
    · have ht := Tr.sp h.tr hspL
      have hs : sym' = S.getD c [] := byB_ext hs' (hS _ (rd8_in hc)) (fun p => by
        have g := ht p
        rw [pf_one (DS S) _ p S.length c hc (fun d hd => by
          show (J S.length pk (zeros (m : Int)) d != J S.length row' sym' d) = _
          rw [J_lo pk _ hd, J_lo row' _ hd, hz d hd, hh d]
          cases decide (d = c) <;> rfl)] at g
        have g2 : (J S.length pk (zeros (m : Int)) (S.length + p) != J S.length row' sym' (S.length + p)) = DS S c p := g
        rw [J_hi, J_hi, byB_zeros] at g2
        show byB sym' p = DS S c p
        rw [← g2]
        cases byB sym' p <;> rfl)
      refine key (Ev.congr (f := fun _ => some (S.getD c [], [])) (fun k => ?_) (Ev.now _))
      rw [if_neg (by omega), copyL_self m sym' hs'.len, hs]
    · have g := pr_sp (n := S.length) hspL
      rw [pr_vx, pr_J hr, pr_J hr', hpk] at g
      have h0 : hasB row' = v0 := by
        funext d
        by_cases hd : d < S.length
        · rw [hz d hd]; rfl
        · rw [hr'.hi d (by omega)]; rfl
      rwa [h0, vx_zero] at g
  · refine .inr ⟨key (Ev.congr (f := fun _ => some ([], [⟨valName, true, 4⟩])) (fun k => if_pos (by omega)) (Ev.now _)), fun hs => ?_⟩
    have g := pr_sp (n := S.length) hsp
    rw [pr_vx, pr_J hr, pr_J hr', hpk, pr_KV hI, vx_comm] at g
    have h1 : Sp (x.f2.map fun e => hasB e.f0) (ev c) := hs.trans (fun u hu => by
      obtain ⟨w, hw, rfl⟩ := List.mem_map.1 hu
      rw [← pr_KV hI]
      exact pr_sp (h.up w hw))
    have h3 := h.null hr' (vx_back g h1) (fun c hc h0 => hD.1 c hc h0) c0
    rw [h3] at hb
    cases hb
end Go.Proofs.YtjmgkknbgffbjaaDoor.Pure
namespace Go.Proofs.YtjmgkknbgffbjaaDoor.P
open Go.RowKit Go.Proofs.YtjmgkknbgffbjaaDoorW.PrintWords Go.Proofs.YtjmgkknbgffbjaaDoorW.PrintLast Go.Proofs.YtjmgkknbgffbjaaDoorW.PrintErr Go.Proofs.YtjmgkknbgffbjaaDoorW.PrintMore
attribute [local go_sem] max2_int min2_int max_two min_two max_three min_three max_four min_four run_eql_errOf run_neq_errOf eqGuard_errOf run_eql_ptrOf run_neq_ptrOf eqGuard_ptrOf   -- for this text's walks alone
set_option linter.unusedVariables false
set_option linter.unusedSimpArgs false
def geyserlaw05_awake.j0 : Nat → List (S74) → Bool → Option (Bool)
 | 0, _, _ => none
 | k + 1, x1, x18 => if x18 = true then (some false) else ((elim_System_Add.f k x1 (([3] : List Int)) (([3] : List Int))).bind fun bt259 => ((elim_System_Add.f k bt259.2.2 (([1] : List Int)) (([1] : List Int))).bind fun bt270 => ((elim_System_Value.f k bt270.2.2 1).bind fun bt275 => (if (bt259.2.1.length : Int) = 0 then (if (bt270.2.1.length : Int) = 0 then (if (bt275.2.length : Int) = 0 then (if bt259.1 = 1 then (if bt270.1 = 1 then (if (strOfNums bt275.1).toList = ([2] : List UInt8) then ((elim_System_Whole.f bt270.2.2).bind fun t281 => (some t281)) else (some false)) else (some false)) else (some false)) else (some false)) else (some false)) else (some false)))))
def geyserlaw05_awake.f (k : Nat)  : Option (Bool) := (elim_New.f 2 1).bind fun bt247 => (if (bt247.2.length : Int) = 0 then (geyserlaw05_awake.j0 k bt247.1 ((bt247.1.length : Int) == 0)) else (geyserlaw05_awake.j0 k bt247.1 true))
theorem geyserlaw05_awake.mono_l : ∀ k, (∀ y0 y1, LeO (geyserlaw05_awake.j0 k y0 y1) (geyserlaw05_awake.j0 (k + 1) y0 y1))
 | 0 => fun _ _ r h => by simp [geyserlaw05_awake.j0] at h
 | k + 1 => by
  have ih0 := geyserlaw05_awake.mono_l k
  ·intro y0 y1; unfold geyserlaw05_awake.j0
   repeat' first
   | (with_reducible exact ih0 _ _)
   | (with_reducible exact elim_System_Add.mono _ _ _ _)
   | (with_reducible exact elim_System_Value.mono _ _ _)
   | (with_reducible exact LeO.refl _)
   | (with_reducible exact LeO.none _)
   | (with_reducible refine LeO.ite ?_ ?_)
   | (with_reducible refine LeO.bind ?_ (fun _ => ?_))
   | exact ih0 _ _
   | exact elim_System_Add.mono _ _ _ _
   | exact elim_System_Value.mono _ _ _
   | exact LeO.none _
   | refine LeO.ite ?_ ?_
   | refine LeO.bind ?_ (fun _ => ?_)
theorem geyserlaw05_awake.mono : ∀ k, LeO (geyserlaw05_awake.f k ) (geyserlaw05_awake.f (k + 1) ) := by
 intro  k; have ih0 := geyserlaw05_awake.mono_l k; unfold geyserlaw05_awake.f
 repeat' first
   | (with_reducible exact ih0 _ _)
   | (with_reducible exact elim_System_Add.mono _ _ _ _)
   | (with_reducible exact elim_System_Value.mono _ _ _)
   | (with_reducible exact LeO.refl _)
   | (with_reducible exact LeO.none _)
   | (with_reducible refine LeO.ite ?_ ?_)
   | (with_reducible refine LeO.bind ?_ (fun _ => ?_))
   | exact ih0 _ _
   | exact elim_System_Add.mono _ _ _ _
   | exact elim_System_Value.mono _ _ _
   | exact LeO.none _
   | refine LeO.ite ?_ ?_
   | refine LeO.bind ?_ (fun _ => ?_)
set_option maxHeartbeats 8000000 in
set_option maxRecDepth 100000 in
theorem geyserlaw05_awake.calls (k : Nat)  (r : Bool) (w : World) (ht : TabIn w) (h : geyserlaw05_awake.f k  = some r) :
  Calls Tryd.prog 15 #[] w fun e w' => e = .returned (.bool r) ∧ Below w.heap.size w w' := by
 have HB := AQ (Below.refl w.heap.size w); have HT := AQ ht; clear ht; have H : ((elim_New.f 2 1).bind fun bt247 => (if (bt247.2.length : Int) = 0 then (geyserlaw05_awake.j0 k bt247.1 ((bt247.1.length : Int) == 0)) else (geyserlaw05_awake.j0 k bt247.1 true))) = some r := h; clear h; replace H := Option.bind_eq_some_iff.mp H; obtain ⟨⟨t247, t248⟩, A10, H⟩ := H; replace H : (if (t248.length : Int) = 0 then (geyserlaw05_awake.j0 k t247 ((t247.length : Int) == 0)) else (geyserlaw05_awake.j0 k t247 true)) = some r := H; have A1 := AQ A10; clear A10; have HC2 := AQ H; clear H; go_enter Tryd.func15, Tryd.ntmps15; go_upto_region 2 with (first | ((with_reducible refine gate_callee (f := 10) rfl ?_); refine gL (some 10) rfl rfl Tryd.func10 #[.int .i64 2, .int .i64 1] rfl ?_; (with_reducible refine (elim_New.calls 2 1 t247 t248 _ A1.out).mono ?_); rintro e w3 ⟨v249, v251, rfl, ho0, ho1, hb⟩; refine ⟨_, rfl, ?_⟩; have n0_ := AQ (Kd.R_lower ho0 (below_size (PB HB))); have n1_ := AQ (Kd.R_lower ho1 (below_size (PB HB))); have n2_ := AQ (below_step (PB HB) hb); clear HB; have HO250 := n0_; have HO252 := n1_; have HB := n2_; clear n0_ n1_ n2_; (try clear hb); (try clear hb2); (try clear hk); (try clear hi); (try clear ho0); (try clear ho1))); (try simp only [Act.put, List.setIfInBounds_toArray, List.set_cons_zero, List.set_cons_succ]); go_cut [18] (fun v18 wc => ∃ (kq : Nat) (x18_1 : Bool), v18 = .bool x18_1 ∧ Aside0 (geyserlaw05_awake.j0 kq t247 x18_1 = some r) ∧ Aside0 (kq ≤ k) ∧ Aside0 (Kd.R k74 74 wc w.heap.size (fun _ => True) v249 t247) ∧ Aside0 (Below w.heap.size w wc))
 case first =>
  have H := HC2.out; clear HC2
  by_cases c4 : (t248.length : Int) = 0
  ·rw [if_pos c4] at H; have c4b0 : ((t248.length : Int) == 0) = true := beq_iff_eq.mpr c4; have c4b1 : ((t248.length : Int) != 0) = false := bne_eq_false_iff_eq.mpr c4; clear c4; (first | rw [c4b0] | rw [c4b1] | (simp only [i64_w, i32_w]; rw [c4b0]) | skip); have H' := AQ H; clear H; obtain ⟨Ao5, co5, eo5⟩ := Kd.R_slice HO252.out; subst eo5; obtain ⟨Ao6, co6, eo6⟩ := Kd.R_slice HO250.out; subst eo6; go_wp2; go_meet
   case rel => exact ⟨_, (((t247.length : Int) == 0)), (by first | rfl | (simp; done) | (simp [*]; done)), H', ⟨by first | omega | exact Nat.le_refl _⟩, ⟨PR HO250⟩, ⟨PB HB⟩⟩
  ·rw [if_neg c4] at H; have c4b0 : ((t248.length : Int) == 0) = false := beq_eq_false_iff_ne.mpr c4; have c4b1 : ((t248.length : Int) != 0) = true := bne_iff_ne.mpr c4; have c4b2 : ¬ (t248 = []) := fun h_ => c4 (by rw [h_]; rfl)
   (first | rw [c4b0] | rw [c4b1] | (simp only [i64_w, i32_w]; rw [c4b0]) | skip); have H' := AQ H; clear H; obtain ⟨Ao7, co7, eo7⟩ := Kd.R_slice HO252.out; subst eo7; go_wp2; go_meet
   case rel => exact ⟨_, (true), (by first | rfl | (simp; done) | (simp [*]; done)), H', ⟨by first | omega | exact Nat.le_refl _⟩, ⟨PR HO250⟩, ⟨PB HB⟩⟩
 case rest =>
  clear HC2; (try clear c1); (try clear p2); (try clear c4); (try clear c4b0); (try clear c4b1); (try clear c4b2); obtain ⟨kq, x18_1, rfl, HA, HJ1, HO_1, HB⟩ := hcut; cases kq with
  | zero => exact absurd HA.out (by simp [geyserlaw05_awake.j0])
  | succ kj1 =>
   have H := HA.out; clear HA; simp only [geyserlaw05_awake.j0] at H
   by_cases c8 : x18_1 = true
   ·subst c8; have H1 : (some false) = some r := (by rw [if_pos rfl] at H; exact H); clear H; have H := H1; clear H1; obtain rfl := Option.some.inj H; go_wp2; go_ret; exact ⟨by first | rfl | (simp [errW_none, errW_some] <;> rfl) | (simp [*, errW_none, errW_some] <;> rfl), PB HB⟩
   ·replace c8 := Bool.eq_false_iff.mpr c8; subst c8; have H1 : ((elim_System_Add.f kj1 t247 (([3] : List Int)) (([3] : List Int))).bind fun bt259 => ((elim_System_Add.f kj1 bt259.2.2 (([1] : List Int)) (([1] : List Int))).bind fun bt270 => ((elim_System_Value.f kj1 bt270.2.2 1).bind fun bt275 => (if (bt259.2.1.length : Int) = 0 then (if (bt270.2.1.length : Int) = 0 then (if (bt275.2.length : Int) = 0 then (if bt259.1 = 1 then (if bt270.1 = 1 then (if (strOfNums bt275.1).toList = ([2] : List UInt8) then ((elim_System_Whole.f bt270.2.2).bind fun t281 => (some t281)) else (some false)) else (some false)) else (some false)) else (some false)) else (some false)) else (some false))))) = some r := (by rw [if_neg (show ¬ (false = true) by decide)] at H; exact H); clear H; have H := H1; clear H1; obtain ⟨y253, hy253⟩ : ∃ y_ : List Int, y_ = (([3] : List Int)) := ⟨_, rfl⟩; replace H : ((elim_System_Add.f kj1 t247 y253 (([3] : List Int))).bind fun bt259 => ((elim_System_Add.f kj1 bt259.2.2 (([1] : List Int)) (([1] : List Int))).bind fun bt270 => ((elim_System_Value.f kj1 bt270.2.2 1).bind fun bt275 => (if (bt259.2.1.length : Int) = 0 then (if (bt270.2.1.length : Int) = 0 then (if (bt275.2.length : Int) = 0 then (if bt259.1 = 1 then (if bt270.1 = 1 then (if (strOfNums bt275.1).toList = ([2] : List UInt8) then ((elim_System_Whole.f bt270.2.2).bind fun t281 => (some t281)) else (some false)) else (some false)) else (some false)) else (some false)) else (some false)) else (some false))))) = some r := (by first | (rw [hy253]; with_reducible exact H) | (have H2_ := (Option.bind_some _ _).symm.trans H; rw [hy253]; with_reducible exact H2_) | (have H2_ := (Option.bind_some _ _).symm.trans H; with_reducible exact H2_) | with_reducible exact H | (rw [hy253]; exact H) | exact H); have Ny253 := AQ hy253; clear hy253; obtain ⟨y256, hy256⟩ : ∃ y_ : List Int, y_ = (([3] : List Int)) := ⟨_, rfl⟩; replace H : ((elim_System_Add.f kj1 t247 y253 y256).bind fun bt259 => ((elim_System_Add.f kj1 bt259.2.2 (([1] : List Int)) (([1] : List Int))).bind fun bt270 => ((elim_System_Value.f kj1 bt270.2.2 1).bind fun bt275 => (if (bt259.2.1.length : Int) = 0 then (if (bt270.2.1.length : Int) = 0 then (if (bt275.2.length : Int) = 0 then (if bt259.1 = 1 then (if bt270.1 = 1 then (if (strOfNums bt275.1).toList = ([2] : List UInt8) then ((elim_System_Whole.f bt270.2.2).bind fun t281 => (some t281)) else (some false)) else (some false)) else (some false)) else (some false)) else (some false)) else (some false))))) = some r := (by first | (rw [hy256]; with_reducible exact H) | (have H2_ := (Option.bind_some _ _).symm.trans H; rw [hy256]; with_reducible exact H2_) | (have H2_ := (Option.bind_some _ _).symm.trans H; with_reducible exact H2_) | with_reducible exact H | (rw [hy256]; exact H) | exact H); have Ny256 := AQ hy256; clear hy256; replace H := Option.bind_eq_some_iff.mp H; obtain ⟨⟨t259, t260, t263⟩, A90, H⟩ := H; replace H : ((elim_System_Add.f kj1 t263 (([1] : List Int)) (([1] : List Int))).bind fun bt270 => ((elim_System_Value.f kj1 bt270.2.2 1).bind fun bt275 => (if (t260.length : Int) = 0 then (if (bt270.2.1.length : Int) = 0 then (if (bt275.2.length : Int) = 0 then (if t259 = 1 then (if bt270.1 = 1 then (if (strOfNums bt275.1).toList = ([2] : List UInt8) then ((elim_System_Whole.f bt270.2.2).bind fun t281 => (some t281)) else (some false)) else (some false)) else (some false)) else (some false)) else (some false)) else (some false)))) = some r := H; have A9 := AQ A90; clear A90; obtain ⟨y264, hy264⟩ : ∃ y_ : List Int, y_ = (([1] : List Int)) := ⟨_, rfl⟩; replace H : ((elim_System_Add.f kj1 t263 y264 (([1] : List Int))).bind fun bt270 => ((elim_System_Value.f kj1 bt270.2.2 1).bind fun bt275 => (if (t260.length : Int) = 0 then (if (bt270.2.1.length : Int) = 0 then (if (bt275.2.length : Int) = 0 then (if t259 = 1 then (if bt270.1 = 1 then (if (strOfNums bt275.1).toList = ([2] : List UInt8) then ((elim_System_Whole.f bt270.2.2).bind fun t281 => (some t281)) else (some false)) else (some false)) else (some false)) else (some false)) else (some false)) else (some false)))) = some r := (by first | (rw [hy264]; with_reducible exact H) | (have H2_ := (Option.bind_some _ _).symm.trans H; rw [hy264]; with_reducible exact H2_) | (have H2_ := (Option.bind_some _ _).symm.trans H; with_reducible exact H2_) | with_reducible exact H | (rw [hy264]; exact H) | exact H); have Ny264 := AQ hy264; clear hy264; obtain ⟨y267, hy267⟩ : ∃ y_ : List Int, y_ = (([1] : List Int)) := ⟨_, rfl⟩; replace H : ((elim_System_Add.f kj1 t263 y264 y267).bind fun bt270 => ((elim_System_Value.f kj1 bt270.2.2 1).bind fun bt275 => (if (t260.length : Int) = 0 then (if (bt270.2.1.length : Int) = 0 then (if (bt275.2.length : Int) = 0 then (if t259 = 1 then (if bt270.1 = 1 then (if (strOfNums bt275.1).toList = ([2] : List UInt8) then ((elim_System_Whole.f bt270.2.2).bind fun t281 => (some t281)) else (some false)) else (some false)) else (some false)) else (some false)) else (some false)) else (some false)))) = some r := (by first | (rw [hy267]; with_reducible exact H) | (have H2_ := (Option.bind_some _ _).symm.trans H; rw [hy267]; with_reducible exact H2_) | (have H2_ := (Option.bind_some _ _).symm.trans H; with_reducible exact H2_) | with_reducible exact H | (rw [hy267]; exact H) | exact H); have Ny267 := AQ hy267; clear hy267; replace H := Option.bind_eq_some_iff.mp H; obtain ⟨⟨t270, t271, t274⟩, A100, H⟩ := H; replace H : ((elim_System_Value.f kj1 t274 1).bind fun bt275 => (if (t260.length : Int) = 0 then (if (t271.length : Int) = 0 then (if (bt275.2.length : Int) = 0 then (if t259 = 1 then (if t270 = 1 then (if (strOfNums bt275.1).toList = ([2] : List UInt8) then ((elim_System_Whole.f t274).bind fun t281 => (some t281)) else (some false)) else (some false)) else (some false)) else (some false)) else (some false)) else (some false))) = some r := H; have A10 := AQ A100; clear A100; replace H := Option.bind_eq_some_iff.mp H; obtain ⟨⟨t275, t276⟩, A110, H⟩ := H; replace H : (if (t260.length : Int) = 0 then (if (t271.length : Int) = 0 then (if (t276.length : Int) = 0 then (if t259 = 1 then (if t270 = 1 then (if (strOfNums t275).toList = ([2] : List UInt8) then ((elim_System_Whole.f t274).bind fun t281 => (some t281)) else (some false)) else (some false)) else (some false)) else (some false)) else (some false)) else (some false)) = some r := H; have A11 := AQ A110; clear A110
    by_cases c12 : (t260.length : Int) = 0
    ·rw [if_pos c12] at H; have c12b0 : ((t260.length : Int) == 0) = true := beq_iff_eq.mpr c12; have c12b1 : ((t260.length : Int) != 0) = false := bne_eq_false_iff_eq.mpr c12; clear c12
     by_cases c13 : (t271.length : Int) = 0
     ·rw [if_pos c13] at H; have c13b0 : ((t271.length : Int) == 0) = true := beq_iff_eq.mpr c13; have c13b1 : ((t271.length : Int) != 0) = false := bne_eq_false_iff_eq.mpr c13; clear c13
      by_cases c14 : (t276.length : Int) = 0
      ·rw [if_pos c14] at H; have c14b0 : ((t276.length : Int) == 0) = true := beq_iff_eq.mpr c14; have c14b1 : ((t276.length : Int) != 0) = false := bne_eq_false_iff_eq.mpr c14; clear c14
       by_cases c15 : t259 = 1
       ·rw [if_pos c15] at H; have c15b0 : (t259 == 1) = true := beq_iff_eq.mpr c15; have c15b1 : (t259 != 1) = false := bne_eq_false_iff_eq.mpr c15; clear c15
        by_cases c16 : t270 = 1
        ·rw [if_pos c16] at H; have c16b0 : (t270 == 1) = true := beq_iff_eq.mpr c16; have c16b1 : (t270 != 1) = false := bne_eq_false_iff_eq.mpr c16; clear c16
         by_cases c17 : (strOfNums t275).toList = ([2] : List UInt8)
         ·rw [if_pos c17] at H; have c17b0 : ((strOfNums t275).toList == ([2] : List UInt8)) = true := beq_iff_eq.mpr c17; have c17b1 : ((strOfNums t275).toList != ([2] : List UInt8)) = false := bne_eq_false_iff_eq.mpr c17; clear c17; replace H := Option.bind_eq_some_iff.mp H; obtain ⟨t281, A180, H⟩ := H; replace H : (some t281) = some r := H; have A18 := AQ A180; clear A180; obtain rfl := Option.some.inj H; go_wp2_with (first | ((with_reducible refine gate_dst (N := 21) rfl ?_); refine Kd.R_lit (Kd.int .u64) _ 35 ?hg (N := 21) ?hd (xs := ([3] : List Int)) (inner := [.int .u64 3]) (ok := fun _ => True) (okp := fun _ => True) ?hr ?hp (fun _ hk => hk) trivial (Below.refl _ _) (Nat.le_refl _) (by simp) ?_; (case hd => rfl); (case hg => rfl); (case hr => first | (go_simp; done) | (go_simp; rfl)); (case hp => exact (Reps.one (show Kd.M (Kd.int .u64) _ _ _ 3 [.int .u64 3] from rfl) (Reps.none _ _))); intro v254 w19 ho20 hb hg_ hnew_; clear hg_ hnew_; (first | rw [← Ny253.out] at ho20 | (simp only [Int.reduceToNat] at ho20; rw [← Ny253.out] at ho20)); have n0_ := AQ (Kd.R_elder' (PR HO_1) (Kd.R_base ho20) hb); have n1_ := AQ (Kd.R_lower ho20 (below_size (PB HB))); have n2_ := AQ (below_step (PB HB) hb); clear HO_1; clear HB; have HO_1 := n0_; have HO255 := n1_; have HB := n2_; clear n0_ n1_ n2_; clear hb ho20) | ((with_reducible refine gate_dst (N := 22) rfl ?_); refine Kd.R_lit (Kd.int .u8) _ 5 ?hg (N := 22) ?hd (xs := ([3] : List Int)) (inner := [.int .u8 3]) (ok := fun _ => True) (okp := fun _ => True) ?hr ?hp (fun _ hk => hk) trivial (Below.refl _ _) (Nat.le_refl _) (by simp) ?_; (case hd => rfl); (case hg => rfl); (case hr => first | (go_simp; done) | (go_simp; rfl)); (case hp => exact (Reps.one (show Kd.M (Kd.int .u8) _ _ _ 3 [.int .u8 3] from rfl) (Reps.none _ _))); intro v257 w21 ho22 hb hg_ hnew_; clear hg_ hnew_; (first | rw [← Ny256.out] at ho22 | (simp only [Int.reduceToNat] at ho22; rw [← Ny256.out] at ho22)); have n0_ := AQ (Kd.R_elder' (PR HO_1) (Kd.R_base ho22) hb); have n1_ := AQ (Kd.R_below (PR HO255) hb); have n2_ := AQ (Kd.R_lower ho22 (below_size (PB HB))); have n3_ := AQ (below_step (PB HB) hb); clear HO_1; clear HO255; clear HB; have HO_1 := n0_; have HO255 := n1_; have HO258 := n2_; have HB := n3_; clear n0_ n1_ n2_ n3_; clear hb ho22; obtain ⟨Ao23, co23, eo23⟩ := Kd.R_slice HO_1.out; subst eo23; obtain ⟨Ao24, co24, eo24⟩ := Kd.R_slice HO255.out; subst eo24; obtain ⟨Ao25, co25, eo25⟩ := Kd.R_slice HO258.out; subst eo25) | ((with_reducible refine gate_callee (f := 11) rfl ?_); refine gL (some 23) rfl rfl Tryd.func11 #[ptrOf (.slice Ao23 t247.length co23), .slice Ao24 y253.length co24, .slice Ao25 y256.length co25] rfl ?_; (with_reducible refine (elim_System_Add.calls kj1 (fun k_ => (some k_ ≠ (.slice Ao24 y253.length co24 : Value).ownBlock ∧ some k_ ≠ (.slice Ao25 y256.length co25 : Value).ownBlock)) (.slice Ao23 t247.length co23) t247 _ _ y253 _ _ y256 t259 t260 t263 w _ ?side1 ?side2 ?side3 ?side4 ?side5 ?side6 ?side7 A9.out).mono ?_); (case side1 => first | exact HT.out | exact TabIn.below HT.out (PB HB) | (repeat (first | apply TabIn.drewN | apply TabIn.drew | exact HT.out))); (case side2 => exact PB HB); (case side3 => (with_reducible repeat (first | apply Kd.R_alloc | apply Kd.R_drewN | apply Kd.R_drew)); exact Kd.R_mono HO_1.out (fun _ hk => ⟨hk.1.2, hk.2⟩)); (case side4 => exact QC HO255); (case side5 => exact (Kd.R_reads' HO255.out).2.1); (case side6 => exact QC HO258); (case side7 => exact (Kd.R_reads' HO258.out).2.1); rintro e w26 ⟨v261, rfl, ho0, hy0, hb, hkp⟩; refine ⟨_, rfl, ?_⟩; have n0_ := AQ (Kd.R_mono (ok' := fun k_ => (some k_ ≠ (.slice Ao24 y253.length co24 : Value).ownBlock ∧ some k_ ≠ (.slice Ao25 y256.length co25 : Value).ownBlock)) hy0 (fun k_ hk_ => Or.elim hk_ (fun hs_ => hs_) (fun hn_ => ⟨(Kd.fresh' (Kd.R_lt (PR HO255)) k_ hn_), (Kd.fresh' (Kd.R_lt (PR HO258)) k_ hn_)⟩))); have n1_ := AQ (Kd.R_skept (PR HO255) hkp (by decide)); have n2_ := AQ (Kd.R_skept (PR HO258) hkp (by decide)); have n3_ := AQ (Kd.R_lower ho0 (below_size (PB HB))); have n4_ := AQ (hb); clear HO_1; clear HO255; clear HO258; clear HB; have HO_1 := n0_; have HO255 := n1_; have HO258 := n2_; have HO262 := n3_; have HB := n4_; clear n0_ n1_ n2_ n3_ n4_; (try clear hb); (try clear hkp); (try clear hy0); (try clear ho0)) | ((with_reducible refine gate_dst (N := 28) rfl ?_); refine Kd.R_lit (Kd.int .u64) _ 35 ?hg (N := 28) ?hd (xs := ([1] : List Int)) (inner := [.int .u64 1]) (ok := fun _ => True) (okp := fun _ => True) ?hr ?hp (fun _ hk => hk) trivial (Below.refl _ _) (Nat.le_refl _) (by simp) ?_; (case hd => rfl); (case hg => rfl); (case hr => first | (go_simp; done) | (go_simp; rfl)); (case hp => exact (Reps.one (show Kd.M (Kd.int .u64) _ _ _ 1 [.int .u64 1] from rfl) (Reps.none _ _))); intro v265 w27 ho28 hb hg_ hnew_; clear hg_ hnew_; (first | rw [← Ny264.out] at ho28 | (simp only [Int.reduceToNat] at ho28; rw [← Ny264.out] at ho28)); have n0_ := AQ (Kd.R_elder' (PR HO_1) (Kd.R_base ho28) hb); have n1_ := AQ (Kd.R_elder' (PR HO255) (Kd.R_base ho28) hb); have n2_ := AQ (Kd.R_below (PR HO258) hb); have n3_ := AQ (Kd.R_below (PR HO262) hb); have n4_ := AQ (Kd.R_lower (Kd.R_new' ho28 (Kd.R_lt (PR HO255))) (below_size (PB HB))); have n5_ := AQ (below_step (PB HB) hb); clear HO_1; clear HO255; clear HO258; clear HO262; clear HB; have HO_1 := n0_; have HO255 := n1_; have HO258 := n2_; have HO262 := n3_; have HO266 := n4_; have HB := n5_; clear n0_ n1_ n2_ n3_ n4_ n5_; clear hb ho28) | ((with_reducible refine gate_dst (N := 29) rfl ?_); refine Kd.R_lit (Kd.int .u8) _ 5 ?hg (N := 29) ?hd (xs := ([1] : List Int)) (inner := [.int .u8 1]) (ok := fun _ => True) (okp := fun _ => True) ?hr ?hp (fun _ hk => hk) trivial (Below.refl _ _) (Nat.le_refl _) (by simp) ?_; (case hd => rfl); (case hg => rfl); (case hr => first | (go_simp; done) | (go_simp; rfl)); (case hp => exact (Reps.one (show Kd.M (Kd.int .u8) _ _ _ 1 [.int .u8 1] from rfl) (Reps.none _ _))); intro v268 w29 ho30 hb hg_ hnew_; clear hg_ hnew_; (first | rw [← Ny267.out] at ho30 | (simp only [Int.reduceToNat] at ho30; rw [← Ny267.out] at ho30)); have n0_ := AQ (Kd.R_elder' (PR HO_1) (Kd.R_base ho30) hb); have n1_ := AQ (Kd.R_below (PR HO255) hb); have n2_ := AQ (Kd.R_elder' (PR HO258) (Kd.R_base ho30) hb); have n3_ := AQ (Kd.R_below (PR HO262) hb); have n4_ := AQ (Kd.R_below (PR HO266) hb); have n5_ := AQ (Kd.R_lower (Kd.R_new' ho30 (Kd.R_lt (PR HO258))) (below_size (PB HB))); have n6_ := AQ (below_step (PB HB) hb); clear HO_1; clear HO255; clear HO258; clear HO262; clear HO266; clear HB; have HO_1 := n0_; have HO255 := n1_; have HO258 := n2_; have HO262 := n3_; have HO266 := n4_; have HO269 := n5_; have HB := n6_; clear n0_ n1_ n2_ n3_ n4_ n5_ n6_; clear hb ho30; obtain ⟨Ao31, co31, eo31⟩ := Kd.R_slice HO266.out; subst eo31; obtain ⟨Ao32, co32, eo32⟩ := Kd.R_slice HO269.out; subst eo32) | ((with_reducible refine gate_callee (f := 11) rfl ?_); refine gL (some 30) rfl rfl Tryd.func11 #[ptrOf (.slice Ao23 t247.length co23), .slice Ao31 y264.length co31, .slice Ao32 y267.length co32] rfl ?_; (with_reducible refine (elim_System_Add.calls kj1 (fun k_ => (((some k_ ≠ (.slice Ao24 y253.length co24 : Value).ownBlock ∧ some k_ ≠ (.slice Ao25 y256.length co25 : Value).ownBlock) ∧ some k_ ≠ (.slice Ao31 y264.length co31 : Value).ownBlock) ∧ some k_ ≠ (.slice Ao32 y267.length co32 : Value).ownBlock)) (.slice Ao23 t247.length co23) t263 _ _ y264 _ _ y267 t270 t271 t274 w _ ?side1 ?side2 ?side3 ?side4 ?side5 ?side6 ?side7 A10.out).mono ?_); (case side1 => first | exact HT.out | exact TabIn.below HT.out (PB HB) | (repeat (first | apply TabIn.drewN | apply TabIn.drew | exact HT.out))); (case side2 => exact PB HB); (case side3 => exact PR HO_1); (case side4 => exact QC HO266); (case side5 => exact (Kd.R_reads' HO266.out).2.1); (case side6 => exact QC HO269); (case side7 => exact (Kd.R_reads' HO269.out).2.1); rintro e w33 ⟨v272, rfl, ho0, hy0, hb, hkp⟩; refine ⟨_, rfl, ?_⟩; have n0_ := AQ (Kd.R_mono (ok' := fun k_ => (((some k_ ≠ (.slice Ao24 y253.length co24 : Value).ownBlock ∧ some k_ ≠ (.slice Ao25 y256.length co25 : Value).ownBlock) ∧ some k_ ≠ (.slice Ao31 y264.length co31 : Value).ownBlock) ∧ some k_ ≠ (.slice Ao32 y267.length co32 : Value).ownBlock)) hy0 (fun k_ hk_ => Or.elim hk_ (fun hs_ => hs_) (fun hn_ => ⟨⟨⟨(Kd.fresh' (Kd.R_lt (PR HO255)) k_ hn_), (Kd.fresh' (Kd.R_lt (PR HO258)) k_ hn_)⟩, (Kd.fresh' (Kd.R_lt (PR HO266)) k_ hn_)⟩, (Kd.fresh' (Kd.R_lt (PR HO269)) k_ hn_)⟩))); have n1_ := AQ (Kd.R_skept (PR HO255) hkp (by decide)); have n2_ := AQ (Kd.R_skept (PR HO258) hkp (by decide)); have n3_ := AQ (Kd.R_skept (PR HO262) hkp (by decide)); have n4_ := AQ (Kd.R_skept (PR HO266) hkp (by decide)); have n5_ := AQ (Kd.R_skept (PR HO269) hkp (by decide)); have n6_ := AQ (Kd.R_lower ho0 (below_size (PB HB))); have n7_ := AQ (hb); clear HO_1; clear HO255; clear HO258; clear HO262; clear HO266; clear HO269; clear HB; have HO_1 := n0_; have HO255 := n1_; have HO258 := n2_; have HO262 := n3_; have HO266 := n4_; have HO269 := n5_; have HO273 := n6_; have HB := n7_; clear n0_ n1_ n2_ n3_ n4_ n5_ n6_ n7_; (try clear hb); (try clear hkp); (try clear hy0); (try clear ho0)) | ((with_reducible refine gate_callee (f := 13) rfl ?_); refine goesL_ (some 35) rfl rfl Tryd.func13 (by kernel_rfl) rfl #[ptrOf (.slice Ao23 t274.length co23), .int .i64 1] rfl (by (try simp only [List.map_toArray, List.map_cons, List.map_nil]); first | done | (rw [show t274.length = t247.length from (Kd.R_reads' HO_1.out).1.symm] <;> rfl) | rfl | (simp only [List.length_drop, List.length_take]; rfl)) ?_; (with_reducible refine (elim_System_Value.calls kj1 _ _ t274 1 t275 t276 _ ?side1 ?side2 ?side3 A11.out).mono ?_); (case side1 => first | exact HT.out | exact TabIn.below HT.out (PB HB) | (repeat (first | apply TabIn.drewN | apply TabIn.drew | exact HT.out))); (case side2 => exact QC HO_1); (case side3 => rw [show t274.length = t247.length from (Kd.R_reads' HO_1.out).1.symm]; exact (Kd.R_reads' HO_1.out).2.1); rintro e w34 ⟨v277, v279, rfl, ho0, ho1, hb⟩; refine ⟨_, rfl, ?_⟩; have n0_ := AQ (Kd.R_elder' (PR HO_1) (Kd.R_base ho0) hb); have n1_ := AQ (Kd.R_below (PR HO255) hb); have n2_ := AQ (Kd.R_elder' (PR HO258) (Kd.R_base ho0) hb); have n3_ := AQ (Kd.R_below (PR HO262) hb); have n4_ := AQ (Kd.R_below (PR HO266) hb); have n5_ := AQ (Kd.R_elder' (PR HO269) (Kd.R_base ho0) hb); have n6_ := AQ (Kd.R_below (PR HO273) hb); have n7_ := AQ (Kd.R_lower (Kd.R_new' (Kd.R_new' ho0 (Kd.R_lt (PR HO258))) (Kd.R_lt (PR HO269))) (below_size (PB HB))); have n8_ := AQ (Kd.R_lower ho1 (below_size (PB HB))); have n9_ := AQ (below_step (PB HB) hb); clear HO_1; clear HO255; clear HO258; clear HO262; clear HO266; clear HO269; clear HO273; clear HB; have HO_1 := n0_; have HO255 := n1_; have HO258 := n2_; have HO262 := n3_; have HO266 := n4_; have HO269 := n5_; have HO273 := n6_; have HO278 := n7_; have HO280 := n8_; have HB := n9_; clear n0_ n1_ n2_ n3_ n4_ n5_ n6_ n7_ n8_ n9_; (try clear hb); (try clear hb2); (try clear hk); (try clear hi); (try clear ho0); (try clear ho1); obtain ⟨Ao35, co35, eo35⟩ := Kd.R_slice HO262.out; subst eo35; obtain ⟨Ao36, co36, eo36⟩ := Kd.R_slice HO273.out; subst eo36; obtain ⟨Ao37, co37, eo37⟩ := Kd.R_slice HO280.out; subst eo37; have hcv38 := own_string (P := Tryd.prog) Tryd.underlying36 Tryd.underlying5 Tryd.underlying9 (Kd.own_of_R HO278.out)) | (go_at_call 18; refine calls_of_args (args' := #[ptrOf (.slice Ao23 t274.length co23)]) (by first | (rw [show t274.length = t247.length from (Kd.R_reads' HO_1.out).1.symm] <;> rfl) | rfl) ?_; (with_reducible refine (elim_System_Whole.calls _ _ t274 t281 _ ?side1 ?side2 A18.out).mono ?_); (case side1 => exact QC HO_1); (case side2 => rw [show t274.length = t247.length from (Kd.R_reads' HO_1.out).1.symm]; exact (Kd.R_reads' HO_1.out).2.1); rintro e w39 ⟨rfl, hb⟩; have n0_ := AQ (Kd.R_below (PR HO_1) hb); have n1_ := AQ (Kd.R_below (PR HO255) hb); have n2_ := AQ (Kd.R_below (PR HO258) hb); have n3_ := AQ (Kd.R_below (PR HO262) hb); have n4_ := AQ (Kd.R_below (PR HO266) hb); have n5_ := AQ (Kd.R_below (PR HO269) hb); have n6_ := AQ (Kd.R_below (PR HO273) hb); have n7_ := AQ (Kd.R_below (PR HO278) hb); have n8_ := AQ (Kd.R_below (PR HO280) hb); have n9_ := AQ (below_step (PB HB) hb); clear HO_1; clear HO255; clear HO258; clear HO262; clear HO266; clear HO269; clear HO273; clear HO278; clear HO280; clear HB; have HO_1 := n0_; have HO255 := n1_; have HO258 := n2_; have HO262 := n3_; have HO266 := n4_; have HO269 := n5_; have HO273 := n6_; have HO278 := n7_; have HO280 := n8_; have HB := n9_; clear n0_ n1_ n2_ n3_ n4_ n5_ n6_ n7_ n8_ n9_; (try clear hb); (try clear hb2); (try clear hk); (try clear hi))); go_ret; exact ⟨by first | rfl | (simp [errW_none, errW_some] <;> rfl) | (simp [*, errW_none, errW_some] <;> rfl), PB HB⟩
         ·rw [if_neg c17] at H; have c17b0 : ((strOfNums t275).toList == ([2] : List UInt8)) = false := beq_eq_false_iff_ne.mpr c17; have c17b1 : ((strOfNums t275).toList != ([2] : List UInt8)) = true := bne_iff_ne.mpr c17; obtain rfl := Option.some.inj H; go_wp2_with (first | ((with_reducible refine gate_dst (N := 21) rfl ?_); refine Kd.R_lit (Kd.int .u64) _ 35 ?hg (N := 21) ?hd (xs := ([3] : List Int)) (inner := [.int .u64 3]) (ok := fun _ => True) (okp := fun _ => True) ?hr ?hp (fun _ hk => hk) trivial (Below.refl _ _) (Nat.le_refl _) (by simp) ?_; (case hd => rfl); (case hg => rfl); (case hr => first | (go_simp; done) | (go_simp; rfl)); (case hp => exact (Reps.one (show Kd.M (Kd.int .u64) _ _ _ 3 [.int .u64 3] from rfl) (Reps.none _ _))); intro v254 w40 ho41 hb hg_ hnew_; clear hg_ hnew_; (first | rw [← Ny253.out] at ho41 | (simp only [Int.reduceToNat] at ho41; rw [← Ny253.out] at ho41)); have n0_ := AQ (Kd.R_elder' (PR HO_1) (Kd.R_base ho41) hb); have n1_ := AQ (Kd.R_lower ho41 (below_size (PB HB))); have n2_ := AQ (below_step (PB HB) hb); clear HO_1; clear HB; have HO_1 := n0_; have HO255 := n1_; have HB := n2_; clear n0_ n1_ n2_; clear hb ho41) | ((with_reducible refine gate_dst (N := 22) rfl ?_); refine Kd.R_lit (Kd.int .u8) _ 5 ?hg (N := 22) ?hd (xs := ([3] : List Int)) (inner := [.int .u8 3]) (ok := fun _ => True) (okp := fun _ => True) ?hr ?hp (fun _ hk => hk) trivial (Below.refl _ _) (Nat.le_refl _) (by simp) ?_; (case hd => rfl); (case hg => rfl); (case hr => first | (go_simp; done) | (go_simp; rfl)); (case hp => exact (Reps.one (show Kd.M (Kd.int .u8) _ _ _ 3 [.int .u8 3] from rfl) (Reps.none _ _))); intro v257 w42 ho43 hb hg_ hnew_; clear hg_ hnew_; (first | rw [← Ny256.out] at ho43 | (simp only [Int.reduceToNat] at ho43; rw [← Ny256.out] at ho43)); have n0_ := AQ (Kd.R_elder' (PR HO_1) (Kd.R_base ho43) hb); have n1_ := AQ (Kd.R_below (PR HO255) hb); have n2_ := AQ (Kd.R_lower ho43 (below_size (PB HB))); have n3_ := AQ (below_step (PB HB) hb); clear HO_1; clear HO255; clear HB; have HO_1 := n0_; have HO255 := n1_; have HO258 := n2_; have HB := n3_; clear n0_ n1_ n2_ n3_; clear hb ho43; obtain ⟨Ao44, co44, eo44⟩ := Kd.R_slice HO_1.out; subst eo44; obtain ⟨Ao45, co45, eo45⟩ := Kd.R_slice HO255.out; subst eo45; obtain ⟨Ao46, co46, eo46⟩ := Kd.R_slice HO258.out; subst eo46) | ((with_reducible refine gate_callee (f := 11) rfl ?_); refine gL (some 23) rfl rfl Tryd.func11 #[ptrOf (.slice Ao44 t247.length co44), .slice Ao45 y253.length co45, .slice Ao46 y256.length co46] rfl ?_; (with_reducible refine (elim_System_Add.calls kj1 (fun k_ => (some k_ ≠ (.slice Ao45 y253.length co45 : Value).ownBlock ∧ some k_ ≠ (.slice Ao46 y256.length co46 : Value).ownBlock)) (.slice Ao44 t247.length co44) t247 _ _ y253 _ _ y256 t259 t260 t263 w _ ?side1 ?side2 ?side3 ?side4 ?side5 ?side6 ?side7 A9.out).mono ?_); (case side1 => first | exact HT.out | exact TabIn.below HT.out (PB HB) | (repeat (first | apply TabIn.drewN | apply TabIn.drew | exact HT.out))); (case side2 => exact PB HB); (case side3 => (with_reducible repeat (first | apply Kd.R_alloc | apply Kd.R_drewN | apply Kd.R_drew)); exact Kd.R_mono HO_1.out (fun _ hk => ⟨hk.1.2, hk.2⟩)); (case side4 => exact QC HO255); (case side5 => exact (Kd.R_reads' HO255.out).2.1); (case side6 => exact QC HO258); (case side7 => exact (Kd.R_reads' HO258.out).2.1); rintro e w47 ⟨v261, rfl, ho0, hy0, hb, hkp⟩; refine ⟨_, rfl, ?_⟩; have n0_ := AQ (Kd.R_mono (ok' := fun k_ => (some k_ ≠ (.slice Ao45 y253.length co45 : Value).ownBlock ∧ some k_ ≠ (.slice Ao46 y256.length co46 : Value).ownBlock)) hy0 (fun k_ hk_ => Or.elim hk_ (fun hs_ => hs_) (fun hn_ => ⟨(Kd.fresh' (Kd.R_lt (PR HO255)) k_ hn_), (Kd.fresh' (Kd.R_lt (PR HO258)) k_ hn_)⟩))); have n1_ := AQ (Kd.R_skept (PR HO255) hkp (by decide)); have n2_ := AQ (Kd.R_skept (PR HO258) hkp (by decide)); have n3_ := AQ (Kd.R_lower ho0 (below_size (PB HB))); have n4_ := AQ (hb); clear HO_1; clear HO255; clear HO258; clear HB; have HO_1 := n0_; have HO255 := n1_; have HO258 := n2_; have HO262 := n3_; have HB := n4_; clear n0_ n1_ n2_ n3_ n4_; (try clear hb); (try clear hkp); (try clear hy0); (try clear ho0)) | ((with_reducible refine gate_dst (N := 28) rfl ?_); refine Kd.R_lit (Kd.int .u64) _ 35 ?hg (N := 28) ?hd (xs := ([1] : List Int)) (inner := [.int .u64 1]) (ok := fun _ => True) (okp := fun _ => True) ?hr ?hp (fun _ hk => hk) trivial (Below.refl _ _) (Nat.le_refl _) (by simp) ?_; (case hd => rfl); (case hg => rfl); (case hr => first | (go_simp; done) | (go_simp; rfl)); (case hp => exact (Reps.one (show Kd.M (Kd.int .u64) _ _ _ 1 [.int .u64 1] from rfl) (Reps.none _ _))); intro v265 w48 ho49 hb hg_ hnew_; clear hg_ hnew_; (first | rw [← Ny264.out] at ho49 | (simp only [Int.reduceToNat] at ho49; rw [← Ny264.out] at ho49)); have n0_ := AQ (Kd.R_elder' (PR HO_1) (Kd.R_base ho49) hb); have n1_ := AQ (Kd.R_elder' (PR HO255) (Kd.R_base ho49) hb); have n2_ := AQ (Kd.R_below (PR HO258) hb); have n3_ := AQ (Kd.R_below (PR HO262) hb); have n4_ := AQ (Kd.R_lower (Kd.R_new' ho49 (Kd.R_lt (PR HO255))) (below_size (PB HB))); have n5_ := AQ (below_step (PB HB) hb); clear HO_1; clear HO255; clear HO258; clear HO262; clear HB; have HO_1 := n0_; have HO255 := n1_; have HO258 := n2_; have HO262 := n3_; have HO266 := n4_; have HB := n5_; clear n0_ n1_ n2_ n3_ n4_ n5_; clear hb ho49) | ((with_reducible refine gate_dst (N := 29) rfl ?_); refine Kd.R_lit (Kd.int .u8) _ 5 ?hg (N := 29) ?hd (xs := ([1] : List Int)) (inner := [.int .u8 1]) (ok := fun _ => True) (okp := fun _ => True) ?hr ?hp (fun _ hk => hk) trivial (Below.refl _ _) (Nat.le_refl _) (by simp) ?_; (case hd => rfl); (case hg => rfl); (case hr => first | (go_simp; done) | (go_simp; rfl)); (case hp => exact (Reps.one (show Kd.M (Kd.int .u8) _ _ _ 1 [.int .u8 1] from rfl) (Reps.none _ _))); intro v268 w50 ho51 hb hg_ hnew_; clear hg_ hnew_; (first | rw [← Ny267.out] at ho51 | (simp only [Int.reduceToNat] at ho51; rw [← Ny267.out] at ho51)); have n0_ := AQ (Kd.R_elder' (PR HO_1) (Kd.R_base ho51) hb); have n1_ := AQ (Kd.R_below (PR HO255) hb); have n2_ := AQ (Kd.R_elder' (PR HO258) (Kd.R_base ho51) hb); have n3_ := AQ (Kd.R_below (PR HO262) hb); have n4_ := AQ (Kd.R_below (PR HO266) hb); have n5_ := AQ (Kd.R_lower (Kd.R_new' ho51 (Kd.R_lt (PR HO258))) (below_size (PB HB))); have n6_ := AQ (below_step (PB HB) hb); clear HO_1; clear HO255; clear HO258; clear HO262; clear HO266; clear HB; have HO_1 := n0_; have HO255 := n1_; have HO258 := n2_; have HO262 := n3_; have HO266 := n4_; have HO269 := n5_; have HB := n6_; clear n0_ n1_ n2_ n3_ n4_ n5_ n6_; clear hb ho51; obtain ⟨Ao52, co52, eo52⟩ := Kd.R_slice HO266.out; subst eo52; obtain ⟨Ao53, co53, eo53⟩ := Kd.R_slice HO269.out; subst eo53) | ((with_reducible refine gate_callee (f := 11) rfl ?_); refine gL (some 30) rfl rfl Tryd.func11 #[ptrOf (.slice Ao44 t247.length co44), .slice Ao52 y264.length co52, .slice Ao53 y267.length co53] rfl ?_; (with_reducible refine (elim_System_Add.calls kj1 (fun k_ => (((some k_ ≠ (.slice Ao45 y253.length co45 : Value).ownBlock ∧ some k_ ≠ (.slice Ao46 y256.length co46 : Value).ownBlock) ∧ some k_ ≠ (.slice Ao52 y264.length co52 : Value).ownBlock) ∧ some k_ ≠ (.slice Ao53 y267.length co53 : Value).ownBlock)) (.slice Ao44 t247.length co44) t263 _ _ y264 _ _ y267 t270 t271 t274 w _ ?side1 ?side2 ?side3 ?side4 ?side5 ?side6 ?side7 A10.out).mono ?_); (case side1 => first | exact HT.out | exact TabIn.below HT.out (PB HB) | (repeat (first | apply TabIn.drewN | apply TabIn.drew | exact HT.out))); (case side2 => exact PB HB); (case side3 => exact PR HO_1); (case side4 => exact QC HO266); (case side5 => exact (Kd.R_reads' HO266.out).2.1); (case side6 => exact QC HO269); (case side7 => exact (Kd.R_reads' HO269.out).2.1); rintro e w54 ⟨v272, rfl, ho0, hy0, hb, hkp⟩; refine ⟨_, rfl, ?_⟩; have n0_ := AQ (Kd.R_mono (ok' := fun k_ => (((some k_ ≠ (.slice Ao45 y253.length co45 : Value).ownBlock ∧ some k_ ≠ (.slice Ao46 y256.length co46 : Value).ownBlock) ∧ some k_ ≠ (.slice Ao52 y264.length co52 : Value).ownBlock) ∧ some k_ ≠ (.slice Ao53 y267.length co53 : Value).ownBlock)) hy0 (fun k_ hk_ => Or.elim hk_ (fun hs_ => hs_) (fun hn_ => ⟨⟨⟨(Kd.fresh' (Kd.R_lt (PR HO255)) k_ hn_), (Kd.fresh' (Kd.R_lt (PR HO258)) k_ hn_)⟩, (Kd.fresh' (Kd.R_lt (PR HO266)) k_ hn_)⟩, (Kd.fresh' (Kd.R_lt (PR HO269)) k_ hn_)⟩))); have n1_ := AQ (Kd.R_skept (PR HO255) hkp (by decide)); have n2_ := AQ (Kd.R_skept (PR HO258) hkp (by decide)); have n3_ := AQ (Kd.R_skept (PR HO262) hkp (by decide)); have n4_ := AQ (Kd.R_skept (PR HO266) hkp (by decide)); have n5_ := AQ (Kd.R_skept (PR HO269) hkp (by decide)); have n6_ := AQ (Kd.R_lower ho0 (below_size (PB HB))); have n7_ := AQ (hb); clear HO_1; clear HO255; clear HO258; clear HO262; clear HO266; clear HO269; clear HB; have HO_1 := n0_; have HO255 := n1_; have HO258 := n2_; have HO262 := n3_; have HO266 := n4_; have HO269 := n5_; have HO273 := n6_; have HB := n7_; clear n0_ n1_ n2_ n3_ n4_ n5_ n6_ n7_; (try clear hb); (try clear hkp); (try clear hy0); (try clear ho0)) | ((with_reducible refine gate_callee (f := 13) rfl ?_); refine goesL_ (some 35) rfl rfl Tryd.func13 (by kernel_rfl) rfl #[ptrOf (.slice Ao44 t274.length co44), .int .i64 1] rfl (by (try simp only [List.map_toArray, List.map_cons, List.map_nil]); first | done | (rw [show t274.length = t247.length from (Kd.R_reads' HO_1.out).1.symm] <;> rfl) | rfl | (simp only [List.length_drop, List.length_take]; rfl)) ?_; (with_reducible refine (elim_System_Value.calls kj1 _ _ t274 1 t275 t276 _ ?side1 ?side2 ?side3 A11.out).mono ?_); (case side1 => first | exact HT.out | exact TabIn.below HT.out (PB HB) | (repeat (first | apply TabIn.drewN | apply TabIn.drew | exact HT.out))); (case side2 => exact QC HO_1); (case side3 => rw [show t274.length = t247.length from (Kd.R_reads' HO_1.out).1.symm]; exact (Kd.R_reads' HO_1.out).2.1); rintro e w55 ⟨v277, v279, rfl, ho0, ho1, hb⟩; refine ⟨_, rfl, ?_⟩; have n0_ := AQ (Kd.R_elder' (PR HO_1) (Kd.R_base ho0) hb); have n1_ := AQ (Kd.R_below (PR HO255) hb); have n2_ := AQ (Kd.R_elder' (PR HO258) (Kd.R_base ho0) hb); have n3_ := AQ (Kd.R_below (PR HO262) hb); have n4_ := AQ (Kd.R_below (PR HO266) hb); have n5_ := AQ (Kd.R_elder' (PR HO269) (Kd.R_base ho0) hb); have n6_ := AQ (Kd.R_below (PR HO273) hb); have n7_ := AQ (Kd.R_lower (Kd.R_new' (Kd.R_new' ho0 (Kd.R_lt (PR HO258))) (Kd.R_lt (PR HO269))) (below_size (PB HB))); have n8_ := AQ (Kd.R_lower ho1 (below_size (PB HB))); have n9_ := AQ (below_step (PB HB) hb); clear HO_1; clear HO255; clear HO258; clear HO262; clear HO266; clear HO269; clear HO273; clear HB; have HO_1 := n0_; have HO255 := n1_; have HO258 := n2_; have HO262 := n3_; have HO266 := n4_; have HO269 := n5_; have HO273 := n6_; have HO278 := n7_; have HO280 := n8_; have HB := n9_; clear n0_ n1_ n2_ n3_ n4_ n5_ n6_ n7_ n8_ n9_; (try clear hb); (try clear hb2); (try clear hk); (try clear hi); (try clear ho0); (try clear ho1); obtain ⟨Ao56, co56, eo56⟩ := Kd.R_slice HO262.out; subst eo56; obtain ⟨Ao57, co57, eo57⟩ := Kd.R_slice HO273.out; subst eo57; obtain ⟨Ao58, co58, eo58⟩ := Kd.R_slice HO280.out; subst eo58; have hcv59 := own_string (P := Tryd.prog) Tryd.underlying36 Tryd.underlying5 Tryd.underlying9 (Kd.own_of_R HO278.out))); go_ret; exact ⟨by first | rfl | (simp [errW_none, errW_some] <;> rfl) | (simp [*, errW_none, errW_some] <;> rfl), PB HB⟩
        ·rw [if_neg c16] at H; have c16b0 : (t270 == 1) = false := beq_eq_false_iff_ne.mpr c16; have c16b1 : (t270 != 1) = true := bne_iff_ne.mpr c16; obtain rfl := Option.some.inj H; go_wp2_with (first | ((with_reducible refine gate_dst (N := 21) rfl ?_); refine Kd.R_lit (Kd.int .u64) _ 35 ?hg (N := 21) ?hd (xs := ([3] : List Int)) (inner := [.int .u64 3]) (ok := fun _ => True) (okp := fun _ => True) ?hr ?hp (fun _ hk => hk) trivial (Below.refl _ _) (Nat.le_refl _) (by simp) ?_; (case hd => rfl); (case hg => rfl); (case hr => first | (go_simp; done) | (go_simp; rfl)); (case hp => exact (Reps.one (show Kd.M (Kd.int .u64) _ _ _ 3 [.int .u64 3] from rfl) (Reps.none _ _))); intro v254 w60 ho61 hb hg_ hnew_; clear hg_ hnew_; (first | rw [← Ny253.out] at ho61 | (simp only [Int.reduceToNat] at ho61; rw [← Ny253.out] at ho61)); have n0_ := AQ (Kd.R_elder' (PR HO_1) (Kd.R_base ho61) hb); have n1_ := AQ (Kd.R_lower ho61 (below_size (PB HB))); have n2_ := AQ (below_step (PB HB) hb); clear HO_1; clear HB; have HO_1 := n0_; have HO255 := n1_; have HB := n2_; clear n0_ n1_ n2_; clear hb ho61) | ((with_reducible refine gate_dst (N := 22) rfl ?_); refine Kd.R_lit (Kd.int .u8) _ 5 ?hg (N := 22) ?hd (xs := ([3] : List Int)) (inner := [.int .u8 3]) (ok := fun _ => True) (okp := fun _ => True) ?hr ?hp (fun _ hk => hk) trivial (Below.refl _ _) (Nat.le_refl _) (by simp) ?_; (case hd => rfl); (case hg => rfl); (case hr => first | (go_simp; done) | (go_simp; rfl)); (case hp => exact (Reps.one (show Kd.M (Kd.int .u8) _ _ _ 3 [.int .u8 3] from rfl) (Reps.none _ _))); intro v257 w62 ho63 hb hg_ hnew_; clear hg_ hnew_; (first | rw [← Ny256.out] at ho63 | (simp only [Int.reduceToNat] at ho63; rw [← Ny256.out] at ho63)); have n0_ := AQ (Kd.R_elder' (PR HO_1) (Kd.R_base ho63) hb); have n1_ := AQ (Kd.R_below (PR HO255) hb); have n2_ := AQ (Kd.R_lower ho63 (below_size (PB HB))); have n3_ := AQ (below_step (PB HB) hb); clear HO_1; clear HO255; clear HB; have HO_1 := n0_; have HO255 := n1_; have HO258 := n2_; have HB := n3_; clear n0_ n1_ n2_ n3_; clear hb ho63; obtain ⟨Ao64, co64, eo64⟩ := Kd.R_slice HO_1.out; subst eo64; obtain ⟨Ao65, co65, eo65⟩ := Kd.R_slice HO255.out; subst eo65; obtain ⟨Ao66, co66, eo66⟩ := Kd.R_slice HO258.out; subst eo66) | ((with_reducible refine gate_callee (f := 11) rfl ?_); refine gL (some 23) rfl rfl Tryd.func11 #[ptrOf (.slice Ao64 t247.length co64), .slice Ao65 y253.length co65, .slice Ao66 y256.length co66] rfl ?_; (with_reducible refine (elim_System_Add.calls kj1 (fun k_ => (some k_ ≠ (.slice Ao65 y253.length co65 : Value).ownBlock ∧ some k_ ≠ (.slice Ao66 y256.length co66 : Value).ownBlock)) (.slice Ao64 t247.length co64) t247 _ _ y253 _ _ y256 t259 t260 t263 w _ ?side1 ?side2 ?side3 ?side4 ?side5 ?side6 ?side7 A9.out).mono ?_); (case side1 => first | exact HT.out | exact TabIn.below HT.out (PB HB) | (repeat (first | apply TabIn.drewN | apply TabIn.drew | exact HT.out))); (case side2 => exact PB HB); (case side3 => (with_reducible repeat (first | apply Kd.R_alloc | apply Kd.R_drewN | apply Kd.R_drew)); exact Kd.R_mono HO_1.out (fun _ hk => ⟨hk.1.2, hk.2⟩)); (case side4 => exact QC HO255); (case side5 => exact (Kd.R_reads' HO255.out).2.1); (case side6 => exact QC HO258); (case side7 => exact (Kd.R_reads' HO258.out).2.1); rintro e w67 ⟨v261, rfl, ho0, hy0, hb, hkp⟩; refine ⟨_, rfl, ?_⟩; have n0_ := AQ (Kd.R_mono (ok' := fun k_ => (some k_ ≠ (.slice Ao65 y253.length co65 : Value).ownBlock ∧ some k_ ≠ (.slice Ao66 y256.length co66 : Value).ownBlock)) hy0 (fun k_ hk_ => Or.elim hk_ (fun hs_ => hs_) (fun hn_ => ⟨(Kd.fresh' (Kd.R_lt (PR HO255)) k_ hn_), (Kd.fresh' (Kd.R_lt (PR HO258)) k_ hn_)⟩))); have n1_ := AQ (Kd.R_skept (PR HO255) hkp (by decide)); have n2_ := AQ (Kd.R_skept (PR HO258) hkp (by decide)); have n3_ := AQ (Kd.R_lower ho0 (below_size (PB HB))); have n4_ := AQ (hb); clear HO_1; clear HO255; clear HO258; clear HB; have HO_1 := n0_; have HO255 := n1_; have HO258 := n2_; have HO262 := n3_; have HB := n4_; clear n0_ n1_ n2_ n3_ n4_; (try clear hb); (try clear hkp); (try clear hy0); (try clear ho0)) | ((with_reducible refine gate_dst (N := 28) rfl ?_); refine Kd.R_lit (Kd.int .u64) _ 35 ?hg (N := 28) ?hd (xs := ([1] : List Int)) (inner := [.int .u64 1]) (ok := fun _ => True) (okp := fun _ => True) ?hr ?hp (fun _ hk => hk) trivial (Below.refl _ _) (Nat.le_refl _) (by simp) ?_; (case hd => rfl); (case hg => rfl); (case hr => first | (go_simp; done) | (go_simp; rfl)); (case hp => exact (Reps.one (show Kd.M (Kd.int .u64) _ _ _ 1 [.int .u64 1] from rfl) (Reps.none _ _))); intro v265 w68 ho69 hb hg_ hnew_; clear hg_ hnew_; (first | rw [← Ny264.out] at ho69 | (simp only [Int.reduceToNat] at ho69; rw [← Ny264.out] at ho69)); have n0_ := AQ (Kd.R_elder' (PR HO_1) (Kd.R_base ho69) hb); have n1_ := AQ (Kd.R_elder' (PR HO255) (Kd.R_base ho69) hb); have n2_ := AQ (Kd.R_below (PR HO258) hb); have n3_ := AQ (Kd.R_below (PR HO262) hb); have n4_ := AQ (Kd.R_lower (Kd.R_new' ho69 (Kd.R_lt (PR HO255))) (below_size (PB HB))); have n5_ := AQ (below_step (PB HB) hb); clear HO_1; clear HO255; clear HO258; clear HO262; clear HB; have HO_1 := n0_; have HO255 := n1_; have HO258 := n2_; have HO262 := n3_; have HO266 := n4_; have HB := n5_; clear n0_ n1_ n2_ n3_ n4_ n5_; clear hb ho69) | ((with_reducible refine gate_dst (N := 29) rfl ?_); refine Kd.R_lit (Kd.int .u8) _ 5 ?hg (N := 29) ?hd (xs := ([1] : List Int)) (inner := [.int .u8 1]) (ok := fun _ => True) (okp := fun _ => True) ?hr ?hp (fun _ hk => hk) trivial (Below.refl _ _) (Nat.le_refl _) (by simp) ?_; (case hd => rfl); (case hg => rfl); (case hr => first | (go_simp; done) | (go_simp; rfl)); (case hp => exact (Reps.one (show Kd.M (Kd.int .u8) _ _ _ 1 [.int .u8 1] from rfl) (Reps.none _ _))); intro v268 w70 ho71 hb hg_ hnew_; clear hg_ hnew_; (first | rw [← Ny267.out] at ho71 | (simp only [Int.reduceToNat] at ho71; rw [← Ny267.out] at ho71)); have n0_ := AQ (Kd.R_elder' (PR HO_1) (Kd.R_base ho71) hb); have n1_ := AQ (Kd.R_below (PR HO255) hb); have n2_ := AQ (Kd.R_elder' (PR HO258) (Kd.R_base ho71) hb); have n3_ := AQ (Kd.R_below (PR HO262) hb); have n4_ := AQ (Kd.R_below (PR HO266) hb); have n5_ := AQ (Kd.R_lower (Kd.R_new' ho71 (Kd.R_lt (PR HO258))) (below_size (PB HB))); have n6_ := AQ (below_step (PB HB) hb); clear HO_1; clear HO255; clear HO258; clear HO262; clear HO266; clear HB; have HO_1 := n0_; have HO255 := n1_; have HO258 := n2_; have HO262 := n3_; have HO266 := n4_; have HO269 := n5_; have HB := n6_; clear n0_ n1_ n2_ n3_ n4_ n5_ n6_; clear hb ho71; obtain ⟨Ao72, co72, eo72⟩ := Kd.R_slice HO266.out; subst eo72; obtain ⟨Ao73, co73, eo73⟩ := Kd.R_slice HO269.out; subst eo73) | ((with_reducible refine gate_callee (f := 11) rfl ?_); refine gL (some 30) rfl rfl Tryd.func11 #[ptrOf (.slice Ao64 t247.length co64), .slice Ao72 y264.length co72, .slice Ao73 y267.length co73] rfl ?_; (with_reducible refine (elim_System_Add.calls kj1 (fun k_ => (((some k_ ≠ (.slice Ao65 y253.length co65 : Value).ownBlock ∧ some k_ ≠ (.slice Ao66 y256.length co66 : Value).ownBlock) ∧ some k_ ≠ (.slice Ao72 y264.length co72 : Value).ownBlock) ∧ some k_ ≠ (.slice Ao73 y267.length co73 : Value).ownBlock)) (.slice Ao64 t247.length co64) t263 _ _ y264 _ _ y267 t270 t271 t274 w _ ?side1 ?side2 ?side3 ?side4 ?side5 ?side6 ?side7 A10.out).mono ?_); (case side1 => first | exact HT.out | exact TabIn.below HT.out (PB HB) | (repeat (first | apply TabIn.drewN | apply TabIn.drew | exact HT.out))); (case side2 => exact PB HB); (case side3 => exact PR HO_1); (case side4 => exact QC HO266); (case side5 => exact (Kd.R_reads' HO266.out).2.1); (case side6 => exact QC HO269); (case side7 => exact (Kd.R_reads' HO269.out).2.1); rintro e w74 ⟨v272, rfl, ho0, hy0, hb, hkp⟩; refine ⟨_, rfl, ?_⟩; have n0_ := AQ (Kd.R_mono (ok' := fun k_ => (((some k_ ≠ (.slice Ao65 y253.length co65 : Value).ownBlock ∧ some k_ ≠ (.slice Ao66 y256.length co66 : Value).ownBlock) ∧ some k_ ≠ (.slice Ao72 y264.length co72 : Value).ownBlock) ∧ some k_ ≠ (.slice Ao73 y267.length co73 : Value).ownBlock)) hy0 (fun k_ hk_ => Or.elim hk_ (fun hs_ => hs_) (fun hn_ => ⟨⟨⟨(Kd.fresh' (Kd.R_lt (PR HO255)) k_ hn_), (Kd.fresh' (Kd.R_lt (PR HO258)) k_ hn_)⟩, (Kd.fresh' (Kd.R_lt (PR HO266)) k_ hn_)⟩, (Kd.fresh' (Kd.R_lt (PR HO269)) k_ hn_)⟩))); have n1_ := AQ (Kd.R_skept (PR HO255) hkp (by decide)); have n2_ := AQ (Kd.R_skept (PR HO258) hkp (by decide)); have n3_ := AQ (Kd.R_skept (PR HO262) hkp (by decide)); have n4_ := AQ (Kd.R_skept (PR HO266) hkp (by decide)); have n5_ := AQ (Kd.R_skept (PR HO269) hkp (by decide)); have n6_ := AQ (Kd.R_lower ho0 (below_size (PB HB))); have n7_ := AQ (hb); clear HO_1; clear HO255; clear HO258; clear HO262; clear HO266; clear HO269; clear HB; have HO_1 := n0_; have HO255 := n1_; have HO258 := n2_; have HO262 := n3_; have HO266 := n4_; have HO269 := n5_; have HO273 := n6_; have HB := n7_; clear n0_ n1_ n2_ n3_ n4_ n5_ n6_ n7_; (try clear hb); (try clear hkp); (try clear hy0); (try clear ho0)) | ((with_reducible refine gate_callee (f := 13) rfl ?_); refine goesL_ (some 35) rfl rfl Tryd.func13 (by kernel_rfl) rfl #[ptrOf (.slice Ao64 t274.length co64), .int .i64 1] rfl (by (try simp only [List.map_toArray, List.map_cons, List.map_nil]); first | done | (rw [show t274.length = t247.length from (Kd.R_reads' HO_1.out).1.symm] <;> rfl) | rfl | (simp only [List.length_drop, List.length_take]; rfl)) ?_; (with_reducible refine (elim_System_Value.calls kj1 _ _ t274 1 t275 t276 _ ?side1 ?side2 ?side3 A11.out).mono ?_); (case side1 => first | exact HT.out | exact TabIn.below HT.out (PB HB) | (repeat (first | apply TabIn.drewN | apply TabIn.drew | exact HT.out))); (case side2 => exact QC HO_1); (case side3 => rw [show t274.length = t247.length from (Kd.R_reads' HO_1.out).1.symm]; exact (Kd.R_reads' HO_1.out).2.1); rintro e w75 ⟨v277, v279, rfl, ho0, ho1, hb⟩; refine ⟨_, rfl, ?_⟩; have n0_ := AQ (Kd.R_elder' (PR HO_1) (Kd.R_base ho0) hb); have n1_ := AQ (Kd.R_below (PR HO255) hb); have n2_ := AQ (Kd.R_elder' (PR HO258) (Kd.R_base ho0) hb); have n3_ := AQ (Kd.R_below (PR HO262) hb); have n4_ := AQ (Kd.R_below (PR HO266) hb); have n5_ := AQ (Kd.R_elder' (PR HO269) (Kd.R_base ho0) hb); have n6_ := AQ (Kd.R_below (PR HO273) hb); have n7_ := AQ (Kd.R_lower (Kd.R_new' (Kd.R_new' ho0 (Kd.R_lt (PR HO258))) (Kd.R_lt (PR HO269))) (below_size (PB HB))); have n8_ := AQ (Kd.R_lower ho1 (below_size (PB HB))); have n9_ := AQ (below_step (PB HB) hb); clear HO_1; clear HO255; clear HO258; clear HO262; clear HO266; clear HO269; clear HO273; clear HB; have HO_1 := n0_; have HO255 := n1_; have HO258 := n2_; have HO262 := n3_; have HO266 := n4_; have HO269 := n5_; have HO273 := n6_; have HO278 := n7_; have HO280 := n8_; have HB := n9_; clear n0_ n1_ n2_ n3_ n4_ n5_ n6_ n7_ n8_ n9_; (try clear hb); (try clear hb2); (try clear hk); (try clear hi); (try clear ho0); (try clear ho1); obtain ⟨Ao76, co76, eo76⟩ := Kd.R_slice HO262.out; subst eo76; obtain ⟨Ao77, co77, eo77⟩ := Kd.R_slice HO273.out; subst eo77; obtain ⟨Ao78, co78, eo78⟩ := Kd.R_slice HO280.out; subst eo78)); go_ret; exact ⟨by first | rfl | (simp [errW_none, errW_some] <;> rfl) | (simp [*, errW_none, errW_some] <;> rfl), PB HB⟩
       ·rw [if_neg c15] at H; have c15b0 : (t259 == 1) = false := beq_eq_false_iff_ne.mpr c15; have c15b1 : (t259 != 1) = true := bne_iff_ne.mpr c15; obtain rfl := Option.some.inj H; go_wp2_with (first | ((with_reducible refine gate_dst (N := 21) rfl ?_); refine Kd.R_lit (Kd.int .u64) _ 35 ?hg (N := 21) ?hd (xs := ([3] : List Int)) (inner := [.int .u64 3]) (ok := fun _ => True) (okp := fun _ => True) ?hr ?hp (fun _ hk => hk) trivial (Below.refl _ _) (Nat.le_refl _) (by simp) ?_; (case hd => rfl); (case hg => rfl); (case hr => first | (go_simp; done) | (go_simp; rfl)); (case hp => exact (Reps.one (show Kd.M (Kd.int .u64) _ _ _ 3 [.int .u64 3] from rfl) (Reps.none _ _))); intro v254 w79 ho80 hb hg_ hnew_; clear hg_ hnew_; (first | rw [← Ny253.out] at ho80 | (simp only [Int.reduceToNat] at ho80; rw [← Ny253.out] at ho80)); have n0_ := AQ (Kd.R_elder' (PR HO_1) (Kd.R_base ho80) hb); have n1_ := AQ (Kd.R_lower ho80 (below_size (PB HB))); have n2_ := AQ (below_step (PB HB) hb); clear HO_1; clear HB; have HO_1 := n0_; have HO255 := n1_; have HB := n2_; clear n0_ n1_ n2_; clear hb ho80) | ((with_reducible refine gate_dst (N := 22) rfl ?_); refine Kd.R_lit (Kd.int .u8) _ 5 ?hg (N := 22) ?hd (xs := ([3] : List Int)) (inner := [.int .u8 3]) (ok := fun _ => True) (okp := fun _ => True) ?hr ?hp (fun _ hk => hk) trivial (Below.refl _ _) (Nat.le_refl _) (by simp) ?_; (case hd => rfl); (case hg => rfl); (case hr => first | (go_simp; done) | (go_simp; rfl)); (case hp => exact (Reps.one (show Kd.M (Kd.int .u8) _ _ _ 3 [.int .u8 3] from rfl) (Reps.none _ _))); intro v257 w81 ho82 hb hg_ hnew_; clear hg_ hnew_; (first | rw [← Ny256.out] at ho82 | (simp only [Int.reduceToNat] at ho82; rw [← Ny256.out] at ho82)); have n0_ := AQ (Kd.R_elder' (PR HO_1) (Kd.R_base ho82) hb); have n1_ := AQ (Kd.R_below (PR HO255) hb); have n2_ := AQ (Kd.R_lower ho82 (below_size (PB HB))); have n3_ := AQ (below_step (PB HB) hb); clear HO_1; clear HO255; clear HB; have HO_1 := n0_; have HO255 := n1_; have HO258 := n2_; have HB := n3_; clear n0_ n1_ n2_ n3_; clear hb ho82; obtain ⟨Ao83, co83, eo83⟩ := Kd.R_slice HO_1.out; subst eo83; obtain ⟨Ao84, co84, eo84⟩ := Kd.R_slice HO255.out; subst eo84; obtain ⟨Ao85, co85, eo85⟩ := Kd.R_slice HO258.out; subst eo85) | ((with_reducible refine gate_callee (f := 11) rfl ?_); refine gL (some 23) rfl rfl Tryd.func11 #[ptrOf (.slice Ao83 t247.length co83), .slice Ao84 y253.length co84, .slice Ao85 y256.length co85] rfl ?_; (with_reducible refine (elim_System_Add.calls kj1 (fun k_ => (some k_ ≠ (.slice Ao84 y253.length co84 : Value).ownBlock ∧ some k_ ≠ (.slice Ao85 y256.length co85 : Value).ownBlock)) (.slice Ao83 t247.length co83) t247 _ _ y253 _ _ y256 t259 t260 t263 w _ ?side1 ?side2 ?side3 ?side4 ?side5 ?side6 ?side7 A9.out).mono ?_); (case side1 => first | exact HT.out | exact TabIn.below HT.out (PB HB) | (repeat (first | apply TabIn.drewN | apply TabIn.drew | exact HT.out))); (case side2 => exact PB HB); (case side3 => (with_reducible repeat (first | apply Kd.R_alloc | apply Kd.R_drewN | apply Kd.R_drew)); exact Kd.R_mono HO_1.out (fun _ hk => ⟨hk.1.2, hk.2⟩)); (case side4 => exact QC HO255); (case side5 => exact (Kd.R_reads' HO255.out).2.1); (case side6 => exact QC HO258); (case side7 => exact (Kd.R_reads' HO258.out).2.1); rintro e w86 ⟨v261, rfl, ho0, hy0, hb, hkp⟩; refine ⟨_, rfl, ?_⟩; have n0_ := AQ (Kd.R_mono (ok' := fun k_ => (some k_ ≠ (.slice Ao84 y253.length co84 : Value).ownBlock ∧ some k_ ≠ (.slice Ao85 y256.length co85 : Value).ownBlock)) hy0 (fun k_ hk_ => Or.elim hk_ (fun hs_ => hs_) (fun hn_ => ⟨(Kd.fresh' (Kd.R_lt (PR HO255)) k_ hn_), (Kd.fresh' (Kd.R_lt (PR HO258)) k_ hn_)⟩))); have n1_ := AQ (Kd.R_skept (PR HO255) hkp (by decide)); have n2_ := AQ (Kd.R_skept (PR HO258) hkp (by decide)); have n3_ := AQ (Kd.R_lower ho0 (below_size (PB HB))); have n4_ := AQ (hb); clear HO_1; clear HO255; clear HO258; clear HB; have HO_1 := n0_; have HO255 := n1_; have HO258 := n2_; have HO262 := n3_; have HB := n4_; clear n0_ n1_ n2_ n3_ n4_; (try clear hb); (try clear hkp); (try clear hy0); (try clear ho0)) | ((with_reducible refine gate_dst (N := 28) rfl ?_); refine Kd.R_lit (Kd.int .u64) _ 35 ?hg (N := 28) ?hd (xs := ([1] : List Int)) (inner := [.int .u64 1]) (ok := fun _ => True) (okp := fun _ => True) ?hr ?hp (fun _ hk => hk) trivial (Below.refl _ _) (Nat.le_refl _) (by simp) ?_; (case hd => rfl); (case hg => rfl); (case hr => first | (go_simp; done) | (go_simp; rfl)); (case hp => exact (Reps.one (show Kd.M (Kd.int .u64) _ _ _ 1 [.int .u64 1] from rfl) (Reps.none _ _))); intro v265 w87 ho88 hb hg_ hnew_; clear hg_ hnew_; (first | rw [← Ny264.out] at ho88 | (simp only [Int.reduceToNat] at ho88; rw [← Ny264.out] at ho88)); have n0_ := AQ (Kd.R_elder' (PR HO_1) (Kd.R_base ho88) hb); have n1_ := AQ (Kd.R_elder' (PR HO255) (Kd.R_base ho88) hb); have n2_ := AQ (Kd.R_below (PR HO258) hb); have n3_ := AQ (Kd.R_below (PR HO262) hb); have n4_ := AQ (Kd.R_lower (Kd.R_new' ho88 (Kd.R_lt (PR HO255))) (below_size (PB HB))); have n5_ := AQ (below_step (PB HB) hb); clear HO_1; clear HO255; clear HO258; clear HO262; clear HB; have HO_1 := n0_; have HO255 := n1_; have HO258 := n2_; have HO262 := n3_; have HO266 := n4_; have HB := n5_; clear n0_ n1_ n2_ n3_ n4_ n5_; clear hb ho88) | ((with_reducible refine gate_dst (N := 29) rfl ?_); refine Kd.R_lit (Kd.int .u8) _ 5 ?hg (N := 29) ?hd (xs := ([1] : List Int)) (inner := [.int .u8 1]) (ok := fun _ => True) (okp := fun _ => True) ?hr ?hp (fun _ hk => hk) trivial (Below.refl _ _) (Nat.le_refl _) (by simp) ?_; (case hd => rfl); (case hg => rfl); (case hr => first | (go_simp; done) | (go_simp; rfl)); (case hp => exact (Reps.one (show Kd.M (Kd.int .u8) _ _ _ 1 [.int .u8 1] from rfl) (Reps.none _ _))); intro v268 w89 ho90 hb hg_ hnew_; clear hg_ hnew_; (first | rw [← Ny267.out] at ho90 | (simp only [Int.reduceToNat] at ho90; rw [← Ny267.out] at ho90)); have n0_ := AQ (Kd.R_elder' (PR HO_1) (Kd.R_base ho90) hb); have n1_ := AQ (Kd.R_below (PR HO255) hb); have n2_ := AQ (Kd.R_elder' (PR HO258) (Kd.R_base ho90) hb); have n3_ := AQ (Kd.R_below (PR HO262) hb); have n4_ := AQ (Kd.R_below (PR HO266) hb); have n5_ := AQ (Kd.R_lower (Kd.R_new' ho90 (Kd.R_lt (PR HO258))) (below_size (PB HB))); have n6_ := AQ (below_step (PB HB) hb); clear HO_1; clear HO255; clear HO258; clear HO262; clear HO266; clear HB; have HO_1 := n0_; have HO255 := n1_; have HO258 := n2_; have HO262 := n3_; have HO266 := n4_; have HO269 := n5_; have HB := n6_; clear n0_ n1_ n2_ n3_ n4_ n5_ n6_; clear hb ho90; obtain ⟨Ao91, co91, eo91⟩ := Kd.R_slice HO266.out; subst eo91; obtain ⟨Ao92, co92, eo92⟩ := Kd.R_slice HO269.out; subst eo92) | ((with_reducible refine gate_callee (f := 11) rfl ?_); refine gL (some 30) rfl rfl Tryd.func11 #[ptrOf (.slice Ao83 t247.length co83), .slice Ao91 y264.length co91, .slice Ao92 y267.length co92] rfl ?_; (with_reducible refine (elim_System_Add.calls kj1 (fun k_ => (((some k_ ≠ (.slice Ao84 y253.length co84 : Value).ownBlock ∧ some k_ ≠ (.slice Ao85 y256.length co85 : Value).ownBlock) ∧ some k_ ≠ (.slice Ao91 y264.length co91 : Value).ownBlock) ∧ some k_ ≠ (.slice Ao92 y267.length co92 : Value).ownBlock)) (.slice Ao83 t247.length co83) t263 _ _ y264 _ _ y267 t270 t271 t274 w _ ?side1 ?side2 ?side3 ?side4 ?side5 ?side6 ?side7 A10.out).mono ?_); (case side1 => first | exact HT.out | exact TabIn.below HT.out (PB HB) | (repeat (first | apply TabIn.drewN | apply TabIn.drew | exact HT.out))); (case side2 => exact PB HB); (case side3 => exact PR HO_1); (case side4 => exact QC HO266); (case side5 => exact (Kd.R_reads' HO266.out).2.1); (case side6 => exact QC HO269); (case side7 => exact (Kd.R_reads' HO269.out).2.1); rintro e w93 ⟨v272, rfl, ho0, hy0, hb, hkp⟩; refine ⟨_, rfl, ?_⟩; have n0_ := AQ (Kd.R_mono (ok' := fun k_ => (((some k_ ≠ (.slice Ao84 y253.length co84 : Value).ownBlock ∧ some k_ ≠ (.slice Ao85 y256.length co85 : Value).ownBlock) ∧ some k_ ≠ (.slice Ao91 y264.length co91 : Value).ownBlock) ∧ some k_ ≠ (.slice Ao92 y267.length co92 : Value).ownBlock)) hy0 (fun k_ hk_ => Or.elim hk_ (fun hs_ => hs_) (fun hn_ => ⟨⟨⟨(Kd.fresh' (Kd.R_lt (PR HO255)) k_ hn_), (Kd.fresh' (Kd.R_lt (PR HO258)) k_ hn_)⟩, (Kd.fresh' (Kd.R_lt (PR HO266)) k_ hn_)⟩, (Kd.fresh' (Kd.R_lt (PR HO269)) k_ hn_)⟩))); have n1_ := AQ (Kd.R_skept (PR HO255) hkp (by decide)); have n2_ := AQ (Kd.R_skept (PR HO258) hkp (by decide)); have n3_ := AQ (Kd.R_skept (PR HO262) hkp (by decide)); have n4_ := AQ (Kd.R_skept (PR HO266) hkp (by decide)); have n5_ := AQ (Kd.R_skept (PR HO269) hkp (by decide)); have n6_ := AQ (Kd.R_lower ho0 (below_size (PB HB))); have n7_ := AQ (hb); clear HO_1; clear HO255; clear HO258; clear HO262; clear HO266; clear HO269; clear HB; have HO_1 := n0_; have HO255 := n1_; have HO258 := n2_; have HO262 := n3_; have HO266 := n4_; have HO269 := n5_; have HO273 := n6_; have HB := n7_; clear n0_ n1_ n2_ n3_ n4_ n5_ n6_ n7_; (try clear hb); (try clear hkp); (try clear hy0); (try clear ho0)) | ((with_reducible refine gate_callee (f := 13) rfl ?_); refine goesL_ (some 35) rfl rfl Tryd.func13 (by kernel_rfl) rfl #[ptrOf (.slice Ao83 t274.length co83), .int .i64 1] rfl (by (try simp only [List.map_toArray, List.map_cons, List.map_nil]); first | done | (rw [show t274.length = t247.length from (Kd.R_reads' HO_1.out).1.symm] <;> rfl) | rfl | (simp only [List.length_drop, List.length_take]; rfl)) ?_; (with_reducible refine (elim_System_Value.calls kj1 _ _ t274 1 t275 t276 _ ?side1 ?side2 ?side3 A11.out).mono ?_); (case side1 => first | exact HT.out | exact TabIn.below HT.out (PB HB) | (repeat (first | apply TabIn.drewN | apply TabIn.drew | exact HT.out))); (case side2 => exact QC HO_1); (case side3 => rw [show t274.length = t247.length from (Kd.R_reads' HO_1.out).1.symm]; exact (Kd.R_reads' HO_1.out).2.1); rintro e w94 ⟨v277, v279, rfl, ho0, ho1, hb⟩; refine ⟨_, rfl, ?_⟩; have n0_ := AQ (Kd.R_elder' (PR HO_1) (Kd.R_base ho0) hb); have n1_ := AQ (Kd.R_below (PR HO255) hb); have n2_ := AQ (Kd.R_elder' (PR HO258) (Kd.R_base ho0) hb); have n3_ := AQ (Kd.R_below (PR HO262) hb); have n4_ := AQ (Kd.R_below (PR HO266) hb); have n5_ := AQ (Kd.R_elder' (PR HO269) (Kd.R_base ho0) hb); have n6_ := AQ (Kd.R_below (PR HO273) hb); have n7_ := AQ (Kd.R_lower (Kd.R_new' (Kd.R_new' ho0 (Kd.R_lt (PR HO258))) (Kd.R_lt (PR HO269))) (below_size (PB HB))); have n8_ := AQ (Kd.R_lower ho1 (below_size (PB HB))); have n9_ := AQ (below_step (PB HB) hb); clear HO_1; clear HO255; clear HO258; clear HO262; clear HO266; clear HO269; clear HO273; clear HB; have HO_1 := n0_; have HO255 := n1_; have HO258 := n2_; have HO262 := n3_; have HO266 := n4_; have HO269 := n5_; have HO273 := n6_; have HO278 := n7_; have HO280 := n8_; have HB := n9_; clear n0_ n1_ n2_ n3_ n4_ n5_ n6_ n7_ n8_ n9_; (try clear hb); (try clear hb2); (try clear hk); (try clear hi); (try clear ho0); (try clear ho1); obtain ⟨Ao95, co95, eo95⟩ := Kd.R_slice HO262.out; subst eo95; obtain ⟨Ao96, co96, eo96⟩ := Kd.R_slice HO273.out; subst eo96; obtain ⟨Ao97, co97, eo97⟩ := Kd.R_slice HO280.out; subst eo97)); go_ret; exact ⟨by first | rfl | (simp [errW_none, errW_some] <;> rfl) | (simp [*, errW_none, errW_some] <;> rfl), PB HB⟩
      ·rw [if_neg c14] at H; have c14b0 : ((t276.length : Int) == 0) = false := beq_eq_false_iff_ne.mpr c14; have c14b1 : ((t276.length : Int) != 0) = true := bne_iff_ne.mpr c14; have c14b2 : ¬ (t276 = []) := fun h_ => c14 (by rw [h_]; rfl)
       obtain rfl := Option.some.inj H; go_wp2_with (first | ((with_reducible refine gate_dst (N := 21) rfl ?_); refine Kd.R_lit (Kd.int .u64) _ 35 ?hg (N := 21) ?hd (xs := ([3] : List Int)) (inner := [.int .u64 3]) (ok := fun _ => True) (okp := fun _ => True) ?hr ?hp (fun _ hk => hk) trivial (Below.refl _ _) (Nat.le_refl _) (by simp) ?_; (case hd => rfl); (case hg => rfl); (case hr => first | (go_simp; done) | (go_simp; rfl)); (case hp => exact (Reps.one (show Kd.M (Kd.int .u64) _ _ _ 3 [.int .u64 3] from rfl) (Reps.none _ _))); intro v254 w98 ho99 hb hg_ hnew_; clear hg_ hnew_; (first | rw [← Ny253.out] at ho99 | (simp only [Int.reduceToNat] at ho99; rw [← Ny253.out] at ho99)); have n0_ := AQ (Kd.R_elder' (PR HO_1) (Kd.R_base ho99) hb); have n1_ := AQ (Kd.R_lower ho99 (below_size (PB HB))); have n2_ := AQ (below_step (PB HB) hb); clear HO_1; clear HB; have HO_1 := n0_; have HO255 := n1_; have HB := n2_; clear n0_ n1_ n2_; clear hb ho99) | ((with_reducible refine gate_dst (N := 22) rfl ?_); refine Kd.R_lit (Kd.int .u8) _ 5 ?hg (N := 22) ?hd (xs := ([3] : List Int)) (inner := [.int .u8 3]) (ok := fun _ => True) (okp := fun _ => True) ?hr ?hp (fun _ hk => hk) trivial (Below.refl _ _) (Nat.le_refl _) (by simp) ?_; (case hd => rfl); (case hg => rfl); (case hr => first | (go_simp; done) | (go_simp; rfl)); (case hp => exact (Reps.one (show Kd.M (Kd.int .u8) _ _ _ 3 [.int .u8 3] from rfl) (Reps.none _ _))); intro v257 w100 ho101 hb hg_ hnew_; clear hg_ hnew_; (first | rw [← Ny256.out] at ho101 | (simp only [Int.reduceToNat] at ho101; rw [← Ny256.out] at ho101)); have n0_ := AQ (Kd.R_elder' (PR HO_1) (Kd.R_base ho101) hb); have n1_ := AQ (Kd.R_below (PR HO255) hb); have n2_ := AQ (Kd.R_lower ho101 (below_size (PB HB))); have n3_ := AQ (below_step (PB HB) hb); clear HO_1; clear HO255; clear HB; have HO_1 := n0_; have HO255 := n1_; have HO258 := n2_; have HB := n3_; clear n0_ n1_ n2_ n3_; clear hb ho101; obtain ⟨Ao102, co102, eo102⟩ := Kd.R_slice HO_1.out; subst eo102; obtain ⟨Ao103, co103, eo103⟩ := Kd.R_slice HO255.out; subst eo103; obtain ⟨Ao104, co104, eo104⟩ := Kd.R_slice HO258.out; subst eo104) | ((with_reducible refine gate_callee (f := 11) rfl ?_); refine gL (some 23) rfl rfl Tryd.func11 #[ptrOf (.slice Ao102 t247.length co102), .slice Ao103 y253.length co103, .slice Ao104 y256.length co104] rfl ?_; (with_reducible refine (elim_System_Add.calls kj1 (fun k_ => (some k_ ≠ (.slice Ao103 y253.length co103 : Value).ownBlock ∧ some k_ ≠ (.slice Ao104 y256.length co104 : Value).ownBlock)) (.slice Ao102 t247.length co102) t247 _ _ y253 _ _ y256 t259 t260 t263 w _ ?side1 ?side2 ?side3 ?side4 ?side5 ?side6 ?side7 A9.out).mono ?_); (case side1 => first | exact HT.out | exact TabIn.below HT.out (PB HB) | (repeat (first | apply TabIn.drewN | apply TabIn.drew | exact HT.out))); (case side2 => exact PB HB); (case side3 => (with_reducible repeat (first | apply Kd.R_alloc | apply Kd.R_drewN | apply Kd.R_drew)); exact Kd.R_mono HO_1.out (fun _ hk => ⟨hk.1.2, hk.2⟩)); (case side4 => exact QC HO255); (case side5 => exact (Kd.R_reads' HO255.out).2.1); (case side6 => exact QC HO258); (case side7 => exact (Kd.R_reads' HO258.out).2.1); rintro e w105 ⟨v261, rfl, ho0, hy0, hb, hkp⟩; refine ⟨_, rfl, ?_⟩; have n0_ := AQ (Kd.R_mono (ok' := fun k_ => (some k_ ≠ (.slice Ao103 y253.length co103 : Value).ownBlock ∧ some k_ ≠ (.slice Ao104 y256.length co104 : Value).ownBlock)) hy0 (fun k_ hk_ => Or.elim hk_ (fun hs_ => hs_) (fun hn_ => ⟨(Kd.fresh' (Kd.R_lt (PR HO255)) k_ hn_), (Kd.fresh' (Kd.R_lt (PR HO258)) k_ hn_)⟩))); have n1_ := AQ (Kd.R_skept (PR HO255) hkp (by decide)); have n2_ := AQ (Kd.R_skept (PR HO258) hkp (by decide)); have n3_ := AQ (Kd.R_lower ho0 (below_size (PB HB))); have n4_ := AQ (hb); clear HO_1; clear HO255; clear HO258; clear HB; have HO_1 := n0_; have HO255 := n1_; have HO258 := n2_; have HO262 := n3_; have HB := n4_; clear n0_ n1_ n2_ n3_ n4_; (try clear hb); (try clear hkp); (try clear hy0); (try clear ho0)) | ((with_reducible refine gate_dst (N := 28) rfl ?_); refine Kd.R_lit (Kd.int .u64) _ 35 ?hg (N := 28) ?hd (xs := ([1] : List Int)) (inner := [.int .u64 1]) (ok := fun _ => True) (okp := fun _ => True) ?hr ?hp (fun _ hk => hk) trivial (Below.refl _ _) (Nat.le_refl _) (by simp) ?_; (case hd => rfl); (case hg => rfl); (case hr => first | (go_simp; done) | (go_simp; rfl)); (case hp => exact (Reps.one (show Kd.M (Kd.int .u64) _ _ _ 1 [.int .u64 1] from rfl) (Reps.none _ _))); intro v265 w106 ho107 hb hg_ hnew_; clear hg_ hnew_; (first | rw [← Ny264.out] at ho107 | (simp only [Int.reduceToNat] at ho107; rw [← Ny264.out] at ho107)); have n0_ := AQ (Kd.R_elder' (PR HO_1) (Kd.R_base ho107) hb); have n1_ := AQ (Kd.R_elder' (PR HO255) (Kd.R_base ho107) hb); have n2_ := AQ (Kd.R_below (PR HO258) hb); have n3_ := AQ (Kd.R_below (PR HO262) hb); have n4_ := AQ (Kd.R_lower (Kd.R_new' ho107 (Kd.R_lt (PR HO255))) (below_size (PB HB))); have n5_ := AQ (below_step (PB HB) hb); clear HO_1; clear HO255; clear HO258; clear HO262; clear HB; have HO_1 := n0_; have HO255 := n1_; have HO258 := n2_; have HO262 := n3_; have HO266 := n4_; have HB := n5_; clear n0_ n1_ n2_ n3_ n4_ n5_; clear hb ho107) | ((with_reducible refine gate_dst (N := 29) rfl ?_); refine Kd.R_lit (Kd.int .u8) _ 5 ?hg (N := 29) ?hd (xs := ([1] : List Int)) (inner := [.int .u8 1]) (ok := fun _ => True) (okp := fun _ => True) ?hr ?hp (fun _ hk => hk) trivial (Below.refl _ _) (Nat.le_refl _) (by simp) ?_; (case hd => rfl); (case hg => rfl); (case hr => first | (go_simp; done) | (go_simp; rfl)); (case hp => exact (Reps.one (show Kd.M (Kd.int .u8) _ _ _ 1 [.int .u8 1] from rfl) (Reps.none _ _))); intro v268 w108 ho109 hb hg_ hnew_; clear hg_ hnew_; (first | rw [← Ny267.out] at ho109 | (simp only [Int.reduceToNat] at ho109; rw [← Ny267.out] at ho109)); have n0_ := AQ (Kd.R_elder' (PR HO_1) (Kd.R_base ho109) hb); have n1_ := AQ (Kd.R_below (PR HO255) hb); have n2_ := AQ (Kd.R_elder' (PR HO258) (Kd.R_base ho109) hb); have n3_ := AQ (Kd.R_below (PR HO262) hb); have n4_ := AQ (Kd.R_below (PR HO266) hb); have n5_ := AQ (Kd.R_lower (Kd.R_new' ho109 (Kd.R_lt (PR HO258))) (below_size (PB HB))); have n6_ := AQ (below_step (PB HB) hb); clear HO_1; clear HO255; clear HO258; clear HO262; clear HO266; clear HB; have HO_1 := n0_; have HO255 := n1_; have HO258 := n2_; have HO262 := n3_; have HO266 := n4_; have HO269 := n5_; have HB := n6_; clear n0_ n1_ n2_ n3_ n4_ n5_ n6_; clear hb ho109; obtain ⟨Ao110, co110, eo110⟩ := Kd.R_slice HO266.out; subst eo110; obtain ⟨Ao111, co111, eo111⟩ := Kd.R_slice HO269.out; subst eo111) | ((with_reducible refine gate_callee (f := 11) rfl ?_); refine gL (some 30) rfl rfl Tryd.func11 #[ptrOf (.slice Ao102 t247.length co102), .slice Ao110 y264.length co110, .slice Ao111 y267.length co111] rfl ?_; (with_reducible refine (elim_System_Add.calls kj1 (fun k_ => (((some k_ ≠ (.slice Ao103 y253.length co103 : Value).ownBlock ∧ some k_ ≠ (.slice Ao104 y256.length co104 : Value).ownBlock) ∧ some k_ ≠ (.slice Ao110 y264.length co110 : Value).ownBlock) ∧ some k_ ≠ (.slice Ao111 y267.length co111 : Value).ownBlock)) (.slice Ao102 t247.length co102) t263 _ _ y264 _ _ y267 t270 t271 t274 w _ ?side1 ?side2 ?side3 ?side4 ?side5 ?side6 ?side7 A10.out).mono ?_); (case side1 => first | exact HT.out | exact TabIn.below HT.out (PB HB) | (repeat (first | apply TabIn.drewN | apply TabIn.drew | exact HT.out))); (case side2 => exact PB HB); (case side3 => exact PR HO_1); (case side4 => exact QC HO266); (case side5 => exact (Kd.R_reads' HO266.out).2.1); (case side6 => exact QC HO269); (case side7 => exact (Kd.R_reads' HO269.out).2.1); rintro e w112 ⟨v272, rfl, ho0, hy0, hb, hkp⟩; refine ⟨_, rfl, ?_⟩; have n0_ := AQ (Kd.R_mono (ok' := fun k_ => (((some k_ ≠ (.slice Ao103 y253.length co103 : Value).ownBlock ∧ some k_ ≠ (.slice Ao104 y256.length co104 : Value).ownBlock) ∧ some k_ ≠ (.slice Ao110 y264.length co110 : Value).ownBlock) ∧ some k_ ≠ (.slice Ao111 y267.length co111 : Value).ownBlock)) hy0 (fun k_ hk_ => Or.elim hk_ (fun hs_ => hs_) (fun hn_ => ⟨⟨⟨(Kd.fresh' (Kd.R_lt (PR HO255)) k_ hn_), (Kd.fresh' (Kd.R_lt (PR HO258)) k_ hn_)⟩, (Kd.fresh' (Kd.R_lt (PR HO266)) k_ hn_)⟩, (Kd.fresh' (Kd.R_lt (PR HO269)) k_ hn_)⟩))); have n1_ := AQ (Kd.R_skept (PR HO255) hkp (by decide)); have n2_ := AQ (Kd.R_skept (PR HO258) hkp (by decide)); have n3_ := AQ (Kd.R_skept (PR HO262) hkp (by decide)); have n4_ := AQ (Kd.R_skept (PR HO266) hkp (by decide)); have n5_ := AQ (Kd.R_skept (PR HO269) hkp (by decide)); have n6_ := AQ (Kd.R_lower ho0 (below_size (PB HB))); have n7_ := AQ (hb); clear HO_1; clear HO255; clear HO258; clear HO262; clear HO266; clear HO269; clear HB; have HO_1 := n0_; have HO255 := n1_; have HO258 := n2_; have HO262 := n3_; have HO266 := n4_; have HO269 := n5_; have HO273 := n6_; have HB := n7_; clear n0_ n1_ n2_ n3_ n4_ n5_ n6_ n7_; (try clear hb); (try clear hkp); (try clear hy0); (try clear ho0)) | ((with_reducible refine gate_callee (f := 13) rfl ?_); refine goesL_ (some 35) rfl rfl Tryd.func13 (by kernel_rfl) rfl #[ptrOf (.slice Ao102 t274.length co102), .int .i64 1] rfl (by (try simp only [List.map_toArray, List.map_cons, List.map_nil]); first | done | (rw [show t274.length = t247.length from (Kd.R_reads' HO_1.out).1.symm] <;> rfl) | rfl | (simp only [List.length_drop, List.length_take]; rfl)) ?_; (with_reducible refine (elim_System_Value.calls kj1 _ _ t274 1 t275 t276 _ ?side1 ?side2 ?side3 A11.out).mono ?_); (case side1 => first | exact HT.out | exact TabIn.below HT.out (PB HB) | (repeat (first | apply TabIn.drewN | apply TabIn.drew | exact HT.out))); (case side2 => exact QC HO_1); (case side3 => rw [show t274.length = t247.length from (Kd.R_reads' HO_1.out).1.symm]; exact (Kd.R_reads' HO_1.out).2.1); rintro e w113 ⟨v277, v279, rfl, ho0, ho1, hb⟩; refine ⟨_, rfl, ?_⟩; have n0_ := AQ (Kd.R_elder' (PR HO_1) (Kd.R_base ho0) hb); have n1_ := AQ (Kd.R_below (PR HO255) hb); have n2_ := AQ (Kd.R_elder' (PR HO258) (Kd.R_base ho0) hb); have n3_ := AQ (Kd.R_below (PR HO262) hb); have n4_ := AQ (Kd.R_below (PR HO266) hb); have n5_ := AQ (Kd.R_elder' (PR HO269) (Kd.R_base ho0) hb); have n6_ := AQ (Kd.R_below (PR HO273) hb); have n7_ := AQ (Kd.R_lower (Kd.R_new' (Kd.R_new' ho0 (Kd.R_lt (PR HO258))) (Kd.R_lt (PR HO269))) (below_size (PB HB))); have n8_ := AQ (Kd.R_lower ho1 (below_size (PB HB))); have n9_ := AQ (below_step (PB HB) hb); clear HO_1; clear HO255; clear HO258; clear HO262; clear HO266; clear HO269; clear HO273; clear HB; have HO_1 := n0_; have HO255 := n1_; have HO258 := n2_; have HO262 := n3_; have HO266 := n4_; have HO269 := n5_; have HO273 := n6_; have HO278 := n7_; have HO280 := n8_; have HB := n9_; clear n0_ n1_ n2_ n3_ n4_ n5_ n6_ n7_ n8_ n9_; (try clear hb); (try clear hb2); (try clear hk); (try clear hi); (try clear ho0); (try clear ho1); obtain ⟨Ao114, co114, eo114⟩ := Kd.R_slice HO262.out; subst eo114; obtain ⟨Ao115, co115, eo115⟩ := Kd.R_slice HO273.out; subst eo115; obtain ⟨Ao116, co116, eo116⟩ := Kd.R_slice HO280.out; subst eo116)); go_ret; exact ⟨by first | rfl | (simp [errW_none, errW_some] <;> rfl) | (simp [*, errW_none, errW_some] <;> rfl), PB HB⟩
     ·rw [if_neg c13] at H; have c13b0 : ((t271.length : Int) == 0) = false := beq_eq_false_iff_ne.mpr c13; have c13b1 : ((t271.length : Int) != 0) = true := bne_iff_ne.mpr c13; have c13b2 : ¬ (t271 = []) := fun h_ => c13 (by rw [h_]; rfl)
      obtain rfl := Option.some.inj H; go_wp2_with (first | ((with_reducible refine gate_dst (N := 21) rfl ?_); refine Kd.R_lit (Kd.int .u64) _ 35 ?hg (N := 21) ?hd (xs := ([3] : List Int)) (inner := [.int .u64 3]) (ok := fun _ => True) (okp := fun _ => True) ?hr ?hp (fun _ hk => hk) trivial (Below.refl _ _) (Nat.le_refl _) (by simp) ?_; (case hd => rfl); (case hg => rfl); (case hr => first | (go_simp; done) | (go_simp; rfl)); (case hp => exact (Reps.one (show Kd.M (Kd.int .u64) _ _ _ 3 [.int .u64 3] from rfl) (Reps.none _ _))); intro v254 w117 ho118 hb hg_ hnew_; clear hg_ hnew_; (first | rw [← Ny253.out] at ho118 | (simp only [Int.reduceToNat] at ho118; rw [← Ny253.out] at ho118)); have n0_ := AQ (Kd.R_elder' (PR HO_1) (Kd.R_base ho118) hb); have n1_ := AQ (Kd.R_lower ho118 (below_size (PB HB))); have n2_ := AQ (below_step (PB HB) hb); clear HO_1; clear HB; have HO_1 := n0_; have HO255 := n1_; have HB := n2_; clear n0_ n1_ n2_; clear hb ho118) | ((with_reducible refine gate_dst (N := 22) rfl ?_); refine Kd.R_lit (Kd.int .u8) _ 5 ?hg (N := 22) ?hd (xs := ([3] : List Int)) (inner := [.int .u8 3]) (ok := fun _ => True) (okp := fun _ => True) ?hr ?hp (fun _ hk => hk) trivial (Below.refl _ _) (Nat.le_refl _) (by simp) ?_; (case hd => rfl); (case hg => rfl); (case hr => first | (go_simp; done) | (go_simp; rfl)); (case hp => exact (Reps.one (show Kd.M (Kd.int .u8) _ _ _ 3 [.int .u8 3] from rfl) (Reps.none _ _))); intro v257 w119 ho120 hb hg_ hnew_; clear hg_ hnew_; (first | rw [← Ny256.out] at ho120 | (simp only [Int.reduceToNat] at ho120; rw [← Ny256.out] at ho120)); have n0_ := AQ (Kd.R_elder' (PR HO_1) (Kd.R_base ho120) hb); have n1_ := AQ (Kd.R_below (PR HO255) hb); have n2_ := AQ (Kd.R_lower ho120 (below_size (PB HB))); have n3_ := AQ (below_step (PB HB) hb); clear HO_1; clear HO255; clear HB; have HO_1 := n0_; have HO255 := n1_; have HO258 := n2_; have HB := n3_; clear n0_ n1_ n2_ n3_; clear hb ho120; obtain ⟨Ao121, co121, eo121⟩ := Kd.R_slice HO_1.out; subst eo121; obtain ⟨Ao122, co122, eo122⟩ := Kd.R_slice HO255.out; subst eo122; obtain ⟨Ao123, co123, eo123⟩ := Kd.R_slice HO258.out; subst eo123) | ((with_reducible refine gate_callee (f := 11) rfl ?_); refine gL (some 23) rfl rfl Tryd.func11 #[ptrOf (.slice Ao121 t247.length co121), .slice Ao122 y253.length co122, .slice Ao123 y256.length co123] rfl ?_; (with_reducible refine (elim_System_Add.calls kj1 (fun k_ => (some k_ ≠ (.slice Ao122 y253.length co122 : Value).ownBlock ∧ some k_ ≠ (.slice Ao123 y256.length co123 : Value).ownBlock)) (.slice Ao121 t247.length co121) t247 _ _ y253 _ _ y256 t259 t260 t263 w _ ?side1 ?side2 ?side3 ?side4 ?side5 ?side6 ?side7 A9.out).mono ?_); (case side1 => first | exact HT.out | exact TabIn.below HT.out (PB HB) | (repeat (first | apply TabIn.drewN | apply TabIn.drew | exact HT.out))); (case side2 => exact PB HB); (case side3 => (with_reducible repeat (first | apply Kd.R_alloc | apply Kd.R_drewN | apply Kd.R_drew)); exact Kd.R_mono HO_1.out (fun _ hk => ⟨hk.1.2, hk.2⟩)); (case side4 => exact QC HO255); (case side5 => exact (Kd.R_reads' HO255.out).2.1); (case side6 => exact QC HO258); (case side7 => exact (Kd.R_reads' HO258.out).2.1); rintro e w124 ⟨v261, rfl, ho0, hy0, hb, hkp⟩; refine ⟨_, rfl, ?_⟩; have n0_ := AQ (Kd.R_mono (ok' := fun k_ => (some k_ ≠ (.slice Ao122 y253.length co122 : Value).ownBlock ∧ some k_ ≠ (.slice Ao123 y256.length co123 : Value).ownBlock)) hy0 (fun k_ hk_ => Or.elim hk_ (fun hs_ => hs_) (fun hn_ => ⟨(Kd.fresh' (Kd.R_lt (PR HO255)) k_ hn_), (Kd.fresh' (Kd.R_lt (PR HO258)) k_ hn_)⟩))); have n1_ := AQ (Kd.R_skept (PR HO255) hkp (by decide)); have n2_ := AQ (Kd.R_skept (PR HO258) hkp (by decide)); have n3_ := AQ (Kd.R_lower ho0 (below_size (PB HB))); have n4_ := AQ (hb); clear HO_1; clear HO255; clear HO258; clear HB; have HO_1 := n0_; have HO255 := n1_; have HO258 := n2_; have HO262 := n3_; have HB := n4_; clear n0_ n1_ n2_ n3_ n4_; (try clear hb); (try clear hkp); (try clear hy0); (try clear ho0)) | ((with_reducible refine gate_dst (N := 28) rfl ?_); refine Kd.R_lit (Kd.int .u64) _ 35 ?hg (N := 28) ?hd (xs := ([1] : List Int)) (inner := [.int .u64 1]) (ok := fun _ => True) (okp := fun _ => True) ?hr ?hp (fun _ hk => hk) trivial (Below.refl _ _) (Nat.le_refl _) (by simp) ?_; (case hd => rfl); (case hg => rfl); (case hr => first | (go_simp; done) | (go_simp; rfl)); (case hp => exact (Reps.one (show Kd.M (Kd.int .u64) _ _ _ 1 [.int .u64 1] from rfl) (Reps.none _ _))); intro v265 w125 ho126 hb hg_ hnew_; clear hg_ hnew_; (first | rw [← Ny264.out] at ho126 | (simp only [Int.reduceToNat] at ho126; rw [← Ny264.out] at ho126)); have n0_ := AQ (Kd.R_elder' (PR HO_1) (Kd.R_base ho126) hb); have n1_ := AQ (Kd.R_elder' (PR HO255) (Kd.R_base ho126) hb); have n2_ := AQ (Kd.R_below (PR HO258) hb); have n3_ := AQ (Kd.R_below (PR HO262) hb); have n4_ := AQ (Kd.R_lower (Kd.R_new' ho126 (Kd.R_lt (PR HO255))) (below_size (PB HB))); have n5_ := AQ (below_step (PB HB) hb); clear HO_1; clear HO255; clear HO258; clear HO262; clear HB; have HO_1 := n0_; have HO255 := n1_; have HO258 := n2_; have HO262 := n3_; have HO266 := n4_; have HB := n5_; clear n0_ n1_ n2_ n3_ n4_ n5_; clear hb ho126) | ((with_reducible refine gate_dst (N := 29) rfl ?_); refine Kd.R_lit (Kd.int .u8) _ 5 ?hg (N := 29) ?hd (xs := ([1] : List Int)) (inner := [.int .u8 1]) (ok := fun _ => True) (okp := fun _ => True) ?hr ?hp (fun _ hk => hk) trivial (Below.refl _ _) (Nat.le_refl _) (by simp) ?_; (case hd => rfl); (case hg => rfl); (case hr => first | (go_simp; done) | (go_simp; rfl)); (case hp => exact (Reps.one (show Kd.M (Kd.int .u8) _ _ _ 1 [.int .u8 1] from rfl) (Reps.none _ _))); intro v268 w127 ho128 hb hg_ hnew_; clear hg_ hnew_; (first | rw [← Ny267.out] at ho128 | (simp only [Int.reduceToNat] at ho128; rw [← Ny267.out] at ho128)); have n0_ := AQ (Kd.R_elder' (PR HO_1) (Kd.R_base ho128) hb); have n1_ := AQ (Kd.R_below (PR HO255) hb); have n2_ := AQ (Kd.R_elder' (PR HO258) (Kd.R_base ho128) hb); have n3_ := AQ (Kd.R_below (PR HO262) hb); have n4_ := AQ (Kd.R_below (PR HO266) hb); have n5_ := AQ (Kd.R_lower (Kd.R_new' ho128 (Kd.R_lt (PR HO258))) (below_size (PB HB))); have n6_ := AQ (below_step (PB HB) hb); clear HO_1; clear HO255; clear HO258; clear HO262; clear HO266; clear HB; have HO_1 := n0_; have HO255 := n1_; have HO258 := n2_; have HO262 := n3_; have HO266 := n4_; have HO269 := n5_; have HB := n6_; clear n0_ n1_ n2_ n3_ n4_ n5_ n6_; clear hb ho128; obtain ⟨Ao129, co129, eo129⟩ := Kd.R_slice HO266.out; subst eo129; obtain ⟨Ao130, co130, eo130⟩ := Kd.R_slice HO269.out; subst eo130) | ((with_reducible refine gate_callee (f := 11) rfl ?_); refine gL (some 30) rfl rfl Tryd.func11 #[ptrOf (.slice Ao121 t247.length co121), .slice Ao129 y264.length co129, .slice Ao130 y267.length co130] rfl ?_; (with_reducible refine (elim_System_Add.calls kj1 (fun k_ => (((some k_ ≠ (.slice Ao122 y253.length co122 : Value).ownBlock ∧ some k_ ≠ (.slice Ao123 y256.length co123 : Value).ownBlock) ∧ some k_ ≠ (.slice Ao129 y264.length co129 : Value).ownBlock) ∧ some k_ ≠ (.slice Ao130 y267.length co130 : Value).ownBlock)) (.slice Ao121 t247.length co121) t263 _ _ y264 _ _ y267 t270 t271 t274 w _ ?side1 ?side2 ?side3 ?side4 ?side5 ?side6 ?side7 A10.out).mono ?_); (case side1 => first | exact HT.out | exact TabIn.below HT.out (PB HB) | (repeat (first | apply TabIn.drewN | apply TabIn.drew | exact HT.out))); (case side2 => exact PB HB); (case side3 => exact PR HO_1); (case side4 => exact QC HO266); (case side5 => exact (Kd.R_reads' HO266.out).2.1); (case side6 => exact QC HO269); (case side7 => exact (Kd.R_reads' HO269.out).2.1); rintro e w131 ⟨v272, rfl, ho0, hy0, hb, hkp⟩; refine ⟨_, rfl, ?_⟩; have n0_ := AQ (Kd.R_mono (ok' := fun k_ => (((some k_ ≠ (.slice Ao122 y253.length co122 : Value).ownBlock ∧ some k_ ≠ (.slice Ao123 y256.length co123 : Value).ownBlock) ∧ some k_ ≠ (.slice Ao129 y264.length co129 : Value).ownBlock) ∧ some k_ ≠ (.slice Ao130 y267.length co130 : Value).ownBlock)) hy0 (fun k_ hk_ => Or.elim hk_ (fun hs_ => hs_) (fun hn_ => ⟨⟨⟨(Kd.fresh' (Kd.R_lt (PR HO255)) k_ hn_), (Kd.fresh' (Kd.R_lt (PR HO258)) k_ hn_)⟩, (Kd.fresh' (Kd.R_lt (PR HO266)) k_ hn_)⟩, (Kd.fresh' (Kd.R_lt (PR HO269)) k_ hn_)⟩))); have n1_ := AQ (Kd.R_skept (PR HO255) hkp (by decide)); have n2_ := AQ (Kd.R_skept (PR HO258) hkp (by decide)); have n3_ := AQ (Kd.R_skept (PR HO262) hkp (by decide)); have n4_ := AQ (Kd.R_skept (PR HO266) hkp (by decide)); have n5_ := AQ (Kd.R_skept (PR HO269) hkp (by decide)); have n6_ := AQ (Kd.R_lower ho0 (below_size (PB HB))); have n7_ := AQ (hb); clear HO_1; clear HO255; clear HO258; clear HO262; clear HO266; clear HO269; clear HB; have HO_1 := n0_; have HO255 := n1_; have HO258 := n2_; have HO262 := n3_; have HO266 := n4_; have HO269 := n5_; have HO273 := n6_; have HB := n7_; clear n0_ n1_ n2_ n3_ n4_ n5_ n6_ n7_; (try clear hb); (try clear hkp); (try clear hy0); (try clear ho0)) | ((with_reducible refine gate_callee (f := 13) rfl ?_); refine goesL_ (some 35) rfl rfl Tryd.func13 (by kernel_rfl) rfl #[ptrOf (.slice Ao121 t274.length co121), .int .i64 1] rfl (by (try simp only [List.map_toArray, List.map_cons, List.map_nil]); first | done | (rw [show t274.length = t247.length from (Kd.R_reads' HO_1.out).1.symm] <;> rfl) | rfl | (simp only [List.length_drop, List.length_take]; rfl)) ?_; (with_reducible refine (elim_System_Value.calls kj1 _ _ t274 1 t275 t276 _ ?side1 ?side2 ?side3 A11.out).mono ?_); (case side1 => first | exact HT.out | exact TabIn.below HT.out (PB HB) | (repeat (first | apply TabIn.drewN | apply TabIn.drew | exact HT.out))); (case side2 => exact QC HO_1); (case side3 => rw [show t274.length = t247.length from (Kd.R_reads' HO_1.out).1.symm]; exact (Kd.R_reads' HO_1.out).2.1); rintro e w132 ⟨v277, v279, rfl, ho0, ho1, hb⟩; refine ⟨_, rfl, ?_⟩; have n0_ := AQ (Kd.R_elder' (PR HO_1) (Kd.R_base ho0) hb); have n1_ := AQ (Kd.R_below (PR HO255) hb); have n2_ := AQ (Kd.R_elder' (PR HO258) (Kd.R_base ho0) hb); have n3_ := AQ (Kd.R_below (PR HO262) hb); have n4_ := AQ (Kd.R_below (PR HO266) hb); have n5_ := AQ (Kd.R_elder' (PR HO269) (Kd.R_base ho0) hb); have n6_ := AQ (Kd.R_below (PR HO273) hb); have n7_ := AQ (Kd.R_lower (Kd.R_new' (Kd.R_new' ho0 (Kd.R_lt (PR HO258))) (Kd.R_lt (PR HO269))) (below_size (PB HB))); have n8_ := AQ (Kd.R_lower ho1 (below_size (PB HB))); have n9_ := AQ (below_step (PB HB) hb); clear HO_1; clear HO255; clear HO258; clear HO262; clear HO266; clear HO269; clear HO273; clear HB; have HO_1 := n0_; have HO255 := n1_; have HO258 := n2_; have HO262 := n3_; have HO266 := n4_; have HO269 := n5_; have HO273 := n6_; have HO278 := n7_; have HO280 := n8_; have HB := n9_; clear n0_ n1_ n2_ n3_ n4_ n5_ n6_ n7_ n8_ n9_; (try clear hb); (try clear hb2); (try clear hk); (try clear hi); (try clear ho0); (try clear ho1); obtain ⟨Ao133, co133, eo133⟩ := Kd.R_slice HO262.out; subst eo133; obtain ⟨Ao134, co134, eo134⟩ := Kd.R_slice HO273.out; subst eo134)); go_ret; exact ⟨by first | rfl | (simp [errW_none, errW_some] <;> rfl) | (simp [*, errW_none, errW_some] <;> rfl), PB HB⟩
    ·rw [if_neg c12] at H; have c12b0 : ((t260.length : Int) == 0) = false := beq_eq_false_iff_ne.mpr c12; have c12b1 : ((t260.length : Int) != 0) = true := bne_iff_ne.mpr c12; have c12b2 : ¬ (t260 = []) := fun h_ => c12 (by rw [h_]; rfl)
     obtain rfl := Option.some.inj H; go_wp2_with (first | ((with_reducible refine gate_dst (N := 21) rfl ?_); refine Kd.R_lit (Kd.int .u64) _ 35 ?hg (N := 21) ?hd (xs := ([3] : List Int)) (inner := [.int .u64 3]) (ok := fun _ => True) (okp := fun _ => True) ?hr ?hp (fun _ hk => hk) trivial (Below.refl _ _) (Nat.le_refl _) (by simp) ?_; (case hd => rfl); (case hg => rfl); (case hr => first | (go_simp; done) | (go_simp; rfl)); (case hp => exact (Reps.one (show Kd.M (Kd.int .u64) _ _ _ 3 [.int .u64 3] from rfl) (Reps.none _ _))); intro v254 w135 ho136 hb hg_ hnew_; clear hg_ hnew_; (first | rw [← Ny253.out] at ho136 | (simp only [Int.reduceToNat] at ho136; rw [← Ny253.out] at ho136)); have n0_ := AQ (Kd.R_elder' (PR HO_1) (Kd.R_base ho136) hb); have n1_ := AQ (Kd.R_lower ho136 (below_size (PB HB))); have n2_ := AQ (below_step (PB HB) hb); clear HO_1; clear HB; have HO_1 := n0_; have HO255 := n1_; have HB := n2_; clear n0_ n1_ n2_; clear hb ho136) | ((with_reducible refine gate_dst (N := 22) rfl ?_); refine Kd.R_lit (Kd.int .u8) _ 5 ?hg (N := 22) ?hd (xs := ([3] : List Int)) (inner := [.int .u8 3]) (ok := fun _ => True) (okp := fun _ => True) ?hr ?hp (fun _ hk => hk) trivial (Below.refl _ _) (Nat.le_refl _) (by simp) ?_; (case hd => rfl); (case hg => rfl); (case hr => first | (go_simp; done) | (go_simp; rfl)); (case hp => exact (Reps.one (show Kd.M (Kd.int .u8) _ _ _ 3 [.int .u8 3] from rfl) (Reps.none _ _))); intro v257 w137 ho138 hb hg_ hnew_; clear hg_ hnew_; (first | rw [← Ny256.out] at ho138 | (simp only [Int.reduceToNat] at ho138; rw [← Ny256.out] at ho138)); have n0_ := AQ (Kd.R_elder' (PR HO_1) (Kd.R_base ho138) hb); have n1_ := AQ (Kd.R_below (PR HO255) hb); have n2_ := AQ (Kd.R_lower ho138 (below_size (PB HB))); have n3_ := AQ (below_step (PB HB) hb); clear HO_1; clear HO255; clear HB; have HO_1 := n0_; have HO255 := n1_; have HO258 := n2_; have HB := n3_; clear n0_ n1_ n2_ n3_; clear hb ho138; obtain ⟨Ao139, co139, eo139⟩ := Kd.R_slice HO_1.out; subst eo139; obtain ⟨Ao140, co140, eo140⟩ := Kd.R_slice HO255.out; subst eo140; obtain ⟨Ao141, co141, eo141⟩ := Kd.R_slice HO258.out; subst eo141) | ((with_reducible refine gate_callee (f := 11) rfl ?_); refine gL (some 23) rfl rfl Tryd.func11 #[ptrOf (.slice Ao139 t247.length co139), .slice Ao140 y253.length co140, .slice Ao141 y256.length co141] rfl ?_; (with_reducible refine (elim_System_Add.calls kj1 (fun k_ => (some k_ ≠ (.slice Ao140 y253.length co140 : Value).ownBlock ∧ some k_ ≠ (.slice Ao141 y256.length co141 : Value).ownBlock)) (.slice Ao139 t247.length co139) t247 _ _ y253 _ _ y256 t259 t260 t263 w _ ?side1 ?side2 ?side3 ?side4 ?side5 ?side6 ?side7 A9.out).mono ?_); (case side1 => first | exact HT.out | exact TabIn.below HT.out (PB HB) | (repeat (first | apply TabIn.drewN | apply TabIn.drew | exact HT.out))); (case side2 => exact PB HB); (case side3 => (with_reducible repeat (first | apply Kd.R_alloc | apply Kd.R_drewN | apply Kd.R_drew)); exact Kd.R_mono HO_1.out (fun _ hk => ⟨hk.1.2, hk.2⟩)); (case side4 => exact QC HO255); (case side5 => exact (Kd.R_reads' HO255.out).2.1); (case side6 => exact QC HO258); (case side7 => exact (Kd.R_reads' HO258.out).2.1); rintro e w142 ⟨v261, rfl, ho0, hy0, hb, hkp⟩; refine ⟨_, rfl, ?_⟩; have n0_ := AQ (Kd.R_mono (ok' := fun k_ => (some k_ ≠ (.slice Ao140 y253.length co140 : Value).ownBlock ∧ some k_ ≠ (.slice Ao141 y256.length co141 : Value).ownBlock)) hy0 (fun k_ hk_ => Or.elim hk_ (fun hs_ => hs_) (fun hn_ => ⟨(Kd.fresh' (Kd.R_lt (PR HO255)) k_ hn_), (Kd.fresh' (Kd.R_lt (PR HO258)) k_ hn_)⟩))); have n1_ := AQ (Kd.R_skept (PR HO255) hkp (by decide)); have n2_ := AQ (Kd.R_skept (PR HO258) hkp (by decide)); have n3_ := AQ (Kd.R_lower ho0 (below_size (PB HB))); have n4_ := AQ (hb); clear HO_1; clear HO255; clear HO258; clear HB; have HO_1 := n0_; have HO255 := n1_; have HO258 := n2_; have HO262 := n3_; have HB := n4_; clear n0_ n1_ n2_ n3_ n4_; (try clear hb); (try clear hkp); (try clear hy0); (try clear ho0)) | ((with_reducible refine gate_dst (N := 28) rfl ?_); refine Kd.R_lit (Kd.int .u64) _ 35 ?hg (N := 28) ?hd (xs := ([1] : List Int)) (inner := [.int .u64 1]) (ok := fun _ => True) (okp := fun _ => True) ?hr ?hp (fun _ hk => hk) trivial (Below.refl _ _) (Nat.le_refl _) (by simp) ?_; (case hd => rfl); (case hg => rfl); (case hr => first | (go_simp; done) | (go_simp; rfl)); (case hp => exact (Reps.one (show Kd.M (Kd.int .u64) _ _ _ 1 [.int .u64 1] from rfl) (Reps.none _ _))); intro v265 w143 ho144 hb hg_ hnew_; clear hg_ hnew_; (first | rw [← Ny264.out] at ho144 | (simp only [Int.reduceToNat] at ho144; rw [← Ny264.out] at ho144)); have n0_ := AQ (Kd.R_elder' (PR HO_1) (Kd.R_base ho144) hb); have n1_ := AQ (Kd.R_elder' (PR HO255) (Kd.R_base ho144) hb); have n2_ := AQ (Kd.R_below (PR HO258) hb); have n3_ := AQ (Kd.R_below (PR HO262) hb); have n4_ := AQ (Kd.R_lower (Kd.R_new' ho144 (Kd.R_lt (PR HO255))) (below_size (PB HB))); have n5_ := AQ (below_step (PB HB) hb); clear HO_1; clear HO255; clear HO258; clear HO262; clear HB; have HO_1 := n0_; have HO255 := n1_; have HO258 := n2_; have HO262 := n3_; have HO266 := n4_; have HB := n5_; clear n0_ n1_ n2_ n3_ n4_ n5_; clear hb ho144) | ((with_reducible refine gate_dst (N := 29) rfl ?_); refine Kd.R_lit (Kd.int .u8) _ 5 ?hg (N := 29) ?hd (xs := ([1] : List Int)) (inner := [.int .u8 1]) (ok := fun _ => True) (okp := fun _ => True) ?hr ?hp (fun _ hk => hk) trivial (Below.refl _ _) (Nat.le_refl _) (by simp) ?_; (case hd => rfl); (case hg => rfl); (case hr => first | (go_simp; done) | (go_simp; rfl)); (case hp => exact (Reps.one (show Kd.M (Kd.int .u8) _ _ _ 1 [.int .u8 1] from rfl) (Reps.none _ _))); intro v268 w145 ho146 hb hg_ hnew_; clear hg_ hnew_; (first | rw [← Ny267.out] at ho146 | (simp only [Int.reduceToNat] at ho146; rw [← Ny267.out] at ho146)); have n0_ := AQ (Kd.R_elder' (PR HO_1) (Kd.R_base ho146) hb); have n1_ := AQ (Kd.R_below (PR HO255) hb); have n2_ := AQ (Kd.R_elder' (PR HO258) (Kd.R_base ho146) hb); have n3_ := AQ (Kd.R_below (PR HO262) hb); have n4_ := AQ (Kd.R_below (PR HO266) hb); have n5_ := AQ (Kd.R_lower (Kd.R_new' ho146 (Kd.R_lt (PR HO258))) (below_size (PB HB))); have n6_ := AQ (below_step (PB HB) hb); clear HO_1; clear HO255; clear HO258; clear HO262; clear HO266; clear HB; have HO_1 := n0_; have HO255 := n1_; have HO258 := n2_; have HO262 := n3_; have HO266 := n4_; have HO269 := n5_; have HB := n6_; clear n0_ n1_ n2_ n3_ n4_ n5_ n6_; clear hb ho146; obtain ⟨Ao147, co147, eo147⟩ := Kd.R_slice HO266.out; subst eo147; obtain ⟨Ao148, co148, eo148⟩ := Kd.R_slice HO269.out; subst eo148) | ((with_reducible refine gate_callee (f := 11) rfl ?_); refine gL (some 30) rfl rfl Tryd.func11 #[ptrOf (.slice Ao139 t247.length co139), .slice Ao147 y264.length co147, .slice Ao148 y267.length co148] rfl ?_; (with_reducible refine (elim_System_Add.calls kj1 (fun k_ => (((some k_ ≠ (.slice Ao140 y253.length co140 : Value).ownBlock ∧ some k_ ≠ (.slice Ao141 y256.length co141 : Value).ownBlock) ∧ some k_ ≠ (.slice Ao147 y264.length co147 : Value).ownBlock) ∧ some k_ ≠ (.slice Ao148 y267.length co148 : Value).ownBlock)) (.slice Ao139 t247.length co139) t263 _ _ y264 _ _ y267 t270 t271 t274 w _ ?side1 ?side2 ?side3 ?side4 ?side5 ?side6 ?side7 A10.out).mono ?_); (case side1 => first | exact HT.out | exact TabIn.below HT.out (PB HB) | (repeat (first | apply TabIn.drewN | apply TabIn.drew | exact HT.out))); (case side2 => exact PB HB); (case side3 => exact PR HO_1); (case side4 => exact QC HO266); (case side5 => exact (Kd.R_reads' HO266.out).2.1); (case side6 => exact QC HO269); (case side7 => exact (Kd.R_reads' HO269.out).2.1); rintro e w149 ⟨v272, rfl, ho0, hy0, hb, hkp⟩; refine ⟨_, rfl, ?_⟩; have n0_ := AQ (Kd.R_mono (ok' := fun k_ => (((some k_ ≠ (.slice Ao140 y253.length co140 : Value).ownBlock ∧ some k_ ≠ (.slice Ao141 y256.length co141 : Value).ownBlock) ∧ some k_ ≠ (.slice Ao147 y264.length co147 : Value).ownBlock) ∧ some k_ ≠ (.slice Ao148 y267.length co148 : Value).ownBlock)) hy0 (fun k_ hk_ => Or.elim hk_ (fun hs_ => hs_) (fun hn_ => ⟨⟨⟨(Kd.fresh' (Kd.R_lt (PR HO255)) k_ hn_), (Kd.fresh' (Kd.R_lt (PR HO258)) k_ hn_)⟩, (Kd.fresh' (Kd.R_lt (PR HO266)) k_ hn_)⟩, (Kd.fresh' (Kd.R_lt (PR HO269)) k_ hn_)⟩))); have n1_ := AQ (Kd.R_skept (PR HO255) hkp (by decide)); have n2_ := AQ (Kd.R_skept (PR HO258) hkp (by decide)); have n3_ := AQ (Kd.R_skept (PR HO262) hkp (by decide)); have n4_ := AQ (Kd.R_skept (PR HO266) hkp (by decide)); have n5_ := AQ (Kd.R_skept (PR HO269) hkp (by decide)); have n6_ := AQ (Kd.R_lower ho0 (below_size (PB HB))); have n7_ := AQ (hb); clear HO_1; clear HO255; clear HO258; clear HO262; clear HO266; clear HO269; clear HB; have HO_1 := n0_; have HO255 := n1_; have HO258 := n2_; have HO262 := n3_; have HO266 := n4_; have HO269 := n5_; have HO273 := n6_; have HB := n7_; clear n0_ n1_ n2_ n3_ n4_ n5_ n6_ n7_; (try clear hb); (try clear hkp); (try clear hy0); (try clear ho0)) | ((with_reducible refine gate_callee (f := 13) rfl ?_); refine goesL_ (some 35) rfl rfl Tryd.func13 (by kernel_rfl) rfl #[ptrOf (.slice Ao139 t274.length co139), .int .i64 1] rfl (by (try simp only [List.map_toArray, List.map_cons, List.map_nil]); first | done | (rw [show t274.length = t247.length from (Kd.R_reads' HO_1.out).1.symm] <;> rfl) | rfl | (simp only [List.length_drop, List.length_take]; rfl)) ?_; (with_reducible refine (elim_System_Value.calls kj1 _ _ t274 1 t275 t276 _ ?side1 ?side2 ?side3 A11.out).mono ?_); (case side1 => first | exact HT.out | exact TabIn.below HT.out (PB HB) | (repeat (first | apply TabIn.drewN | apply TabIn.drew | exact HT.out))); (case side2 => exact QC HO_1); (case side3 => rw [show t274.length = t247.length from (Kd.R_reads' HO_1.out).1.symm]; exact (Kd.R_reads' HO_1.out).2.1); rintro e w150 ⟨v277, v279, rfl, ho0, ho1, hb⟩; refine ⟨_, rfl, ?_⟩; have n0_ := AQ (Kd.R_elder' (PR HO_1) (Kd.R_base ho0) hb); have n1_ := AQ (Kd.R_below (PR HO255) hb); have n2_ := AQ (Kd.R_elder' (PR HO258) (Kd.R_base ho0) hb); have n3_ := AQ (Kd.R_below (PR HO262) hb); have n4_ := AQ (Kd.R_below (PR HO266) hb); have n5_ := AQ (Kd.R_elder' (PR HO269) (Kd.R_base ho0) hb); have n6_ := AQ (Kd.R_below (PR HO273) hb); have n7_ := AQ (Kd.R_lower (Kd.R_new' (Kd.R_new' ho0 (Kd.R_lt (PR HO258))) (Kd.R_lt (PR HO269))) (below_size (PB HB))); have n8_ := AQ (Kd.R_lower ho1 (below_size (PB HB))); have n9_ := AQ (below_step (PB HB) hb); clear HO_1; clear HO255; clear HO258; clear HO262; clear HO266; clear HO269; clear HO273; clear HB; have HO_1 := n0_; have HO255 := n1_; have HO258 := n2_; have HO262 := n3_; have HO266 := n4_; have HO269 := n5_; have HO273 := n6_; have HO278 := n7_; have HO280 := n8_; have HB := n9_; clear n0_ n1_ n2_ n3_ n4_ n5_ n6_ n7_ n8_ n9_; (try clear hb); (try clear hb2); (try clear hk); (try clear hi); (try clear ho0); (try clear ho1); obtain ⟨Ao151, co151, eo151⟩ := Kd.R_slice HO262.out; subst eo151)); go_ret; exact ⟨by first | rfl | (simp [errW_none, errW_some] <;> rfl) | (simp [*, errW_none, errW_some] <;> rfl), PB HB⟩
end Go.Proofs.YtjmgkknbgffbjaaDoor.P
namespace Go.Proofs.YtjmgkknbgffbjaaDoor.Pure
open Go.RowKit Go.Proofs.YtjmgkknbgffbjaaDoor.P Go.Proofs.YtjmgkknbgffbjaaDoorW.PrintWords Go.Proofs.YtjmgkknbgffbjaaDoorW.PrintLast Go.Proofs.YtjmgkknbgffbjaaDoorW.PrintErr Go.Proofs.YtjmgkknbgffbjaaDoorW.PrintMore
set_option linter.unusedVariables false
set_option linter.unusedSimpArgs false
set_option maxRecDepth 100000 in
theorem awake05_ev : Ev (fun k => geyserlaw05_awake.f k) true := by
  refine Ev.of (fun k => geyserlaw05_awake.mono k) (k := 200) ?_
  kernel_rfl
end Go.Proofs.YtjmgkknbgffbjaaDoor.Pure
