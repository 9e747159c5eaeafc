/-
  The law PackedBack, on what the printed function says: what was packed is unpacked, rising, each once.
-/
import Derived.Test.YtnigpfaecibdfaaDoorPureP
import Derived.Test.YtnigpfaecibdfaaDoorPureAwake02
import Derived.Test.YtnigpfaecibdfaaDoorPxBack
namespace Go.Proofs.YtnigpfaecibdfaaDoor.Pure
open Go.RowKit Go.Proofs.YtnigpfaecibdfaaDoor.P Go.Proofs.YtnigpfaecibdfaaDoorW.PrintWords Go.Proofs.YtnigpfaecibdfaaDoorW.PrintLast Go.Proofs.YtnigpfaecibdfaaDoorW.PrintErr Go.Proofs.YtnigpfaecibdfaaDoorW.PrintMore
set_option linter.unusedVariables false
set_option linter.unusedSimpArgs false
theorem cols_sorted (l : List Int) : (cols l).Pairwise (· < ·) := by
  unfold cols colsFrom
  refine List.Pairwise.map _ (R := fun a b : Nat => a < b) (fun a b h => by omega) ?_
  exact List.Pairwise.filter _ (List.pairwise_lt_range' 1)
theorem cols_nodup (l : List Int) : (cols l).Nodup := (cols_sorted l).imp (fun h => by omega)
theorem mem_cols {l : List Int} {n : Nat} (h1 : n < 64 * l.length) (h2 : hasB l n = true) : (n : Int) ∈ cols l := by
  unfold cols colsFrom
  simp only [List.mem_map, List.mem_filter, List.mem_range'_1]
  exact ⟨n, ⟨⟨by omega, by omega⟩, h2⟩, rfl⟩
theorem back_l0 (l u : List Int) (hl : l.length < 9223372036854775807) (hu : u.length < 9223372036854775807) (hin : ∀ c ∈ u, c ∈ l) (hs : u.Pairwise (· < ·)) : ∀ d i : Nat, i + d = u.length →
    Ev (fun k => geyserlaw02_PackedBack.l0 k l u (i : Int)) true := by
  intro d
  induction d with
  | zero =>
    intro i hi
    refine Ev.step (f := fun k => (geyserlaw02_awake.f k).bind fun t => some t) (fun k => ?_) (Ev.bind (f := fun _ t => some t) awake02_ev (Ev.now _))
    rw [geyserlaw02_PackedBack.l0, if_neg (by omega)]
  | succ d ih =>
    intro i hi
    have h' := ih (i + 1) (by omega)
    have e2 : ((i + 1 : Nat) : Int) = wrap64 ((i : Int) + 1) := by rw [w64s (by omega) (by omega)]; simp
    rw [e2] at h'
    have er : ∀ j : Nat, (hj : j < u.length) → rd u (j : Int) = u[j] := by
      intro j hj
      unfold rd
      rw [Int.toNat_natCast, List.getD_eq_getElem?_getD, List.getElem?_eq_getElem hj]; rfl
    have hmem : rd u (i : Int) ∈ l := by rw [er i (by omega)]; exact hin _ (List.getElem_mem _)
    have hI := in_ev l (rd u (i : Int)) hl
    rw [decide_eq_true hmem] at hI
    refine Ev.step (f := fun k => (geyserref02_In.f k l (rd u (i : Int))).bind fun t => if t = true then (if (i : Int) > 0 then (if 0 ≤ (wrap64 ((i : Int) - 1)) then (if (wrap64 ((i : Int) - 1)) < (u.length : Int) then (if (rd u (i : Int)) ≤ (rd u (wrap64 ((i : Int) - 1))) then (some false) else (geyserlaw02_PackedBack.l0 k l u (wrap64 ((i : Int) + 1)))) else (none)) else (none)) else (geyserlaw02_PackedBack.l0 k l u (wrap64 ((i : Int) + 1)))) else (some false)) (fun k => ?_) ?_
    · rw [geyserlaw02_PackedBack.l0, if_pos (by omega), if_pos (by omega)]
    · refine Ev.bind hI ?_
      by_cases h0 : (i : Int) > 0
      · refine Ev.congr (fun k => ?_) h'
        have e3 : wrap64 ((i : Int) - 1) = ((i - 1 : Nat) : Int) := by rw [w64s (by omega) (by omega)]; omega
        rw [if_pos rfl, if_pos h0, e3, if_pos (by omega), if_pos (by omega), er i (by omega), er (i - 1) (by omega), if_neg]
        have := List.pairwise_iff_getElem.1 hs (i - 1) i (by omega) (by omega) (by omega)
        omega
      · refine Ev.congr (fun k => ?_) h'
        rw [if_pos rfl, if_neg h0]
/-- The law, for every list and every number. -/
theorem PackedBack (l : List Int) (n : Int) : ∃ k, geyserlaw02_PackedBack.f k l n = some true := by
  refine Ev.rounds ?_
  unfold geyserlaw02_PackedBack.f
  by_cases h : (l.length : Int) > 300
  · simp only [if_pos h]
    exact Ev.bind (f := fun _ t => some t) awake02_ev (Ev.now _)
  · simp only [if_neg h]
    obtain ⟨r, hr, ho⟩ := pack_ev l n (by omega)
    refine Ev.bind hr ?_
    rcases ho with ⟨e, he, rfl⟩ | ⟨y, rfl, hy, hn, hu, hnd, hb, hh⟩
    · simp only [List.length_cons, List.length_nil]
      refine Ev.congr (fun k => ?_) (Ev.bind (f := fun _ t => some t) awake02_ev (Ev.now _))
      rw [if_neg (by omega), if_pos (by omega)]
    · simp only [List.length_nil]
      have hcl : (cols y).length = l.length := by
        refine (List.Perm.length_eq ?_ : (cols y).length = l.length)
        refine (List.perm_ext_iff_of_nodup (cols_nodup y) hnd).2 fun c => ⟨fun hc => ?_, fun hc => ?_⟩
        · obtain ⟨m, rfl, _, hm⟩ := cols_mem hc
          rw [hh m] at hm
          exact of_decide_eq_true hm
        · have h1 := hb c hc
          obtain ⟨m, rfl⟩ := Int.eq_ofNat_of_zero_le h1.1
          exact mem_cols (by omega) (by rw [hh m]; exact decide_eq_true hc)
      have hb' := back_l0 l (cols y) (by omega) (by omega) (fun c hc => by
        obtain ⟨m, rfl, _, hm⟩ := cols_mem hc
        rw [hh m] at hm
        exact of_decide_eq_true hm) (cols_sorted y) (cols y).length 0 (by omega)
      refine Ev.congr (fun k => ?_) (Ev.bind (f := fun k t => if (t.length : Int) = (l.length : Int) then (geyserlaw02_PackedBack.l0 k l t 0) else (some false)) (unpack_ev y hu (by omega)) (Ev.congr (fun k => if_pos (by omega)) hb'))
      rw [if_pos (by omega)]
end Go.Proofs.YtnigpfaecibdfaaDoor.Pure
