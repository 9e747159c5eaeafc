/-
  The law PackedTwice, on what the printed function says.
-/
import Derived.Test.YtnigpfaecibdfaaDoorPureX
import Derived.Test.YtnigpfaecibdfaaDoorPureAwake02
import Derived.Test.YtnigpfaecibdfaaDoorPxTwice
namespace Go.Proofs.YtnigpfaecibdfaaDoor.Pure
open Go.RowKit Go.Proofs.YtnigpfaecibdfaaDoor.P Go.Proofs.YtnigpfaecibdfaaDoorW.PrintWords Go.Proofs.YtnigpfaecibdfaaDoorW.PrintLast Go.Proofs.YtnigpfaecibdfaaDoorW.PrintErr Go.Proofs.YtnigpfaecibdfaaDoorW.PrintMore
set_option linter.unusedVariables false
set_option linter.unusedSimpArgs false

theorem twice_j1 (a b c n : List Int) (h1 : a.length < 9223372036854775807) (h2 : c.length < 9223372036854775807) (d : Nat) (hd : d < 9223372036854775807) (e1 : a = b) (e2 : c = n) :
    Ev (fun k => geyserlaw02_PackedTwice.j1 k a b c n (List.replicate d 0) false) true := by
  subst e1
  subst e2
  refine Ev.step (f := fun k => (geyserref02_SameWords.f k a a).bind fun t245 => (if t245 = true then ((geyserref02_SameWords.f k c c).bind fun t246 => (if t246 = true then ((packed_Count.f k (List.replicate d 0)).bind fun t247 => (if t247 = 0 then ((geyserlaw02_awake.f k).bind fun t248 => (some t248)) else (some false))) else (some false))) else (some false))) (fun k => ?_) ?_
  · rw [geyserlaw02_PackedTwice.j1, if_neg (by decide)]
  · refine Ev.bind (same_ev a h1) ?_
    refine Ev.bind (same_ev c h2) ?_
    refine Ev.bind (count0_ev d hd) ?_
    exact Ev.bind (f := fun _ t => some t) awake02_ev (Ev.now _)
theorem twice_j0 (a b c : List Int) (h1 : a.length = b.length) (h2 : b.length = c.length) (h : a.length ≤ 20) : Ev (fun k => geyserlaw02_PackedTwice.j0 k a b c false) true := by
  have l1 := xorW_len a b h1
  have l2 := xorW_len b c h2
  have hz := xorW_self a
  refine Ev.step (f := fun k => (packed_Xor.f k a b).bind fun bt209 => ((packed_Xor.f k b a).bind fun bt215 => ((packed_Xor.f k bt209.1 c).bind fun bt221 => ((packed_Xor.f k b c).bind fun bt227 => ((packed_Xor.f k a bt227.1).bind fun bt233 => ((packed_Xor.f k a a).bind fun bt239 => (if (bt209.2.length : Int) = 0 then (if (bt215.2.length : Int) = 0 then (if (bt221.2.length : Int) = 0 then (if (bt227.2.length : Int) = 0 then (if (bt233.2.length : Int) = 0 then (geyserlaw02_PackedTwice.j1 k bt209.1 bt215.1 bt221.1 bt233.1 bt239.1 ((bt239.2.length : Int) != 0)) else (geyserlaw02_PackedTwice.j1 k bt209.1 bt215.1 bt221.1 bt233.1 bt239.1 true)) else (geyserlaw02_PackedTwice.j1 k bt209.1 bt215.1 bt221.1 bt233.1 bt239.1 true)) else (geyserlaw02_PackedTwice.j1 k bt209.1 bt215.1 bt221.1 bt233.1 bt239.1 true)) else (geyserlaw02_PackedTwice.j1 k bt209.1 bt215.1 bt221.1 bt233.1 bt239.1 true)) else (geyserlaw02_PackedTwice.j1 k bt209.1 bt215.1 bt221.1 bt233.1 bt239.1 true)))))))) (fun k => ?_) ?_
  · rw [geyserlaw02_PackedTwice.j0, if_neg (by decide)]
  · refine Ev.bind (wxor_ev a b h1 (by omega)) ?_
    refine Ev.bind (wxor_ev b a h1.symm (by omega)) ?_
    refine Ev.bind (wxor_ev (xorW a b) c (by omega) (by omega)) ?_
    refine Ev.bind (wxor_ev b c h2 (by omega)) ?_
    refine Ev.bind (wxor_ev a (xorW b c) (by omega) (by omega)) ?_
    refine Ev.bind (wxor_ev a a rfl (by omega)) ?_
    have l3 := xorW_len (xorW a b) c (by omega)
    have hj := twice_j1 (xorW a b) (xorW b a) (xorW (xorW a b) c) (xorW a (xorW b c)) (by omega) (by omega) a.length (by omega) (xorW_comm a b) (xorW_assoc a b c)
    refine Ev.congr (fun k => ?_) hj
    rw [hz]
    rfl
theorem twice_j0_not (a b c : List Int) : Ev (fun k => geyserlaw02_PackedTwice.j0 k a b c true) true := by
  refine Ev.step (f := fun k => (geyserlaw02_awake.f k).bind fun t => some t) (fun k => ?_) (Ev.bind (f := fun _ t => some t) awake02_ev (Ev.now _))
  rw [geyserlaw02_PackedTwice.j0, if_pos rfl]
/-- The law, for all words. -/
theorem PackedTwice (a b c : List Int) : ∃ k, geyserlaw02_PackedTwice.f k a b c = some true := by
  refine Ev.rounds ?_
  obtain ⟨x, hx, lx, _⟩ := cut_eq a
  obtain ⟨y, hy, ly, _⟩ := cut_eq b
  obtain ⟨z, hz, lz, _⟩ := cut_eq c
  unfold geyserlaw02_PackedTwice.f
  rw [hx, hy, hz]
  simp only [Option.bind_some]
  by_cases h1 : (x.length : Int) = (y.length : Int)
  · simp only [if_pos h1]
    by_cases h2 : (y.length : Int) = (z.length : Int)
    · have e : ((y.length : Int) != (z.length : Int)) = false := by simpa using h2
      rw [e]
      exact twice_j0 x y z (by omega) (by omega) lx
    · have e : ((y.length : Int) != (z.length : Int)) = true := by simpa using h2
      rw [e]
      exact twice_j0_not x y z
  · simp only [if_neg h1]
    exact twice_j0_not x y z
end Go.Proofs.YtnigpfaecibdfaaDoor.Pure
