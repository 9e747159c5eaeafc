/-
  No cell of these rows narrows 'for every input' (looked for: loops, veiled, ifaces, maps, wideKeys, modest, calm, conditions, laid).
  DERIVED. THE GIVEN ROWS OF THIS SEAT. 5 by the template 'for every input the law returns true; each argument reads behind the call as it read before'; 0 by the template 'total and deterministic' (their statements: YtbhnhmkbccjnpaaTotals.lean).
  GIVEN WITH THE SEED: the statements are not yours to turn. If you find one false, say at which input.
  Laid BY PROGRAM, IN A SANDBOX (cutbox-rows.mjs): the forced cells as the released guide's own fill.sh prints them over the translation dccc138a1654eafd… (all of the seat's roots in one cut). By AI agents, Wed Nov 11 2026. No macro, syntax, notation, axiom, sorry.
-/
import Derived.Test.YtbhnhmkbccjnpaaChecked
import GoSem.Claim
import GoSem.ClaimJoined
import GoSem.ClaimMapViews
import Derived.JoinedTies
import Derived.KernelRfl
namespace Go.Proofs.Ytbhnhmkbccjnpaa
/- THE CELL 'sum', in the pinned program and in every row, IS THE sha256 OF THE DUMP (.gsa) THAT YtbhnhmkbccjnpaaProg.lean LOADS. Nothing in Lean hashes anything: it is a label: what it is worth is what the hold of that sum in a sandbox is worth. -/
noncomputable def Try.pinned : Pinned := { name := "ytbhnhmkbccjnpaa", sum := "dccc138a1654eafdf69ddaf8134f6afdab9a3acd29e5748484acdae6255e062e", checked := Try.checked }
namespace Rows
def none {H : Type} : Left H := { results := [], args := [] }

/-- 'geyserlaw04.SymbolOrder': WHATEVER THE INPUT: true; the input reads as it did. -/
def symbolOrderSpec : ChangeSpec := { name := "symbolOrder", fn := fun _ => fun
  | [d1, d2, d3] => { results := [.lit (.bool true)], args := [d1, d2, d3] }
  | _ => none }
def symbolOrderRow : OpenClaim := { program := "ytbhnhmkbccjnpaa", sum := "dccc138a1654eafdf69ddaf8134f6afdab9a3acd29e5748484acdae6255e062e", func := "geyser/geyserlaw04.SymbolOrder", spec := "symbolOrder", apart := false }
def SymbolOrderSaid : Prop := symbolOrderRow.holds Try.pinned (OpenSpec.ofChange symbolOrderSpec)

/-- ITS FALSE NEIGHBOUR: 'it returns false'. Refute it at one input. -/
def symbolOrderWrong : ChangeSpec := { name := "symbolOrder", fn := fun _ => fun
  | [d1, d2, d3] => { results := [.lit (.bool false)], args := [d1, d2, d3] }
  | _ => none }
def SymbolOrderWrongFalsely : Prop := symbolOrderRow.holds Try.pinned (OpenSpec.ofChange symbolOrderWrong)

/-- 'geyserlaw04.SymbolWhole': WHATEVER THE INPUT: true; the input reads as it did. -/
def symbolWholeSpec : ChangeSpec := { name := "symbolWhole", fn := fun _ => fun
  | [d1, d2] => { results := [.lit (.bool true)], args := [d1, d2] }
  | _ => none }
def symbolWholeRow : OpenClaim := { program := "ytbhnhmkbccjnpaa", sum := "dccc138a1654eafdf69ddaf8134f6afdab9a3acd29e5748484acdae6255e062e", func := "geyser/geyserlaw04.SymbolWhole", spec := "symbolWhole", apart := false }
def SymbolWholeSaid : Prop := symbolWholeRow.holds Try.pinned (OpenSpec.ofChange symbolWholeSpec)

/-- ITS FALSE NEIGHBOUR: 'it returns false'. Refute it at one input. -/
def symbolWholeWrong : ChangeSpec := { name := "symbolWhole", fn := fun _ => fun
  | [d1, d2] => { results := [.lit (.bool false)], args := [d1, d2] }
  | _ => none }
def SymbolWholeWrongFalsely : Prop := symbolWholeRow.holds Try.pinned (OpenSpec.ofChange symbolWholeWrong)

/-- 'geyserlaw14.BlockingEven': WHATEVER THE INPUT: true; the input reads as it did. -/
def blockingEvenSpec : ChangeSpec := { name := "blockingEven", fn := fun _ => fun
  | [d1, d2, d3] => { results := [.lit (.bool true)], args := [d1, d2, d3] }
  | _ => none }
def blockingEvenRow : OpenClaim := { program := "ytbhnhmkbccjnpaa", sum := "dccc138a1654eafdf69ddaf8134f6afdab9a3acd29e5748484acdae6255e062e", func := "geyser/geyserlaw14.BlockingEven", spec := "blockingEven", unfollowed := true, recurses := true, apart := false }
def BlockingEvenSaid : Prop := blockingEvenRow.holds Try.pinned (OpenSpec.ofChange blockingEvenSpec)

/-- ITS FALSE NEIGHBOUR: 'it returns false'. Refute it at one input. -/
def blockingEvenWrong : ChangeSpec := { name := "blockingEven", fn := fun _ => fun
  | [d1, d2, d3] => { results := [.lit (.bool false)], args := [d1, d2, d3] }
  | _ => none }
def BlockingEvenWrongFalsely : Prop := blockingEvenRow.holds Try.pinned (OpenSpec.ofChange blockingEvenWrong)

/-- 'geyserlaw04.SymbolGoes': WHATEVER THE INPUT: true; the input reads as it did. -/
def symbolGoesSpec : ChangeSpec := { name := "symbolGoes", fn := fun _ => fun
  | [d1, d2, d3] => { results := [.lit (.bool true)], args := [d1, d2, d3] }
  | _ => none }
def symbolGoesRow : OpenClaim := { program := "ytbhnhmkbccjnpaa", sum := "dccc138a1654eafdf69ddaf8134f6afdab9a3acd29e5748484acdae6255e062e", func := "geyser/geyserlaw04.SymbolGoes", spec := "symbolGoes", apart := false }
def SymbolGoesSaid : Prop := symbolGoesRow.holds Try.pinned (OpenSpec.ofChange symbolGoesSpec)

/-- ITS FALSE NEIGHBOUR: 'it returns false'. Refute it at one input. -/
def symbolGoesWrong : ChangeSpec := { name := "symbolGoes", fn := fun _ => fun
  | [d1, d2, d3] => { results := [.lit (.bool false)], args := [d1, d2, d3] }
  | _ => none }
def SymbolGoesWrongFalsely : Prop := symbolGoesRow.holds Try.pinned (OpenSpec.ofChange symbolGoesWrong)

/-- 'geyserlaw14.BlockingBack': WHATEVER THE INPUT: true; the input reads as it did. -/
def blockingBackSpec : ChangeSpec := { name := "blockingBack", fn := fun _ => fun
  | [d1, d2, d3] => { results := [.lit (.bool true)], args := [d1, d2, d3] }
  | _ => none }
def blockingBackRow : OpenClaim := { program := "ytbhnhmkbccjnpaa", sum := "dccc138a1654eafdf69ddaf8134f6afdab9a3acd29e5748484acdae6255e062e", func := "geyser/geyserlaw14.BlockingBack", spec := "blockingBack", unfollowed := true, recurses := true, apart := false }
def BlockingBackSaid : Prop := blockingBackRow.holds Try.pinned (OpenSpec.ofChange blockingBackSpec)

/-- ITS FALSE NEIGHBOUR: 'it returns false'. Refute it at one input. -/
def blockingBackWrong : ChangeSpec := { name := "blockingBack", fn := fun _ => fun
  | [d1, d2, d3] => { results := [.lit (.bool false)], args := [d1, d2, d3] }
  | _ => none }
def BlockingBackWrongFalsely : Prop := blockingBackRow.holds Try.pinned (OpenSpec.ofChange blockingBackWrong)

/- THE SECOND FORM. 'bulk': how many values and letters a reading holds, each counted each time it is reached (what is shared counts as often as it is met; a slice's spare places count too). A statement '..UptoSaid' is the law's where the arguments, and the package variables that the reading takes, are together of bulk at most 1048576: NARROWER than '..Said'. Prove '..Said' where nothing that the law and all that it calls make is longer than what came in: it says more and counts as full. Else prove '..UptoSaid'. A law counts once. -/
mutual
def uptoBulk {H : Type} : DataW H → Nat
  | .lit (.string bytes) => bytes.length + 1
  | .lit _ => 1
  | .nil => 1
  | .ptr d => uptoBulk d + 1
  | .slice elems spare => uptoBulkAll elems + uptoBulkAll spare + 1
  | .agg parts => uptoBulkAll parts + 1
  | .iface _ d => uptoBulk d + 1
  | .map entries => uptoBulkEntries entries + 1
  | .held _ => 1
def uptoBulkAll {H : Type} : List (DataW H) → Nat
  | [] => 0
  | d :: r => uptoBulk d + uptoBulkAll r
def uptoBulkEntries {H : Type} : List (Lit × DataW H) → Nat
  | [] => 0
  | x :: r => uptoBulkEntry x + uptoBulkEntries r
def uptoBulkEntry {H : Type} : Lit × DataW H → Nat
  | (.string bytes, d) => bytes.length + uptoBulk d + 1
  | (_, d) => uptoBulk d + 1
 end
def uptoSmall : (H : Type) → List (DataW H) → Bool := fun _ ds => decide (uptoBulkAll ds ≤ 1048576)
def OpenSpec.upto (s : _root_.Go.ChangeSpec) : _root_.Go.OpenSpec := { _root_.Go.OpenSpec.ofChange s with cond := some uptoSmall }

/-- 'geyserlaw04.SymbolOrder', WHERE WHAT IT READS IS OF BULK AT MOST 1048576: true; the input reads as it did. -/
def symbolOrderUptoRow : OpenClaim := { program := "ytbhnhmkbccjnpaa", sum := "dccc138a1654eafdf69ddaf8134f6afdab9a3acd29e5748484acdae6255e062e", func := "geyser/geyserlaw04.SymbolOrder", spec := "symbolOrder", apart := false, narrowed := true }
def SymbolOrderUptoSaid : Prop := symbolOrderUptoRow.holds Try.pinned (OpenSpec.upto symbolOrderSpec)

/-- 'geyserlaw04.SymbolWhole', WHERE WHAT IT READS IS OF BULK AT MOST 1048576: true; the input reads as it did. -/
def symbolWholeUptoRow : OpenClaim := { program := "ytbhnhmkbccjnpaa", sum := "dccc138a1654eafdf69ddaf8134f6afdab9a3acd29e5748484acdae6255e062e", func := "geyser/geyserlaw04.SymbolWhole", spec := "symbolWhole", apart := false, narrowed := true }
def SymbolWholeUptoSaid : Prop := symbolWholeUptoRow.holds Try.pinned (OpenSpec.upto symbolWholeSpec)

/-- 'geyserlaw14.BlockingEven', WHERE WHAT IT READS IS OF BULK AT MOST 1048576: true; the input reads as it did. -/
def blockingEvenUptoRow : OpenClaim := { program := "ytbhnhmkbccjnpaa", sum := "dccc138a1654eafdf69ddaf8134f6afdab9a3acd29e5748484acdae6255e062e", func := "geyser/geyserlaw14.BlockingEven", spec := "blockingEven", unfollowed := true, recurses := true, apart := false, narrowed := true }
def BlockingEvenUptoSaid : Prop := blockingEvenUptoRow.holds Try.pinned (OpenSpec.upto blockingEvenSpec)

/-- 'geyserlaw04.SymbolGoes', WHERE WHAT IT READS IS OF BULK AT MOST 1048576: true; the input reads as it did. -/
def symbolGoesUptoRow : OpenClaim := { program := "ytbhnhmkbccjnpaa", sum := "dccc138a1654eafdf69ddaf8134f6afdab9a3acd29e5748484acdae6255e062e", func := "geyser/geyserlaw04.SymbolGoes", spec := "symbolGoes", apart := false, narrowed := true }
def SymbolGoesUptoSaid : Prop := symbolGoesUptoRow.holds Try.pinned (OpenSpec.upto symbolGoesSpec)

/-- 'geyserlaw14.BlockingBack', WHERE WHAT IT READS IS OF BULK AT MOST 1048576: true; the input reads as it did. -/
def blockingBackUptoRow : OpenClaim := { program := "ytbhnhmkbccjnpaa", sum := "dccc138a1654eafdf69ddaf8134f6afdab9a3acd29e5748484acdae6255e062e", func := "geyser/geyserlaw14.BlockingBack", spec := "blockingBack", unfollowed := true, recurses := true, apart := false, narrowed := true }
def BlockingBackUptoSaid : Prop := blockingBackUptoRow.holds Try.pinned (OpenSpec.upto blockingBackSpec)

end Rows
end Go.Proofs.Ytbhnhmkbccjnpaa
