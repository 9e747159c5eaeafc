/-
  DERIVED. GIVEN WITH THE SEED: THE CARDS: each row of YtgocibnmgfmceaaDoorRows.lean that lists a variable, with what it lists TIED to the program's text (the seventh form; the later family's looks); each row that meets fmt, with fmt's text TOLD by the authors' own Lean function (tested against real Go, not proved from fmt's source: count such statements apart). THE CARD IS WHAT COUNTS. Prove the row's statement (the work); the ties are given (YtgocibnmgfmceaaDoorTie.lean); close each card by the builder's one call (the guide's Derived/Test/ToyasCard.lean, 'card_holds'). Laid BY PROGRAM, IN A SANDBOX (cutbox-door.mjs). By AI agents, Wed Nov 11 2026. No macro, syntax, notation, axiom, sorry.
-/
import Derived.Test.YtgocibnmgfmceaaDoorRows
import GoSem.ClaimSeven
namespace Go.Proofs.YtgocibnmgfmceaaDoor
namespace Rows

/-- THE TIED CARD OF 'geyserlaw03.MatrixSums'. -/
def matrixSumsCard : Claim7 := { stood := { row := matrixSumsRow, standIns := [], harness := (true, "16ddea77cffc89d48c07569874344bd42dd7fb12f7df2a858a386f3bf6802845"), looks := true }, kinds := [], alts := [], laidByText := true, laidKinds := [.data], laidTests := true, laidLooks := .later }
def MatrixSumsCardSaid : Prop := Claim7.holds Tryd.pinned (.plain (OpenSpec.ofChange matrixSumsSpec)) matrixSumsCard

/-- THE TIED CARD OF 'geyserlaw03.MatrixChecks'. -/
def matrixChecksCard : Claim7 := { stood := { row := matrixChecksRow, standIns := [], harness := (true, "16ddea77cffc89d48c07569874344bd42dd7fb12f7df2a858a386f3bf6802845"), looks := true }, kinds := [], alts := [], laidByText := true, laidKinds := [.data, .handle], laidTests := true, laidLooks := .later }
def MatrixChecksCardSaid : Prop := Claim7.holds Tryd.pinned (.plain (OpenSpec.ofChange matrixChecksSpec)) matrixChecksCard

/-- THE TIED CARD OF 'geyserlaw03.MatrixRanks'. -/
def matrixRanksCard : Claim7 := { stood := { row := matrixRanksRow, standIns := [], harness := (true, "16ddea77cffc89d48c07569874344bd42dd7fb12f7df2a858a386f3bf6802845"), looks := true }, kinds := [], alts := [], laidByText := true, laidKinds := [.data, .handle], laidTests := true, laidLooks := .later }
def MatrixRanksCardSaid : Prop := Claim7.holds Tryd.pinned (.plain (OpenSpec.ofChange matrixRanksSpec)) matrixRanksCard

/-- THE TIED CARD OF 'geyserlaw03.MatrixSpans'. -/
def matrixSpansCard : Claim7 := { stood := { row := matrixSpansRow, standIns := [], harness := (true, "16ddea77cffc89d48c07569874344bd42dd7fb12f7df2a858a386f3bf6802845"), looks := true }, kinds := [], alts := [], laidByText := true, laidKinds := [.data, .handle], laidTests := true, laidLooks := .later }
def MatrixSpansCardSaid : Prop := Claim7.holds Tryd.pinned (.plain (OpenSpec.ofChange matrixSpansSpec)) matrixSpansCard

/-- THE TIED CARD OF 'geyserlaw03.MatrixOrder'. -/
def matrixOrderCard : Claim7 := { stood := { row := matrixOrderRow, standIns := [], harness := (true, "16ddea77cffc89d48c07569874344bd42dd7fb12f7df2a858a386f3bf6802845"), looks := true }, kinds := [], alts := [], laidByText := true, laidKinds := [.data], laidTests := true, laidLooks := .later }
def MatrixOrderCardSaid : Prop := Claim7.holds Tryd.pinned (.plain (OpenSpec.ofChange matrixOrderSpec)) matrixOrderCard

/-- THE TIED CARD OF 'geyserlaw03.MatrixFixed'. -/
def matrixFixedCard : Claim7 := { stood := { row := matrixFixedRow, standIns := [], harness := (true, "16ddea77cffc89d48c07569874344bd42dd7fb12f7df2a858a386f3bf6802845"), looks := true }, kinds := [], alts := [], laidByText := true, laidKinds := [.data], laidTests := true, laidLooks := .later }
def MatrixFixedCardSaid : Prop := Claim7.holds Tryd.pinned (.plain (OpenSpec.ofChange matrixFixedSpec)) matrixFixedCard

/-- THE TIED CARD OF 'geyserlaw03.MatrixPlains'. -/
def matrixPlainsCard : Claim7 := { stood := { row := matrixPlainsRow, standIns := [], harness := (true, "16ddea77cffc89d48c07569874344bd42dd7fb12f7df2a858a386f3bf6802845"), looks := true }, kinds := [], alts := [], laidByText := true, laidKinds := [.data, .handle], laidTests := true, laidLooks := .later }
def MatrixPlainsCardSaid : Prop := Claim7.holds Tryd.pinned (.plain (OpenSpec.ofChange matrixPlainsSpec)) matrixPlainsCard

/-- THE SECOND FORM's CARD OF 'geyserlaw03.MatrixSums'. -/
def matrixSumsUptoCard : Claim7 := { stood := { row := matrixSumsUptoRow, standIns := [], harness := (true, "16ddea77cffc89d48c07569874344bd42dd7fb12f7df2a858a386f3bf6802845"), looks := true }, kinds := [], alts := [], laidByText := true, laidKinds := [.data], laidTests := true, laidLooks := .later }
def MatrixSumsUptoCardSaid : Prop := Claim7.holds Tryd.pinned (.plain (OpenSpec.upto matrixSumsSpec)) matrixSumsUptoCard

/-- THE SECOND FORM's CARD OF 'geyserlaw03.MatrixChecks'. -/
def matrixChecksUptoCard : Claim7 := { stood := { row := matrixChecksUptoRow, standIns := [], harness := (true, "16ddea77cffc89d48c07569874344bd42dd7fb12f7df2a858a386f3bf6802845"), looks := true }, kinds := [], alts := [], laidByText := true, laidKinds := [.data, .handle], laidTests := true, laidLooks := .later }
def MatrixChecksUptoCardSaid : Prop := Claim7.holds Tryd.pinned (.plain (OpenSpec.upto matrixChecksSpec)) matrixChecksUptoCard

/-- THE SECOND FORM's CARD OF 'geyserlaw03.MatrixRanks'. -/
def matrixRanksUptoCard : Claim7 := { stood := { row := matrixRanksUptoRow, standIns := [], harness := (true, "16ddea77cffc89d48c07569874344bd42dd7fb12f7df2a858a386f3bf6802845"), looks := true }, kinds := [], alts := [], laidByText := true, laidKinds := [.data, .handle], laidTests := true, laidLooks := .later }
def MatrixRanksUptoCardSaid : Prop := Claim7.holds Tryd.pinned (.plain (OpenSpec.upto matrixRanksSpec)) matrixRanksUptoCard

/-- THE SECOND FORM's CARD OF 'geyserlaw03.MatrixSpans'. -/
def matrixSpansUptoCard : Claim7 := { stood := { row := matrixSpansUptoRow, standIns := [], harness := (true, "16ddea77cffc89d48c07569874344bd42dd7fb12f7df2a858a386f3bf6802845"), looks := true }, kinds := [], alts := [], laidByText := true, laidKinds := [.data, .handle], laidTests := true, laidLooks := .later }
def MatrixSpansUptoCardSaid : Prop := Claim7.holds Tryd.pinned (.plain (OpenSpec.upto matrixSpansSpec)) matrixSpansUptoCard

/-- THE SECOND FORM's CARD OF 'geyserlaw03.MatrixOrder'. -/
def matrixOrderUptoCard : Claim7 := { stood := { row := matrixOrderUptoRow, standIns := [], harness := (true, "16ddea77cffc89d48c07569874344bd42dd7fb12f7df2a858a386f3bf6802845"), looks := true }, kinds := [], alts := [], laidByText := true, laidKinds := [.data], laidTests := true, laidLooks := .later }
def MatrixOrderUptoCardSaid : Prop := Claim7.holds Tryd.pinned (.plain (OpenSpec.upto matrixOrderSpec)) matrixOrderUptoCard

/-- THE SECOND FORM's CARD OF 'geyserlaw03.MatrixFixed'. -/
def matrixFixedUptoCard : Claim7 := { stood := { row := matrixFixedUptoRow, standIns := [], harness := (true, "16ddea77cffc89d48c07569874344bd42dd7fb12f7df2a858a386f3bf6802845"), looks := true }, kinds := [], alts := [], laidByText := true, laidKinds := [.data], laidTests := true, laidLooks := .later }
def MatrixFixedUptoCardSaid : Prop := Claim7.holds Tryd.pinned (.plain (OpenSpec.upto matrixFixedSpec)) matrixFixedUptoCard

/-- THE SECOND FORM's CARD OF 'geyserlaw03.MatrixPlains'. -/
def matrixPlainsUptoCard : Claim7 := { stood := { row := matrixPlainsUptoRow, standIns := [], harness := (true, "16ddea77cffc89d48c07569874344bd42dd7fb12f7df2a858a386f3bf6802845"), looks := true }, kinds := [], alts := [], laidByText := true, laidKinds := [.data, .handle], laidTests := true, laidLooks := .later }
def MatrixPlainsUptoCardSaid : Prop := Claim7.holds Tryd.pinned (.plain (OpenSpec.upto matrixPlainsSpec)) matrixPlainsUptoCard
end Rows
end Go.Proofs.YtgocibnmgfmceaaDoor
