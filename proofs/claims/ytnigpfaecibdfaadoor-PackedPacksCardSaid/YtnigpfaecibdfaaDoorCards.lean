/-
  DERIVED. GIVEN WITH THE SEED: THE CARDS: each row of YtnigpfaecibdfaaDoorRows.lean that lists a variable, with what it lists TIED to the program's text (the seventh form; the later family's looks); each row that meets fmt, with fmt's text TOLD by the authors' own Lean function (tested against real Go, not proved from fmt's source: count such statements apart). THE CARD IS WHAT COUNTS. Prove the row's statement (the work); the ties are given (YtnigpfaecibdfaaDoorTie.lean); close each card by the builder's one call (the guide's Derived/Test/ToyasCard.lean, 'card_holds'). Laid BY PROGRAM, IN A SANDBOX (cutbox-door.mjs). By AI agents, Wed Nov 11 2026. No macro, syntax, notation, axiom, sorry.
-/
import Derived.Test.YtnigpfaecibdfaaDoorRows
import GoSem.ClaimSeven
namespace Go.Proofs.YtnigpfaecibdfaaDoor
namespace Rows

/-- THE TIED CARD OF 'geyserlaw02.PackedUnpacks'. -/
def packedUnpacksCard : Claim7 := { stood := { row := packedUnpacksRow, standIns := [], harness := (true, "79cb281be4d0a776cafcac0d2f986a59357c9331f803389fff9e3aacb5809a60"), looks := true }, kinds := [], alts := [], laidByText := true, laidKinds := [.data], laidTests := true, laidLooks := .later }
def PackedUnpacksCardSaid : Prop := Claim7.holds Tryd.pinned (.plain (OpenSpec.ofChange packedUnpacksSpec)) packedUnpacksCard

/-- THE TIED CARD OF 'geyserlaw02.PackedBack'. -/
def packedBackCard : Claim7 := { stood := { row := packedBackRow, standIns := [], harness := (true, "79cb281be4d0a776cafcac0d2f986a59357c9331f803389fff9e3aacb5809a60"), looks := true }, kinds := [], alts := [], laidByText := true, laidKinds := [.data], laidTests := true, laidLooks := .later }
def PackedBackCardSaid : Prop := Claim7.holds Tryd.pinned (.plain (OpenSpec.ofChange packedBackSpec)) packedBackCard

/-- THE TIED CARD OF 'geyserlaw02.PackedTwice'. -/
def packedTwiceCard : Claim7 := { stood := { row := packedTwiceRow, standIns := [], harness := (true, "79cb281be4d0a776cafcac0d2f986a59357c9331f803389fff9e3aacb5809a60"), looks := true }, kinds := [], alts := [], laidByText := true, laidKinds := [.data], laidTests := true, laidLooks := .later }
def PackedTwiceCardSaid : Prop := Claim7.holds Tryd.pinned (.plain (OpenSpec.ofChange packedTwiceSpec)) packedTwiceCard

/-- THE TIED CARD OF 'geyserlaw02.PackedOdd'. -/
def packedOddCard : Claim7 := { stood := { row := packedOddRow, standIns := [], harness := (true, "79cb281be4d0a776cafcac0d2f986a59357c9331f803389fff9e3aacb5809a60"), looks := true }, kinds := [], alts := [], laidByText := true, laidKinds := [.data], laidTests := true, laidLooks := .later }
def PackedOddCardSaid : Prop := Claim7.holds Tryd.pinned (.plain (OpenSpec.ofChange packedOddSpec)) packedOddCard

/-- THE TIED CARD OF 'geyserlaw04.SymbolSums'. -/
def symbolSumsCard : Claim7 := { stood := { row := symbolSumsRow, standIns := [], harness := (true, "79cb281be4d0a776cafcac0d2f986a59357c9331f803389fff9e3aacb5809a60"), looks := true }, kinds := [], alts := [], laidByText := true, laidKinds := [.handle], laidTests := true, laidLooks := .later }
def SymbolSumsCardSaid : Prop := Claim7.holds Tryd.pinned (.plain (OpenSpec.ofChange symbolSumsSpec)) symbolSumsCard

/-- THE TIED CARD OF 'geyserlaw04.SymbolXors'. -/
def symbolXorsCard : Claim7 := { stood := { row := symbolXorsRow, standIns := [], harness := (true, "79cb281be4d0a776cafcac0d2f986a59357c9331f803389fff9e3aacb5809a60"), looks := true }, kinds := [], alts := [], laidByText := true, laidKinds := [.handle], laidTests := true, laidLooks := .later }
def SymbolXorsCardSaid : Prop := Claim7.holds Tryd.pinned (.plain (OpenSpec.ofChange symbolXorsSpec)) symbolXorsCard

/-- THE TIED CARD OF 'geyserlaw04.SymbolSplits'. -/
def symbolSplitsCard : Claim7 := { stood := { row := symbolSplitsRow, standIns := [], harness := (true, "79cb281be4d0a776cafcac0d2f986a59357c9331f803389fff9e3aacb5809a60"), looks := true }, kinds := [], alts := [], laidByText := true, laidKinds := [.handle], laidTests := true, laidLooks := .later }
def SymbolSplitsCardSaid : Prop := Claim7.holds Tryd.pinned (.plain (OpenSpec.ofChange symbolSplitsSpec)) symbolSplitsCard

/-- THE TIED CARD OF 'geyserlaw04.SymbolPicks'. -/
def symbolPicksCard : Claim7 := { stood := { row := symbolPicksRow, standIns := [], harness := (true, "79cb281be4d0a776cafcac0d2f986a59357c9331f803389fff9e3aacb5809a60"), looks := true }, kinds := [], alts := [], laidByText := true, laidKinds := [.handle], laidTests := true, laidLooks := .later }
def SymbolPicksCardSaid : Prop := Claim7.holds Tryd.pinned (.plain (OpenSpec.ofChange symbolPicksSpec)) symbolPicksCard

/-- THE TIED CARD OF 'geyserlaw02.PackedPacks'. -/
def packedPacksCard : Claim7 := { stood := { row := packedPacksRow, standIns := [], harness := (true, "79cb281be4d0a776cafcac0d2f986a59357c9331f803389fff9e3aacb5809a60"), looks := true }, kinds := [], alts := [], laidByText := true, laidKinds := [.data, .handle], laidTests := true, laidLooks := .later }
def PackedPacksCardSaid : Prop := Claim7.holds Tryd.pinned (.plain (OpenSpec.ofChange packedPacksSpec)) packedPacksCard

/-- THE TIED CARD OF 'geyserlaw02.PackedXors'. -/
def packedXorsCard : Claim7 := { stood := { row := packedXorsRow, standIns := [], harness := (true, "79cb281be4d0a776cafcac0d2f986a59357c9331f803389fff9e3aacb5809a60"), looks := true }, kinds := [], alts := [], laidByText := true, laidKinds := [.data, .handle], laidTests := true, laidLooks := .later }
def PackedXorsCardSaid : Prop := Claim7.holds Tryd.pinned (.plain (OpenSpec.ofChange packedXorsSpec)) packedXorsCard

/-- THE SECOND FORM's CARD OF 'geyserlaw02.PackedUnpacks'. -/
def packedUnpacksUptoCard : Claim7 := { stood := { row := packedUnpacksUptoRow, standIns := [], harness := (true, "79cb281be4d0a776cafcac0d2f986a59357c9331f803389fff9e3aacb5809a60"), looks := true }, kinds := [], alts := [], laidByText := true, laidKinds := [.data], laidTests := true, laidLooks := .later }
def PackedUnpacksUptoCardSaid : Prop := Claim7.holds Tryd.pinned (.plain (OpenSpec.upto packedUnpacksSpec)) packedUnpacksUptoCard

/-- THE SECOND FORM's CARD OF 'geyserlaw02.PackedBack'. -/
def packedBackUptoCard : Claim7 := { stood := { row := packedBackUptoRow, standIns := [], harness := (true, "79cb281be4d0a776cafcac0d2f986a59357c9331f803389fff9e3aacb5809a60"), looks := true }, kinds := [], alts := [], laidByText := true, laidKinds := [.data], laidTests := true, laidLooks := .later }
def PackedBackUptoCardSaid : Prop := Claim7.holds Tryd.pinned (.plain (OpenSpec.upto packedBackSpec)) packedBackUptoCard

/-- THE SECOND FORM's CARD OF 'geyserlaw02.PackedTwice'. -/
def packedTwiceUptoCard : Claim7 := { stood := { row := packedTwiceUptoRow, standIns := [], harness := (true, "79cb281be4d0a776cafcac0d2f986a59357c9331f803389fff9e3aacb5809a60"), looks := true }, kinds := [], alts := [], laidByText := true, laidKinds := [.data], laidTests := true, laidLooks := .later }
def PackedTwiceUptoCardSaid : Prop := Claim7.holds Tryd.pinned (.plain (OpenSpec.upto packedTwiceSpec)) packedTwiceUptoCard

/-- THE SECOND FORM's CARD OF 'geyserlaw02.PackedOdd'. -/
def packedOddUptoCard : Claim7 := { stood := { row := packedOddUptoRow, standIns := [], harness := (true, "79cb281be4d0a776cafcac0d2f986a59357c9331f803389fff9e3aacb5809a60"), looks := true }, kinds := [], alts := [], laidByText := true, laidKinds := [.data], laidTests := true, laidLooks := .later }
def PackedOddUptoCardSaid : Prop := Claim7.holds Tryd.pinned (.plain (OpenSpec.upto packedOddSpec)) packedOddUptoCard

/-- THE SECOND FORM's CARD OF 'geyserlaw04.SymbolSums'. -/
def symbolSumsUptoCard : Claim7 := { stood := { row := symbolSumsUptoRow, standIns := [], harness := (true, "79cb281be4d0a776cafcac0d2f986a59357c9331f803389fff9e3aacb5809a60"), looks := true }, kinds := [], alts := [], laidByText := true, laidKinds := [.handle], laidTests := true, laidLooks := .later }
def SymbolSumsUptoCardSaid : Prop := Claim7.holds Tryd.pinned (.plain (OpenSpec.upto symbolSumsSpec)) symbolSumsUptoCard

/-- THE SECOND FORM's CARD OF 'geyserlaw04.SymbolXors'. -/
def symbolXorsUptoCard : Claim7 := { stood := { row := symbolXorsUptoRow, standIns := [], harness := (true, "79cb281be4d0a776cafcac0d2f986a59357c9331f803389fff9e3aacb5809a60"), looks := true }, kinds := [], alts := [], laidByText := true, laidKinds := [.handle], laidTests := true, laidLooks := .later }
def SymbolXorsUptoCardSaid : Prop := Claim7.holds Tryd.pinned (.plain (OpenSpec.upto symbolXorsSpec)) symbolXorsUptoCard

/-- THE SECOND FORM's CARD OF 'geyserlaw04.SymbolSplits'. -/
def symbolSplitsUptoCard : Claim7 := { stood := { row := symbolSplitsUptoRow, standIns := [], harness := (true, "79cb281be4d0a776cafcac0d2f986a59357c9331f803389fff9e3aacb5809a60"), looks := true }, kinds := [], alts := [], laidByText := true, laidKinds := [.handle], laidTests := true, laidLooks := .later }
def SymbolSplitsUptoCardSaid : Prop := Claim7.holds Tryd.pinned (.plain (OpenSpec.upto symbolSplitsSpec)) symbolSplitsUptoCard

/-- THE SECOND FORM's CARD OF 'geyserlaw04.SymbolPicks'. -/
def symbolPicksUptoCard : Claim7 := { stood := { row := symbolPicksUptoRow, standIns := [], harness := (true, "79cb281be4d0a776cafcac0d2f986a59357c9331f803389fff9e3aacb5809a60"), looks := true }, kinds := [], alts := [], laidByText := true, laidKinds := [.handle], laidTests := true, laidLooks := .later }
def SymbolPicksUptoCardSaid : Prop := Claim7.holds Tryd.pinned (.plain (OpenSpec.upto symbolPicksSpec)) symbolPicksUptoCard

/-- THE SECOND FORM's CARD OF 'geyserlaw02.PackedPacks'. -/
def packedPacksUptoCard : Claim7 := { stood := { row := packedPacksUptoRow, standIns := [], harness := (true, "79cb281be4d0a776cafcac0d2f986a59357c9331f803389fff9e3aacb5809a60"), looks := true }, kinds := [], alts := [], laidByText := true, laidKinds := [.data, .handle], laidTests := true, laidLooks := .later }
def PackedPacksUptoCardSaid : Prop := Claim7.holds Tryd.pinned (.plain (OpenSpec.upto packedPacksSpec)) packedPacksUptoCard

/-- THE SECOND FORM's CARD OF 'geyserlaw02.PackedXors'. -/
def packedXorsUptoCard : Claim7 := { stood := { row := packedXorsUptoRow, standIns := [], harness := (true, "79cb281be4d0a776cafcac0d2f986a59357c9331f803389fff9e3aacb5809a60"), looks := true }, kinds := [], alts := [], laidByText := true, laidKinds := [.data, .handle], laidTests := true, laidLooks := .later }
def PackedXorsUptoCardSaid : Prop := Claim7.holds Tryd.pinned (.plain (OpenSpec.upto packedXorsSpec)) packedXorsUptoCard
end Rows
end Go.Proofs.YtnigpfaecibdfaaDoor
