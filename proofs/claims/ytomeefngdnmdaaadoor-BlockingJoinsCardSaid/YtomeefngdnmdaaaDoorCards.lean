/-
  DERIVED. GIVEN WITH THE SEED: THE CARDS: each row of YtomeefngdnmdaaaDoorRows.lean that lists a variable, with what it lists TIED to the program's text (the seventh form; the later family's looks); each row that meets fmt, with fmt's text TOLD by the authors' own Lean function (tested against real Go, not proved from fmt's source: count such statements apart). THE CARD IS WHAT COUNTS. Prove the row's statement (the work); the ties are given (YtomeefngdnmdaaaDoorTie.lean); close each card by the builder's one call (the guide's Derived/Test/ToyasCard.lean, 'card_holds'). Laid BY PROGRAM, IN A SANDBOX (cutbox-door.mjs). By AI agents, Wed Nov 11 2026. No macro, syntax, notation, axiom, sorry.
-/
import Derived.Test.YtomeefngdnmdaaaDoorRows
import GoSem.ClaimSeven
namespace Go.Proofs.YtomeefngdnmdaaaDoor
namespace Rows

/-- THE TIED CARD OF 'geyserlaw14.BlockingOfs'. -/
def blockingOfsCard : Claim7 := { stood := { row := blockingOfsRow, standIns := [], harness := (true, "83eb4179fae814d3e4e2c8909426cb436375fd177230a34ad59bd891140c3098"), looks := true }, kinds := [], alts := [], laidByText := true, laidKinds := [.handle], laidTests := true, laidLooks := .later }
def BlockingOfsCardSaid : Prop := Claim7.holds Tryd.pinned (.plain (OpenSpec.ofChange blockingOfsSpec)) blockingOfsCard

/-- THE TIED CARD OF 'geyserlaw14.BlockingChecks'. -/
def blockingChecksCard : Claim7 := { stood := { row := blockingChecksRow, standIns := [], harness := (true, "83eb4179fae814d3e4e2c8909426cb436375fd177230a34ad59bd891140c3098"), looks := true }, kinds := [], alts := [], laidByText := true, laidKinds := [.handle], laidTests := true, laidLooks := .later }
def BlockingChecksCardSaid : Prop := Claim7.holds Tryd.pinned (.plain (OpenSpec.ofChange blockingChecksSpec)) blockingChecksCard

/-- THE TIED CARD OF 'geyserlaw14.BlockingJoins'. -/
def blockingJoinsCard : Claim7 := { stood := { row := blockingJoinsRow, standIns := [], harness := (true, "83eb4179fae814d3e4e2c8909426cb436375fd177230a34ad59bd891140c3098"), looks := true }, kinds := [], alts := [], laidByText := true, laidKinds := [.handle], laidTests := true, laidLooks := .later }
def BlockingJoinsCardSaid : Prop := Claim7.holds Tryd.pinned (.plain (OpenSpec.ofChange blockingJoinsSpec)) blockingJoinsCard

/-- THE TIED CARD OF 'geyserlaw14.BlockingCuts'. -/
def blockingCutsCard : Claim7 := { stood := { row := blockingCutsRow, standIns := [], harness := (true, "83eb4179fae814d3e4e2c8909426cb436375fd177230a34ad59bd891140c3098"), looks := true }, kinds := [], alts := [], laidByText := true, laidKinds := [.handle], laidTests := true, laidLooks := .later }
def BlockingCutsCardSaid : Prop := Claim7.holds Tryd.pinned (.plain (OpenSpec.ofChange blockingCutsSpec)) blockingCutsCard

/-- THE SECOND FORM's CARD OF 'geyserlaw14.BlockingOfs'. -/
def blockingOfsUptoCard : Claim7 := { stood := { row := blockingOfsUptoRow, standIns := [], harness := (true, "83eb4179fae814d3e4e2c8909426cb436375fd177230a34ad59bd891140c3098"), looks := true }, kinds := [], alts := [], laidByText := true, laidKinds := [.handle], laidTests := true, laidLooks := .later }
def BlockingOfsUptoCardSaid : Prop := Claim7.holds Tryd.pinned (.plain (OpenSpec.upto blockingOfsSpec)) blockingOfsUptoCard

/-- THE SECOND FORM's CARD OF 'geyserlaw14.BlockingChecks'. -/
def blockingChecksUptoCard : Claim7 := { stood := { row := blockingChecksUptoRow, standIns := [], harness := (true, "83eb4179fae814d3e4e2c8909426cb436375fd177230a34ad59bd891140c3098"), looks := true }, kinds := [], alts := [], laidByText := true, laidKinds := [.handle], laidTests := true, laidLooks := .later }
def BlockingChecksUptoCardSaid : Prop := Claim7.holds Tryd.pinned (.plain (OpenSpec.upto blockingChecksSpec)) blockingChecksUptoCard

/-- THE SECOND FORM's CARD OF 'geyserlaw14.BlockingJoins'. -/
def blockingJoinsUptoCard : Claim7 := { stood := { row := blockingJoinsUptoRow, standIns := [], harness := (true, "83eb4179fae814d3e4e2c8909426cb436375fd177230a34ad59bd891140c3098"), looks := true }, kinds := [], alts := [], laidByText := true, laidKinds := [.handle], laidTests := true, laidLooks := .later }
def BlockingJoinsUptoCardSaid : Prop := Claim7.holds Tryd.pinned (.plain (OpenSpec.upto blockingJoinsSpec)) blockingJoinsUptoCard

/-- THE SECOND FORM's CARD OF 'geyserlaw14.BlockingCuts'. -/
def blockingCutsUptoCard : Claim7 := { stood := { row := blockingCutsUptoRow, standIns := [], harness := (true, "83eb4179fae814d3e4e2c8909426cb436375fd177230a34ad59bd891140c3098"), looks := true }, kinds := [], alts := [], laidByText := true, laidKinds := [.handle], laidTests := true, laidLooks := .later }
def BlockingCutsUptoCardSaid : Prop := Claim7.holds Tryd.pinned (.plain (OpenSpec.upto blockingCutsSpec)) blockingCutsUptoCard
end Rows
end Go.Proofs.YtomeefngdnmdaaaDoor
