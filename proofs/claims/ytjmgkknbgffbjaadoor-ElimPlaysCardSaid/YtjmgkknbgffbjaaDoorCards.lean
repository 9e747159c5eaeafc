/-
  DERIVED. GIVEN WITH THE SEED: THE CARDS: each row of YtjmgkknbgffbjaaDoorRows.lean that lists a variable, with what it lists TIED to the program's text (the seventh form; the later family's looks); each row that meets fmt, with fmt's text TOLD by the authors' own Lean function (tested against real Go, not proved from fmt's source: count such statements apart). THE CARD IS WHAT COUNTS. Prove the row's statement (the work); the ties are given (YtjmgkknbgffbjaaDoorTie.lean); close each card by the builder's one call (the guide's Derived/Test/ToyasCard.lean, 'card_holds'). Laid BY PROGRAM, IN A SANDBOX (cutbox-door.mjs). By AI agents, Wed Nov 11 2026. No macro, syntax, notation, axiom, sorry.
-/
import Derived.Test.YtjmgkknbgffbjaaDoorRows
import GoSem.ClaimSeven
namespace Go.Proofs.YtjmgkknbgffbjaaDoor
namespace Rows

/-- THE TIED CARD OF 'geyserlaw05.ElimOrder'. -/
def elimOrderCard : Claim7 := { stood := { row := elimOrderRow, standIns := [], harness := (true, "5c0bc9e33e8480db6237c1103ade776bb95e59454fafdb15a0679724af8c7ca0"), looks := true }, kinds := [], alts := [], laidByText := true, laidKinds := [.data], laidTests := true, laidLooks := .later }
def ElimOrderCardSaid : Prop := Claim7.holds Tryd.pinned (.plain (OpenSpec.ofChange elimOrderSpec)) elimOrderCard

/-- THE TIED CARD OF 'geyserlaw05.ElimRanks'. -/
def elimRanksCard : Claim7 := { stood := { row := elimRanksRow, standIns := [], harness := (true, "5c0bc9e33e8480db6237c1103ade776bb95e59454fafdb15a0679724af8c7ca0"), looks := true }, kinds := [], alts := [], laidByText := true, laidKinds := [.data], laidTests := true, laidLooks := .later }
def ElimRanksCardSaid : Prop := Claim7.holds Tryd.pinned (.plain (OpenSpec.ofChange elimRanksSpec)) elimRanksCard

/-- THE TIED CARD OF 'geyserlaw05.ElimTrue'. -/
def elimTrueCard : Claim7 := { stood := { row := elimTrueRow, standIns := [], harness := (true, "5c0bc9e33e8480db6237c1103ade776bb95e59454fafdb15a0679724af8c7ca0"), looks := true }, kinds := [], alts := [], laidByText := true, laidKinds := [.data], laidTests := true, laidLooks := .later }
def ElimTrueCardSaid : Prop := Claim7.holds Tryd.pinned (.plain (OpenSpec.ofChange elimTrueSpec)) elimTrueCard

/-- THE TIED CARD OF 'geyserlaw05.ElimSums'. -/
def elimSumsCard : Claim7 := { stood := { row := elimSumsRow, standIns := [], harness := (true, "5c0bc9e33e8480db6237c1103ade776bb95e59454fafdb15a0679724af8c7ca0"), looks := true }, kinds := [], alts := [], laidByText := true, laidKinds := [.data, .handle], laidTests := true, laidLooks := .later }
def ElimSumsCardSaid : Prop := Claim7.holds Tryd.pinned (.plain (OpenSpec.ofChange elimSumsSpec)) elimSumsCard

/-- THE TIED CARD OF 'geyserlaw05.ElimPlays'. -/
def elimPlaysCard : Claim7 := { stood := { row := elimPlaysRow, standIns := [], harness := (true, "5c0bc9e33e8480db6237c1103ade776bb95e59454fafdb15a0679724af8c7ca0"), looks := true }, kinds := [], alts := [], laidByText := true, laidKinds := [.data, .handle], laidTests := true, laidLooks := .later }
def ElimPlaysCardSaid : Prop := Claim7.holds Tryd.pinned (.plain (OpenSpec.ofChange elimPlaysSpec)) elimPlaysCard

/-- THE TIED CARD OF 'geyserlaw05.ElimNil'. -/
def elimNilCard : Claim7 := { stood := { row := elimNilRow, standIns := [], harness := (true, "5c0bc9e33e8480db6237c1103ade776bb95e59454fafdb15a0679724af8c7ca0"), looks := true }, kinds := [], alts := [], laidByText := true, laidKinds := [.data, .handle], laidTests := true, laidLooks := .later }
def ElimNilCardSaid : Prop := Claim7.holds Tryd.pinned (.plain (OpenSpec.ofChange elimNilSpec)) elimNilCard

/-- THE SECOND FORM's CARD OF 'geyserlaw05.ElimOrder'. -/
def elimOrderUptoCard : Claim7 := { stood := { row := elimOrderUptoRow, standIns := [], harness := (true, "5c0bc9e33e8480db6237c1103ade776bb95e59454fafdb15a0679724af8c7ca0"), looks := true }, kinds := [], alts := [], laidByText := true, laidKinds := [.data], laidTests := true, laidLooks := .later }
def ElimOrderUptoCardSaid : Prop := Claim7.holds Tryd.pinned (.plain (OpenSpec.upto elimOrderSpec)) elimOrderUptoCard

/-- THE SECOND FORM's CARD OF 'geyserlaw05.ElimRanks'. -/
def elimRanksUptoCard : Claim7 := { stood := { row := elimRanksUptoRow, standIns := [], harness := (true, "5c0bc9e33e8480db6237c1103ade776bb95e59454fafdb15a0679724af8c7ca0"), looks := true }, kinds := [], alts := [], laidByText := true, laidKinds := [.data], laidTests := true, laidLooks := .later }
def ElimRanksUptoCardSaid : Prop := Claim7.holds Tryd.pinned (.plain (OpenSpec.upto elimRanksSpec)) elimRanksUptoCard

/-- THE SECOND FORM's CARD OF 'geyserlaw05.ElimTrue'. -/
def elimTrueUptoCard : Claim7 := { stood := { row := elimTrueUptoRow, standIns := [], harness := (true, "5c0bc9e33e8480db6237c1103ade776bb95e59454fafdb15a0679724af8c7ca0"), looks := true }, kinds := [], alts := [], laidByText := true, laidKinds := [.data], laidTests := true, laidLooks := .later }
def ElimTrueUptoCardSaid : Prop := Claim7.holds Tryd.pinned (.plain (OpenSpec.upto elimTrueSpec)) elimTrueUptoCard

/-- THE SECOND FORM's CARD OF 'geyserlaw05.ElimSums'. -/
def elimSumsUptoCard : Claim7 := { stood := { row := elimSumsUptoRow, standIns := [], harness := (true, "5c0bc9e33e8480db6237c1103ade776bb95e59454fafdb15a0679724af8c7ca0"), looks := true }, kinds := [], alts := [], laidByText := true, laidKinds := [.data, .handle], laidTests := true, laidLooks := .later }
def ElimSumsUptoCardSaid : Prop := Claim7.holds Tryd.pinned (.plain (OpenSpec.upto elimSumsSpec)) elimSumsUptoCard

/-- THE SECOND FORM's CARD OF 'geyserlaw05.ElimPlays'. -/
def elimPlaysUptoCard : Claim7 := { stood := { row := elimPlaysUptoRow, standIns := [], harness := (true, "5c0bc9e33e8480db6237c1103ade776bb95e59454fafdb15a0679724af8c7ca0"), looks := true }, kinds := [], alts := [], laidByText := true, laidKinds := [.data, .handle], laidTests := true, laidLooks := .later }
def ElimPlaysUptoCardSaid : Prop := Claim7.holds Tryd.pinned (.plain (OpenSpec.upto elimPlaysSpec)) elimPlaysUptoCard

/-- THE SECOND FORM's CARD OF 'geyserlaw05.ElimNil'. -/
def elimNilUptoCard : Claim7 := { stood := { row := elimNilUptoRow, standIns := [], harness := (true, "5c0bc9e33e8480db6237c1103ade776bb95e59454fafdb15a0679724af8c7ca0"), looks := true }, kinds := [], alts := [], laidByText := true, laidKinds := [.data, .handle], laidTests := true, laidLooks := .later }
def ElimNilUptoCardSaid : Prop := Claim7.holds Tryd.pinned (.plain (OpenSpec.upto elimNilSpec)) elimNilUptoCard
end Rows
end Go.Proofs.YtjmgkknbgffbjaaDoor
