/-
  NARROWER THAN 'FOR EVERY INPUT', by the rows' own cells (each row's printed sentence says how): BlockingOfs: laid · BlockingChecks: laid · BlockingJoins: laid · BlockingCuts: laid.
  DERIVED. THE GIVEN ROWS OF THIS SEAT. 4 by the template 'for every input the law returns true; each argument reads behind the call as it read before'; 0 by the template 'total and deterministic' (their statements: YtomeefngdnmdaaaDoorTotals.lean).
  GIVEN WITH THE SEED: the statements are not yours to turn. If you find one false, say at which input.
  Laid BY PROGRAM, IN A SANDBOX (cutbox-rows.mjs): the forced cells as the released guide's own fill.sh prints them over the translation 88b10112939fdb02… (all of the seat's roots in one cut). By AI agents, Wed Nov 11 2026. No macro, syntax, notation, axiom, sorry.
-/
import Derived.Test.YtomeefngdnmdaaaDoorChecked
import GoSem.Claim
import GoSem.ClaimJoined
import GoSem.ClaimMapViews
import Derived.JoinedTies
import Derived.KernelRfl
namespace Go.Proofs.YtomeefngdnmdaaaDoor
/- THE CELL 'sum', in the pinned program and in every row, IS THE sha256 OF THE DUMP (.gsa) THAT YtomeefngdnmdaaaDoorProg.lean LOADS. Nothing in Lean hashes anything: it is a label: what it is worth is what the hold of that sum in a sandbox is worth. -/
noncomputable def Tryd.pinned : Pinned := { name := "ytomeefngdnmdaaadoor", sum := "88b10112939fdb0291438ab70b0646eaed085a2d8d82dccffcc4c83132dfe157", checked := Tryd.checked }
namespace Rows
def none {H : Type} : Left H := { results := [], args := [] }

/- WHAT THE LISTED PACKAGE-LEVEL VARIABLES READ AS WHEN THE CALL BEGINS. Each datum BY PROGRAM (the guide's laid-datum.mjs) off the statement by which the dump's own 'gosem.cut.vars' lays the variable. In a bare row this is a premise. The card (YtomeefngdnmdaaaDoorCards.lean) ties it to the program's text. -/
def laid_errors_errorType {H : Type} : DataW H := .iface "internal/reflectlite.rtype" (.agg [.ptr (.lit (.string [101, 114, 114, 111, 114]))])

/-- 'geyserlaw14.BlockingOfs': WHATEVER THE INPUT: true; the input reads as it did. -/
def blockingOfsSpec : ChangeSpec := { name := "blockingOfs", fn := fun _ => fun
  | [d1, d2, d3] => { results := [.lit (.bool true)], args := [d1, d2, d3] }
  | _ => none }
def blockingOfsRow : OpenClaim := { program := "ytomeefngdnmdaaadoor", sum := "88b10112939fdb0291438ab70b0646eaed085a2d8d82dccffcc4c83132dfe157", func := "geyser/geyserlaw14.BlockingOfs", spec := "blockingOfs", inPlace := ["internal/reflectlite.ValueOf", "(internal/reflectlite.Value).Type", "(internal/reflectlite.Value).IsNil", "internal/reflectlite.TypeOf", "(internal/reflectlite.Value).Elem", "(internal/reflectlite.Value).Set"], unfollowed := true, recurses := true, named := ["errors.errorType"], apart := false, laid := [("errors.errorType", laid_errors_errorType)] }
def BlockingOfsSaid : Prop := blockingOfsRow.holds Tryd.pinned (OpenSpec.ofChange blockingOfsSpec)

/-- ITS FALSE NEIGHBOUR: 'it returns false'. Refute it at one input. -/
def blockingOfsWrong : ChangeSpec := { name := "blockingOfs", fn := fun _ => fun
  | [d1, d2, d3] => { results := [.lit (.bool false)], args := [d1, d2, d3] }
  | _ => none }
def BlockingOfsWrongFalsely : Prop := blockingOfsRow.holds Tryd.pinned (OpenSpec.ofChange blockingOfsWrong)

/-- 'geyserlaw14.BlockingChecks': WHATEVER THE INPUT: true; the input reads as it did. -/
def blockingChecksSpec : ChangeSpec := { name := "blockingChecks", fn := fun _ => fun
  | [d1, d2] => { results := [.lit (.bool true)], args := [d1, d2] }
  | _ => none }
def blockingChecksRow : OpenClaim := { program := "ytomeefngdnmdaaadoor", sum := "88b10112939fdb0291438ab70b0646eaed085a2d8d82dccffcc4c83132dfe157", func := "geyser/geyserlaw14.BlockingChecks", spec := "blockingChecks", inPlace := ["internal/reflectlite.ValueOf", "(internal/reflectlite.Value).Type", "(internal/reflectlite.Value).IsNil", "internal/reflectlite.TypeOf", "(internal/reflectlite.Value).Elem", "(internal/reflectlite.Value).Set"], unfollowed := true, recurses := true, named := ["errors.errorType"], apart := false, laid := [("errors.errorType", laid_errors_errorType)] }
def BlockingChecksSaid : Prop := blockingChecksRow.holds Tryd.pinned (OpenSpec.ofChange blockingChecksSpec)

/-- ITS FALSE NEIGHBOUR: 'it returns false'. Refute it at one input. -/
def blockingChecksWrong : ChangeSpec := { name := "blockingChecks", fn := fun _ => fun
  | [d1, d2] => { results := [.lit (.bool false)], args := [d1, d2] }
  | _ => none }
def BlockingChecksWrongFalsely : Prop := blockingChecksRow.holds Tryd.pinned (OpenSpec.ofChange blockingChecksWrong)

/-- 'geyserlaw14.BlockingJoins': WHATEVER THE INPUT: true; the input reads as it did. -/
def blockingJoinsSpec : ChangeSpec := { name := "blockingJoins", fn := fun _ => fun
  | [d1, d2] => { results := [.lit (.bool true)], args := [d1, d2] }
  | _ => none }
def blockingJoinsRow : OpenClaim := { program := "ytomeefngdnmdaaadoor", sum := "88b10112939fdb0291438ab70b0646eaed085a2d8d82dccffcc4c83132dfe157", func := "geyser/geyserlaw14.BlockingJoins", spec := "blockingJoins", inPlace := ["internal/reflectlite.ValueOf", "(internal/reflectlite.Value).Type", "(internal/reflectlite.Value).IsNil", "internal/reflectlite.TypeOf", "(internal/reflectlite.Value).Elem", "(internal/reflectlite.Value).Set"], unfollowed := true, recurses := true, named := ["errors.errorType"], apart := false, laid := [("errors.errorType", laid_errors_errorType)] }
def BlockingJoinsSaid : Prop := blockingJoinsRow.holds Tryd.pinned (OpenSpec.ofChange blockingJoinsSpec)

/-- ITS FALSE NEIGHBOUR: 'it returns false'. Refute it at one input. -/
def blockingJoinsWrong : ChangeSpec := { name := "blockingJoins", fn := fun _ => fun
  | [d1, d2] => { results := [.lit (.bool false)], args := [d1, d2] }
  | _ => none }
def BlockingJoinsWrongFalsely : Prop := blockingJoinsRow.holds Tryd.pinned (OpenSpec.ofChange blockingJoinsWrong)

/-- 'geyserlaw14.BlockingCuts': WHATEVER THE INPUT: true; the input reads as it did. -/
def blockingCutsSpec : ChangeSpec := { name := "blockingCuts", fn := fun _ => fun
  | [d1, d2] => { results := [.lit (.bool true)], args := [d1, d2] }
  | _ => none }
def blockingCutsRow : OpenClaim := { program := "ytomeefngdnmdaaadoor", sum := "88b10112939fdb0291438ab70b0646eaed085a2d8d82dccffcc4c83132dfe157", func := "geyser/geyserlaw14.BlockingCuts", spec := "blockingCuts", inPlace := ["internal/reflectlite.ValueOf", "(internal/reflectlite.Value).Type", "(internal/reflectlite.Value).IsNil", "internal/reflectlite.TypeOf", "(internal/reflectlite.Value).Elem", "(internal/reflectlite.Value).Set"], unfollowed := true, recurses := true, named := ["errors.errorType"], apart := false, laid := [("errors.errorType", laid_errors_errorType)] }
def BlockingCutsSaid : Prop := blockingCutsRow.holds Tryd.pinned (OpenSpec.ofChange blockingCutsSpec)

/-- ITS FALSE NEIGHBOUR: 'it returns false'. Refute it at one input. -/
def blockingCutsWrong : ChangeSpec := { name := "blockingCuts", fn := fun _ => fun
  | [d1, d2] => { results := [.lit (.bool false)], args := [d1, d2] }
  | _ => none }
def BlockingCutsWrongFalsely : Prop := blockingCutsRow.holds Tryd.pinned (OpenSpec.ofChange blockingCutsWrong)

/- THE SECOND FORM. 'bulk': how many values and letters a reading holds, each counted each time it is reached (what is shared counts as often as it is met; a slice's spare places count too). A statement '..UptoSaid' is the law's where the arguments, and the package variables that the reading takes, are together of bulk at most 1048576: NARROWER than '..Said'. Prove '..Said' where nothing that the law and all that it calls make is longer than what came in: it says more and counts as full. Else prove '..UptoSaid'. A law counts once. -/
mutual
def uptoBulk {H : Type} : DataW H → Nat
  | .lit (.string bytes) => bytes.length + 1
  | .lit _ => 1
  | .nil => 1
  | .ptr d => uptoBulk d + 1
  | .slice elems spare => uptoBulkAll elems + uptoBulkAll spare + 1
  | .agg parts => uptoBulkAll parts + 1
  | .iface _ d => uptoBulk d + 1
  | .map entries => uptoBulkEntries entries + 1
  | .held _ => 1
def uptoBulkAll {H : Type} : List (DataW H) → Nat
  | [] => 0
  | d :: r => uptoBulk d + uptoBulkAll r
def uptoBulkEntries {H : Type} : List (Lit × DataW H) → Nat
  | [] => 0
  | x :: r => uptoBulkEntry x + uptoBulkEntries r
def uptoBulkEntry {H : Type} : Lit × DataW H → Nat
  | (.string bytes, d) => bytes.length + uptoBulk d + 1
  | (_, d) => uptoBulk d + 1
 end
def uptoSmall : (H : Type) → List (DataW H) → Bool := fun _ ds => decide (uptoBulkAll ds ≤ 1048576)
def OpenSpec.upto (s : _root_.Go.ChangeSpec) : _root_.Go.OpenSpec := { _root_.Go.OpenSpec.ofChange s with cond := some uptoSmall }

/-- 'geyserlaw14.BlockingOfs', WHERE WHAT IT READS IS OF BULK AT MOST 1048576: true; the input reads as it did. -/
def blockingOfsUptoRow : OpenClaim := { program := "ytomeefngdnmdaaadoor", sum := "88b10112939fdb0291438ab70b0646eaed085a2d8d82dccffcc4c83132dfe157", func := "geyser/geyserlaw14.BlockingOfs", spec := "blockingOfs", inPlace := ["internal/reflectlite.ValueOf", "(internal/reflectlite.Value).Type", "(internal/reflectlite.Value).IsNil", "internal/reflectlite.TypeOf", "(internal/reflectlite.Value).Elem", "(internal/reflectlite.Value).Set"], unfollowed := true, recurses := true, named := ["errors.errorType"], apart := false, laid := [("errors.errorType", laid_errors_errorType)], narrowed := true }
def BlockingOfsUptoSaid : Prop := blockingOfsUptoRow.holds Tryd.pinned (OpenSpec.upto blockingOfsSpec)

/-- 'geyserlaw14.BlockingChecks', WHERE WHAT IT READS IS OF BULK AT MOST 1048576: true; the input reads as it did. -/
def blockingChecksUptoRow : OpenClaim := { program := "ytomeefngdnmdaaadoor", sum := "88b10112939fdb0291438ab70b0646eaed085a2d8d82dccffcc4c83132dfe157", func := "geyser/geyserlaw14.BlockingChecks", spec := "blockingChecks", inPlace := ["internal/reflectlite.ValueOf", "(internal/reflectlite.Value).Type", "(internal/reflectlite.Value).IsNil", "internal/reflectlite.TypeOf", "(internal/reflectlite.Value).Elem", "(internal/reflectlite.Value).Set"], unfollowed := true, recurses := true, named := ["errors.errorType"], apart := false, laid := [("errors.errorType", laid_errors_errorType)], narrowed := true }
def BlockingChecksUptoSaid : Prop := blockingChecksUptoRow.holds Tryd.pinned (OpenSpec.upto blockingChecksSpec)

/-- 'geyserlaw14.BlockingJoins', WHERE WHAT IT READS IS OF BULK AT MOST 1048576: true; the input reads as it did. -/
def blockingJoinsUptoRow : OpenClaim := { program := "ytomeefngdnmdaaadoor", sum := "88b10112939fdb0291438ab70b0646eaed085a2d8d82dccffcc4c83132dfe157", func := "geyser/geyserlaw14.BlockingJoins", spec := "blockingJoins", inPlace := ["internal/reflectlite.ValueOf", "(internal/reflectlite.Value).Type", "(internal/reflectlite.Value).IsNil", "internal/reflectlite.TypeOf", "(internal/reflectlite.Value).Elem", "(internal/reflectlite.Value).Set"], unfollowed := true, recurses := true, named := ["errors.errorType"], apart := false, laid := [("errors.errorType", laid_errors_errorType)], narrowed := true }
def BlockingJoinsUptoSaid : Prop := blockingJoinsUptoRow.holds Tryd.pinned (OpenSpec.upto blockingJoinsSpec)

/-- 'geyserlaw14.BlockingCuts', WHERE WHAT IT READS IS OF BULK AT MOST 1048576: true; the input reads as it did. -/
def blockingCutsUptoRow : OpenClaim := { program := "ytomeefngdnmdaaadoor", sum := "88b10112939fdb0291438ab70b0646eaed085a2d8d82dccffcc4c83132dfe157", func := "geyser/geyserlaw14.BlockingCuts", spec := "blockingCuts", inPlace := ["internal/reflectlite.ValueOf", "(internal/reflectlite.Value).Type", "(internal/reflectlite.Value).IsNil", "internal/reflectlite.TypeOf", "(internal/reflectlite.Value).Elem", "(internal/reflectlite.Value).Set"], unfollowed := true, recurses := true, named := ["errors.errorType"], apart := false, laid := [("errors.errorType", laid_errors_errorType)], narrowed := true }
def BlockingCutsUptoSaid : Prop := blockingCutsUptoRow.holds Tryd.pinned (OpenSpec.upto blockingCutsSpec)

end Rows
end Go.Proofs.YtomeefngdnmdaaaDoor
