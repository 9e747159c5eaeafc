/-
  NARROWER THAN 'FOR EVERY INPUT', by the rows' own cells (each row's printed sentence says how): MatrixSums: laid · MatrixChecks: laid · MatrixRanks: laid · MatrixSpans: laid · MatrixOrder: laid · MatrixFixed: laid · MatrixPlains: laid.
  DERIVED. THE GIVEN ROWS OF THIS SEAT. 7 by the template 'for every input the law returns true; each argument reads behind the call as it read before'; 0 by the template 'total and deterministic' (their statements: YtgocibnmgfmceaaDoorTotals.lean).
  GIVEN WITH THE SEED: the statements are not yours to turn. If you find one false, say at which input.
  Laid BY PROGRAM, IN A SANDBOX (cutbox-rows.mjs): the forced cells as the released guide's own fill.sh prints them over the translation 29ee018635beb2f3… (all of the seat's roots in one cut). By AI agents, Wed Nov 11 2026. No macro, syntax, notation, axiom, sorry.
-/
import Derived.Test.YtgocibnmgfmceaaDoorChecked
import GoSem.Claim
import GoSem.ClaimJoined
import GoSem.ClaimMapViews
import Derived.JoinedTies
import Derived.KernelRfl
namespace Go.Proofs.YtgocibnmgfmceaaDoor
/- THE CELL 'sum', in the pinned program and in every row, IS THE sha256 OF THE DUMP (.gsa) THAT YtgocibnmgfmceaaDoorProg.lean LOADS. Nothing in Lean hashes anything: it is a label: what it is worth is what the hold of that sum in a sandbox is worth. -/
noncomputable def Tryd.pinned : Pinned := { name := "ytgocibnmgfmceaadoor", sum := "29ee018635beb2f35d2be86975f9681583f97c54c81589ec3f07047d35b45ed4", checked := Tryd.checked }
namespace Rows
def none {H : Type} : Left H := { results := [], args := [] }

/- WHAT THE LISTED PACKAGE-LEVEL VARIABLES READ AS WHEN THE CALL BEGINS. Each datum BY PROGRAM (the guide's laid-datum.mjs) off the statement by which the dump's own 'gosem.cut.vars' lays the variable. In a bare row this is a premise. The card (YtgocibnmgfmceaaDoorCards.lean) ties it to the program's text. -/
def laid_math_bits_deBruijn64tab {H : Type} : DataW H := .agg [.lit (.int .u8 0), .lit (.int .u8 1), .lit (.int .u8 56), .lit (.int .u8 2), .lit (.int .u8 57), .lit (.int .u8 49), .lit (.int .u8 28), .lit (.int .u8 3), .lit (.int .u8 61), .lit (.int .u8 58), .lit (.int .u8 42), .lit (.int .u8 50), .lit (.int .u8 38), .lit (.int .u8 29), .lit (.int .u8 17), .lit (.int .u8 4), .lit (.int .u8 62), .lit (.int .u8 47), .lit (.int .u8 59), .lit (.int .u8 36), .lit (.int .u8 45), .lit (.int .u8 43), .lit (.int .u8 51), .lit (.int .u8 22), .lit (.int .u8 53), .lit (.int .u8 39), .lit (.int .u8 33), .lit (.int .u8 30), .lit (.int .u8 24), .lit (.int .u8 18), .lit (.int .u8 12), .lit (.int .u8 5), .lit (.int .u8 63), .lit (.int .u8 55), .lit (.int .u8 48), .lit (.int .u8 27), .lit (.int .u8 60), .lit (.int .u8 41), .lit (.int .u8 37), .lit (.int .u8 16), .lit (.int .u8 46), .lit (.int .u8 35), .lit (.int .u8 44), .lit (.int .u8 21), .lit (.int .u8 52), .lit (.int .u8 32), .lit (.int .u8 23), .lit (.int .u8 11), .lit (.int .u8 54), .lit (.int .u8 26), .lit (.int .u8 40), .lit (.int .u8 15), .lit (.int .u8 34), .lit (.int .u8 20), .lit (.int .u8 31), .lit (.int .u8 10), .lit (.int .u8 25), .lit (.int .u8 14), .lit (.int .u8 19), .lit (.int .u8 9), .lit (.int .u8 13), .lit (.int .u8 8), .lit (.int .u8 7), .lit (.int .u8 6)]
def laid_errors_errorType {H : Type} : DataW H := .iface "internal/reflectlite.rtype" (.agg [.ptr (.lit (.string [101, 114, 114, 111, 114]))])

/-- 'geyserlaw03.MatrixSums': WHATEVER THE INPUT: true; the input reads as it did. -/
def matrixSumsSpec : ChangeSpec := { name := "matrixSums", fn := fun _ => fun
  | [d1, d2, d3] => { results := [.lit (.bool true)], args := [d1, d2, d3] }
  | _ => none }
def matrixSumsRow : OpenClaim := { program := "ytgocibnmgfmceaadoor", sum := "29ee018635beb2f35d2be86975f9681583f97c54c81589ec3f07047d35b45ed4", func := "geyser/geyserlaw03.MatrixSums", spec := "matrixSums", named := ["math/bits.deBruijn64tab"], apart := false, laid := [("math/bits.deBruijn64tab", laid_math_bits_deBruijn64tab)] }
def MatrixSumsSaid : Prop := matrixSumsRow.holds Tryd.pinned (OpenSpec.ofChange matrixSumsSpec)

/-- ITS FALSE NEIGHBOUR: 'it returns false'. Refute it at one input. -/
def matrixSumsWrong : ChangeSpec := { name := "matrixSums", fn := fun _ => fun
  | [d1, d2, d3] => { results := [.lit (.bool false)], args := [d1, d2, d3] }
  | _ => none }
def MatrixSumsWrongFalsely : Prop := matrixSumsRow.holds Tryd.pinned (OpenSpec.ofChange matrixSumsWrong)

/-- 'geyserlaw03.MatrixChecks': WHATEVER THE INPUT: true; the input reads as it did. -/
def matrixChecksSpec : ChangeSpec := { name := "matrixChecks", fn := fun _ => fun
  | [d1, d2] => { results := [.lit (.bool true)], args := [d1, d2] }
  | _ => none }
def matrixChecksRow : OpenClaim := { program := "ytgocibnmgfmceaadoor", sum := "29ee018635beb2f35d2be86975f9681583f97c54c81589ec3f07047d35b45ed4", func := "geyser/geyserlaw03.MatrixChecks", spec := "matrixChecks", inPlace := ["internal/reflectlite.ValueOf", "(internal/reflectlite.Value).Type", "(internal/reflectlite.Value).IsNil", "internal/reflectlite.TypeOf", "(internal/reflectlite.Value).Elem", "(internal/reflectlite.Value).Set"], unfollowed := true, recurses := true, named := ["math/bits.deBruijn64tab", "errors.errorType"], apart := false, laid := [("math/bits.deBruijn64tab", laid_math_bits_deBruijn64tab), ("errors.errorType", laid_errors_errorType)] }
def MatrixChecksSaid : Prop := matrixChecksRow.holds Tryd.pinned (OpenSpec.ofChange matrixChecksSpec)

/-- ITS FALSE NEIGHBOUR: 'it returns false'. Refute it at one input. -/
def matrixChecksWrong : ChangeSpec := { name := "matrixChecks", fn := fun _ => fun
  | [d1, d2] => { results := [.lit (.bool false)], args := [d1, d2] }
  | _ => none }
def MatrixChecksWrongFalsely : Prop := matrixChecksRow.holds Tryd.pinned (OpenSpec.ofChange matrixChecksWrong)

/-- 'geyserlaw03.MatrixRanks': WHATEVER THE INPUT: true; the input reads as it did. -/
def matrixRanksSpec : ChangeSpec := { name := "matrixRanks", fn := fun _ => fun
  | [d1, d2] => { results := [.lit (.bool true)], args := [d1, d2] }
  | _ => none }
def matrixRanksRow : OpenClaim := { program := "ytgocibnmgfmceaadoor", sum := "29ee018635beb2f35d2be86975f9681583f97c54c81589ec3f07047d35b45ed4", func := "geyser/geyserlaw03.MatrixRanks", spec := "matrixRanks", inPlace := ["internal/reflectlite.ValueOf", "(internal/reflectlite.Value).Type", "(internal/reflectlite.Value).IsNil", "internal/reflectlite.TypeOf", "(internal/reflectlite.Value).Elem", "(internal/reflectlite.Value).Set"], unfollowed := true, recurses := true, named := ["math/bits.deBruijn64tab", "errors.errorType"], apart := false, laid := [("math/bits.deBruijn64tab", laid_math_bits_deBruijn64tab), ("errors.errorType", laid_errors_errorType)] }
def MatrixRanksSaid : Prop := matrixRanksRow.holds Tryd.pinned (OpenSpec.ofChange matrixRanksSpec)

/-- ITS FALSE NEIGHBOUR: 'it returns false'. Refute it at one input. -/
def matrixRanksWrong : ChangeSpec := { name := "matrixRanks", fn := fun _ => fun
  | [d1, d2] => { results := [.lit (.bool false)], args := [d1, d2] }
  | _ => none }
def MatrixRanksWrongFalsely : Prop := matrixRanksRow.holds Tryd.pinned (OpenSpec.ofChange matrixRanksWrong)

/-- 'geyserlaw03.MatrixSpans': WHATEVER THE INPUT: true; the input reads as it did. -/
def matrixSpansSpec : ChangeSpec := { name := "matrixSpans", fn := fun _ => fun
  | [d1, d2, d3] => { results := [.lit (.bool true)], args := [d1, d2, d3] }
  | _ => none }
def matrixSpansRow : OpenClaim := { program := "ytgocibnmgfmceaadoor", sum := "29ee018635beb2f35d2be86975f9681583f97c54c81589ec3f07047d35b45ed4", func := "geyser/geyserlaw03.MatrixSpans", spec := "matrixSpans", inPlace := ["internal/reflectlite.ValueOf", "(internal/reflectlite.Value).Type", "(internal/reflectlite.Value).IsNil", "internal/reflectlite.TypeOf", "(internal/reflectlite.Value).Elem", "(internal/reflectlite.Value).Set"], unfollowed := true, recurses := true, named := ["math/bits.deBruijn64tab", "errors.errorType"], apart := false, laid := [("math/bits.deBruijn64tab", laid_math_bits_deBruijn64tab), ("errors.errorType", laid_errors_errorType)] }
def MatrixSpansSaid : Prop := matrixSpansRow.holds Tryd.pinned (OpenSpec.ofChange matrixSpansSpec)

/-- ITS FALSE NEIGHBOUR: 'it returns false'. Refute it at one input. -/
def matrixSpansWrong : ChangeSpec := { name := "matrixSpans", fn := fun _ => fun
  | [d1, d2, d3] => { results := [.lit (.bool false)], args := [d1, d2, d3] }
  | _ => none }
def MatrixSpansWrongFalsely : Prop := matrixSpansRow.holds Tryd.pinned (OpenSpec.ofChange matrixSpansWrong)

/-- 'geyserlaw03.MatrixOrder': WHATEVER THE INPUT: true; the input reads as it did. -/
def matrixOrderSpec : ChangeSpec := { name := "matrixOrder", fn := fun _ => fun
  | [d1, d2, d3] => { results := [.lit (.bool true)], args := [d1, d2, d3] }
  | _ => none }
def matrixOrderRow : OpenClaim := { program := "ytgocibnmgfmceaadoor", sum := "29ee018635beb2f35d2be86975f9681583f97c54c81589ec3f07047d35b45ed4", func := "geyser/geyserlaw03.MatrixOrder", spec := "matrixOrder", unfollowed := true, recurses := true, named := ["math/bits.deBruijn64tab"], apart := false, laid := [("math/bits.deBruijn64tab", laid_math_bits_deBruijn64tab)] }
def MatrixOrderSaid : Prop := matrixOrderRow.holds Tryd.pinned (OpenSpec.ofChange matrixOrderSpec)

/-- ITS FALSE NEIGHBOUR: 'it returns false'. Refute it at one input. -/
def matrixOrderWrong : ChangeSpec := { name := "matrixOrder", fn := fun _ => fun
  | [d1, d2, d3] => { results := [.lit (.bool false)], args := [d1, d2, d3] }
  | _ => none }
def MatrixOrderWrongFalsely : Prop := matrixOrderRow.holds Tryd.pinned (OpenSpec.ofChange matrixOrderWrong)

/-- 'geyserlaw03.MatrixFixed': WHATEVER THE INPUT: true; the input reads as it did. -/
def matrixFixedSpec : ChangeSpec := { name := "matrixFixed", fn := fun _ => fun
  | [d1, d2] => { results := [.lit (.bool true)], args := [d1, d2] }
  | _ => none }
def matrixFixedRow : OpenClaim := { program := "ytgocibnmgfmceaadoor", sum := "29ee018635beb2f35d2be86975f9681583f97c54c81589ec3f07047d35b45ed4", func := "geyser/geyserlaw03.MatrixFixed", spec := "matrixFixed", unfollowed := true, recurses := true, named := ["math/bits.deBruijn64tab"], apart := false, laid := [("math/bits.deBruijn64tab", laid_math_bits_deBruijn64tab)] }
def MatrixFixedSaid : Prop := matrixFixedRow.holds Tryd.pinned (OpenSpec.ofChange matrixFixedSpec)

/-- ITS FALSE NEIGHBOUR: 'it returns false'. Refute it at one input. -/
def matrixFixedWrong : ChangeSpec := { name := "matrixFixed", fn := fun _ => fun
  | [d1, d2] => { results := [.lit (.bool false)], args := [d1, d2] }
  | _ => none }
def MatrixFixedWrongFalsely : Prop := matrixFixedRow.holds Tryd.pinned (OpenSpec.ofChange matrixFixedWrong)

/-- 'geyserlaw03.MatrixPlains': WHATEVER THE INPUT: true; the input reads as it did. -/
def matrixPlainsSpec : ChangeSpec := { name := "matrixPlains", fn := fun _ => fun
  | [d1, d2] => { results := [.lit (.bool true)], args := [d1, d2] }
  | _ => none }
def matrixPlainsRow : OpenClaim := { program := "ytgocibnmgfmceaadoor", sum := "29ee018635beb2f35d2be86975f9681583f97c54c81589ec3f07047d35b45ed4", func := "geyser/geyserlaw03.MatrixPlains", spec := "matrixPlains", inPlace := ["internal/reflectlite.ValueOf", "(internal/reflectlite.Value).Type", "(internal/reflectlite.Value).IsNil", "internal/reflectlite.TypeOf", "(internal/reflectlite.Value).Elem", "(internal/reflectlite.Value).Set"], unfollowed := true, recurses := true, named := ["math/bits.deBruijn64tab", "errors.errorType"], apart := false, laid := [("math/bits.deBruijn64tab", laid_math_bits_deBruijn64tab), ("errors.errorType", laid_errors_errorType)] }
def MatrixPlainsSaid : Prop := matrixPlainsRow.holds Tryd.pinned (OpenSpec.ofChange matrixPlainsSpec)

/-- ITS FALSE NEIGHBOUR: 'it returns false'. Refute it at one input. -/
def matrixPlainsWrong : ChangeSpec := { name := "matrixPlains", fn := fun _ => fun
  | [d1, d2] => { results := [.lit (.bool false)], args := [d1, d2] }
  | _ => none }
def MatrixPlainsWrongFalsely : Prop := matrixPlainsRow.holds Tryd.pinned (OpenSpec.ofChange matrixPlainsWrong)

/- THE SECOND FORM. 'bulk': how many values and letters a reading holds, each counted each time it is reached (what is shared counts as often as it is met; a slice's spare places count too). A statement '..UptoSaid' is the law's where the arguments, and the package variables that the reading takes, are together of bulk at most 1048576: NARROWER than '..Said'. Prove '..Said' where nothing that the law and all that it calls make is longer than what came in: it says more and counts as full. Else prove '..UptoSaid'. A law counts once. -/
mutual
def uptoBulk {H : Type} : DataW H → Nat
  | .lit (.string bytes) => bytes.length + 1
  | .lit _ => 1
  | .nil => 1
  | .ptr d => uptoBulk d + 1
  | .slice elems spare => uptoBulkAll elems + uptoBulkAll spare + 1
  | .agg parts => uptoBulkAll parts + 1
  | .iface _ d => uptoBulk d + 1
  | .map entries => uptoBulkEntries entries + 1
  | .held _ => 1
def uptoBulkAll {H : Type} : List (DataW H) → Nat
  | [] => 0
  | d :: r => uptoBulk d + uptoBulkAll r
def uptoBulkEntries {H : Type} : List (Lit × DataW H) → Nat
  | [] => 0
  | x :: r => uptoBulkEntry x + uptoBulkEntries r
def uptoBulkEntry {H : Type} : Lit × DataW H → Nat
  | (.string bytes, d) => bytes.length + uptoBulk d + 1
  | (_, d) => uptoBulk d + 1
 end
def uptoSmall : (H : Type) → List (DataW H) → Bool := fun _ ds => decide (uptoBulkAll ds ≤ 1048576)
def OpenSpec.upto (s : _root_.Go.ChangeSpec) : _root_.Go.OpenSpec := { _root_.Go.OpenSpec.ofChange s with cond := some uptoSmall }

/-- 'geyserlaw03.MatrixSums', WHERE WHAT IT READS IS OF BULK AT MOST 1048576: true; the input reads as it did. -/
def matrixSumsUptoRow : OpenClaim := { program := "ytgocibnmgfmceaadoor", sum := "29ee018635beb2f35d2be86975f9681583f97c54c81589ec3f07047d35b45ed4", func := "geyser/geyserlaw03.MatrixSums", spec := "matrixSums", named := ["math/bits.deBruijn64tab"], apart := false, laid := [("math/bits.deBruijn64tab", laid_math_bits_deBruijn64tab)], narrowed := true }
def MatrixSumsUptoSaid : Prop := matrixSumsUptoRow.holds Tryd.pinned (OpenSpec.upto matrixSumsSpec)

/-- 'geyserlaw03.MatrixChecks', WHERE WHAT IT READS IS OF BULK AT MOST 1048576: true; the input reads as it did. -/
def matrixChecksUptoRow : OpenClaim := { program := "ytgocibnmgfmceaadoor", sum := "29ee018635beb2f35d2be86975f9681583f97c54c81589ec3f07047d35b45ed4", func := "geyser/geyserlaw03.MatrixChecks", spec := "matrixChecks", inPlace := ["internal/reflectlite.ValueOf", "(internal/reflectlite.Value).Type", "(internal/reflectlite.Value).IsNil", "internal/reflectlite.TypeOf", "(internal/reflectlite.Value).Elem", "(internal/reflectlite.Value).Set"], unfollowed := true, recurses := true, named := ["math/bits.deBruijn64tab", "errors.errorType"], apart := false, laid := [("math/bits.deBruijn64tab", laid_math_bits_deBruijn64tab), ("errors.errorType", laid_errors_errorType)], narrowed := true }
def MatrixChecksUptoSaid : Prop := matrixChecksUptoRow.holds Tryd.pinned (OpenSpec.upto matrixChecksSpec)

/-- 'geyserlaw03.MatrixRanks', WHERE WHAT IT READS IS OF BULK AT MOST 1048576: true; the input reads as it did. -/
def matrixRanksUptoRow : OpenClaim := { program := "ytgocibnmgfmceaadoor", sum := "29ee018635beb2f35d2be86975f9681583f97c54c81589ec3f07047d35b45ed4", func := "geyser/geyserlaw03.MatrixRanks", spec := "matrixRanks", inPlace := ["internal/reflectlite.ValueOf", "(internal/reflectlite.Value).Type", "(internal/reflectlite.Value).IsNil", "internal/reflectlite.TypeOf", "(internal/reflectlite.Value).Elem", "(internal/reflectlite.Value).Set"], unfollowed := true, recurses := true, named := ["math/bits.deBruijn64tab", "errors.errorType"], apart := false, laid := [("math/bits.deBruijn64tab", laid_math_bits_deBruijn64tab), ("errors.errorType", laid_errors_errorType)], narrowed := true }
def MatrixRanksUptoSaid : Prop := matrixRanksUptoRow.holds Tryd.pinned (OpenSpec.upto matrixRanksSpec)

/-- 'geyserlaw03.MatrixSpans', WHERE WHAT IT READS IS OF BULK AT MOST 1048576: true; the input reads as it did. -/
def matrixSpansUptoRow : OpenClaim := { program := "ytgocibnmgfmceaadoor", sum := "29ee018635beb2f35d2be86975f9681583f97c54c81589ec3f07047d35b45ed4", func := "geyser/geyserlaw03.MatrixSpans", spec := "matrixSpans", inPlace := ["internal/reflectlite.ValueOf", "(internal/reflectlite.Value).Type", "(internal/reflectlite.Value).IsNil", "internal/reflectlite.TypeOf", "(internal/reflectlite.Value).Elem", "(internal/reflectlite.Value).Set"], unfollowed := true, recurses := true, named := ["math/bits.deBruijn64tab", "errors.errorType"], apart := false, laid := [("math/bits.deBruijn64tab", laid_math_bits_deBruijn64tab), ("errors.errorType", laid_errors_errorType)], narrowed := true }
def MatrixSpansUptoSaid : Prop := matrixSpansUptoRow.holds Tryd.pinned (OpenSpec.upto matrixSpansSpec)

/-- 'geyserlaw03.MatrixOrder', WHERE WHAT IT READS IS OF BULK AT MOST 1048576: true; the input reads as it did. -/
def matrixOrderUptoRow : OpenClaim := { program := "ytgocibnmgfmceaadoor", sum := "29ee018635beb2f35d2be86975f9681583f97c54c81589ec3f07047d35b45ed4", func := "geyser/geyserlaw03.MatrixOrder", spec := "matrixOrder", unfollowed := true, recurses := true, named := ["math/bits.deBruijn64tab"], apart := false, laid := [("math/bits.deBruijn64tab", laid_math_bits_deBruijn64tab)], narrowed := true }
def MatrixOrderUptoSaid : Prop := matrixOrderUptoRow.holds Tryd.pinned (OpenSpec.upto matrixOrderSpec)

/-- 'geyserlaw03.MatrixFixed', WHERE WHAT IT READS IS OF BULK AT MOST 1048576: true; the input reads as it did. -/
def matrixFixedUptoRow : OpenClaim := { program := "ytgocibnmgfmceaadoor", sum := "29ee018635beb2f35d2be86975f9681583f97c54c81589ec3f07047d35b45ed4", func := "geyser/geyserlaw03.MatrixFixed", spec := "matrixFixed", unfollowed := true, recurses := true, named := ["math/bits.deBruijn64tab"], apart := false, laid := [("math/bits.deBruijn64tab", laid_math_bits_deBruijn64tab)], narrowed := true }
def MatrixFixedUptoSaid : Prop := matrixFixedUptoRow.holds Tryd.pinned (OpenSpec.upto matrixFixedSpec)

/-- 'geyserlaw03.MatrixPlains', WHERE WHAT IT READS IS OF BULK AT MOST 1048576: true; the input reads as it did. -/
def matrixPlainsUptoRow : OpenClaim := { program := "ytgocibnmgfmceaadoor", sum := "29ee018635beb2f35d2be86975f9681583f97c54c81589ec3f07047d35b45ed4", func := "geyser/geyserlaw03.MatrixPlains", spec := "matrixPlains", inPlace := ["internal/reflectlite.ValueOf", "(internal/reflectlite.Value).Type", "(internal/reflectlite.Value).IsNil", "internal/reflectlite.TypeOf", "(internal/reflectlite.Value).Elem", "(internal/reflectlite.Value).Set"], unfollowed := true, recurses := true, named := ["math/bits.deBruijn64tab", "errors.errorType"], apart := false, laid := [("math/bits.deBruijn64tab", laid_math_bits_deBruijn64tab), ("errors.errorType", laid_errors_errorType)], narrowed := true }
def MatrixPlainsUptoSaid : Prop := matrixPlainsUptoRow.holds Tryd.pinned (OpenSpec.upto matrixPlainsSpec)

end Rows
end Go.Proofs.YtgocibnmgfmceaaDoor
