/-
  NARROWER THAN 'FOR EVERY INPUT', by the rows' own cells (each row's printed sentence says how): PackedUnpacks: laid · PackedBack: laid · PackedTwice: laid · PackedOdd: laid · SymbolSums: laid · SymbolXors: laid · SymbolSplits: laid · SymbolPicks: laid · PackedPacks: laid · PackedXors: laid.
  DERIVED. THE GIVEN ROWS OF THIS SEAT. 10 by the template 'for every input the law returns true; each argument reads behind the call as it read before'; 0 by the template 'total and deterministic' (their statements: YtnigpfaecibdfaaDoorTotals.lean).
  GIVEN WITH THE SEED: the statements are not yours to turn. If you find one false, say at which input.
  Laid BY PROGRAM, IN A SANDBOX (cutbox-rows.mjs): the forced cells as the released guide's own fill.sh prints them over the translation 3d36ac44fa955ecf… (all of the seat's roots in one cut). By AI agents, Wed Nov 11 2026. No macro, syntax, notation, axiom, sorry.
-/
import Derived.Test.YtnigpfaecibdfaaDoorChecked
import GoSem.Claim
import GoSem.ClaimJoined
import GoSem.ClaimMapViews
import Derived.JoinedTies
import Derived.KernelRfl
namespace Go.Proofs.YtnigpfaecibdfaaDoor
/- THE CELL 'sum', in the pinned program and in every row, IS THE sha256 OF THE DUMP (.gsa) THAT YtnigpfaecibdfaaDoorProg.lean LOADS. Nothing in Lean hashes anything: it is a label: what it is worth is what the hold of that sum in a sandbox is worth. -/
noncomputable def Tryd.pinned : Pinned := { name := "ytnigpfaecibdfaadoor", sum := "3d36ac44fa955ecf8850b28bbed6147c53b16619e04cd16dc63e9413b34ee294", checked := Tryd.checked }
namespace Rows
def none {H : Type} : Left H := { results := [], args := [] }

/- WHAT THE LISTED PACKAGE-LEVEL VARIABLES READ AS WHEN THE CALL BEGINS. Each datum BY PROGRAM (the guide's laid-datum.mjs) off the statement by which the dump's own 'gosem.cut.vars' lays the variable. In a bare row this is a premise. The card (YtnigpfaecibdfaaDoorCards.lean) ties it to the program's text. -/
def laid_math_bits_deBruijn64tab {H : Type} : DataW H := .agg [.lit (.int .u8 0), .lit (.int .u8 1), .lit (.int .u8 56), .lit (.int .u8 2), .lit (.int .u8 57), .lit (.int .u8 49), .lit (.int .u8 28), .lit (.int .u8 3), .lit (.int .u8 61), .lit (.int .u8 58), .lit (.int .u8 42), .lit (.int .u8 50), .lit (.int .u8 38), .lit (.int .u8 29), .lit (.int .u8 17), .lit (.int .u8 4), .lit (.int .u8 62), .lit (.int .u8 47), .lit (.int .u8 59), .lit (.int .u8 36), .lit (.int .u8 45), .lit (.int .u8 43), .lit (.int .u8 51), .lit (.int .u8 22), .lit (.int .u8 53), .lit (.int .u8 39), .lit (.int .u8 33), .lit (.int .u8 30), .lit (.int .u8 24), .lit (.int .u8 18), .lit (.int .u8 12), .lit (.int .u8 5), .lit (.int .u8 63), .lit (.int .u8 55), .lit (.int .u8 48), .lit (.int .u8 27), .lit (.int .u8 60), .lit (.int .u8 41), .lit (.int .u8 37), .lit (.int .u8 16), .lit (.int .u8 46), .lit (.int .u8 35), .lit (.int .u8 44), .lit (.int .u8 21), .lit (.int .u8 52), .lit (.int .u8 32), .lit (.int .u8 23), .lit (.int .u8 11), .lit (.int .u8 54), .lit (.int .u8 26), .lit (.int .u8 40), .lit (.int .u8 15), .lit (.int .u8 34), .lit (.int .u8 20), .lit (.int .u8 31), .lit (.int .u8 10), .lit (.int .u8 25), .lit (.int .u8 14), .lit (.int .u8 19), .lit (.int .u8 9), .lit (.int .u8 13), .lit (.int .u8 8), .lit (.int .u8 7), .lit (.int .u8 6)]
def laid_errors_errorType {H : Type} : DataW H := .iface "internal/reflectlite.rtype" (.agg [.ptr (.lit (.string [101, 114, 114, 111, 114]))])

/-- 'geyserlaw02.PackedUnpacks': WHATEVER THE INPUT: true; the input reads as it did. -/
def packedUnpacksSpec : ChangeSpec := { name := "packedUnpacks", fn := fun _ => fun
  | [d1, d2] => { results := [.lit (.bool true)], args := [d1, d2] }
  | _ => none }
def packedUnpacksRow : OpenClaim := { program := "ytnigpfaecibdfaadoor", sum := "3d36ac44fa955ecf8850b28bbed6147c53b16619e04cd16dc63e9413b34ee294", func := "geyser/geyserlaw02.PackedUnpacks", spec := "packedUnpacks", named := ["math/bits.deBruijn64tab"], apart := false, laid := [("math/bits.deBruijn64tab", laid_math_bits_deBruijn64tab)] }
def PackedUnpacksSaid : Prop := packedUnpacksRow.holds Tryd.pinned (OpenSpec.ofChange packedUnpacksSpec)

/-- ITS FALSE NEIGHBOUR: 'it returns false'. Refute it at one input. -/
def packedUnpacksWrong : ChangeSpec := { name := "packedUnpacks", fn := fun _ => fun
  | [d1, d2] => { results := [.lit (.bool false)], args := [d1, d2] }
  | _ => none }
def PackedUnpacksWrongFalsely : Prop := packedUnpacksRow.holds Tryd.pinned (OpenSpec.ofChange packedUnpacksWrong)

/-- 'geyserlaw02.PackedBack': WHATEVER THE INPUT: true; the input reads as it did. -/
def packedBackSpec : ChangeSpec := { name := "packedBack", fn := fun _ => fun
  | [d1, d2] => { results := [.lit (.bool true)], args := [d1, d2] }
  | _ => none }
def packedBackRow : OpenClaim := { program := "ytnigpfaecibdfaadoor", sum := "3d36ac44fa955ecf8850b28bbed6147c53b16619e04cd16dc63e9413b34ee294", func := "geyser/geyserlaw02.PackedBack", spec := "packedBack", named := ["math/bits.deBruijn64tab"], apart := false, laid := [("math/bits.deBruijn64tab", laid_math_bits_deBruijn64tab)] }
def PackedBackSaid : Prop := packedBackRow.holds Tryd.pinned (OpenSpec.ofChange packedBackSpec)

/-- ITS FALSE NEIGHBOUR: 'it returns false'. Refute it at one input. -/
def packedBackWrong : ChangeSpec := { name := "packedBack", fn := fun _ => fun
  | [d1, d2] => { results := [.lit (.bool false)], args := [d1, d2] }
  | _ => none }
def PackedBackWrongFalsely : Prop := packedBackRow.holds Tryd.pinned (OpenSpec.ofChange packedBackWrong)

/-- 'geyserlaw02.PackedTwice': WHATEVER THE INPUT: true; the input reads as it did. -/
def packedTwiceSpec : ChangeSpec := { name := "packedTwice", fn := fun _ => fun
  | [d1, d2, d3] => { results := [.lit (.bool true)], args := [d1, d2, d3] }
  | _ => none }
def packedTwiceRow : OpenClaim := { program := "ytnigpfaecibdfaadoor", sum := "3d36ac44fa955ecf8850b28bbed6147c53b16619e04cd16dc63e9413b34ee294", func := "geyser/geyserlaw02.PackedTwice", spec := "packedTwice", named := ["math/bits.deBruijn64tab"], apart := false, laid := [("math/bits.deBruijn64tab", laid_math_bits_deBruijn64tab)] }
def PackedTwiceSaid : Prop := packedTwiceRow.holds Tryd.pinned (OpenSpec.ofChange packedTwiceSpec)

/-- ITS FALSE NEIGHBOUR: 'it returns false'. Refute it at one input. -/
def packedTwiceWrong : ChangeSpec := { name := "packedTwice", fn := fun _ => fun
  | [d1, d2, d3] => { results := [.lit (.bool false)], args := [d1, d2, d3] }
  | _ => none }
def PackedTwiceWrongFalsely : Prop := packedTwiceRow.holds Tryd.pinned (OpenSpec.ofChange packedTwiceWrong)

/-- 'geyserlaw02.PackedOdd': WHATEVER THE INPUT: true; the input reads as it did. -/
def packedOddSpec : ChangeSpec := { name := "packedOdd", fn := fun _ => fun
  | [d1, d2, d3] => { results := [.lit (.bool true)], args := [d1, d2, d3] }
  | _ => none }
def packedOddRow : OpenClaim := { program := "ytnigpfaecibdfaadoor", sum := "3d36ac44fa955ecf8850b28bbed6147c53b16619e04cd16dc63e9413b34ee294", func := "geyser/geyserlaw02.PackedOdd", spec := "packedOdd", named := ["math/bits.deBruijn64tab"], apart := false, laid := [("math/bits.deBruijn64tab", laid_math_bits_deBruijn64tab)] }
def PackedOddSaid : Prop := packedOddRow.holds Tryd.pinned (OpenSpec.ofChange packedOddSpec)

/-- ITS FALSE NEIGHBOUR: 'it returns false'. Refute it at one input. -/
def packedOddWrong : ChangeSpec := { name := "packedOdd", fn := fun _ => fun
  | [d1, d2, d3] => { results := [.lit (.bool false)], args := [d1, d2, d3] }
  | _ => none }
def PackedOddWrongFalsely : Prop := packedOddRow.holds Tryd.pinned (OpenSpec.ofChange packedOddWrong)

/-- 'geyserlaw04.SymbolSums': WHATEVER THE INPUT: true; the input reads as it did. -/
def symbolSumsSpec : ChangeSpec := { name := "symbolSums", fn := fun _ => fun
  | [d1, d2] => { results := [.lit (.bool true)], args := [d1, d2] }
  | _ => none }
def symbolSumsRow : OpenClaim := { program := "ytnigpfaecibdfaadoor", sum := "3d36ac44fa955ecf8850b28bbed6147c53b16619e04cd16dc63e9413b34ee294", func := "geyser/geyserlaw04.SymbolSums", spec := "symbolSums", inPlace := ["internal/reflectlite.ValueOf", "(internal/reflectlite.Value).Type", "(internal/reflectlite.Value).IsNil", "internal/reflectlite.TypeOf", "(internal/reflectlite.Value).Elem", "(internal/reflectlite.Value).Set"], unfollowed := true, recurses := true, named := ["errors.errorType"], apart := false, laid := [("errors.errorType", laid_errors_errorType)] }
def SymbolSumsSaid : Prop := symbolSumsRow.holds Tryd.pinned (OpenSpec.ofChange symbolSumsSpec)

/-- ITS FALSE NEIGHBOUR: 'it returns false'. Refute it at one input. -/
def symbolSumsWrong : ChangeSpec := { name := "symbolSums", fn := fun _ => fun
  | [d1, d2] => { results := [.lit (.bool false)], args := [d1, d2] }
  | _ => none }
def SymbolSumsWrongFalsely : Prop := symbolSumsRow.holds Tryd.pinned (OpenSpec.ofChange symbolSumsWrong)

/-- 'geyserlaw04.SymbolXors': WHATEVER THE INPUT: true; the input reads as it did. -/
def symbolXorsSpec : ChangeSpec := { name := "symbolXors", fn := fun _ => fun
  | [d1, d2] => { results := [.lit (.bool true)], args := [d1, d2] }
  | _ => none }
def symbolXorsRow : OpenClaim := { program := "ytnigpfaecibdfaadoor", sum := "3d36ac44fa955ecf8850b28bbed6147c53b16619e04cd16dc63e9413b34ee294", func := "geyser/geyserlaw04.SymbolXors", spec := "symbolXors", inPlace := ["internal/reflectlite.ValueOf", "(internal/reflectlite.Value).Type", "(internal/reflectlite.Value).IsNil", "internal/reflectlite.TypeOf", "(internal/reflectlite.Value).Elem", "(internal/reflectlite.Value).Set"], unfollowed := true, recurses := true, named := ["errors.errorType"], apart := false, laid := [("errors.errorType", laid_errors_errorType)] }
def SymbolXorsSaid : Prop := symbolXorsRow.holds Tryd.pinned (OpenSpec.ofChange symbolXorsSpec)

/-- ITS FALSE NEIGHBOUR: 'it returns false'. Refute it at one input. -/
def symbolXorsWrong : ChangeSpec := { name := "symbolXors", fn := fun _ => fun
  | [d1, d2] => { results := [.lit (.bool false)], args := [d1, d2] }
  | _ => none }
def SymbolXorsWrongFalsely : Prop := symbolXorsRow.holds Tryd.pinned (OpenSpec.ofChange symbolXorsWrong)

/-- 'geyserlaw04.SymbolSplits': WHATEVER THE INPUT: true; the input reads as it did. -/
def symbolSplitsSpec : ChangeSpec := { name := "symbolSplits", fn := fun _ => fun
  | [d1, d2] => { results := [.lit (.bool true)], args := [d1, d2] }
  | _ => none }
def symbolSplitsRow : OpenClaim := { program := "ytnigpfaecibdfaadoor", sum := "3d36ac44fa955ecf8850b28bbed6147c53b16619e04cd16dc63e9413b34ee294", func := "geyser/geyserlaw04.SymbolSplits", spec := "symbolSplits", inPlace := ["internal/reflectlite.ValueOf", "(internal/reflectlite.Value).Type", "(internal/reflectlite.Value).IsNil", "internal/reflectlite.TypeOf", "(internal/reflectlite.Value).Elem", "(internal/reflectlite.Value).Set"], unfollowed := true, recurses := true, named := ["errors.errorType"], apart := false, laid := [("errors.errorType", laid_errors_errorType)] }
def SymbolSplitsSaid : Prop := symbolSplitsRow.holds Tryd.pinned (OpenSpec.ofChange symbolSplitsSpec)

/-- ITS FALSE NEIGHBOUR: 'it returns false'. Refute it at one input. -/
def symbolSplitsWrong : ChangeSpec := { name := "symbolSplits", fn := fun _ => fun
  | [d1, d2] => { results := [.lit (.bool false)], args := [d1, d2] }
  | _ => none }
def SymbolSplitsWrongFalsely : Prop := symbolSplitsRow.holds Tryd.pinned (OpenSpec.ofChange symbolSplitsWrong)

/-- 'geyserlaw04.SymbolPicks': WHATEVER THE INPUT: true; the input reads as it did. -/
def symbolPicksSpec : ChangeSpec := { name := "symbolPicks", fn := fun _ => fun
  | [d1, d2, d3] => { results := [.lit (.bool true)], args := [d1, d2, d3] }
  | _ => none }
def symbolPicksRow : OpenClaim := { program := "ytnigpfaecibdfaadoor", sum := "3d36ac44fa955ecf8850b28bbed6147c53b16619e04cd16dc63e9413b34ee294", func := "geyser/geyserlaw04.SymbolPicks", spec := "symbolPicks", inPlace := ["internal/reflectlite.ValueOf", "(internal/reflectlite.Value).Type", "(internal/reflectlite.Value).IsNil", "internal/reflectlite.TypeOf", "(internal/reflectlite.Value).Elem", "(internal/reflectlite.Value).Set"], unfollowed := true, recurses := true, named := ["errors.errorType"], apart := false, laid := [("errors.errorType", laid_errors_errorType)] }
def SymbolPicksSaid : Prop := symbolPicksRow.holds Tryd.pinned (OpenSpec.ofChange symbolPicksSpec)

/-- ITS FALSE NEIGHBOUR: 'it returns false'. Refute it at one input. -/
def symbolPicksWrong : ChangeSpec := { name := "symbolPicks", fn := fun _ => fun
  | [d1, d2, d3] => { results := [.lit (.bool false)], args := [d1, d2, d3] }
  | _ => none }
def SymbolPicksWrongFalsely : Prop := symbolPicksRow.holds Tryd.pinned (OpenSpec.ofChange symbolPicksWrong)

/-- 'geyserlaw02.PackedPacks': WHATEVER THE INPUT: true; the input reads as it did. -/
def packedPacksSpec : ChangeSpec := { name := "packedPacks", fn := fun _ => fun
  | [d1, d2] => { results := [.lit (.bool true)], args := [d1, d2] }
  | _ => none }
def packedPacksRow : OpenClaim := { program := "ytnigpfaecibdfaadoor", sum := "3d36ac44fa955ecf8850b28bbed6147c53b16619e04cd16dc63e9413b34ee294", func := "geyser/geyserlaw02.PackedPacks", spec := "packedPacks", inPlace := ["internal/reflectlite.ValueOf", "(internal/reflectlite.Value).Type", "(internal/reflectlite.Value).IsNil", "internal/reflectlite.TypeOf", "(internal/reflectlite.Value).Elem", "(internal/reflectlite.Value).Set"], unfollowed := true, recurses := true, named := ["math/bits.deBruijn64tab", "errors.errorType"], apart := false, laid := [("math/bits.deBruijn64tab", laid_math_bits_deBruijn64tab), ("errors.errorType", laid_errors_errorType)] }
def PackedPacksSaid : Prop := packedPacksRow.holds Tryd.pinned (OpenSpec.ofChange packedPacksSpec)

/-- ITS FALSE NEIGHBOUR: 'it returns false'. Refute it at one input. -/
def packedPacksWrong : ChangeSpec := { name := "packedPacks", fn := fun _ => fun
  | [d1, d2] => { results := [.lit (.bool false)], args := [d1, d2] }
  | _ => none }
def PackedPacksWrongFalsely : Prop := packedPacksRow.holds Tryd.pinned (OpenSpec.ofChange packedPacksWrong)

/-- 'geyserlaw02.PackedXors': WHATEVER THE INPUT: true; the input reads as it did. -/
def packedXorsSpec : ChangeSpec := { name := "packedXors", fn := fun _ => fun
  | [d1, d2] => { results := [.lit (.bool true)], args := [d1, d2] }
  | _ => none }
def packedXorsRow : OpenClaim := { program := "ytnigpfaecibdfaadoor", sum := "3d36ac44fa955ecf8850b28bbed6147c53b16619e04cd16dc63e9413b34ee294", func := "geyser/geyserlaw02.PackedXors", spec := "packedXors", inPlace := ["internal/reflectlite.ValueOf", "(internal/reflectlite.Value).Type", "(internal/reflectlite.Value).IsNil", "internal/reflectlite.TypeOf", "(internal/reflectlite.Value).Elem", "(internal/reflectlite.Value).Set"], unfollowed := true, recurses := true, named := ["errors.errorType", "math/bits.deBruijn64tab"], apart := false, laid := [("math/bits.deBruijn64tab", laid_math_bits_deBruijn64tab), ("errors.errorType", laid_errors_errorType)] }
def PackedXorsSaid : Prop := packedXorsRow.holds Tryd.pinned (OpenSpec.ofChange packedXorsSpec)

/-- ITS FALSE NEIGHBOUR: 'it returns false'. Refute it at one input. -/
def packedXorsWrong : ChangeSpec := { name := "packedXors", fn := fun _ => fun
  | [d1, d2] => { results := [.lit (.bool false)], args := [d1, d2] }
  | _ => none }
def PackedXorsWrongFalsely : Prop := packedXorsRow.holds Tryd.pinned (OpenSpec.ofChange packedXorsWrong)

/- THE SECOND FORM. 'bulk': how many values and letters a reading holds, each counted each time it is reached (what is shared counts as often as it is met; a slice's spare places count too). A statement '..UptoSaid' is the law's where the arguments, and the package variables that the reading takes, are together of bulk at most 1048576: NARROWER than '..Said'. Prove '..Said' where nothing that the law and all that it calls make is longer than what came in: it says more and counts as full. Else prove '..UptoSaid'. A law counts once. -/
mutual
def uptoBulk {H : Type} : DataW H → Nat
  | .lit (.string bytes) => bytes.length + 1
  | .lit _ => 1
  | .nil => 1
  | .ptr d => uptoBulk d + 1
  | .slice elems spare => uptoBulkAll elems + uptoBulkAll spare + 1
  | .agg parts => uptoBulkAll parts + 1
  | .iface _ d => uptoBulk d + 1
  | .map entries => uptoBulkEntries entries + 1
  | .held _ => 1
def uptoBulkAll {H : Type} : List (DataW H) → Nat
  | [] => 0
  | d :: r => uptoBulk d + uptoBulkAll r
def uptoBulkEntries {H : Type} : List (Lit × DataW H) → Nat
  | [] => 0
  | x :: r => uptoBulkEntry x + uptoBulkEntries r
def uptoBulkEntry {H : Type} : Lit × DataW H → Nat
  | (.string bytes, d) => bytes.length + uptoBulk d + 1
  | (_, d) => uptoBulk d + 1
 end
def uptoSmall : (H : Type) → List (DataW H) → Bool := fun _ ds => decide (uptoBulkAll ds ≤ 1048576)
def OpenSpec.upto (s : _root_.Go.ChangeSpec) : _root_.Go.OpenSpec := { _root_.Go.OpenSpec.ofChange s with cond := some uptoSmall }

/-- 'geyserlaw02.PackedUnpacks', WHERE WHAT IT READS IS OF BULK AT MOST 1048576: true; the input reads as it did. -/
def packedUnpacksUptoRow : OpenClaim := { program := "ytnigpfaecibdfaadoor", sum := "3d36ac44fa955ecf8850b28bbed6147c53b16619e04cd16dc63e9413b34ee294", func := "geyser/geyserlaw02.PackedUnpacks", spec := "packedUnpacks", named := ["math/bits.deBruijn64tab"], apart := false, laid := [("math/bits.deBruijn64tab", laid_math_bits_deBruijn64tab)], narrowed := true }
def PackedUnpacksUptoSaid : Prop := packedUnpacksUptoRow.holds Tryd.pinned (OpenSpec.upto packedUnpacksSpec)

/-- 'geyserlaw02.PackedBack', WHERE WHAT IT READS IS OF BULK AT MOST 1048576: true; the input reads as it did. -/
def packedBackUptoRow : OpenClaim := { program := "ytnigpfaecibdfaadoor", sum := "3d36ac44fa955ecf8850b28bbed6147c53b16619e04cd16dc63e9413b34ee294", func := "geyser/geyserlaw02.PackedBack", spec := "packedBack", named := ["math/bits.deBruijn64tab"], apart := false, laid := [("math/bits.deBruijn64tab", laid_math_bits_deBruijn64tab)], narrowed := true }
def PackedBackUptoSaid : Prop := packedBackUptoRow.holds Tryd.pinned (OpenSpec.upto packedBackSpec)

/-- 'geyserlaw02.PackedTwice', WHERE WHAT IT READS IS OF BULK AT MOST 1048576: true; the input reads as it did. -/
def packedTwiceUptoRow : OpenClaim := { program := "ytnigpfaecibdfaadoor", sum := "3d36ac44fa955ecf8850b28bbed6147c53b16619e04cd16dc63e9413b34ee294", func := "geyser/geyserlaw02.PackedTwice", spec := "packedTwice", named := ["math/bits.deBruijn64tab"], apart := false, laid := [("math/bits.deBruijn64tab", laid_math_bits_deBruijn64tab)], narrowed := true }
def PackedTwiceUptoSaid : Prop := packedTwiceUptoRow.holds Tryd.pinned (OpenSpec.upto packedTwiceSpec)

/-- 'geyserlaw02.PackedOdd', WHERE WHAT IT READS IS OF BULK AT MOST 1048576: true; the input reads as it did. -/
def packedOddUptoRow : OpenClaim := { program := "ytnigpfaecibdfaadoor", sum := "3d36ac44fa955ecf8850b28bbed6147c53b16619e04cd16dc63e9413b34ee294", func := "geyser/geyserlaw02.PackedOdd", spec := "packedOdd", named := ["math/bits.deBruijn64tab"], apart := false, laid := [("math/bits.deBruijn64tab", laid_math_bits_deBruijn64tab)], narrowed := true }
def PackedOddUptoSaid : Prop := packedOddUptoRow.holds Tryd.pinned (OpenSpec.upto packedOddSpec)

/-- 'geyserlaw04.SymbolSums', WHERE WHAT IT READS IS OF BULK AT MOST 1048576: true; the input reads as it did. -/
def symbolSumsUptoRow : OpenClaim := { program := "ytnigpfaecibdfaadoor", sum := "3d36ac44fa955ecf8850b28bbed6147c53b16619e04cd16dc63e9413b34ee294", func := "geyser/geyserlaw04.SymbolSums", spec := "symbolSums", inPlace := ["internal/reflectlite.ValueOf", "(internal/reflectlite.Value).Type", "(internal/reflectlite.Value).IsNil", "internal/reflectlite.TypeOf", "(internal/reflectlite.Value).Elem", "(internal/reflectlite.Value).Set"], unfollowed := true, recurses := true, named := ["errors.errorType"], apart := false, laid := [("errors.errorType", laid_errors_errorType)], narrowed := true }
def SymbolSumsUptoSaid : Prop := symbolSumsUptoRow.holds Tryd.pinned (OpenSpec.upto symbolSumsSpec)

/-- 'geyserlaw04.SymbolXors', WHERE WHAT IT READS IS OF BULK AT MOST 1048576: true; the input reads as it did. -/
def symbolXorsUptoRow : OpenClaim := { program := "ytnigpfaecibdfaadoor", sum := "3d36ac44fa955ecf8850b28bbed6147c53b16619e04cd16dc63e9413b34ee294", func := "geyser/geyserlaw04.SymbolXors", spec := "symbolXors", inPlace := ["internal/reflectlite.ValueOf", "(internal/reflectlite.Value).Type", "(internal/reflectlite.Value).IsNil", "internal/reflectlite.TypeOf", "(internal/reflectlite.Value).Elem", "(internal/reflectlite.Value).Set"], unfollowed := true, recurses := true, named := ["errors.errorType"], apart := false, laid := [("errors.errorType", laid_errors_errorType)], narrowed := true }
def SymbolXorsUptoSaid : Prop := symbolXorsUptoRow.holds Tryd.pinned (OpenSpec.upto symbolXorsSpec)

/-- 'geyserlaw04.SymbolSplits', WHERE WHAT IT READS IS OF BULK AT MOST 1048576: true; the input reads as it did. -/
def symbolSplitsUptoRow : OpenClaim := { program := "ytnigpfaecibdfaadoor", sum := "3d36ac44fa955ecf8850b28bbed6147c53b16619e04cd16dc63e9413b34ee294", func := "geyser/geyserlaw04.SymbolSplits", spec := "symbolSplits", inPlace := ["internal/reflectlite.ValueOf", "(internal/reflectlite.Value).Type", "(internal/reflectlite.Value).IsNil", "internal/reflectlite.TypeOf", "(internal/reflectlite.Value).Elem", "(internal/reflectlite.Value).Set"], unfollowed := true, recurses := true, named := ["errors.errorType"], apart := false, laid := [("errors.errorType", laid_errors_errorType)], narrowed := true }
def SymbolSplitsUptoSaid : Prop := symbolSplitsUptoRow.holds Tryd.pinned (OpenSpec.upto symbolSplitsSpec)

/-- 'geyserlaw04.SymbolPicks', WHERE WHAT IT READS IS OF BULK AT MOST 1048576: true; the input reads as it did. -/
def symbolPicksUptoRow : OpenClaim := { program := "ytnigpfaecibdfaadoor", sum := "3d36ac44fa955ecf8850b28bbed6147c53b16619e04cd16dc63e9413b34ee294", func := "geyser/geyserlaw04.SymbolPicks", spec := "symbolPicks", inPlace := ["internal/reflectlite.ValueOf", "(internal/reflectlite.Value).Type", "(internal/reflectlite.Value).IsNil", "internal/reflectlite.TypeOf", "(internal/reflectlite.Value).Elem", "(internal/reflectlite.Value).Set"], unfollowed := true, recurses := true, named := ["errors.errorType"], apart := false, laid := [("errors.errorType", laid_errors_errorType)], narrowed := true }
def SymbolPicksUptoSaid : Prop := symbolPicksUptoRow.holds Tryd.pinned (OpenSpec.upto symbolPicksSpec)

/-- 'geyserlaw02.PackedPacks', WHERE WHAT IT READS IS OF BULK AT MOST 1048576: true; the input reads as it did. -/
def packedPacksUptoRow : OpenClaim := { program := "ytnigpfaecibdfaadoor", sum := "3d36ac44fa955ecf8850b28bbed6147c53b16619e04cd16dc63e9413b34ee294", func := "geyser/geyserlaw02.PackedPacks", spec := "packedPacks", inPlace := ["internal/reflectlite.ValueOf", "(internal/reflectlite.Value).Type", "(internal/reflectlite.Value).IsNil", "internal/reflectlite.TypeOf", "(internal/reflectlite.Value).Elem", "(internal/reflectlite.Value).Set"], unfollowed := true, recurses := true, named := ["math/bits.deBruijn64tab", "errors.errorType"], apart := false, laid := [("math/bits.deBruijn64tab", laid_math_bits_deBruijn64tab), ("errors.errorType", laid_errors_errorType)], narrowed := true }
def PackedPacksUptoSaid : Prop := packedPacksUptoRow.holds Tryd.pinned (OpenSpec.upto packedPacksSpec)

/-- 'geyserlaw02.PackedXors', WHERE WHAT IT READS IS OF BULK AT MOST 1048576: true; the input reads as it did. -/
def packedXorsUptoRow : OpenClaim := { program := "ytnigpfaecibdfaadoor", sum := "3d36ac44fa955ecf8850b28bbed6147c53b16619e04cd16dc63e9413b34ee294", func := "geyser/geyserlaw02.PackedXors", spec := "packedXors", inPlace := ["internal/reflectlite.ValueOf", "(internal/reflectlite.Value).Type", "(internal/reflectlite.Value).IsNil", "internal/reflectlite.TypeOf", "(internal/reflectlite.Value).Elem", "(internal/reflectlite.Value).Set"], unfollowed := true, recurses := true, named := ["errors.errorType", "math/bits.deBruijn64tab"], apart := false, laid := [("math/bits.deBruijn64tab", laid_math_bits_deBruijn64tab), ("errors.errorType", laid_errors_errorType)], narrowed := true }
def PackedXorsUptoSaid : Prop := packedXorsUptoRow.holds Tryd.pinned (OpenSpec.upto packedXorsSpec)

end Rows
end Go.Proofs.YtnigpfaecibdfaaDoor
