/-
  NARROWER THAN 'FOR EVERY INPUT', by the rows' own cells (each row's printed sentence says how): ElimOrder: laid · ElimRanks: laid · ElimTrue: laid · ElimSums: laid · ElimPlays: laid · ElimNil: laid.
  DERIVED. THE GIVEN ROWS OF THIS SEAT. 6 by the template 'for every input the law returns true; each argument reads behind the call as it read before'; 0 by the template 'total and deterministic' (their statements: YtjmgkknbgffbjaaDoorTotals.lean).
  GIVEN WITH THE SEED: the statements are not yours to turn. If you find one false, say at which input.
  Laid BY PROGRAM, IN A SANDBOX (cutbox-rows.mjs): the forced cells as the released guide's own fill.sh prints them over the translation 9f1725ec1259b20b… (all of the seat's roots in one cut). By AI agents, Wed Nov 11 2026. No macro, syntax, notation, axiom, sorry.
-/
import Derived.Test.YtjmgkknbgffbjaaDoorChecked
import GoSem.Claim
import GoSem.ClaimJoined
import GoSem.ClaimMapViews
import Derived.JoinedTies
import Derived.KernelRfl
namespace Go.Proofs.YtjmgkknbgffbjaaDoor
/- THE CELL 'sum', in the pinned program and in every row, IS THE sha256 OF THE DUMP (.gsa) THAT YtjmgkknbgffbjaaDoorProg.lean LOADS. Nothing in Lean hashes anything: it is a label: what it is worth is what the hold of that sum in a sandbox is worth. -/
noncomputable def Tryd.pinned : Pinned := { name := "ytjmgkknbgffbjaadoor", sum := "9f1725ec1259b20b351c35aa8649ad6e6968638de67f0a531540119d2a6e894d", checked := Tryd.checked }
namespace Rows
def none {H : Type} : Left H := { results := [], args := [] }

/- WHAT THE LISTED PACKAGE-LEVEL VARIABLES READ AS WHEN THE CALL BEGINS. Each datum BY PROGRAM (the guide's laid-datum.mjs) off the statement by which the dump's own 'gosem.cut.vars' lays the variable. In a bare row this is a premise. The card (YtjmgkknbgffbjaaDoorCards.lean) ties it to the program's text. -/
def laid_math_bits_deBruijn64tab {H : Type} : DataW H := .agg [.lit (.int .u8 0), .lit (.int .u8 1), .lit (.int .u8 56), .lit (.int .u8 2), .lit (.int .u8 57), .lit (.int .u8 49), .lit (.int .u8 28), .lit (.int .u8 3), .lit (.int .u8 61), .lit (.int .u8 58), .lit (.int .u8 42), .lit (.int .u8 50), .lit (.int .u8 38), .lit (.int .u8 29), .lit (.int .u8 17), .lit (.int .u8 4), .lit (.int .u8 62), .lit (.int .u8 47), .lit (.int .u8 59), .lit (.int .u8 36), .lit (.int .u8 45), .lit (.int .u8 43), .lit (.int .u8 51), .lit (.int .u8 22), .lit (.int .u8 53), .lit (.int .u8 39), .lit (.int .u8 33), .lit (.int .u8 30), .lit (.int .u8 24), .lit (.int .u8 18), .lit (.int .u8 12), .lit (.int .u8 5), .lit (.int .u8 63), .lit (.int .u8 55), .lit (.int .u8 48), .lit (.int .u8 27), .lit (.int .u8 60), .lit (.int .u8 41), .lit (.int .u8 37), .lit (.int .u8 16), .lit (.int .u8 46), .lit (.int .u8 35), .lit (.int .u8 44), .lit (.int .u8 21), .lit (.int .u8 52), .lit (.int .u8 32), .lit (.int .u8 23), .lit (.int .u8 11), .lit (.int .u8 54), .lit (.int .u8 26), .lit (.int .u8 40), .lit (.int .u8 15), .lit (.int .u8 34), .lit (.int .u8 20), .lit (.int .u8 31), .lit (.int .u8 10), .lit (.int .u8 25), .lit (.int .u8 14), .lit (.int .u8 19), .lit (.int .u8 9), .lit (.int .u8 13), .lit (.int .u8 8), .lit (.int .u8 7), .lit (.int .u8 6)]
def laid_errors_errorType {H : Type} : DataW H := .iface "internal/reflectlite.rtype" (.agg [.ptr (.lit (.string [101, 114, 114, 111, 114]))])

/-- 'geyserlaw05.ElimOrder': WHATEVER THE INPUT: true; the input reads as it did. -/
def elimOrderSpec : ChangeSpec := { name := "elimOrder", fn := fun _ => fun
  | [d1, d2] => { results := [.lit (.bool true)], args := [d1, d2] }
  | _ => none }
def elimOrderRow : OpenClaim := { program := "ytjmgkknbgffbjaadoor", sum := "9f1725ec1259b20b351c35aa8649ad6e6968638de67f0a531540119d2a6e894d", func := "geyser/geyserlaw05.ElimOrder", spec := "elimOrder", named := ["math/bits.deBruijn64tab"], apart := false, laid := [("math/bits.deBruijn64tab", laid_math_bits_deBruijn64tab)] }
def ElimOrderSaid : Prop := elimOrderRow.holds Tryd.pinned (OpenSpec.ofChange elimOrderSpec)

/-- ITS FALSE NEIGHBOUR: 'it returns false'. Refute it at one input. -/
def elimOrderWrong : ChangeSpec := { name := "elimOrder", fn := fun _ => fun
  | [d1, d2] => { results := [.lit (.bool false)], args := [d1, d2] }
  | _ => none }
def ElimOrderWrongFalsely : Prop := elimOrderRow.holds Tryd.pinned (OpenSpec.ofChange elimOrderWrong)

/-- 'geyserlaw05.ElimRanks': WHATEVER THE INPUT: true; the input reads as it did. -/
def elimRanksSpec : ChangeSpec := { name := "elimRanks", fn := fun _ => fun
  | [d] => { results := [.lit (.bool true)], args := [d] }
  | _ => none }
def elimRanksRow : OpenClaim := { program := "ytjmgkknbgffbjaadoor", sum := "9f1725ec1259b20b351c35aa8649ad6e6968638de67f0a531540119d2a6e894d", func := "geyser/geyserlaw05.ElimRanks", spec := "elimRanks", named := ["math/bits.deBruijn64tab"], apart := false, laid := [("math/bits.deBruijn64tab", laid_math_bits_deBruijn64tab)] }
def ElimRanksSaid : Prop := elimRanksRow.holds Tryd.pinned (OpenSpec.ofChange elimRanksSpec)

/-- ITS FALSE NEIGHBOUR: 'it returns false'. Refute it at one input. -/
def elimRanksWrong : ChangeSpec := { name := "elimRanks", fn := fun _ => fun
  | [d] => { results := [.lit (.bool false)], args := [d] }
  | _ => none }
def ElimRanksWrongFalsely : Prop := elimRanksRow.holds Tryd.pinned (OpenSpec.ofChange elimRanksWrong)

/-- 'geyserlaw05.ElimTrue': WHATEVER THE INPUT: true; the input reads as it did. -/
def elimTrueSpec : ChangeSpec := { name := "elimTrue", fn := fun _ => fun
  | [d] => { results := [.lit (.bool true)], args := [d] }
  | _ => none }
def elimTrueRow : OpenClaim := { program := "ytjmgkknbgffbjaadoor", sum := "9f1725ec1259b20b351c35aa8649ad6e6968638de67f0a531540119d2a6e894d", func := "geyser/geyserlaw05.ElimTrue", spec := "elimTrue", named := ["math/bits.deBruijn64tab"], apart := false, laid := [("math/bits.deBruijn64tab", laid_math_bits_deBruijn64tab)] }
def ElimTrueSaid : Prop := elimTrueRow.holds Tryd.pinned (OpenSpec.ofChange elimTrueSpec)

/-- ITS FALSE NEIGHBOUR: 'it returns false'. Refute it at one input. -/
def elimTrueWrong : ChangeSpec := { name := "elimTrue", fn := fun _ => fun
  | [d] => { results := [.lit (.bool false)], args := [d] }
  | _ => none }
def ElimTrueWrongFalsely : Prop := elimTrueRow.holds Tryd.pinned (OpenSpec.ofChange elimTrueWrong)

/-- 'geyserlaw05.ElimSums': WHATEVER THE INPUT: true; the input reads as it did. -/
def elimSumsSpec : ChangeSpec := { name := "elimSums", fn := fun _ => fun
  | [d1, d2, d3] => { results := [.lit (.bool true)], args := [d1, d2, d3] }
  | _ => none }
def elimSumsRow : OpenClaim := { program := "ytjmgkknbgffbjaadoor", sum := "9f1725ec1259b20b351c35aa8649ad6e6968638de67f0a531540119d2a6e894d", func := "geyser/geyserlaw05.ElimSums", spec := "elimSums", inPlace := ["internal/reflectlite.ValueOf", "(internal/reflectlite.Value).Type", "(internal/reflectlite.Value).IsNil", "internal/reflectlite.TypeOf", "(internal/reflectlite.Value).Elem", "(internal/reflectlite.Value).Set"], unfollowed := true, recurses := true, named := ["math/bits.deBruijn64tab", "errors.errorType"], apart := false, laid := [("math/bits.deBruijn64tab", laid_math_bits_deBruijn64tab), ("errors.errorType", laid_errors_errorType)] }
def ElimSumsSaid : Prop := elimSumsRow.holds Tryd.pinned (OpenSpec.ofChange elimSumsSpec)

/-- ITS FALSE NEIGHBOUR: 'it returns false'. Refute it at one input. -/
def elimSumsWrong : ChangeSpec := { name := "elimSums", fn := fun _ => fun
  | [d1, d2, d3] => { results := [.lit (.bool false)], args := [d1, d2, d3] }
  | _ => none }
def ElimSumsWrongFalsely : Prop := elimSumsRow.holds Tryd.pinned (OpenSpec.ofChange elimSumsWrong)

/-- 'geyserlaw05.ElimPlays': WHATEVER THE INPUT: true; the input reads as it did. -/
def elimPlaysSpec : ChangeSpec := { name := "elimPlays", fn := fun _ => fun
  | [d1, d2] => { results := [.lit (.bool true)], args := [d1, d2] }
  | _ => none }
def elimPlaysRow : OpenClaim := { program := "ytjmgkknbgffbjaadoor", sum := "9f1725ec1259b20b351c35aa8649ad6e6968638de67f0a531540119d2a6e894d", func := "geyser/geyserlaw05.ElimPlays", spec := "elimPlays", inPlace := ["internal/reflectlite.ValueOf", "(internal/reflectlite.Value).Type", "(internal/reflectlite.Value).IsNil", "internal/reflectlite.TypeOf", "(internal/reflectlite.Value).Elem", "(internal/reflectlite.Value).Set"], unfollowed := true, recurses := true, named := ["math/bits.deBruijn64tab", "errors.errorType"], apart := false, laid := [("math/bits.deBruijn64tab", laid_math_bits_deBruijn64tab), ("errors.errorType", laid_errors_errorType)] }
def ElimPlaysSaid : Prop := elimPlaysRow.holds Tryd.pinned (OpenSpec.ofChange elimPlaysSpec)

/-- ITS FALSE NEIGHBOUR: 'it returns false'. Refute it at one input. -/
def elimPlaysWrong : ChangeSpec := { name := "elimPlays", fn := fun _ => fun
  | [d1, d2] => { results := [.lit (.bool false)], args := [d1, d2] }
  | _ => none }
def ElimPlaysWrongFalsely : Prop := elimPlaysRow.holds Tryd.pinned (OpenSpec.ofChange elimPlaysWrong)

/-- 'geyserlaw05.ElimNil': WHATEVER THE INPUT: true; the input reads as it did. -/
def elimNilSpec : ChangeSpec := { name := "elimNil", fn := fun _ => fun
  | [d1, d2] => { results := [.lit (.bool true)], args := [d1, d2] }
  | _ => none }
def elimNilRow : OpenClaim := { program := "ytjmgkknbgffbjaadoor", sum := "9f1725ec1259b20b351c35aa8649ad6e6968638de67f0a531540119d2a6e894d", func := "geyser/geyserlaw05.ElimNil", spec := "elimNil", inPlace := ["internal/reflectlite.ValueOf", "(internal/reflectlite.Value).Type", "(internal/reflectlite.Value).IsNil", "internal/reflectlite.TypeOf", "(internal/reflectlite.Value).Elem", "(internal/reflectlite.Value).Set"], unfollowed := true, recurses := true, named := ["math/bits.deBruijn64tab", "errors.errorType"], apart := false, laid := [("math/bits.deBruijn64tab", laid_math_bits_deBruijn64tab), ("errors.errorType", laid_errors_errorType)] }
def ElimNilSaid : Prop := elimNilRow.holds Tryd.pinned (OpenSpec.ofChange elimNilSpec)

/-- ITS FALSE NEIGHBOUR: 'it returns false'. Refute it at one input. -/
def elimNilWrong : ChangeSpec := { name := "elimNil", fn := fun _ => fun
  | [d1, d2] => { results := [.lit (.bool false)], args := [d1, d2] }
  | _ => none }
def ElimNilWrongFalsely : Prop := elimNilRow.holds Tryd.pinned (OpenSpec.ofChange elimNilWrong)

/- THE SECOND FORM. 'bulk': how many values and letters a reading holds, each counted each time it is reached (what is shared counts as often as it is met; a slice's spare places count too). A statement '..UptoSaid' is the law's where the arguments, and the package variables that the reading takes, are together of bulk at most 1048576: NARROWER than '..Said'. Prove '..Said' where nothing that the law and all that it calls make is longer than what came in: it says more and counts as full. Else prove '..UptoSaid'. A law counts once. -/
mutual
def uptoBulk {H : Type} : DataW H → Nat
  | .lit (.string bytes) => bytes.length + 1
  | .lit _ => 1
  | .nil => 1
  | .ptr d => uptoBulk d + 1
  | .slice elems spare => uptoBulkAll elems + uptoBulkAll spare + 1
  | .agg parts => uptoBulkAll parts + 1
  | .iface _ d => uptoBulk d + 1
  | .map entries => uptoBulkEntries entries + 1
  | .held _ => 1
def uptoBulkAll {H : Type} : List (DataW H) → Nat
  | [] => 0
  | d :: r => uptoBulk d + uptoBulkAll r
def uptoBulkEntries {H : Type} : List (Lit × DataW H) → Nat
  | [] => 0
  | x :: r => uptoBulkEntry x + uptoBulkEntries r
def uptoBulkEntry {H : Type} : Lit × DataW H → Nat
  | (.string bytes, d) => bytes.length + uptoBulk d + 1
  | (_, d) => uptoBulk d + 1
 end
def uptoSmall : (H : Type) → List (DataW H) → Bool := fun _ ds => decide (uptoBulkAll ds ≤ 1048576)
def OpenSpec.upto (s : _root_.Go.ChangeSpec) : _root_.Go.OpenSpec := { _root_.Go.OpenSpec.ofChange s with cond := some uptoSmall }

/-- 'geyserlaw05.ElimOrder', WHERE WHAT IT READS IS OF BULK AT MOST 1048576: true; the input reads as it did. -/
def elimOrderUptoRow : OpenClaim := { program := "ytjmgkknbgffbjaadoor", sum := "9f1725ec1259b20b351c35aa8649ad6e6968638de67f0a531540119d2a6e894d", func := "geyser/geyserlaw05.ElimOrder", spec := "elimOrder", named := ["math/bits.deBruijn64tab"], apart := false, laid := [("math/bits.deBruijn64tab", laid_math_bits_deBruijn64tab)], narrowed := true }
def ElimOrderUptoSaid : Prop := elimOrderUptoRow.holds Tryd.pinned (OpenSpec.upto elimOrderSpec)

/-- 'geyserlaw05.ElimRanks', WHERE WHAT IT READS IS OF BULK AT MOST 1048576: true; the input reads as it did. -/
def elimRanksUptoRow : OpenClaim := { program := "ytjmgkknbgffbjaadoor", sum := "9f1725ec1259b20b351c35aa8649ad6e6968638de67f0a531540119d2a6e894d", func := "geyser/geyserlaw05.ElimRanks", spec := "elimRanks", named := ["math/bits.deBruijn64tab"], apart := false, laid := [("math/bits.deBruijn64tab", laid_math_bits_deBruijn64tab)], narrowed := true }
def ElimRanksUptoSaid : Prop := elimRanksUptoRow.holds Tryd.pinned (OpenSpec.upto elimRanksSpec)

/-- 'geyserlaw05.ElimTrue', WHERE WHAT IT READS IS OF BULK AT MOST 1048576: true; the input reads as it did. -/
def elimTrueUptoRow : OpenClaim := { program := "ytjmgkknbgffbjaadoor", sum := "9f1725ec1259b20b351c35aa8649ad6e6968638de67f0a531540119d2a6e894d", func := "geyser/geyserlaw05.ElimTrue", spec := "elimTrue", named := ["math/bits.deBruijn64tab"], apart := false, laid := [("math/bits.deBruijn64tab", laid_math_bits_deBruijn64tab)], narrowed := true }
def ElimTrueUptoSaid : Prop := elimTrueUptoRow.holds Tryd.pinned (OpenSpec.upto elimTrueSpec)

/-- 'geyserlaw05.ElimSums', WHERE WHAT IT READS IS OF BULK AT MOST 1048576: true; the input reads as it did. -/
def elimSumsUptoRow : OpenClaim := { program := "ytjmgkknbgffbjaadoor", sum := "9f1725ec1259b20b351c35aa8649ad6e6968638de67f0a531540119d2a6e894d", func := "geyser/geyserlaw05.ElimSums", spec := "elimSums", inPlace := ["internal/reflectlite.ValueOf", "(internal/reflectlite.Value).Type", "(internal/reflectlite.Value).IsNil", "internal/reflectlite.TypeOf", "(internal/reflectlite.Value).Elem", "(internal/reflectlite.Value).Set"], unfollowed := true, recurses := true, named := ["math/bits.deBruijn64tab", "errors.errorType"], apart := false, laid := [("math/bits.deBruijn64tab", laid_math_bits_deBruijn64tab), ("errors.errorType", laid_errors_errorType)], narrowed := true }
def ElimSumsUptoSaid : Prop := elimSumsUptoRow.holds Tryd.pinned (OpenSpec.upto elimSumsSpec)

/-- 'geyserlaw05.ElimPlays', WHERE WHAT IT READS IS OF BULK AT MOST 1048576: true; the input reads as it did. -/
def elimPlaysUptoRow : OpenClaim := { program := "ytjmgkknbgffbjaadoor", sum := "9f1725ec1259b20b351c35aa8649ad6e6968638de67f0a531540119d2a6e894d", func := "geyser/geyserlaw05.ElimPlays", spec := "elimPlays", inPlace := ["internal/reflectlite.ValueOf", "(internal/reflectlite.Value).Type", "(internal/reflectlite.Value).IsNil", "internal/reflectlite.TypeOf", "(internal/reflectlite.Value).Elem", "(internal/reflectlite.Value).Set"], unfollowed := true, recurses := true, named := ["math/bits.deBruijn64tab", "errors.errorType"], apart := false, laid := [("math/bits.deBruijn64tab", laid_math_bits_deBruijn64tab), ("errors.errorType", laid_errors_errorType)], narrowed := true }
def ElimPlaysUptoSaid : Prop := elimPlaysUptoRow.holds Tryd.pinned (OpenSpec.upto elimPlaysSpec)

/-- 'geyserlaw05.ElimNil', WHERE WHAT IT READS IS OF BULK AT MOST 1048576: true; the input reads as it did. -/
def elimNilUptoRow : OpenClaim := { program := "ytjmgkknbgffbjaadoor", sum := "9f1725ec1259b20b351c35aa8649ad6e6968638de67f0a531540119d2a6e894d", func := "geyser/geyserlaw05.ElimNil", spec := "elimNil", inPlace := ["internal/reflectlite.ValueOf", "(internal/reflectlite.Value).Type", "(internal/reflectlite.Value).IsNil", "internal/reflectlite.TypeOf", "(internal/reflectlite.Value).Elem", "(internal/reflectlite.Value).Set"], unfollowed := true, recurses := true, named := ["math/bits.deBruijn64tab", "errors.errorType"], apart := false, laid := [("math/bits.deBruijn64tab", laid_math_bits_deBruijn64tab), ("errors.errorType", laid_errors_errorType)], narrowed := true }
def ElimNilUptoSaid : Prop := elimNilUptoRow.holds Tryd.pinned (OpenSpec.upto elimNilSpec)

end Rows
end Go.Proofs.YtjmgkknbgffbjaaDoor
