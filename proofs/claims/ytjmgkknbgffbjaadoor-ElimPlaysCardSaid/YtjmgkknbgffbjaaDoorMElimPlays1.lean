-- joined by join.py: WAs Px0 ElimS Px53 Px54 Px2 ElimA ElimMNew Px3 Px4 ElimMFits Px6 Px7 Px8 Px9 Px10 Px11
import Derived.Test.YtjmgkknbgffbjaaDoorProg
import Derived.WalkKit
import Derived.LaidEql
import Derived.Stop.Asserts
import Derived.RowKitTokens
import Derived.Below
import Derived.Deep.Draws
import Derived.Deep.AppendLies
import Derived.Maps.AppendAt
import Derived.OwnWalk
import Derived.Laws.BytesArg
import Derived.Laws.MakeOwn
import Derived.Laws.OwnMore
import Derived.Deep.OwnRows
import Derived.Tactics
import Derived.Lib.ConvBytes
import Derived.Laws.Slices
import Derived.KernelRfl
import Derived.RowKit3
import Derived.Deep.LoopGhost
import Derived.Deep.QuietTactic
import Derived.BigQuiet
import Derived.WideLaws
import Derived.Deep.DeepCutAuto
import Derived.Deep.CutBlock
import Derived.Deep.RegionHeld3
import Derived.Laws.Rows
import Derived.Lib.AppendStr
import Derived.ArgAppend
import Derived.Laws.IdiomCopy
import Derived.OrdersHeld
import Derived.Laws.BitsLemmas
import Derived.RowKit
import Derived.WalkMore
import Derived.RegionTactic
import Derived.BigRegion
import Derived.Test.YtjmgkknbgffbjaaDoorMElimPlays0
namespace Go.Proofs.YtjmgkknbgffbjaaDoorW.PrintErr
open Go.RowKit Go.Extern.Stop Go.Stop Go.Extern
def ErrIn (w : World) : Prop := w.cell? ⟨0, 0, none⟩ = some (.iface 136 (.agg #[.pointer (some ⟨2, 29, none⟩)]))
theorem ErrIn.below {w W : World} (h : ErrIn w) (hb : Below w.heap.size w W) : ErrIn W := Go.Proofs.YtjmgkknbgffbjaaDoorW.PrintWords.pw_cell_below hb h
theorem ErrIn.drewN {w : World} (h : ErrIn w) (n : Nat) : ErrIn (w.drewN n) := h
theorem ErrIn.drew {w : World} (h : ErrIn w) : ErrIn w.drew := h
theorem valueOfP (t : Addr) (w : World) : (ReflectliteValue.unpack (.iface 92 (.pointer (some t)))).run Tryd.prog w
    = .ok (.agg #[.pointer (some ⟨2, 92, none⟩), .pointer (some ⟨w.heap.size, 0, none⟩), .int .u64 150]) (w.alloc (.cells #[.pointer (some t)] 92)) := by kernel_rfl
theorem valueOfPP (t : Addr) (w : World) : (ReflectliteValue.unpack (.iface 93 (.pointer (some t)))).run Tryd.prog w
    = .ok (.agg #[.pointer (some ⟨2, 93, none⟩), .pointer (some ⟨w.heap.size, 0, none⟩), .int .u64 150]) (w.alloc (.cells #[.pointer (some t)] 93)) := by kernel_rfl
theorem valueOfF (e : Addr) (w : World) : (ReflectliteValue.unpack (.iface 90 (.pointer (some e)))).run Tryd.prog w
    = .ok (.agg #[.pointer (some ⟨2, 90, none⟩), .pointer (some ⟨w.heap.size, 0, none⟩), .int .u64 150]) (w.alloc (.cells #[.pointer (some e)] 90)) := by kernel_rfl
theorem valueOfE (n : Int) (w : World) : (ReflectliteValue.unpack (.iface 71 (.int .i64 n))).run Tryd.prog w
    = .ok (.agg #[.pointer (some ⟨2, 71, none⟩), .pointer (some ⟨w.heap.size, 0, none⟩), .int .u64 130]) (w.alloc (.cells #[.int .i64 n] 71)) := by kernel_rfl
theorem typeP (a : Addr) (w : World) : (ReflectliteValue.methodAny (ReflectliteValue.valueError "reflectlite.Value.Type" 0) (fun t _ _ _ => ReflectliteType.toType t) #[.agg #[.pointer (some ⟨2, 92, none⟩), .pointer (some a), .int .u64 150]]).run Tryd.prog w
    = .ok (.iface 136 (.agg #[.pointer (some ⟨2, 92, none⟩)])) w := by kernel_rfl
theorem typePP (a : Addr) (w : World) : (ReflectliteValue.methodAny (ReflectliteValue.valueError "reflectlite.Value.Type" 0) (fun t _ _ _ => ReflectliteType.toType t) #[.agg #[.pointer (some ⟨2, 93, none⟩), .pointer (some a), .int .u64 150]]).run Tryd.prog w
    = .ok (.iface 136 (.agg #[.pointer (some ⟨2, 93, none⟩)])) w := by kernel_rfl
theorem methodKind (h : Value) (w : World) : (Go.method 280 136 (.agg #[h]) "Kind").run Tryd.prog w = .ok (90, h) w := by kernel_rfl
theorem methodElem (h : Value) (w : World) : (Go.method 280 136 (.agg #[h]) "Elem").run Tryd.prog w = .ok (102, .agg #[h]) w := by kernel_rfl
theorem methodImplements (h : Value) (w : World) : (Go.method 280 136 (.agg #[h]) "Implements").run Tryd.prog w = .ok (103, .agg #[h]) w := by kernel_rfl
theorem methodAssignableTo (h : Value) (w : World) : (Go.method 280 136 (.agg #[h]) "AssignableTo").run Tryd.prog w = .ok (100, .agg #[h]) w := by kernel_rfl
theorem kindP (w : World) : ((ReflectliteType.abiMethod fun t => (fun a : Nat => Value.int IntKind.u8 (a : Int)) <$> Rtype.kind t) #[.pointer (some ⟨2, 92, none⟩)]).run Tryd.prog w = .ok (.int .u8 22) w := by kernel_rfl
theorem kindPP (w : World) : ((ReflectliteType.abiMethod fun t => (fun a : Nat => Value.int IntKind.u8 (a : Int)) <$> Rtype.kind t) #[.pointer (some ⟨2, 93, none⟩)]).run Tryd.prog w = .ok (.int .u8 22) w := by kernel_rfl
theorem kindF (w : World) : ((ReflectliteType.abiMethod fun t => (fun a : Nat => Value.int IntKind.u8 (a : Int)) <$> Rtype.kind t) #[.pointer (some ⟨2, 90, none⟩)]).run Tryd.prog w = .ok (.int .u8 22) w := by kernel_rfl
theorem kindE (w : World) : ((ReflectliteType.abiMethod fun t => (fun a : Nat => Value.int IntKind.u8 (a : Int)) <$> Rtype.kind t) #[.pointer (some ⟨2, 71, none⟩)]).run Tryd.prog w = .ok (.int .u8 2) w := by kernel_rfl
theorem elemP (w : World) : (ReflectliteType.method ReflectliteType.elem #[.agg #[.pointer (some ⟨2, 92, none⟩)]]).run Tryd.prog w = .ok (.iface 136 (.agg #[.pointer (some ⟨2, 71, none⟩)])) w := by kernel_rfl
theorem elemPP (w : World) : (ReflectliteType.method ReflectliteType.elem #[.agg #[.pointer (some ⟨2, 93, none⟩)]]).run Tryd.prog w = .ok (.iface 136 (.agg #[.pointer (some ⟨2, 90, none⟩)])) w := by kernel_rfl
theorem implementsF (w : World) : (ReflectliteType.relation "Implements" ReflectliteType.implements_ #[.agg #[.pointer (some ⟨2, 90, none⟩)], .iface 136 (.agg #[.pointer (some ⟨2, 29, none⟩)])]).run Tryd.prog w = .ok (.bool true) w := by kernel_rfl
theorem implementsE (w : World) : (ReflectliteType.relation "Implements" ReflectliteType.implements_ #[.agg #[.pointer (some ⟨2, 71, none⟩)], .iface 136 (.agg #[.pointer (some ⟨2, 29, none⟩)])]).run Tryd.prog w = .ok (.bool true) w := by kernel_rfl
theorem typeOfF (v : Value) (w : World) : (ReflectliteType.typeOf #[.iface 90 v]).run Tryd.prog w = .ok (.iface 136 (.agg #[.pointer (some ⟨2, 90, none⟩)])) w := by kernel_rfl
theorem typeOfE (v : Value) (w : World) : (ReflectliteType.typeOf #[.iface 71 v]).run Tryd.prog w = .ok (.iface 136 (.agg #[.pointer (some ⟨2, 71, none⟩)])) w := by kernel_rfl
theorem assignFF (w : World) : (ReflectliteType.relation "AssignableTo" ReflectliteType.assignableTo #[.agg #[.pointer (some ⟨2, 90, none⟩)], .iface 136 (.agg #[.pointer (some ⟨2, 90, none⟩)])]).run Tryd.prog w = .ok (.bool true) w := by kernel_rfl
theorem assignFE (w : World) : (ReflectliteType.relation "AssignableTo" ReflectliteType.assignableTo #[.agg #[.pointer (some ⟨2, 90, none⟩)], .iface 136 (.agg #[.pointer (some ⟨2, 71, none⟩)])]).run Tryd.prog w = .ok (.bool false) w := by kernel_rfl
theorem assignEE (w : World) : (ReflectliteType.relation "AssignableTo" ReflectliteType.assignableTo #[.agg #[.pointer (some ⟨2, 71, none⟩)], .iface 136 (.agg #[.pointer (some ⟨2, 71, none⟩)])]).run Tryd.prog w = .ok (.bool true) w := by kernel_rfl
theorem rlm (z : Sem Value) (f : TypeId → Addr → Nat → Nat → Sem Value) (v : Value) :
    ReflectliteValue.method z f #[v] = (do match ← ReflectliteValue.parts v with | none => z | some (t, a, fl) => f t a fl (fl % 32)) := rfl
theorem partsP (a : Addr) (w : World) : (ReflectliteValue.parts (.agg #[.pointer (some ⟨2, 92, none⟩), .pointer (some a), .int .u64 150])).run Tryd.prog w = .ok (some (92, a, 150)) w := by kernel_rfl
theorem partsPP (a : Addr) (w : World) : (ReflectliteValue.parts (.agg #[.pointer (some ⟨2, 93, none⟩), .pointer (some a), .int .u64 150])).run Tryd.prog w = .ok (some (93, a, 150)) w := by kernel_rfl
theorem isNilP (a p : Addr) (W : World) (ha : W.cell? a = some (.pointer (some p))) :
    (ReflectliteValue.method (ReflectliteValue.valueError "reflectlite.Value.IsNil" 0) ReflectliteValue.isNil #[.agg #[.pointer (some ⟨2, 92, none⟩), .pointer (some a), .int .u64 150]]).run Tryd.prog W = .ok (.bool false) W := by
  rw [rlm]
  simp only [Sem.run_bind, partsP, Result.andThen]
  simp [ReflectliteValue.isNil, loadVar, isAgg, underlying, Tryd.underlying92, ha, Result.andThen]
theorem isNilPP (a p : Addr) (W : World) (ha : W.cell? a = some (.pointer (some p))) :
    (ReflectliteValue.method (ReflectliteValue.valueError "reflectlite.Value.IsNil" 0) ReflectliteValue.isNil #[.agg #[.pointer (some ⟨2, 93, none⟩), .pointer (some a), .int .u64 150]]).run Tryd.prog W = .ok (.bool false) W := by
  rw [rlm]
  simp only [Sem.run_bind, partsPP, Result.andThen]
  simp [ReflectliteValue.isNil, loadVar, isAgg, underlying, Tryd.underlying93, ha, Result.andThen]
theorem elemOfP (w : World) : (Rtype.elem? 92).run Tryd.prog w = .ok (some 71) w := by kernel_rfl
theorem elemOfPP (w : World) : (Rtype.elem? 93).run Tryd.prog w = .ok (some 90) w := by kernel_rfl
theorem mkE (p : Addr) (w : World) : (ReflectliteValue.mk 71 p ReflectliteValue.flagAddr).run Tryd.prog w = .ok (.agg #[.pointer (some ⟨2, 71, none⟩), .pointer (some p), .int .u64 386]) w := by kernel_rfl
theorem mkF (p : Addr) (w : World) : (ReflectliteValue.mk 90 p ReflectliteValue.flagAddr).run Tryd.prog w = .ok (.agg #[.pointer (some ⟨2, 90, none⟩), .pointer (some p), .int .u64 406]) w := by kernel_rfl
theorem elemVP (a p : Addr) (W : World) (ha : W.cell? a = some (.pointer (some p))) :
    (ReflectliteValue.method (ReflectliteValue.valueError "reflectlite.Value.Elem" 0) ReflectliteValue.elem #[.agg #[.pointer (some ⟨2, 92, none⟩), .pointer (some a), .int .u64 150]]).run Tryd.prog W
      = .ok (.agg #[.pointer (some ⟨2, 71, none⟩), .pointer (some p), .int .u64 386]) W := by
  rw [rlm]
  simp only [Sem.run_bind, partsP, Result.andThen]
  simp [ReflectliteValue.elem, loadVar, isAgg, underlying, Tryd.underlying92, ha, Result.andThen, elemOfP, mkE]
theorem elemVPP (a p : Addr) (W : World) (ha : W.cell? a = some (.pointer (some p))) :
    (ReflectliteValue.method (ReflectliteValue.valueError "reflectlite.Value.Elem" 0) ReflectliteValue.elem #[.agg #[.pointer (some ⟨2, 93, none⟩), .pointer (some a), .int .u64 150]]).run Tryd.prog W
      = .ok (.agg #[.pointer (some ⟨2, 90, none⟩), .pointer (some p), .int .u64 406]) W := by
  rw [rlm]
  simp only [Sem.run_bind, partsPP, Result.andThen]
  simp [ReflectliteValue.elem, loadVar, isAgg, underlying, Tryd.underlying93, ha, Result.andThen, elemOfPP, mkF]
theorem rls (v x : Value) : ReflectliteValue.set #[v, x] = (do
    let (some (dst, a, fl), some (src, b, _)) := (← ReflectliteValue.parts v, ← ReflectliteValue.parts x)
      | unsupported (.noEntry "extern/(internal/reflectlite.Value).Set.zeroValue")
    if fl / ReflectliteValue.flagAddr % 2 == 0 then unsupported (.noEntry "extern/(internal/reflectlite.Value).Set.unaddressable")
    let val ← loadVar src b
    if ← Rtype.directlyAssignable dst src then storeVar dst a val
    else if ← Rtype.implements dst src then
      if (← Rtype.kind src) == 20 then
        match val with
        | .nilIface => unsupported (.noEntry "extern/reflectlite: a nil value of one interface type handed on as a value of another")
        | _ => storeVar dst a val
      else storeVar dst a (.iface src val)
    else panicString ("reflectlite.Set: value of type " ++ (← Rtype.spelt src) ++ " is not assignable to type " ++ (← Rtype.spelt dst))
    pure (.tuple #[])) := rfl
theorem partsEa (a : Addr) (w : World) : (ReflectliteValue.parts (.agg #[.pointer (some ⟨2, 71, none⟩), .pointer (some a), .int .u64 386])).run Tryd.prog w = .ok (some (71, a, 386)) w := by kernel_rfl
theorem partsE (a : Addr) (w : World) : (ReflectliteValue.parts (.agg #[.pointer (some ⟨2, 71, none⟩), .pointer (some a), .int .u64 130])).run Tryd.prog w = .ok (some (71, a, 130)) w := by kernel_rfl
theorem partsFa (a : Addr) (w : World) : (ReflectliteValue.parts (.agg #[.pointer (some ⟨2, 90, none⟩), .pointer (some a), .int .u64 406])).run Tryd.prog w = .ok (some (90, a, 406)) w := by kernel_rfl
theorem partsF (a : Addr) (w : World) : (ReflectliteValue.parts (.agg #[.pointer (some ⟨2, 90, none⟩), .pointer (some a), .int .u64 150])).run Tryd.prog w = .ok (some (90, a, 150)) w := by kernel_rfl
theorem directF (w : World) : (Rtype.directlyAssignable 90 90).run Tryd.prog w = .ok true w := by kernel_rfl
theorem directE (w : World) : (Rtype.directlyAssignable 71 71).run Tryd.prog w = .ok true w := by kernel_rfl
theorem setF (ta b e : Addr) (old : Value) (W : World) (hb : W.cell? b = some (.pointer (some e))) (ht : W.cell? ta = some old) (hf : W.frozen? ta = false) :
    (ReflectliteValue.set #[.agg #[.pointer (some ⟨2, 90, none⟩), .pointer (some ta), .int .u64 406], .agg #[.pointer (some ⟨2, 90, none⟩), .pointer (some b), .int .u64 150]]).run Tryd.prog W
      = .ok (.tuple #[]) (W.setCell ta (.pointer (some e))) := by
  rw [rls]
  simp only [Sem.run_bind, partsFa, partsF, Result.andThen]
  simp [ReflectliteValue.flagAddr, loadVar, isAgg, underlying, Tryd.underlying90, hb, Result.andThen, directF, storeVar, Value.cells, storeCells, Addr.add]
  rw [run_store Tryd.prog W ta _ _ (by rfl)]
  simp [ht, hf]
theorem setE (ta b : Addr) (n : Int) (old : Value) (W : World) (hb : W.cell? b = some (.int .i64 n)) (ht : W.cell? ta = some old) (hf : W.frozen? ta = false) :
    (ReflectliteValue.set #[.agg #[.pointer (some ⟨2, 71, none⟩), .pointer (some ta), .int .u64 386], .agg #[.pointer (some ⟨2, 71, none⟩), .pointer (some b), .int .u64 130]]).run Tryd.prog W
      = .ok (.tuple #[]) (W.setCell ta (.int .i64 n)) := by
  rw [rls]
  simp only [Sem.run_bind, partsEa, partsE, Result.andThen]
  simp [ReflectliteValue.flagAddr, loadVar, isAgg, underlying, Tryd.underlying71, hb, Result.andThen, directE, storeVar, Value.cells, storeCells, Addr.add]
  rw [run_store Tryd.prog W ta _ _ (by rfl)]
  simp [ht, hf]
theorem cell_old {w : World} {a : Addr} {v : Value} (h : w.cell? a = some v) : a.block < w.heap.size := by
  rcases Nat.lt_or_ge a.block w.heap.size with h1 | h1
  · exact h1
  · simp [World.cell?, Array.getElem?_eq_none h1] at h
def wPP (t : Addr) (w : World) : World := ((w.alloc (.cells #[.pointer (some t)] 93)).alloc (.cells #[.pointer (some ⟨2, 93, none⟩), .pointer (some ⟨w.heap.size, 0, none⟩), .int .u64 150] 116)).alloc (.cells #[.pointer (some ⟨2, 93, none⟩), .pointer (some ⟨w.heap.size, 0, none⟩), .int .u64 150] 116)
set_option maxHeartbeats 4000000 in
theorem as_hit (e t : Addr) (old : Value) (w : World) (hg : w.cell? ⟨0, 0, none⟩ = some (.iface 136 (.agg #[.pointer (some ⟨2, 29, none⟩)]))) (ht0 : w.cell? t = some old) (hf0 : w.frozen? t = false) :
    Calls Tryd.prog 39 #[.iface 90 (.pointer (some e)), .iface 93 (.pointer (some t))] w fun ev w' => ev = .returned (.bool true) ∧ w' = ((wPP t w).alloc (.cells #[.pointer (some e)] 90)).setCell t (.pointer (some e)) := by
  unfold wPP
  have h57 := @run_callFunc_extern Tryd.prog 58 _ (fun args => ReflectliteValue.unpack (args.getD 0 (.tuple #[]))) Tryd.func58 (by kernel_rfl) (by kernel_rfl) (by kernel_rfl) (by kernel_rfl)
  have h58 := @run_callFunc_extern Tryd.prog 59 _ (ReflectliteValue.methodAny (ReflectliteValue.valueError "reflectlite.Value.Type" 0) (fun t _ _ _ => ReflectliteType.toType t)) Tryd.func59 (by kernel_rfl) (by kernel_rfl) (by kernel_rfl) (by kernel_rfl)
  have h59 := @run_callFunc_extern Tryd.prog 60 _ (ReflectliteValue.method (ReflectliteValue.valueError "reflectlite.Value.IsNil" 0) ReflectliteValue.isNil) Tryd.func60 (by kernel_rfl) (by kernel_rfl) (by kernel_rfl) (by kernel_rfl)
  have h78 := @run_callFunc_extern Tryd.prog 90 _ (ReflectliteType.abiMethod fun t => do pure (.int .u8 (← Rtype.kind t))) Tryd.func90 (by kernel_rfl) (by kernel_rfl) (by kernel_rfl) (by kernel_rfl)
  have h90 := @run_callFunc_extern Tryd.prog 102 _ (ReflectliteType.method ReflectliteType.elem) Tryd.func102 (by kernel_rfl) (by kernel_rfl) (by kernel_rfl) (by kernel_rfl)
  have h91 := @run_callFunc_extern Tryd.prog 103 _ (ReflectliteType.relation "Implements" ReflectliteType.implements_) Tryd.func103 (by kernel_rfl) (by kernel_rfl) (by kernel_rfl) (by kernel_rfl)
  have h61 := @run_callFunc_extern Tryd.prog 72 _ ReflectliteType.typeOf Tryd.func72 (by kernel_rfl) (by kernel_rfl) (by kernel_rfl) (by kernel_rfl)
  have h88 := @run_callFunc_extern Tryd.prog 100 _ (ReflectliteType.relation "AssignableTo" ReflectliteType.assignableTo) Tryd.func100 (by kernel_rfl) (by kernel_rfl) (by kernel_rfl) (by kernel_rfl)
  have h62 := @run_callFunc_extern Tryd.prog 73 _ (ReflectliteValue.method (ReflectliteValue.valueError "reflectlite.Value.Elem" 0) ReflectliteValue.elem) Tryd.func73 (by kernel_rfl) (by kernel_rfl) (by kernel_rfl) (by kernel_rfl)
  have h63 := @run_callFunc_extern Tryd.prog 74 _ ReflectliteValue.set Tryd.func74 (by kernel_rfl) (by kernel_rfl) (by kernel_rfl) (by kernel_rfl)
  have tO := typeOfF
  have mA := methodAssignableTo
  have a25 := assignFF
  have v25 := valueOfF
  have f6 := valueOfPP
  have f7 := typePP
  have mK := methodKind
  have mE := methodElem
  have mI := methodImplements
  have k27 := kindPP
  have k25 := kindF
  have e27 := elemPP
  have i25 := implementsF
  have n8 := isNilPP ⟨w.heap.size, 0, none⟩ t ((w.alloc (.cells #[.pointer (some t)] 93)).alloc (.cells #[.pointer (some ⟨2, 93, none⟩), .pointer (some ⟨w.heap.size, 0, none⟩), .int .u64 150] 116)) (by simp)
  have hlt : 0 < w.heap.size := cell_old hg
  have hg2 : ((w.alloc (.cells #[.pointer (some t)] 93)).alloc (.cells #[.pointer (some ⟨2, 93, none⟩), .pointer (some ⟨w.heap.size, 0, none⟩), .int .u64 150] 116)).cell? ⟨0, 0, none⟩ = some (.iface 136 (.agg #[.pointer (some ⟨2, 29, none⟩)])) := by
    rw [World.cell?_alloc_lt _ _ ⟨0, 0, none⟩ (by first | (simp; done) | (simp; omega)), World.cell?_alloc_lt _ _ ⟨0, 0, none⟩ hlt]; exact hg
  have htl : t.block < w.heap.size := cell_old ht0
  have el := elemVPP ⟨w.heap.size, 0, none⟩ t (((w.alloc (.cells #[.pointer (some t)] 93)).alloc (.cells #[.pointer (some ⟨2, 93, none⟩), .pointer (some ⟨w.heap.size, 0, none⟩), .int .u64 150] 116)).alloc (.cells #[.pointer (some ⟨2, 93, none⟩), .pointer (some ⟨w.heap.size, 0, none⟩), .int .u64 150] 116)) (by rw [World.cell?_alloc_lt _ _ ⟨w.heap.size, 0, none⟩ (by first | (simp; done) | (simp; omega))]; simp)
  have st := setF t ⟨w.heap.size + 1 + 1 + 1, 0, none⟩ e old ((((w.alloc (.cells #[.pointer (some t)] 93)).alloc (.cells #[.pointer (some ⟨2, 93, none⟩), .pointer (some ⟨w.heap.size, 0, none⟩), .int .u64 150] 116)).alloc (.cells #[.pointer (some ⟨2, 93, none⟩), .pointer (some ⟨w.heap.size, 0, none⟩), .int .u64 150] 116)).alloc (.cells #[.pointer (some e)] 90))
    (by rw [World.cell?_alloc_at _ _ _ _ (by simp)]; rfl)
    (by rw [World.cell?_alloc_lt _ _ t (by first | (simp; done) | (simp; omega)), World.cell?_alloc_lt _ _ t (by first | (simp; done) | (simp; omega)), World.cell?_alloc_lt _ _ t (by first | (simp; done) | (simp; omega)), World.cell?_alloc_lt _ _ t htl]; exact ht0)
    (by rw [World.frozen?_alloc_old _ _ t (by first | (simp; done) | (simp; omega)), World.frozen?_alloc_old _ _ t (by first | (simp; done) | (simp; omega)), World.frozen?_alloc_old _ _ t (by first | (simp; done) | (simp; omega)), World.frozen?_alloc_old _ _ t (Nat.ne_of_lt htl)]; exact hf0)
  go_enter Tryd.func39, Tryd.ntmps39
  go_wp2
  refine wp_loop_rounds 1 ?_
  rw [rounds_succ]
  go_wp2
  go_ret
  exact ⟨rfl, rfl⟩
theorem methodUnwrap (e : Value) (w : World) : (Go.method 280 90 e "Unwrap").run Tryd.prog w = .ok (95, e) w := by kernel_rfl
theorem noAs (v : Value) (xT : TypeId) (w : World) : (Instr.typeAssert (.iface 90 v) xT 141 true).run Tryd.prog w = .ok (.tuple #[.nilIface, .bool false]) w := run_typeAssert_lacksB Tryd.underlying141 (by kernel_rfl) (by kernel_rfl) v xT w
theorem hasUnwrap (v : Value) (xT : TypeId) (w : World) : (Instr.typeAssert (.iface 90 v) xT 144 true).run Tryd.prog w = .ok (.tuple #[.iface 90 v, .bool true]) w := run_typeAssert_hasB Tryd.underlying144 (by kernel_rfl) v xT w
def wP (t : Addr) (w : World) : World := ((w.alloc (.cells #[.pointer (some t)] 92)).alloc (.cells #[.pointer (some ⟨2, 92, none⟩), .pointer (some ⟨w.heap.size, 0, none⟩), .int .u64 150] 116)).alloc (.cells #[.pointer (some ⟨2, 92, none⟩), .pointer (some ⟨w.heap.size, 0, none⟩), .int .u64 150] 116)
set_option maxHeartbeats 8000000 in
set_option maxRecDepth 100000 in
theorem as_num (e t : Addr) (n : Int) (old : Value) (w : World) (hg : w.cell? ⟨0, 0, none⟩ = some (.iface 136 (.agg #[.pointer (some ⟨2, 29, none⟩)]))) (he : w.cell? (e.add 1) = some (.iface 71 (.int .i64 n))) (ht0 : w.cell? t = some old) (hf0 : w.frozen? t = false) :
    Calls Tryd.prog 39 #[.iface 90 (.pointer (some e)), .iface 92 (.pointer (some t))] w fun ev w' => ev = .returned (.bool true) ∧ w' = ((wP t w).alloc (.cells #[.int .i64 n] 71)).setCell t (.int .i64 n) := by
  unfold wP
  have h57 := @run_callFunc_extern Tryd.prog 58 _ (fun args => ReflectliteValue.unpack (args.getD 0 (.tuple #[]))) Tryd.func58 (by kernel_rfl) (by kernel_rfl) (by kernel_rfl) (by kernel_rfl)
  have h58 := @run_callFunc_extern Tryd.prog 59 _ (ReflectliteValue.methodAny (ReflectliteValue.valueError "reflectlite.Value.Type" 0) (fun t _ _ _ => ReflectliteType.toType t)) Tryd.func59 (by kernel_rfl) (by kernel_rfl) (by kernel_rfl) (by kernel_rfl)
  have h59 := @run_callFunc_extern Tryd.prog 60 _ (ReflectliteValue.method (ReflectliteValue.valueError "reflectlite.Value.IsNil" 0) ReflectliteValue.isNil) Tryd.func60 (by kernel_rfl) (by kernel_rfl) (by kernel_rfl) (by kernel_rfl)
  have h78 := @run_callFunc_extern Tryd.prog 90 _ (ReflectliteType.abiMethod fun t => do pure (.int .u8 (← Rtype.kind t))) Tryd.func90 (by kernel_rfl) (by kernel_rfl) (by kernel_rfl) (by kernel_rfl)
  have h90 := @run_callFunc_extern Tryd.prog 102 _ (ReflectliteType.method ReflectliteType.elem) Tryd.func102 (by kernel_rfl) (by kernel_rfl) (by kernel_rfl) (by kernel_rfl)
  have h91 := @run_callFunc_extern Tryd.prog 103 _ (ReflectliteType.relation "Implements" ReflectliteType.implements_) Tryd.func103 (by kernel_rfl) (by kernel_rfl) (by kernel_rfl) (by kernel_rfl)
  have h61 := @run_callFunc_extern Tryd.prog 72 _ ReflectliteType.typeOf Tryd.func72 (by kernel_rfl) (by kernel_rfl) (by kernel_rfl) (by kernel_rfl)
  have h88 := @run_callFunc_extern Tryd.prog 100 _ (ReflectliteType.relation "AssignableTo" ReflectliteType.assignableTo) Tryd.func100 (by kernel_rfl) (by kernel_rfl) (by kernel_rfl) (by kernel_rfl)
  have h62 := @run_callFunc_extern Tryd.prog 73 _ (ReflectliteValue.method (ReflectliteValue.valueError "reflectlite.Value.Elem" 0) ReflectliteValue.elem) Tryd.func73 (by kernel_rfl) (by kernel_rfl) (by kernel_rfl) (by kernel_rfl)
  have h63 := @run_callFunc_extern Tryd.prog 74 _ ReflectliteValue.set Tryd.func74 (by kernel_rfl) (by kernel_rfl) (by kernel_rfl) (by kernel_rfl)
  have tF := typeOfF
  have tE := typeOfE
  have mA := methodAssignableTo
  have mU := methodUnwrap
  have nA := noAs
  have hU := hasUnwrap
  have aFE := assignFE
  have aEE := assignEE
  have vE := valueOfE
  have f6 := valueOfP
  have f7 := typeP
  have mK := methodKind
  have mE := methodElem
  have mI := methodImplements
  have k27 := kindP
  have k25 := kindE
  have e27 := elemP
  have i25 := implementsE
  have n8 := isNilP ⟨w.heap.size, 0, none⟩ t ((w.alloc (.cells #[.pointer (some t)] 92)).alloc (.cells #[.pointer (some ⟨2, 92, none⟩), .pointer (some ⟨w.heap.size, 0, none⟩), .int .u64 150] 116)) (by simp)
  have hlt : 0 < w.heap.size := cell_old hg
  have hg2 : ((w.alloc (.cells #[.pointer (some t)] 92)).alloc (.cells #[.pointer (some ⟨2, 92, none⟩), .pointer (some ⟨w.heap.size, 0, none⟩), .int .u64 150] 116)).cell? ⟨0, 0, none⟩ = some (.iface 136 (.agg #[.pointer (some ⟨2, 29, none⟩)])) := by
    rw [World.cell?_alloc_lt _ _ ⟨0, 0, none⟩ (by first | (simp; done) | (simp; omega)), World.cell?_alloc_lt _ _ ⟨0, 0, none⟩ hlt]; exact hg
  have htl : t.block < w.heap.size := cell_old ht0
  have hel : (e.add 1).block < w.heap.size := cell_old he
  have he2 : (((w.alloc (.cells #[.pointer (some t)] 92)).alloc (.cells #[.pointer (some ⟨2, 92, none⟩), .pointer (some ⟨w.heap.size, 0, none⟩), .int .u64 150] 116)).alloc (.cells #[.pointer (some ⟨2, 92, none⟩), .pointer (some ⟨w.heap.size, 0, none⟩), .int .u64 150] 116)).cell? (e.add 1) = some (.iface 71 (.int .i64 n)) := by
    rw [World.cell?_alloc_lt _ _ (e.add 1) (by first | (simp; done) | (simp; omega)), World.cell?_alloc_lt _ _ (e.add 1) (by first | (simp; done) | (simp; omega)), World.cell?_alloc_lt _ _ (e.add 1) hel]; exact he
  have el := elemVP ⟨w.heap.size, 0, none⟩ t (((w.alloc (.cells #[.pointer (some t)] 92)).alloc (.cells #[.pointer (some ⟨2, 92, none⟩), .pointer (some ⟨w.heap.size, 0, none⟩), .int .u64 150] 116)).alloc (.cells #[.pointer (some ⟨2, 92, none⟩), .pointer (some ⟨w.heap.size, 0, none⟩), .int .u64 150] 116)) (by rw [World.cell?_alloc_lt _ _ ⟨w.heap.size, 0, none⟩ (by first | (simp; done) | (simp; omega))]; simp)
  have st := setE t ⟨w.heap.size + 1 + 1 + 1, 0, none⟩ n old ((((w.alloc (.cells #[.pointer (some t)] 92)).alloc (.cells #[.pointer (some ⟨2, 92, none⟩), .pointer (some ⟨w.heap.size, 0, none⟩), .int .u64 150] 116)).alloc (.cells #[.pointer (some ⟨2, 92, none⟩), .pointer (some ⟨w.heap.size, 0, none⟩), .int .u64 150] 116)).alloc (.cells #[.int .i64 n] 71))
    (by rw [World.cell?_alloc_at _ _ _ _ (by simp)]; rfl)
    (by rw [World.cell?_alloc_lt _ _ t (by first | (simp; done) | (simp; omega)), World.cell?_alloc_lt _ _ t (by first | (simp; done) | (simp; omega)), World.cell?_alloc_lt _ _ t (by first | (simp; done) | (simp; omega)), World.cell?_alloc_lt _ _ t htl]; exact ht0)
    (by rw [World.frozen?_alloc_old _ _ t (by first | (simp; done) | (simp; omega)), World.frozen?_alloc_old _ _ t (by first | (simp; done) | (simp; omega)), World.frozen?_alloc_old _ _ t (by first | (simp; done) | (simp; omega)), World.frozen?_alloc_old _ _ t (Nat.ne_of_lt htl)]; exact hf0)
  have he3 := he2
  simp only [Addr.add, Nat.one_ne_zero, ↓reduceIte] at he3
  go_enter Tryd.func39, Tryd.ntmps39
  go_wp2
  refine wp_loop_rounds 2 ?_
  rw [rounds_succ]
  go_wp2
  rw [rounds_succ]
  go_wp2
  go_ret
  exact ⟨rfl, rfl⟩
set_option maxHeartbeats 8000000 in
set_option maxRecDepth 100000 in
theorem as_num2 (e d t : Addr) (n : Int) (old : Value) (w : World) (hg : w.cell? ⟨0, 0, none⟩ = some (.iface 136 (.agg #[.pointer (some ⟨2, 29, none⟩)]))) (hd : w.cell? (e.add 1) = some (.iface 90 (.pointer (some d)))) (he : w.cell? (d.add 1) = some (.iface 71 (.int .i64 n))) (ht0 : w.cell? t = some old) (hf0 : w.frozen? t = false) :
    Calls Tryd.prog 39 #[.iface 90 (.pointer (some e)), .iface 92 (.pointer (some t))] w fun ev w' => ev = .returned (.bool true) ∧ w' = ((wP t w).alloc (.cells #[.int .i64 n] 71)).setCell t (.int .i64 n) := by
  unfold wP
  have h57 := @run_callFunc_extern Tryd.prog 58 _ (fun args => ReflectliteValue.unpack (args.getD 0 (.tuple #[]))) Tryd.func58 (by kernel_rfl) (by kernel_rfl) (by kernel_rfl) (by kernel_rfl)
  have h58 := @run_callFunc_extern Tryd.prog 59 _ (ReflectliteValue.methodAny (ReflectliteValue.valueError "reflectlite.Value.Type" 0) (fun t _ _ _ => ReflectliteType.toType t)) Tryd.func59 (by kernel_rfl) (by kernel_rfl) (by kernel_rfl) (by kernel_rfl)
  have h59 := @run_callFunc_extern Tryd.prog 60 _ (ReflectliteValue.method (ReflectliteValue.valueError "reflectlite.Value.IsNil" 0) ReflectliteValue.isNil) Tryd.func60 (by kernel_rfl) (by kernel_rfl) (by kernel_rfl) (by kernel_rfl)
  have h78 := @run_callFunc_extern Tryd.prog 90 _ (ReflectliteType.abiMethod fun t => do pure (.int .u8 (← Rtype.kind t))) Tryd.func90 (by kernel_rfl) (by kernel_rfl) (by kernel_rfl) (by kernel_rfl)
  have h90 := @run_callFunc_extern Tryd.prog 102 _ (ReflectliteType.method ReflectliteType.elem) Tryd.func102 (by kernel_rfl) (by kernel_rfl) (by kernel_rfl) (by kernel_rfl)
  have h91 := @run_callFunc_extern Tryd.prog 103 _ (ReflectliteType.relation "Implements" ReflectliteType.implements_) Tryd.func103 (by kernel_rfl) (by kernel_rfl) (by kernel_rfl) (by kernel_rfl)
  have h61 := @run_callFunc_extern Tryd.prog 72 _ ReflectliteType.typeOf Tryd.func72 (by kernel_rfl) (by kernel_rfl) (by kernel_rfl) (by kernel_rfl)
  have h88 := @run_callFunc_extern Tryd.prog 100 _ (ReflectliteType.relation "AssignableTo" ReflectliteType.assignableTo) Tryd.func100 (by kernel_rfl) (by kernel_rfl) (by kernel_rfl) (by kernel_rfl)
  have h62 := @run_callFunc_extern Tryd.prog 73 _ (ReflectliteValue.method (ReflectliteValue.valueError "reflectlite.Value.Elem" 0) ReflectliteValue.elem) Tryd.func73 (by kernel_rfl) (by kernel_rfl) (by kernel_rfl) (by kernel_rfl)
  have h63 := @run_callFunc_extern Tryd.prog 74 _ ReflectliteValue.set Tryd.func74 (by kernel_rfl) (by kernel_rfl) (by kernel_rfl) (by kernel_rfl)
  have tF := typeOfF
  have tE := typeOfE
  have mA := methodAssignableTo
  have mU := methodUnwrap
  have nA := noAs
  have hU := hasUnwrap
  have aFE := assignFE
  have aEE := assignEE
  have vE := valueOfE
  have f6 := valueOfP
  have f7 := typeP
  have mK := methodKind
  have mE := methodElem
  have mI := methodImplements
  have k27 := kindP
  have k25 := kindE
  have e27 := elemP
  have i25 := implementsE
  have n8 := isNilP ⟨w.heap.size, 0, none⟩ t ((w.alloc (.cells #[.pointer (some t)] 92)).alloc (.cells #[.pointer (some ⟨2, 92, none⟩), .pointer (some ⟨w.heap.size, 0, none⟩), .int .u64 150] 116)) (by simp)
  have hlt : 0 < w.heap.size := cell_old hg
  have hg2 : ((w.alloc (.cells #[.pointer (some t)] 92)).alloc (.cells #[.pointer (some ⟨2, 92, none⟩), .pointer (some ⟨w.heap.size, 0, none⟩), .int .u64 150] 116)).cell? ⟨0, 0, none⟩ = some (.iface 136 (.agg #[.pointer (some ⟨2, 29, none⟩)])) := by
    rw [World.cell?_alloc_lt _ _ ⟨0, 0, none⟩ (by first | (simp; done) | (simp; omega)), World.cell?_alloc_lt _ _ ⟨0, 0, none⟩ hlt]; exact hg
  have htl : t.block < w.heap.size := cell_old ht0
  have hdl : (e.add 1).block < w.heap.size := cell_old hd
  have hd2 : (((w.alloc (.cells #[.pointer (some t)] 92)).alloc (.cells #[.pointer (some ⟨2, 92, none⟩), .pointer (some ⟨w.heap.size, 0, none⟩), .int .u64 150] 116)).alloc (.cells #[.pointer (some ⟨2, 92, none⟩), .pointer (some ⟨w.heap.size, 0, none⟩), .int .u64 150] 116)).cell? (e.add 1) = some (.iface 90 (.pointer (some d))) := by
    rw [World.cell?_alloc_lt _ _ (e.add 1) (by first | (simp; done) | (simp; omega)), World.cell?_alloc_lt _ _ (e.add 1) (by first | (simp; done) | (simp; omega)), World.cell?_alloc_lt _ _ (e.add 1) hdl]; exact hd
  have hel : (d.add 1).block < w.heap.size := cell_old he
  have he2 : (((w.alloc (.cells #[.pointer (some t)] 92)).alloc (.cells #[.pointer (some ⟨2, 92, none⟩), .pointer (some ⟨w.heap.size, 0, none⟩), .int .u64 150] 116)).alloc (.cells #[.pointer (some ⟨2, 92, none⟩), .pointer (some ⟨w.heap.size, 0, none⟩), .int .u64 150] 116)).cell? (d.add 1) = some (.iface 71 (.int .i64 n)) := by
    rw [World.cell?_alloc_lt _ _ (d.add 1) (by first | (simp; done) | (simp; omega)), World.cell?_alloc_lt _ _ (d.add 1) (by first | (simp; done) | (simp; omega)), World.cell?_alloc_lt _ _ (d.add 1) hel]; exact he
  have el := elemVP ⟨w.heap.size, 0, none⟩ t (((w.alloc (.cells #[.pointer (some t)] 92)).alloc (.cells #[.pointer (some ⟨2, 92, none⟩), .pointer (some ⟨w.heap.size, 0, none⟩), .int .u64 150] 116)).alloc (.cells #[.pointer (some ⟨2, 92, none⟩), .pointer (some ⟨w.heap.size, 0, none⟩), .int .u64 150] 116)) (by rw [World.cell?_alloc_lt _ _ ⟨w.heap.size, 0, none⟩ (by first | (simp; done) | (simp; omega))]; simp)
  have st := setE t ⟨w.heap.size + 1 + 1 + 1, 0, none⟩ n old ((((w.alloc (.cells #[.pointer (some t)] 92)).alloc (.cells #[.pointer (some ⟨2, 92, none⟩), .pointer (some ⟨w.heap.size, 0, none⟩), .int .u64 150] 116)).alloc (.cells #[.pointer (some ⟨2, 92, none⟩), .pointer (some ⟨w.heap.size, 0, none⟩), .int .u64 150] 116)).alloc (.cells #[.int .i64 n] 71))
    (by rw [World.cell?_alloc_at _ _ _ _ (by simp)]; rfl)
    (by rw [World.cell?_alloc_lt _ _ t (by first | (simp; done) | (simp; omega)), World.cell?_alloc_lt _ _ t (by first | (simp; done) | (simp; omega)), World.cell?_alloc_lt _ _ t (by first | (simp; done) | (simp; omega)), World.cell?_alloc_lt _ _ t htl]; exact ht0)
    (by rw [World.frozen?_alloc_old _ _ t (by first | (simp; done) | (simp; omega)), World.frozen?_alloc_old _ _ t (by first | (simp; done) | (simp; omega)), World.frozen?_alloc_old _ _ t (by first | (simp; done) | (simp; omega)), World.frozen?_alloc_old _ _ t (Nat.ne_of_lt htl)]; exact hf0)
  have he3 := he2
  have hd3 := hd2
  simp only [Addr.add, Nat.one_ne_zero, ↓reduceIte] at he3 hd3
  go_enter Tryd.func39, Tryd.ntmps39
  go_wp2
  refine wp_loop_rounds 3 ?_
  rw [rounds_succ]
  go_wp2
  rw [rounds_succ]
  go_wp2
  rw [rounds_succ]
  go_wp2
  go_ret
  exact ⟨rfl, rfl⟩
structure AsKept (w w' : World) (t : Addr) (v : Value) : Prop where
  got : w'.cell? t = some v
  old : ∀ a : Addr, a ≠ t → a.block < w.heap.size → w'.cell? a = w.cell? a
  froz : ∀ a : Addr, a.block < w.heap.size → w'.frozen? a = w.frozen? a
  below : ∀ (B : Nat) (w0 : World), B ≤ t.block → Below B w0 w → Below B w0 w'
  size : w.heap.size ≤ w'.heap.size
theorem AsKept.of4 {w : World} {t : Addr} {old : Value} (o1 o2 o3 o4 : Obj) (v : Value) (ht : w.cell? t = some old) : AsKept w (((((w.alloc o1).alloc o2).alloc o3).alloc o4).setCell t v) t v := by
  have hl := cell_old ht
  have hc : ∀ a : Addr, a.block < w.heap.size → ((((w.alloc o1).alloc o2).alloc o3).alloc o4).cell? a = w.cell? a := by
    intro a h
    rw [World.cell?_alloc_lt _ _ a (by simp only [World.size_alloc]; omega), World.cell?_alloc_lt _ _ a (by simp only [World.size_alloc]; omega), World.cell?_alloc_lt _ _ a (by simp only [World.size_alloc]; omega), World.cell?_alloc_lt _ _ a h]
  refine ⟨World.cell?_setCell_same _ _ _ ((hc t hl).trans ht), fun a hn h => ?_, fun a h => ?_, fun B w0 hB hb => ?_, ?_⟩
  · rw [World.cell?_setCell_other _ _ _ _ (fun e => hn e.symm), hc a h]
  · rw [World.frozen?_setCell, World.frozen?_alloc_old _ _ a (by simp only [World.size_alloc]; omega), World.frozen?_alloc_old _ _ a (by simp only [World.size_alloc]; omega), World.frozen?_alloc_old _ _ a (by simp only [World.size_alloc]; omega), World.frozen?_alloc_old _ _ a (by omega)]
  · exact Below.setCell (Below.alloc (Below.alloc (Below.alloc (Below.alloc hb (by omega) _) (by first | (simp; done) | (simp; omega)) _) (by first | (simp; done) | (simp; omega)) _) (by first | (simp; done) | (simp; omega)) _) hB _
  · simp only [World.size_setCell, World.size_alloc]; omega
theorem as_num_k (e t : Addr) (n : Int) (old : Value) (w : World) (hg : w.cell? ⟨0, 0, none⟩ = some (.iface 136 (.agg #[.pointer (some ⟨2, 29, none⟩)]))) (he : w.cell? (e.add 1) = some (.iface 71 (.int .i64 n))) (ht0 : w.cell? t = some old) (hf0 : w.frozen? t = false) :
    Calls Tryd.prog 39 #[.iface 90 (.pointer (some e)), .iface 92 (.pointer (some t))] w fun ev w' => ev = .returned (.bool true) ∧ AsKept w w' t (.int .i64 n) :=
  (as_num e t n old w hg he ht0 hf0).mono fun ev w' ⟨h1, h2⟩ => ⟨h1, by rw [h2]; exact AsKept.of4 _ _ _ _ _ ht0⟩
theorem as_num2_k (e d t : Addr) (n : Int) (old : Value) (w : World) (hg : w.cell? ⟨0, 0, none⟩ = some (.iface 136 (.agg #[.pointer (some ⟨2, 29, none⟩)]))) (hd : w.cell? (e.add 1) = some (.iface 90 (.pointer (some d)))) (he : w.cell? (d.add 1) = some (.iface 71 (.int .i64 n))) (ht0 : w.cell? t = some old) (hf0 : w.frozen? t = false) :
    Calls Tryd.prog 39 #[.iface 90 (.pointer (some e)), .iface 92 (.pointer (some t))] w fun ev w' => ev = .returned (.bool true) ∧ AsKept w w' t (.int .i64 n) :=
  (as_num2 e d t n old w hg hd he ht0 hf0).mono fun ev w' ⟨h1, h2⟩ => ⟨h1, by rw [h2]; exact AsKept.of4 _ _ _ _ _ ht0⟩
theorem as_hit_k (e t : Addr) (old : Value) (w : World) (hg : w.cell? ⟨0, 0, none⟩ = some (.iface 136 (.agg #[.pointer (some ⟨2, 29, none⟩)]))) (ht0 : w.cell? t = some old) (hf0 : w.frozen? t = false) :
    Calls Tryd.prog 39 #[.iface 90 (.pointer (some e)), .iface 93 (.pointer (some t))] w fun ev w' => ev = .returned (.bool true) ∧ AsKept w w' t (.pointer (some e)) :=
  (as_hit e t old w hg ht0 hf0).mono fun ev w' ⟨h1, h2⟩ => ⟨h1, by rw [h2]; exact AsKept.of4 _ _ _ _ _ ht0⟩
end Go.Proofs.YtjmgkknbgffbjaaDoorW.PrintErr
namespace Go.Proofs.YtjmgkknbgffbjaaDoor.P
open Go.RowKit Go.Proofs.YtjmgkknbgffbjaaDoorW.PrintWords Go.Proofs.YtjmgkknbgffbjaaDoorW.PrintLast Go.Proofs.YtjmgkknbgffbjaaDoorW.PrintErr Go.Proofs.YtjmgkknbgffbjaaDoorW.PrintMore
attribute [local go_sem] max2_int min2_int max_two min_two max_three min_three max_four min_four run_eql_errOf run_neq_errOf eqGuard_errOf run_eql_ptrOf run_neq_ptrOf eqGuard_ptrOf   -- for this text's walks alone
set_option linter.unusedVariables false
set_option linter.unusedSimpArgs false
def errW : Option Int → Value
 | none => .nilIface
 | some c => .iface 0 (.int .i64 c)
theorem errW_none : errW none = .nilIface := rfl
theorem errW_some (c : Int) : errW (some c) = .iface 0 (.int .i64 c) := rfl
theorem info3 : (Tryd.prog.info? 3).map (fun i => (i.zero, i.size, i.bytes)) = some (some (.int .i64 0), 1, 8) := by kernel_rfl
theorem info4 : (Tryd.prog.info? 4).map (fun i => (i.zero, i.size, i.bytes)) = some (some (.bool false), 1, 1) := by kernel_rfl
theorem info5 : (Tryd.prog.info? 5).map (fun i => (i.zero, i.size, i.bytes)) = some (some (.int .u8 0), 1, 1) := by kernel_rfl
theorem info23 : (Tryd.prog.info? 23).map (fun i => (i.zero, i.size, i.bytes)) = some (some (.slice none 0 0), 1, 24) := by kernel_rfl
theorem info35 : (Tryd.prog.info? 35).map (fun i => (i.zero, i.size, i.bytes)) = some (some (.int .u64 0), 1, 8) := by kernel_rfl
theorem info36 : (Tryd.prog.info? 36).map (fun i => (i.zero, i.size, i.bytes)) = some (some (.slice none 0 0), 1, 24) := by kernel_rfl
theorem info49 : (Tryd.prog.info? 49).map (fun i => (i.zero, i.size, i.bytes)) = some (some (.slice none 0 0), 1, 24) := by kernel_rfl
theorem info98 : (Tryd.prog.info? 98).map (fun i => (i.zero, i.size, i.bytes)) = some (some (.agg #[(.slice none 0 0), (.slice none 0 0)]), 2, 48) := by kernel_rfl
-- the values' own types
def rd_Lsu8 (xs : List (List Int)) (i : Int) : (List Int) := xs.getD i.toNat ([] : List Int)
theorem at_Lsu8 {w : World} {A : Option Addr} {n : Nat} {xs : List (List Int)} (h : Kd.C (Kd.slice 5 (Kd.int .u8)) w A n xs) (i : Int) (h0 : 0 ≤ i) (h1 : i < n) : ∃ ad A0 c0, A = some ad ∧ w.cell? (ad.add i.toNat) = some (.slice A0 (rd_Lsu8 xs i).length c0) ∧ (rd_Lsu8 xs i).length ≤ c0 ∧ (Kd.int .u8).C w A0 (rd_Lsu8 xs i).length (rd_Lsu8 xs i) := by
 obtain ⟨ad, c, e, _, hK, hc0⟩ := Kd.C_get h ([] : List Int) i h0 h1
 have hc : ∀ j u, c[j]? = some u → w.cell? (ad.add (i.toNat * 1 + j)) = some u := hc0
 obtain ⟨A0, c0, rfl, l0, g0⟩ := hK
 exact ⟨ad, A0, c0, e, by have hq := hc 0 _ rfl; rwa [Nat.mul_one, Nat.add_zero] at hq, l0, g0⟩
def rd_Lsu64 (xs : List (List Int)) (i : Int) : (List Int) := xs.getD i.toNat ([] : List Int)
theorem at_Lsu64 {w : World} {A : Option Addr} {n : Nat} {xs : List (List Int)} (h : Kd.C (Kd.slice 35 (Kd.int .u64)) w A n xs) (i : Int) (h0 : 0 ≤ i) (h1 : i < n) : ∃ ad A0 c0, A = some ad ∧ w.cell? (ad.add i.toNat) = some (.slice A0 (rd_Lsu64 xs i).length c0) ∧ (rd_Lsu64 xs i).length ≤ c0 ∧ (Kd.int .u64).C w A0 (rd_Lsu64 xs i).length (rd_Lsu64 xs i) := by
 obtain ⟨ad, c, e, _, hK, hc0⟩ := Kd.C_get h ([] : List Int) i h0 h1
 have hc : ∀ j u, c[j]? = some u → w.cell? (ad.add (i.toNat * 1 + j)) = some u := hc0
 obtain ⟨A0, c0, rfl, l0, g0⟩ := hK
 exact ⟨ad, A0, c0, e, by have hq := hc 0 _ rfl; rwa [Nat.mul_one, Nat.add_zero] at hq, l0, g0⟩
structure S77 where
 f0 : (List Int)
 f1 : (List Int)
def z77 : S77 := ⟨([] : List Int), ([] : List Int)⟩
def k77 : Kd S77 := Kd.iso (Kd.pair (Kd.slice 35 (Kd.int .u64)) (Kd.slice 5 (Kd.int .u8))) (fun x : S77 => (x.f0, x.f1))
theorem k77_open {w : World} {x : S77} {cs : List Value} (h : k77.K w x cs) : ∃ A0 c0 A1 c1, cs = [.slice A0 x.f0.length c0, .slice A1 x.f1.length c1] ∧ x.f0.length ≤ c0 ∧ (Kd.int .u64).C w A0 x.f0.length x.f0 ∧ x.f1.length ≤ c1 ∧ (Kd.int .u8).C w A1 x.f1.length x.f1 := by
 obtain ⟨_, _, rfl, ⟨A0, c0, rfl, l0, g0⟩, ⟨A1, c1, rfl, l1, g1⟩⟩ := h
 exact ⟨A0, c0, A1, c1, rfl, l0, g0, l1, g1⟩
theorem k77_mkM (w : World) (base : Nat) (ok : Nat → Prop) (x : S77) {v0 : Value} (g0 : (Kd.int .u64).R 35 w base ok v0 x.f0) {v1 : Value} (g1 : (Kd.int .u8).R 5 w base ok v1 x.f1) : k77.M w base ok x [v0, v1] := ⟨[v0], [v1], rfl, ⟨v0, rfl, g0⟩, ⟨v1, rfl, g1⟩⟩
def rd_T77 (xs : List S77) (i : Int) : S77 := xs.getD i.toNat z77
theorem at_T77 {w : World} {A : Option Addr} {n : Nat} {xs : List S77} (h : Kd.C k77 w A n xs) (i : Int) (h0 : 0 ≤ i) (h1 : i < n) : ∃ ad A0 c0 A1 c1, A = some ad ∧ w.cell? (ad.add (i.toNat * 2)) = some (.slice A0 (rd_T77 xs i).f0.length c0) ∧ w.cell? ⟨(ad.add (i.toNat * 2)).block, (ad.add (i.toNat * 2)).off + 1, none⟩ = some (.slice A1 (rd_T77 xs i).f1.length c1) ∧ (rd_T77 xs i).f0.length ≤ c0 ∧ (Kd.int .u64).C w A0 (rd_T77 xs i).f0.length (rd_T77 xs i).f0 ∧ (rd_T77 xs i).f1.length ≤ c1 ∧ (Kd.int .u8).C w A1 (rd_T77 xs i).f1.length (rd_T77 xs i).f1 := by
 obtain ⟨ad, c, e, _, hK, hc0⟩ := Kd.C_get h z77 i h0 h1
 have hc : ∀ j u, c[j]? = some u → w.cell? (ad.add (i.toNat * 2 + j)) = some u := hc0
 obtain ⟨A0, c0, A1, c1, rfl, l0, g0, l1, g1⟩ := k77_open hK
 exact ⟨ad, A0, c0, A1, c1, e, hc 0 _ rfl, by rw [← add_field _ _ 1 (by omega)]; exact hc 1 _ rfl, l0, g0, l1, g1⟩
structure S74 where
 f0 : Int
 f1 : Int
 f2 : (List S77)
 f3 : (List Int)
 f4 : Bool
def z74 : S74 := ⟨(0 : Int), (0 : Int), ([] : List S77), ([] : List Int), false⟩
def k74 : Kd S74 := Kd.iso (Kd.pair (Kd.int .i64) (Kd.pair (Kd.int .i64) (Kd.pair (Kd.slice 77 k77) (Kd.pair (Kd.slice 3 (Kd.int .i64)) Kd.bool)))) (fun x : S74 => (x.f0, x.f1, x.f2, x.f3, x.f4))
theorem k74_open {w : World} {x : S74} {cs : List Value} (h : k74.K w x cs) : ∃ A2 c2 A3 c3, cs = [.int .i64 x.f0, .int .i64 x.f1, .slice A2 x.f2.length c2, .slice A3 x.f3.length c3, .bool x.f4] ∧ x.f2.length ≤ c2 ∧ k77.C w A2 x.f2.length x.f2 ∧ x.f3.length ≤ c3 ∧ (Kd.int .i64).C w A3 x.f3.length x.f3 := by
 obtain ⟨_, _, rfl, rfl, ⟨_, _, rfl, rfl, ⟨_, _, rfl, ⟨A2, c2, rfl, l2, g2⟩, ⟨_, _, rfl, ⟨A3, c3, rfl, l3, g3⟩, rfl⟩⟩⟩⟩ := h
 exact ⟨A2, c2, A3, c3, rfl, l2, g2, l3, g3⟩
theorem k74_openM {w : World} {base : Nat} {ok : Nat → Prop} {x : S74} {cs : List Value} (h : k74.M w base ok x cs) : ∃ v2 v3, cs = [.int .i64 x.f0, .int .i64 x.f1, v2, v3, .bool x.f4] ∧ k77.R 77 w base ok v2 x.f2 ∧ (Kd.int .i64).R 3 w base ok v3 x.f3 := by
 obtain ⟨_, _, rfl, rfl, ⟨_, _, rfl, rfl, ⟨_, _, rfl, ⟨v2, rfl, g2⟩, ⟨_, _, rfl, ⟨v3, rfl, g3⟩, rfl⟩⟩⟩⟩ := h
 exact ⟨v2, v3, rfl, g2, g3⟩
theorem k74_mkM (w : World) (base : Nat) (ok : Nat → Prop) (x : S74) {v2 : Value} (g2 : k77.R 77 w base ok v2 x.f2) {v3 : Value} (g3 : (Kd.int .i64).R 3 w base ok v3 x.f3) : k74.M w base ok x [.int .i64 x.f0, .int .i64 x.f1, v2, v3, .bool x.f4] := ⟨[.int .i64 x.f0], [.int .i64 x.f1, v2, v3, .bool x.f4], rfl, rfl, ⟨[.int .i64 x.f1], [v2, v3, .bool x.f4], rfl, rfl, ⟨[v2], [v3, .bool x.f4], rfl, ⟨v2, rfl, g2⟩, ⟨[v3], [.bool x.f4], rfl, ⟨v3, rfl, g3⟩, rfl⟩⟩⟩⟩
def rd_T74 (xs : List S74) (i : Int) : S74 := xs.getD i.toNat z74
theorem at_T74 {w : World} {A : Option Addr} {n : Nat} {xs : List S74} (h : Kd.C k74 w A n xs) (i : Int) (h0 : 0 ≤ i) (h1 : i < n) : ∃ ad A2 c2 A3 c3, A = some ad ∧ w.cell? (ad.add (i.toNat * 5)) = some (.int .i64 (rd_T74 xs i).f0) ∧ w.cell? ⟨(ad.add (i.toNat * 5)).block, (ad.add (i.toNat * 5)).off + 1, none⟩ = some (.int .i64 (rd_T74 xs i).f1) ∧ w.cell? ⟨(ad.add (i.toNat * 5)).block, (ad.add (i.toNat * 5)).off + 2, none⟩ = some (.slice A2 (rd_T74 xs i).f2.length c2) ∧ w.cell? ⟨(ad.add (i.toNat * 5)).block, (ad.add (i.toNat * 5)).off + 3, none⟩ = some (.slice A3 (rd_T74 xs i).f3.length c3) ∧ w.cell? ⟨(ad.add (i.toNat * 5)).block, (ad.add (i.toNat * 5)).off + 4, none⟩ = some (.bool (rd_T74 xs i).f4) ∧ (rd_T74 xs i).f2.length ≤ c2 ∧ k77.C w A2 (rd_T74 xs i).f2.length (rd_T74 xs i).f2 ∧ (rd_T74 xs i).f3.length ≤ c3 ∧ (Kd.int .i64).C w A3 (rd_T74 xs i).f3.length (rd_T74 xs i).f3 := by
 obtain ⟨ad, c, e, _, hK, hc0⟩ := Kd.C_get h z74 i h0 h1
 have hc : ∀ j u, c[j]? = some u → w.cell? (ad.add (i.toNat * 5 + j)) = some u := hc0
 obtain ⟨A2, c2, A3, c3, rfl, l2, g2, l3, g3⟩ := k74_open hK
 exact ⟨ad, A2, c2, A3, c3, e, hc 0 _ rfl, by rw [← add_field _ _ 1 (by omega)]; exact hc 1 _ rfl, by rw [← add_field _ _ 2 (by omega)]; exact hc 2 _ rfl, by rw [← add_field _ _ 3 (by omega)]; exact hc 3 _ rfl, by rw [← add_field _ _ 4 (by omega)]; exact hc 4 _ rfl, l2, g2, l3, g3⟩
def rd_Lsbool (xs : List (List Bool)) (i : Int) : (List Bool) := xs.getD i.toNat ([] : List Bool)
theorem at_Lsbool {w : World} {A : Option Addr} {n : Nat} {xs : List (List Bool)} (h : Kd.C (Kd.slice 4 Kd.bool) w A n xs) (i : Int) (h0 : 0 ≤ i) (h1 : i < n) : ∃ ad A0 c0, A = some ad ∧ w.cell? (ad.add i.toNat) = some (.slice A0 (rd_Lsbool xs i).length c0) ∧ (rd_Lsbool xs i).length ≤ c0 ∧ Kd.bool.C w A0 (rd_Lsbool xs i).length (rd_Lsbool xs i) := by
 obtain ⟨ad, c, e, _, hK, hc0⟩ := Kd.C_get h ([] : List Bool) i h0 h1
 have hc : ∀ j u, c[j]? = some u → w.cell? (ad.add (i.toNat * 1 + j)) = some u := hc0
 obtain ⟨A0, c0, rfl, l0, g0⟩ := hK
 exact ⟨ad, A0, c0, e, by have hq := hc 0 _ rfl; rwa [Nat.mul_one, Nat.add_zero] at hq, l0, g0⟩
structure S98 where
 f0 : (List Int)
 f1 : (List Int)
def z98 : S98 := ⟨([] : List Int), ([] : List Int)⟩
def k98 : Kd S98 := Kd.iso (Kd.pair (Kd.slice 35 (Kd.int .u64)) (Kd.slice 5 (Kd.int .u8))) (fun x : S98 => (x.f0, x.f1))
theorem k98_heap : Kd.Heap k98 := Kd.heap_iso _ (Kd.heap_pair (Kd.heap_slice 35 (Kd.heap_int .u64)) (Kd.heap_slice 5 (Kd.heap_int .u8)))
theorem k98_open {w : World} {x : S98} {cs : List Value} (h : k98.K w x cs) : ∃ A0 c0 A1 c1, cs = [.slice A0 x.f0.length c0, .slice A1 x.f1.length c1] ∧ x.f0.length ≤ c0 ∧ (Kd.int .u64).C w A0 x.f0.length x.f0 ∧ x.f1.length ≤ c1 ∧ (Kd.int .u8).C w A1 x.f1.length x.f1 := by
 obtain ⟨_, _, rfl, ⟨A0, c0, rfl, l0, g0⟩, ⟨A1, c1, rfl, l1, g1⟩⟩ := h
 exact ⟨A0, c0, A1, c1, rfl, l0, g0, l1, g1⟩
theorem k98_mk (w : World) (x : S98) {A0 : Option Addr} {c0 : Nat} (l0 : x.f0.length ≤ c0) (g0 : (Kd.int .u64).C w A0 x.f0.length x.f0) {A1 : Option Addr} {c1 : Nat} (l1 : x.f1.length ≤ c1) (g1 : (Kd.int .u8).C w A1 x.f1.length x.f1) : k98.K w x [.slice A0 x.f0.length c0, .slice A1 x.f1.length c1] := ⟨[.slice A0 x.f0.length c0], [.slice A1 x.f1.length c1], rfl, ⟨A0, c0, rfl, l0, g0⟩, ⟨A1, c1, rfl, l1, g1⟩⟩
theorem k98_openF {W : World} {ok : Nat → Prop} {x : S98} {cs : List Value} (h : Kd.FK k98 W ok x cs) : ∃ A0 c0 A1 c1, cs = [.slice A0 x.f0.length c0, .slice A1 x.f1.length c1] ∧ x.f0.length ≤ c0 ∧ Kd.F (Kd.int .u64) W ok A0 x.f0.length x.f0 ∧ x.f1.length ≤ c1 ∧ Kd.F (Kd.int .u8) W ok A1 x.f1.length x.f1 := by
 obtain ⟨A0, c0, A1, c1, rfl, l0, _, l1, _⟩ := k98_open (Kd.FK_now h)
 exact ⟨A0, c0, A1, c1, rfl, l0, (fun W' hW => by obtain ⟨A0_, c0_, A1_, c1_, he, l0_, g0_, l1_, g1_⟩ := k98_open (h W' hW); injection (Option.some.inj (show some (Value.slice A0 x.f0.length c0) = some (Value.slice A0_ x.f0.length c0_) from congrArg (fun l => l[0]?) he)) with ha_ _ _; rw [ha_]; exact g0_), l1, (fun W' hW => by obtain ⟨A0_, c0_, A1_, c1_, he, l0_, g0_, l1_, g1_⟩ := k98_open (h W' hW); injection (Option.some.inj (show some (Value.slice A1 x.f1.length c1) = some (Value.slice A1_ x.f1.length c1_) from congrArg (fun l => l[1]?) he)) with ha_ _ _; rw [ha_]; exact g1_)⟩
theorem k98_mkF (W : World) (ok : Nat → Prop) (x : S98) {A0 : Option Addr} {c0 : Nat} (l0 : x.f0.length ≤ c0) (g0 : Kd.F (Kd.int .u64) W ok A0 x.f0.length x.f0) {A1 : Option Addr} {c1 : Nat} (l1 : x.f1.length ≤ c1) (g1 : Kd.F (Kd.int .u8) W ok A1 x.f1.length x.f1) : Kd.FK k98 W ok x [.slice A0 x.f0.length c0, .slice A1 x.f1.length c1] := fun W2 hW => k98_mk W2 x l0 (g0 W2 hW) l1 (g1 W2 hW)
def rd_T98 (xs : List S98) (i : Int) : S98 := xs.getD i.toNat z98
theorem at_T98 {w : World} {A : Option Addr} {n : Nat} {xs : List S98} (h : Kd.C k98 w A n xs) (i : Int) (h0 : 0 ≤ i) (h1 : i < n) : ∃ ad A0 c0 A1 c1, A = some ad ∧ w.cell? (ad.add (i.toNat * 2)) = some (.slice A0 (rd_T98 xs i).f0.length c0) ∧ w.cell? ⟨(ad.add (i.toNat * 2)).block, (ad.add (i.toNat * 2)).off + 1, none⟩ = some (.slice A1 (rd_T98 xs i).f1.length c1) ∧ (rd_T98 xs i).f0.length ≤ c0 ∧ (Kd.int .u64).C w A0 (rd_T98 xs i).f0.length (rd_T98 xs i).f0 ∧ (rd_T98 xs i).f1.length ≤ c1 ∧ (Kd.int .u8).C w A1 (rd_T98 xs i).f1.length (rd_T98 xs i).f1 := by
 obtain ⟨ad, c, e, _, hK, hc0⟩ := Kd.C_get h z98 i h0 h1
 have hc : ∀ j u, c[j]? = some u → w.cell? (ad.add (i.toNat * 2 + j)) = some u := hc0
 obtain ⟨A0, c0, A1, c1, rfl, l0, g0, l1, g1⟩ := k98_open hK
 exact ⟨ad, A0, c0, A1, c1, e, hc 0 _ rfl, by rw [← add_field _ _ 1 (by omega)]; exact hc 1 _ rfl, l0, g0, l1, g1⟩
theorem qT {α : Type} (l : List α) (i : Nat) (a : α) : l.toArray.setIfInBounds i a = (l.set i a).toArray := List.setIfInBounds_toArray ..
theorem qZ {α : Type} (a b : α) (l : List α) : (a :: l).set 0 b = b :: l := rfl
theorem qS {α : Type} (a b : α) (l : List α) (n : Nat) : (a :: l).set (n + 1) b = a :: l.set n b := rfl
def bA (n m : Nat) : Array Bool := ⟨(List.range n).map fun i => m.testBit i⟩
theorem PY {α : Type} {p q : Prop} {y x : α} (hy : y = x) (H : q) (h : q → y = x → p := by intro H hy; first | (rw [hy]; with_reducible exact H) | (have H2_ := (Option.bind_some _ _).symm.trans H; rw [hy]; with_reducible exact H2_) | (have H2_ := (Option.bind_some _ _).symm.trans H; with_reducible exact H2_) | with_reducible exact H | (rw [hy]; exact H) | exact H) : p := h H hy
theorem QB {α : Type} {d : Kd α} {w W W' : World} {A : Option Addr} {n : Nat} {xs : List α} (HR : Aside0 (Kd.C d w A n xs)) (HB : Aside0 (Below w.heap.size w W)) (h : Kd.C d W A n xs → Kd.C d W' A n xs := by intro h; repeat (first | exact h | (with_reducible refine Kd.C_alloc ?_ _) | (with_reducible refine Kd.C_drewN ?_ _) | (with_reducible refine Kd.C_drew ?_))) : Kd.C d W' A n xs := h (Kd.C_below HR.out HB.out)
section
variable {P : Program} {md : Region.Mode} {ops : Array Oper} {Q : Exit → Act → World → Prop} {S : World → Prop} {ds : List Nat} {T : Bool × List (List Nat × List Nat)} {B : List Nat} {oi : Oper} {v : Value} {fuel : Nat} {l : Array Bool} {a a' : Act} {w : World}
theorem pW (i : Nat) (N : Option Tmp) (l' : Array Bool) (HT : Aside0 (rtab md ops = T)) (h : wpAnyLast P md ops Q S ds fuel l' a' w) (hi : ops[i]? = some oi := by exact rfl) (hN : oi.dst = N := by exact rfl) (hc : anyT T l.toList l'.toList i = true := by kernel_rfl) (hQ : ∀ c a w, Q (.panic c) (a.put oi.dst v) w → Q (.panic c) a w := by exact fun _ _ _ h => h) (hu : Region.wanted oi (yielded ops a.tmps) = true := by rfl) (hy : ∀ w', (execOp a.eval oi).run P w' = .ok (.value v) w' := by intro w'; go_simp; with_reducible rfl) (ha : a.put N v = a' := by simp only [Act.put, qT, qZ, qS, i64_w, i32_w]; rfl) : wpAnyLast P md ops Q S ds (fuel + 1) l a w := pure_ l' hi hN (any_of HT.out hc) hQ (.inl ⟨hu, hy⟩) ha h
theorem pU (i : Nat) (N : Option Tmp) (l' : Array Bool) (HT : Aside0 (rtab md ops = T)) (h : wpAnyLast P md ops Q S ds fuel l' a' w) (hi : ops[i]? = some oi := by exact rfl) (hN : oi.dst = N := by exact rfl) (hc : anyT T l.toList l'.toList i = true := by kernel_rfl) (hQ : ∀ c a w, Q (.panic c) (a.put oi.dst undef) w → Q (.panic c) a w := by exact fun _ _ _ h => h) (hu : Region.wanted oi (yielded ops a.tmps) = false := by rfl) (ha : a.put N undef = a' := by simp only [Act.put, qT, qZ, qS, i64_w, i32_w]; rfl) : wpAnyLast P md ops Q S ds (fuel + 1) l a w := pure_ l' hi hN (any_of HT.out hc) hQ (.inr ⟨hu, rfl⟩) ha h
theorem tW (i : Nat) (N : Option Tmp) (l' : Array Bool) (HT : Aside0 (rtab md ops = T)) (HW : Aside0 (waitsOk T.2 B = true)) (hS : S w) (h : wpAnyLast P md ops Q S ds fuel l' a' w) (hi : ops[i]? = some oi := by exact rfl) (hN : oi.dst = N := by exact rfl) (hc : takeW T B ds l.toList l'.toList i = true := by kernel_rfl) (hQ : ∀ c a w, Q (.panic c) (a.put oi.dst v) w → Q (.panic c) a w := by exact fun _ _ _ h => h) (hu : Region.wanted oi (yielded ops a.tmps) = true := by rfl) (hy : ∀ w', S w' → (execOp a.eval oi).run P w' = .ok (.value v) w' := by intro w' h_; (repeat (obtain ⟨s_, h_⟩ := h_)); go_simp; with_reducible rfl) (ha : a.put N v = a' := by simp only [Act.put, qT, qZ, qS, i64_w, i32_w]; rfl) : wpAnyLast P md ops Q S ds (fuel + 1) l a w := take_ l' hi hN (take_ofW HT.out HW.out hc) hQ (.inl ⟨hu, hy⟩) hS ha h
theorem nW {N' : Option Tmp} (N : Option Tmp) (h : wpAnyLast P md ops Q S ds fuel l a' w) (hN : N' = N := by exact rfl) (ha : a.put N v = a' := by simp only [Act.put, qT, qZ, qS, i64_w, i32_w]; rfl) : wpAnyLast P md ops Q S ds fuel l (a.put N' v) w := by subst hN; exact norm_ ha h
theorem nP (h : wpAnyLast P md ops Q S ds fuel l a' w) (ha : a = a' := by first | (simp only [putAll, Act.put, List.setIfInBounds_toArray, List.set_cons_zero, List.set_cons_succ]; done) | (simp only [putAll, Act.put, List.setIfInBounds_toArray, List.set_cons_zero, List.set_cons_succ]; rfl)) : wpAnyLast P md ops Q S ds fuel l a w := norm_ ha h
end
theorem PX {w W W' : World} (HB : Aside0 (Below w.heap.size w W)) (h : Below w.heap.size w W → Below w.heap.size w W' := by intro HB; repeat (first | (with_reducible first | exact HB | apply below_alloc | apply pw_below_drewN | apply below_drew1 | refine below_set ?_ (Aside0.out (by assumption))) | exact HB)) : Below w.heap.size w W' := h HB.out
theorem PF {x g : Nat} {W : World} {ad : Addr} {v : Value} (hw : W.cell? ad = some v) (G : Aside0 (W.heap.size ≤ g)) (h : ad.block ≠ g → x ≠ g := by intro h; first | exact h | (rw [add_block]; exact h) | (rw [add_block] at h; exact h) | (show (Addr.add _ _).block ≠ _; rw [add_block]; exact h) | (dsimp only; exact h)) : x ≠ g := h (Nat.ne_of_lt (Nat.lt_of_lt_of_le (World.block_lt_of_cell? _ _ hw) G.out))
theorem PD {p : Prop} [Decidable p] (h : decide p = true := by first | (with_reducible assumption) | assumption) : p := of_decide_eq_true h
theorem PH {w W : World} {a : Addr} {v : Value} (HB : Aside0 (Below w.heap.size w W)) (h : w.cell? a = some v) : W.cell? a = some v := (HB.out.cell (World.block_lt_of_cell? w _ h)).trans h
theorem gL {P : Program} {ops : Array Oper} {Q : Exit → Act → World → Prop} {rest : List Oper} {oi : Oper} {a : Act} {w : World} (N : Option Tmp) (hd : oi.dst = N) (hg : oi.guard = none) {f : FuncId} {fn : Func} {s_ : Array Operand} {ts : Array TypeId} (hf : P.funcs[f]? = some fn) (args : Array Value)
    (hop : oi.op = .call { callee := .value (.func f), args := s_, argTypes := ts }) (h : Calls P f args w fun e w' => ∃ v, e = .returned v ∧ wpList P ops Q rest (a.put N v) w') (hname : (fn.name == "runtime.NumGoroutine") = false := by kernel_rfl) (hb : fn.body.isSome = true := by rfl) (hargs : s_.map a.eval = args := by (try simp only [List.map_toArray, List.map_cons, List.map_nil]); first | done | rfl | (simp only [List.length_drop, List.length_take]; rfl)) : wpList P ops Q (oi :: rest) a w := goesL_ N hd hg hf hname hb args hop hargs h
theorem AQ {p : Prop} (h : p) : Aside0 p := ⟨h⟩
theorem QC {α : Type} {d : Kd α} {e base : Nat} {W W' : World} {ok : Nat → Prop} {A : Option Addr} {n c : Nat} {xs : List α} (HO : Aside0 (Kd.R d e W base ok (.slice A n c) xs)) (h : Kd.C d W A xs.length xs → Kd.C d W' A xs.length xs := by intro h; repeat (first | exact h | (with_reducible refine Kd.C_alloc ?_ _) | (with_reducible refine Kd.C_drewN ?_ _) | (with_reducible refine Kd.C_drew ?_))) : Kd.C d W' A xs.length xs := h (Kd.R_reads' HO.out).2.2
theorem PB {w W W' : World} (HB : Aside0 (Below w.heap.size w W)) (h : Below w.heap.size w W → Below w.heap.size w W' := by intro HB; repeat (first | (with_reducible first | exact HB | apply below_alloc | apply pw_below_drewN | apply below_drew1) | exact HB)) : Below w.heap.size w W' := h HB.out
theorem PR {α : Type} {d : Kd α} {e base : Nat} {W W' : World} {ok : Nat → Prop} {v : Value} {xs : List α} (HO : Aside0 (Kd.R d e W base ok v xs)) (h : Kd.R d e W base ok v xs → Kd.R d e W' base ok v xs := by intro h; (with_reducible repeat (first | apply Kd.R_alloc | apply Kd.R_drewN | apply Kd.R_drew)); exact h) : Kd.R d e W' base ok v xs := h HO.out
theorem PS {α : Type} {d : Kd α} {e base : Nat} {W W' : World} {ok : Nat → Prop} {v : Value} {xs : List α} (HO : Aside0 (Kd.S d e W base ok v xs)) (h : Kd.S d e W base ok v xs → Kd.S d e W' base ok v xs := by intro h; (with_reducible repeat (first | apply Kd.S_alloc | apply Kd.S_drewN | apply Kd.S_drew)); exact h) : Kd.S d e W' base ok v xs := h HO.out
theorem PN {α : Type} {d : Kd α} {e base : Nat} {W W' : World} {ok : Nat → Prop} {v : Value} {xs : List α} (HO : Aside0 (Kd.N d e W base ok v xs)) (h : Kd.N d e W base ok v xs → Kd.N d e W' base ok v xs := by intro h; (with_reducible repeat (first | apply Kd.N_alloc | apply Kd.N_drewN | apply Kd.N_drew)); exact h) : Kd.N d e W' base ok v xs := h HO.out
theorem PV {α : Type} {d : Kd α} {e base : Nat} {W W' : World} {ok : Nat → Prop} {v : Value} {xs : List α} (HO : Aside0 (Kd.V d e W base ok v xs)) (h : Kd.V d e W base ok v xs → Kd.V d e W' base ok v xs := by intro h; (with_reducible repeat (first | apply Kd.V_alloc | apply Kd.V_drewN | apply Kd.V_drew)); exact h) : Kd.V d e W' base ok v xs := h HO.out
theorem PQ {α : Type} {d : Kd α} {e base : Nat} {W W' : World} {ok : Nat → Prop} {v : Value} {xs : List α} (HO : Aside0 (Kd.Q d e W base ok v xs)) (h : Kd.Q d e W base ok v xs → Kd.Q d e W' base ok v xs := by intro h; (with_reducible repeat (first | apply Kd.Q_alloc | apply Kd.Q_drewN | apply Kd.Q_drew)); exact h) : Kd.Q d e W' base ok v xs := h HO.out
theorem PK {W W' : World} {g : Nat} {o : Obj} (H : Aside0 (W.heap[g]? = some o)) (h : W.heap[g]? = some o → W'.heap[g]? = some o := by intro h; (with_reducible repeat (first | refine blk_drewN ?_ _ | refine blk_drew ?_ | refine blk_alloc ?_ _)); exact h) : W'.heap[g]? = some o := h H.out
theorem at0_T77 {w : World} {A : Option Addr} {n : Nat} {xs : List S77} (h : Kd.C k77 w A n xs) (h1 : (0 : Int) < n) : ∃ ad A0 c0 A1 c1, A = some ad ∧ w.cell? ad = some (.slice A0 (rd_T77 xs 0).f0.length c0) ∧ w.cell? ⟨ad.block, ad.off + 1, none⟩ = some (.slice A1 (rd_T77 xs 0).f1.length c1) ∧ (rd_T77 xs 0).f0.length ≤ c0 ∧ (Kd.int .u64).C w A0 (rd_T77 xs 0).f0.length (rd_T77 xs 0).f0 ∧ (rd_T77 xs 0).f1.length ≤ c1 ∧ (Kd.int .u8).C w A1 (rd_T77 xs 0).f1.length (rd_T77 xs 0).f1 := by
 obtain ⟨ad, A0, c0, A1, c1, q0_, q1_, q2_, q3_, q4_, q5_, q6_⟩ := at_T77 h 0 (Int.le_refl 0) h1
 rw [show ((0 : Int)).toNat = 0 from rfl, show 0 * 2 = 0 from rfl, Addr.add_zero'] at q1_ q2_
 exact ⟨ad, A0, c0, A1, c1, q0_, q1_, q2_, q3_, q4_, q5_, q6_⟩
theorem at0_T74 {w : World} {A : Option Addr} {n : Nat} {xs : List S74} (h : Kd.C k74 w A n xs) (h1 : (0 : Int) < n) : ∃ ad A2 c2 A3 c3, A = some ad ∧ w.cell? ad = some (.int .i64 (rd_T74 xs 0).f0) ∧ w.cell? ⟨ad.block, ad.off + 1, none⟩ = some (.int .i64 (rd_T74 xs 0).f1) ∧ w.cell? ⟨ad.block, ad.off + 2, none⟩ = some (.slice A2 (rd_T74 xs 0).f2.length c2) ∧ w.cell? ⟨ad.block, ad.off + 3, none⟩ = some (.slice A3 (rd_T74 xs 0).f3.length c3) ∧ w.cell? ⟨ad.block, ad.off + 4, none⟩ = some (.bool (rd_T74 xs 0).f4) ∧ (rd_T74 xs 0).f2.length ≤ c2 ∧ k77.C w A2 (rd_T74 xs 0).f2.length (rd_T74 xs 0).f2 ∧ (rd_T74 xs 0).f3.length ≤ c3 ∧ (Kd.int .i64).C w A3 (rd_T74 xs 0).f3.length (rd_T74 xs 0).f3 := by
 obtain ⟨ad, A2, c2, A3, c3, q0_, q1_, q2_, q3_, q4_, q5_, q6_, q7_, q8_, q9_⟩ := at_T74 h 0 (Int.le_refl 0) h1
 rw [show ((0 : Int)).toNat = 0 from rfl, show 0 * 5 = 0 from rfl, Addr.add_zero'] at q1_ q2_ q3_ q4_ q5_
 exact ⟨ad, A2, c2, A3, c3, q0_, q1_, q2_, q3_, q4_, q5_, q6_, q7_, q8_, q9_⟩
theorem at0_T98 {w : World} {A : Option Addr} {n : Nat} {xs : List S98} (h : Kd.C k98 w A n xs) (h1 : (0 : Int) < n) : ∃ ad A0 c0 A1 c1, A = some ad ∧ w.cell? ad = some (.slice A0 (rd_T98 xs 0).f0.length c0) ∧ w.cell? ⟨ad.block, ad.off + 1, none⟩ = some (.slice A1 (rd_T98 xs 0).f1.length c1) ∧ (rd_T98 xs 0).f0.length ≤ c0 ∧ (Kd.int .u64).C w A0 (rd_T98 xs 0).f0.length (rd_T98 xs 0).f0 ∧ (rd_T98 xs 0).f1.length ≤ c1 ∧ (Kd.int .u8).C w A1 (rd_T98 xs 0).f1.length (rd_T98 xs 0).f1 := by
 obtain ⟨ad, A0, c0, A1, c1, q0_, q1_, q2_, q3_, q4_, q5_, q6_⟩ := at_T98 h 0 (Int.le_refl 0) h1
 rw [show ((0 : Int)).toNat = 0 from rfl, show 0 * 2 = 0 from rfl, Addr.add_zero'] at q1_ q2_
 exact ⟨ad, A0, c0, A1, c1, q0_, q1_, q2_, q3_, q4_, q5_, q6_⟩
end Go.Proofs.YtjmgkknbgffbjaaDoor.P
namespace Go.Proofs.YtjmgkknbgffbjaaDoor.P
open Go.RowKit Go.Proofs.YtjmgkknbgffbjaaDoorW.PrintWords Go.Proofs.YtjmgkknbgffbjaaDoorW.PrintLast Go.Proofs.YtjmgkknbgffbjaaDoorW.PrintErr Go.Proofs.YtjmgkknbgffbjaaDoorW.PrintMore
set_option linter.unusedVariables false
def SysB (w : World) (g : Nat) (n size : Int) (vk va : Value) (cl : Bool) : Prop := w.heap[g]? = some (.cells #[.int .i64 n, .int .i64 size, vk, va, .bool cl] 74 (0, 0))
structure SysO (w : World) (base : Nat) (ok : Nat → Prop) (g cap : Nat) (cs : Array Value) (x : S74) (vk va : Value) : Prop where
  blk : w.heap[g]? = some (.cells cs 74 (0, 0))
  five : cs.toList.take 5 = [.int .i64 x.f0, .int .i64 x.f1, vk, va, .bool x.f4]
  ge : base ≤ g
  okg : ok g
  c1 : 1 ≤ cap
  cm : cap ≤ maxLen
  cs5 : cs.size = cap * 5
  kept : Kd.R k77 77 w base (fun k => ok k ∧ k ≠ g) vk x.f2
  at_ : Kd.R (Kd.int .i64) 3 w base (fun k => ok k ∧ k ≠ g) va x.f3
theorem SysO.row {w : World} {base : Nat} {ok : Nat → Prop} {g cap : Nat} {cs : Array Value} {x : S74} {vk va : Value} (h : SysO w base ok g cap cs x vk va) : Kd.R k74 74 w base ok (.slice (some ⟨g, 0, none⟩) 1 cap) [x] := by
  refine ⟨fun k hk => ?_, [.int .i64 x.f0, .int .i64 x.f1, vk, va, .bool x.f4], ?_, ?_⟩
  · have : g = k := by simpa [Value.ownBlock] using hk
    subst this; exact h.okg
  · exact ⟨rfl, .inr ⟨g, cap, cs, rfl, h.ge, h.blk, h.c1, h.cm, h.cs5, h.five⟩⟩
  · refine ⟨rfl, fun j p hp => ?_⟩
    match j, hp with
    | 0, hp =>
      obtain rfl : x = p := (by simpa using hp); refine k74_mkM w base _ x (Kd.R_mono h.kept (fun k hk => ⟨hk.1, fun e => hk.2 ?_⟩)) (Kd.R_mono h.at_ (fun k hk => ⟨hk.1, fun e => hk.2 ?_⟩))
      · simpa [Value.ownBlock] using e
      · simpa [Value.ownBlock] using e
    | j + 1, hp => simp at hp
theorem sys_open {w : World} {base : Nat} {ok : Nat → Prop} {v : Value} {x : S74} (h : Kd.R k74 74 w base ok v [x]) : ∃ g cap cs vk va, v = .slice (some ⟨g, 0, none⟩) 1 cap ∧ SysO w base ok g cap cs x vk va := by
  obtain ⟨h0, inner, ⟨hlen, ho⟩, hr⟩ := h; rcases ho with ⟨_, e0⟩ | ⟨g, cap, cur, hv, hg, hh, h1, h2, h3, h4⟩
  · simp at e0
  · subst hv
    have hx := hr.2 0 x rfl; have hi : inner.length = 5 := (by rw [hlen]; rfl); rw [Nat.zero_mul, List.drop_zero, List.take_of_length_le (by rw [hi]; exact Nat.le_refl _)] at hx; obtain ⟨vk, va, he, hk, ha⟩ := k74_openM hx; refine ⟨g, cap, cur, vk, va, rfl, hh, ?_, hg, h0 g (by simp [Value.ownBlock]), h1, h2, h3, Kd.R_mono hk (fun k hk => ⟨hk.1, fun e => hk.2 (by simp [Value.ownBlock, e])⟩), Kd.R_mono ha (fun k hk => ⟨hk.1, fun e => hk.2 (by simp [Value.ownBlock, e])⟩)⟩; exact h4.trans he
theorem SysO.cell {w : World} {base : Nat} {ok : Nat → Prop} {g cap : Nat} {cs : Array Value} {x : S74} {vk va : Value} (h : SysO w base ok g cap cs x vk va) (j : Nat) (u : Value) (hj : j < 5) (hu : [.int .i64 x.f0, .int .i64 x.f1, vk, va, .bool x.f4][j]? = some u) : w.cell? ⟨g, j, none⟩ = some u := by
  refine (blk_cell h.blk j).trans ?_; rw [← h.five, List.getElem?_take_of_lt hj, Array.getElem?_toList] at hu; exact hu
theorem SysO.below {w w1 : World} {base : Nat} {ok : Nat → Prop} {g cap : Nat} {cs : Array Value} {x : S74} {vk va : Value} (h : SysO w base ok g cap cs x vk va) (hb : Below w.heap.size w w1) : SysO w1 base ok g cap cs x vk va :=
  ⟨blk_below h.blk hb, h.five, h.ge, h.okg, h.c1, h.cm, h.cs5, Kd.R_below h.kept hb, Kd.R_below h.at_ hb⟩
theorem SysO.reads {w : World} {base : Nat} {ok : Nat → Prop} {g cap : Nat} {cs : Array Value} {x : S74} {vk va : Value} (h : SysO w base ok g cap cs x vk va) : Kd.C k74 w (some ⟨g, 0, none⟩) [x].length [x] := (Kd.R_reads' h.row).2.2
theorem five_set {cs : Array Value} {a b c d e : Value} (h : cs.toList.take 5 = [a, b, c, d, e]) (j : Nat) (u : Value) : (cs.setIfInBounds j u).toList.take 5 = ([a, b, c, d, e] : List Value).set j u := by
  rw [Array.toList_setIfInBounds, ← h, List.take_set]
theorem SysO.clash {w : World} {base : Nat} {ok : Nat → Prop} {g cap : Nat} {cs : Array Value} {x : S74} {vk va : Value} (h : SysO w base ok g cap cs x vk va) :
    SysO (w.setCell ⟨g, 4, none⟩ (.bool true)) base ok g cap (cs.setIfInBounds 4 (.bool true)) ⟨x.f0, x.f1, x.f2, x.f3, true⟩ vk va :=
  ⟨blk_put h.blk 4 _ rfl, five_set h.five 4 _, h.ge, h.okg, h.c1, h.cm, by rw [Array.size_setIfInBounds]; exact h.cs5, Kd.R_far (p := ⟨g, 4, none⟩) h.kept (fun _ hk => hk.2) _, Kd.R_far (p := ⟨g, 4, none⟩) h.at_ (fun _ hk => hk.2) _⟩
theorem SysO.mono {w : World} {base : Nat} {ok ok' : Nat → Prop} {g cap : Nat} {cs : Array Value} {x : S74} {vk va : Value} (h : SysO w base ok g cap cs x vk va) (hok : ∀ k, ok k → ok' k) : SysO w base ok' g cap cs x vk va :=
  ⟨h.blk, h.five, h.ge, hok _ h.okg, h.c1, h.cm, h.cs5, Kd.R_mono h.kept (fun k hk => ⟨hok k hk.1, hk.2⟩), Kd.R_mono h.at_ (fun k hk => ⟨hok k hk.1, hk.2⟩)⟩
theorem SysB.row {w : World} {base : Nat} {ok : Nat → Prop} {g : Nat} {n size : Int} {vk va : Value} {cl : Bool} {L : List S77} {T : List Int} (h : SysB w g n size vk va cl) (hg : base ≤ g) (hok : ok g) (hk : Kd.R k77 77 w base ok vk L) (ha : Kd.R (Kd.int .i64) 3 w base ok va T) :
    Kd.R k74 74 w base ok (.slice (some ⟨g, 0, none⟩) 1 1) [⟨n, size, L, T, cl⟩] :=
  SysO.row (vk := vk) (va := va) (cs := #[.int .i64 n, .int .i64 size, vk, va, .bool cl]) ⟨h, rfl, hg, hok, Nat.le_refl _, by unfold maxLen; omega, rfl, Kd.R_types hk h (by decide), Kd.R_types ha h (by decide)⟩
end Go.Proofs.YtjmgkknbgffbjaaDoor.P
namespace Go.Proofs.YtjmgkknbgffbjaaDoor.P
open Go.RowKit Go.Proofs.YtjmgkknbgffbjaaDoorW.PrintWords Go.Proofs.YtjmgkknbgffbjaaDoorW.PrintLast Go.Proofs.YtjmgkknbgffbjaaDoorW.PrintErr Go.Proofs.YtjmgkknbgffbjaaDoorW.PrintMore
attribute [local go_sem] max2_int min2_int max_two min_two max_three min_three max_four min_four run_eql_errOf run_neq_errOf eqGuard_errOf run_eql_ptrOf run_neq_ptrOf eqGuard_ptrOf   -- for this text's walks alone
set_option linter.unusedVariables false
set_option linter.unusedSimpArgs false
def geyserref05_Check.f (a0 : Int) (a1 : Int) : Option (Int) := if a0 < 1 then (some 1) else (if a0 > 4096 then (some 1) else (if a1 < 1 then (some 1) else (if a1 > 64 then (some 1) else (some 0))))
set_option maxHeartbeats 8000000 in
set_option maxRecDepth 100000 in
theorem geyserref05_Check.calls (a0 : Int) (a1 : Int) (r : Int) (w : World) (h : geyserref05_Check.f a0 a1 = some r) :
  Calls Tryd.prog 23 #[.int .i64 a0, .int .i64 a1] w fun e w' => e = .returned (.int .i64 r) ∧ Drawn0 w w' := by
 have H : (if a0 < 1 then (some 1) else (if a0 > 4096 then (some 1) else (if a1 < 1 then (some 1) else (if a1 > 64 then (some 1) else (some 0))))) = some r := h; clear h
 by_cases c3 : a0 < 1
 ·rw [if_pos c3] at H; have c3b0 : decide (a0 < 1) = true := decide_eq_true c3; clear c3; obtain rfl := Option.some.inj H; go_enter Tryd.func23, Tryd.ntmps23; go_wp2; go_ret; exact ⟨by first | rfl | (simp; done) | (simp [*]; done), by repeat (first | exact Drawn0.refl _ | apply Drawn0.step)⟩
 ·rw [if_neg c3] at H; have c3b0 : decide (a0 < 1) = false := decide_eq_false c3; clear c3
  by_cases c4 : a0 > 4096
  ·rw [if_pos c4] at H; have c4b0 : decide (4096 < a0) = true := decide_eq_true c4; clear c4; obtain rfl := Option.some.inj H; go_enter Tryd.func23, Tryd.ntmps23; go_wp2; go_ret; exact ⟨by first | rfl | (simp; done) | (simp [*]; done), by repeat (first | exact Drawn0.refl _ | apply Drawn0.step)⟩
  ·rw [if_neg c4] at H; have c4b0 : decide (4096 < a0) = false := decide_eq_false c4; clear c4
   by_cases c5 : a1 < 1
   ·rw [if_pos c5] at H; have c5b0 : decide (a1 < 1) = true := decide_eq_true c5; clear c5; obtain rfl := Option.some.inj H; go_enter Tryd.func23, Tryd.ntmps23; go_wp2; go_ret; exact ⟨by first | rfl | (simp; done) | (simp [*]; done), by repeat (first | exact Drawn0.refl _ | apply Drawn0.step)⟩
   ·rw [if_neg c5] at H; have c5b0 : decide (a1 < 1) = false := decide_eq_false c5; clear c5
    by_cases c6 : a1 > 64
    ·rw [if_pos c6] at H; have c6b0 : decide (64 < a1) = true := decide_eq_true c6; clear c6; obtain rfl := Option.some.inj H; go_enter Tryd.func23, Tryd.ntmps23; go_wp2; go_ret; exact ⟨by first | rfl | (simp; done) | (simp [*]; done), by repeat (first | exact Drawn0.refl _ | apply Drawn0.step)⟩
    ·rw [if_neg c6] at H; have c6b0 : decide (64 < a1) = false := decide_eq_false c6; clear c6; obtain rfl := Option.some.inj H; go_enter Tryd.func23, Tryd.ntmps23; go_wp2; go_ret; exact ⟨by first | rfl | (simp; done) | (simp [*]; done), by repeat (first | exact Drawn0.refl _ | apply Drawn0.step)⟩
def geyserlaw05_light.f (a0_0 : Int) (a0_1 : Int) : Option (Bool) := if a0_0 ≤ 12 then (if a0_1 ≤ 4 then (some true) else ((geyserref05_Check.f a0_0 a0_1).bind fun t590 => (some (t590 != 0)))) else ((geyserref05_Check.f a0_0 a0_1).bind fun t591 => (some (t591 != 0)))
set_option maxHeartbeats 8000000 in
set_option maxRecDepth 100000 in
theorem geyserlaw05_light.calls (a0_0 : Int) (a0_1 : Int) (r : Bool) (w : World) (h : geyserlaw05_light.f a0_0 a0_1 = some r) :
  Calls Tryd.prog 22 #[.agg #[.int .i64 a0_0, .int .i64 a0_1]] w fun e w' => e = .returned (.bool r) ∧ Below w.heap.size w w' := by
 have hu53 := Tryd.underlying53; have HB := AQ (Below.refl w.heap.size w); have H : (if a0_0 ≤ 12 then (if a0_1 ≤ 4 then (some true) else ((geyserref05_Check.f a0_0 a0_1).bind fun t590 => (some (t590 != 0)))) else ((geyserref05_Check.f a0_0 a0_1).bind fun t591 => (some (t591 != 0)))) = some r := h; clear h
 by_cases c2 : a0_0 ≤ 12
 ·rw [if_pos c2] at H; have c2b0 : decide (a0_0 ≤ 12) = true := decide_eq_true c2; clear c2
  by_cases c3 : a0_1 ≤ 4
  ·rw [if_pos c3] at H; have c3b0 : decide (a0_1 ≤ 4) = true := decide_eq_true c3; clear c3; obtain rfl := Option.some.inj H; go_enter Tryd.func22, Tryd.ntmps22; go_wp2_with (first | ((with_reducible refine gate_dst (N := 1) rfl ?_); refine box_event ?hg (N := 1) ?hd (cs := #[.int .i64 a0_0, .int .i64 a0_1]) (t := 53) ?hr ?_; (case hd => rfl); (case hg => rfl); (case hr => first | (go_simp; done) | (go_simp; rfl)); intro gb589 hg w4 hbox hb; have n0_ := AQ (below_step (PB HB) hb); have n1_ := AQ (hbox); have n2_ := AQ ((by rw [hg]; exact (below_size (PB HB)) : w.heap.size ≤ gb589)); have n3_ := AQ ((by rw [hg]; exact (below_size (PB HB)) : w.heap.size ≤ gb589)); clear HB; have HB := n0_; have BK589 := n1_; have GW589 := n2_; have GE589 := n3_; clear n0_ n1_ n2_ n3_; clear hb hbox hg; have hcz5_0 : w4.cell? ⟨gb589, 0, none⟩ = some (.int .i64 a0_0) := (blk_cell BK589.out 0).trans rfl; have hcz5_1 : w4.cell? ⟨gb589, 1, none⟩ = some (.int .i64 a0_1) := (blk_cell BK589.out 1).trans rfl; have hfz5_0 := blk_frozen BK589.out 0; have hfz5_1 := blk_frozen BK589.out 1)); go_ret; exact ⟨by first | rfl | (simp [errW_none, errW_some] <;> rfl) | (simp [*, errW_none, errW_some] <;> rfl), PX HB⟩
  ·rw [if_neg c3] at H; have c3b0 : decide (a0_1 ≤ 4) = false := decide_eq_false c3; clear c3; replace H := Option.bind_eq_some_iff.mp H; obtain ⟨t590, A60, H⟩ := H; replace H : (some (t590 != 0)) = some r := H; have A6 := AQ A60; clear A60; obtain rfl := Option.some.inj H; go_enter Tryd.func22, Tryd.ntmps22; go_wp2_with (first | ((with_reducible refine gate_dst (N := 1) rfl ?_); refine box_event ?hg (N := 1) ?hd (cs := #[.int .i64 a0_0, .int .i64 a0_1]) (t := 53) ?hr ?_; (case hd => rfl); (case hg => rfl); (case hr => first | (go_simp; done) | (go_simp; rfl)); intro gb589 hg w7 hbox hb; have n0_ := AQ (below_step (PB HB) hb); have n1_ := AQ (hbox); have n2_ := AQ ((by rw [hg]; exact (below_size (PB HB)) : w.heap.size ≤ gb589)); have n3_ := AQ ((by rw [hg]; exact (below_size (PB HB)) : w.heap.size ≤ gb589)); clear HB; have HB := n0_; have BK589 := n1_; have GW589 := n2_; have GE589 := n3_; clear n0_ n1_ n2_ n3_; clear hb hbox hg; have hcz8_0 : w7.cell? ⟨gb589, 0, none⟩ = some (.int .i64 a0_0) := (blk_cell BK589.out 0).trans rfl; have hcz8_1 : w7.cell? ⟨gb589, 1, none⟩ = some (.int .i64 a0_1) := (blk_cell BK589.out 1).trans rfl; have hfz8_0 := blk_frozen BK589.out 0; have hfz8_1 := blk_frozen BK589.out 1) | (go_at_call 23; (with_reducible refine (geyserref05_Check.calls a0_0 a0_1 t590 _ A6.out).mono ?_); rintro e w' ⟨rfl, ⟨nd, rfl⟩⟩)); go_ret; exact ⟨by first | rfl | (simp [errW_none, errW_some] <;> rfl) | (simp [*, errW_none, errW_some] <;> rfl), PX HB⟩
 ·rw [if_neg c2] at H; have c2b0 : decide (a0_0 ≤ 12) = false := decide_eq_false c2; clear c2; replace H := Option.bind_eq_some_iff.mp H; obtain ⟨t591, A90, H⟩ := H; replace H : (some (t591 != 0)) = some r := H; have A9 := AQ A90; clear A90; obtain rfl := Option.some.inj H; go_enter Tryd.func22, Tryd.ntmps22; go_wp2_with (first | ((with_reducible refine gate_dst (N := 1) rfl ?_); refine box_event ?hg (N := 1) ?hd (cs := #[.int .i64 a0_0, .int .i64 a0_1]) (t := 53) ?hr ?_; (case hd => rfl); (case hg => rfl); (case hr => first | (go_simp; done) | (go_simp; rfl)); intro gb589 hg w10 hbox hb; have n0_ := AQ (below_step (PB HB) hb); have n1_ := AQ (hbox); have n2_ := AQ ((by rw [hg]; exact (below_size (PB HB)) : w.heap.size ≤ gb589)); have n3_ := AQ ((by rw [hg]; exact (below_size (PB HB)) : w.heap.size ≤ gb589)); clear HB; have HB := n0_; have BK589 := n1_; have GW589 := n2_; have GE589 := n3_; clear n0_ n1_ n2_ n3_; clear hb hbox hg; have hcz11_0 : w10.cell? ⟨gb589, 0, none⟩ = some (.int .i64 a0_0) := (blk_cell BK589.out 0).trans rfl; have hcz11_1 : w10.cell? ⟨gb589, 1, none⟩ = some (.int .i64 a0_1) := (blk_cell BK589.out 1).trans rfl; have hfz11_0 := blk_frozen BK589.out 0; have hfz11_1 := blk_frozen BK589.out 1) | (go_at_call 23; (with_reducible refine (geyserref05_Check.calls a0_0 a0_1 t591 _ A9.out).mono ?_); rintro e w' ⟨rfl, ⟨nd, rfl⟩⟩)); go_ret; exact ⟨by first | rfl | (simp [errW_none, errW_some] <;> rfl) | (simp [*, errW_none, errW_some] <;> rfl), PX HB⟩
def fault_New.f (a0 : ByteArray) (a1 : Int) : Option (List FE) := some (if a1 = 0 then [] else [⟨a0, true, a1⟩])
theorem fault_New.calls (a0 : ByteArray) (a1 : Int) (r : List FE) (w : World) (h : fault_New.f a0 a1 = some r) :
  Calls Tryd.prog 28 #[.string a0, .int .i64 a1] w fun e w' => ∃ v0_ : Value, e = .returned (errOf v0_) ∧ Kd.R kF 95 w' w.heap.size (fun _ => True) v0_ r ∧ Below w.heap.size w w' := by
 unfold fault_New.f at h
 by_cases hz : a1 = 0
 ·rw [if_pos hz] at h; obtain rfl := Option.some.inj h; subst hz; go_enter Tryd.func28, Tryd.ntmps28; go_wp2; go_ret; exact ⟨.slice none 0 0, rfl, fault_none _ _ _, Below.refl _ _⟩
 ·rw [if_neg hz] at h; obtain rfl := Option.some.inj h; have hz' : (a1 == 0) = false := (by simpa using hz); clear hz; go_enter Tryd.func28, Tryd.ntmps28; go_wp2; go_ret; exact ⟨.slice (some ⟨w.heap.size, 0, none⟩) 1 1, rfl, fault_row w _ _ ⟨a0, true, a1⟩ 71 _ (Nat.le_refl _) trivial (fun _ => ⟨rfl, rfl⟩) (fun h => by cases h), below_alloc (Below.refl _ _) _⟩
end Go.Proofs.YtjmgkknbgffbjaaDoor.P
namespace Go.Proofs.YtjmgkknbgffbjaaDoor.P
open Go.RowKit Go.Proofs.YtjmgkknbgffbjaaDoorW.PrintWords Go.Proofs.YtjmgkknbgffbjaaDoorW.PrintLast Go.Proofs.YtjmgkknbgffbjaaDoorW.PrintErr Go.Proofs.YtjmgkknbgffbjaaDoorW.PrintMore
attribute [local go_sem] max2_int min2_int max_two min_two max_three min_three max_four min_four run_eql_errOf run_neq_errOf eqGuard_errOf   -- for this text's walks alone
set_option linter.unusedVariables false
set_option linter.unusedSimpArgs false
theorem elim_Rank.nil (w : World) : Calls Tryd.prog 14 #[.pointer none] w fun e w' => e = .returned (.int .i64 0) ∧ Below w.heap.size w w' := by
  have HB := AQ (Below.refl w.heap.size w); go_enter Tryd.func14, Tryd.ntmps14; go_wp2; go_ret; exact ⟨rfl, PB HB⟩
theorem elim_Clashed.nil (w : World) : Calls Tryd.prog 20 #[.pointer none] w fun e w' => e = .returned (.bool false) ∧ Below w.heap.size w w' := by
  have HB := AQ (Below.refl w.heap.size w); go_enter Tryd.func20, Tryd.ntmps20; go_wp2; go_ret; exact ⟨rfl, PB HB⟩
theorem elim_Whole.nil (w : World) : Calls Tryd.prog 18 #[.pointer none] w fun e w' => e = .returned (.bool false) ∧ Below w.heap.size w w' := by
  have HB := AQ (Below.refl w.heap.size w); go_enter Tryd.func18, Tryd.ntmps18; go_wp2; go_region; go_wp2; go_ret; exact ⟨rfl, by repeat (first | (with_reducible first | exact HB.out | apply below_alloc | apply pw_below_drewN | apply below_drew1 | apply below_drew) | exact HB.out)⟩
theorem elim_Clone.nil (w : World) : Calls Tryd.prog 24 #[.pointer none] w fun e w' => e = .returned (.pointer none) ∧ Below w.heap.size w w' := by
  have HB := AQ (Below.refl w.heap.size w); go_enter Tryd.func24, Tryd.ntmps24; go_wp2; go_ret; exact ⟨rfl, PB HB⟩
set_option maxHeartbeats 4000000
set_option maxRecDepth 100000
theorem elim_Add.nil (w : World) (v1 v2 : Value) : Calls Tryd.prog 11 #[.pointer none, v1, v2] w fun e w' => ∃ v1_ : Value, e = .returned (.tuple #[.int .i64 0, errOf v1_]) ∧ Kd.R kF 95 w' w.heap.size (fun _ => True) v1_ [⟨(⟨#[101, 108, 105, 109, 46, 65, 100, 100]⟩ : ByteArray), true, 7⟩] ∧ Below w.heap.size w w' := by
  have HB := AQ (Below.refl w.heap.size w); go_enter Tryd.func11, Tryd.ntmps11; go_wp2_with ((with_reducible refine gate_callee (f := 28) rfl ?_); refine gL _ rfl rfl Tryd.func28 #[.string (⟨#[101, 108, 105, 109, 46, 65, 100, 100]⟩ : ByteArray), .int .i64 7] rfl ?_; (with_reducible refine (fault_New.calls (⟨#[101, 108, 105, 109, 46, 65, 100, 100]⟩ : ByteArray) 7 [⟨(⟨#[101, 108, 105, 109, 46, 65, 100, 100]⟩ : ByteArray), true, 7⟩] _ rfl).mono ?_); rintro e w17 ⟨v236, rfl, ho0, hb⟩; refine ⟨_, rfl, ?_⟩; have n1_ := AQ (Kd.R_lower ho0 (below_size (PB HB))); have n2_ := AQ (below_step (PB HB) hb); clear HB; have HO1 := n1_; have HB := n2_; clear n1_ n2_; (try clear hb); (try clear ho0)); go_ret2; exact ⟨_, by first | rfl | (simp [errW_none, errW_some] <;> rfl) | (simp [*, errW_none, errW_some] <;> rfl), PR HO1, PB HB⟩
theorem elim_Value.nil (w : World) (v1 : Value) : Calls Tryd.prog 13 #[.pointer none, v1] w fun e w' => ∃ v1_ : Value, e = .returned (.tuple #[.slice none 0 0, errOf v1_]) ∧ Kd.R kF 95 w' w.heap.size (fun _ => True) v1_ [⟨(⟨#[101, 108, 105, 109, 46, 86, 97, 108, 117, 101]⟩ : ByteArray), true, 7⟩] ∧ Below w.heap.size w w' := by
  have HB := AQ (Below.refl w.heap.size w); go_enter Tryd.func13, Tryd.ntmps13; go_wp2_with ((with_reducible refine gate_callee (f := 28) rfl ?_); refine gL _ rfl rfl Tryd.func28 #[.string (⟨#[101, 108, 105, 109, 46, 86, 97, 108, 117, 101]⟩ : ByteArray), .int .i64 7] rfl ?_; (with_reducible refine (fault_New.calls (⟨#[101, 108, 105, 109, 46, 86, 97, 108, 117, 101]⟩ : ByteArray) 7 [⟨(⟨#[101, 108, 105, 109, 46, 86, 97, 108, 117, 101]⟩ : ByteArray), true, 7⟩] _ rfl).mono ?_); rintro e w17 ⟨v236, rfl, ho0, hb⟩; refine ⟨_, rfl, ?_⟩; have n1_ := AQ (Kd.R_lower ho0 (below_size (PB HB))); have n2_ := AQ (below_step (PB HB) hb); clear HB; have HO1 := n1_; have HB := n2_; clear n1_ n2_; (try clear hb); (try clear ho0)); go_ret2; exact ⟨_, by first | rfl | (simp [errW_none, errW_some] <;> rfl) | (simp [*, errW_none, errW_some] <;> rfl), PR HO1, PB HB⟩
theorem elim_All.nil (w : World)  : Calls Tryd.prog 17 #[.pointer none] w fun e w' => ∃ v1_ : Value, e = .returned (.tuple #[.slice none 0 0, errOf v1_]) ∧ Kd.R kF 95 w' w.heap.size (fun _ => True) v1_ [⟨(⟨#[101, 108, 105, 109, 46, 65, 108, 108]⟩ : ByteArray), true, 7⟩] ∧ Below w.heap.size w w' := by
  have HB := AQ (Below.refl w.heap.size w); go_enter Tryd.func17, Tryd.ntmps17; go_wp2_with ((with_reducible refine gate_callee (f := 28) rfl ?_); refine gL _ rfl rfl Tryd.func28 #[.string (⟨#[101, 108, 105, 109, 46, 65, 108, 108]⟩ : ByteArray), .int .i64 7] rfl ?_; (with_reducible refine (fault_New.calls (⟨#[101, 108, 105, 109, 46, 65, 108, 108]⟩ : ByteArray) 7 [⟨(⟨#[101, 108, 105, 109, 46, 65, 108, 108]⟩ : ByteArray), true, 7⟩] _ rfl).mono ?_); rintro e w17 ⟨v236, rfl, ho0, hb⟩; refine ⟨_, rfl, ?_⟩; have n1_ := AQ (Kd.R_lower ho0 (below_size (PB HB))); have n2_ := AQ (below_step (PB HB) hb); clear HB; have HO1 := n1_; have HB := n2_; clear n1_ n2_; (try clear hb); (try clear ho0)); go_ret2; exact ⟨_, by first | rfl | (simp [errW_none, errW_some] <;> rfl) | (simp [*, errW_none, errW_some] <;> rfl), PR HO1, PB HB⟩
theorem elimM_set_rep (i d : Nat) : ((List.replicate i (-1 : Int)) ++ List.replicate (d + 1) 0).set i (-1) = List.replicate (i + 1) (-1) ++ List.replicate d 0 := by
  rw [List.set_append_right _ _ (by simp), List.length_replicate, Nat.sub_self, List.replicate_succ (n := d), List.set_cons_zero, List.replicate_succ' (n := i), List.append_assoc]; rfl
set_option maxRecDepth 100000 in
set_option maxHeartbeats 4000000 in
theorem elimM_New.calls (w : World) (n size : Int) (h0 : 1 ≤ n) (h1 : n ≤ 4096) (h2 : 1 ≤ size) (h3 : size ≤ 64) : Calls Tryd.prog 10 #[.int .i64 n, .int .i64 size] w fun e w' => ∃ (g : Nat) (va : Value), e = .returned (.tuple #[.pointer (some ⟨g, 0, none⟩), .nilIface]) ∧ w.heap.size ≤ g ∧ SysB w' g n size (.slice none 0 0) va false ∧ Kd.R (Kd.int .i64) 3 w' w.heap.size (fun _ => True) va (List.replicate n.toNat (-1)) ∧ Below w.heap.size w w' := by
  have HB := AQ (Below.refl w.heap.size w); have b0 : decide (n < 1) = false := decide_eq_false (by omega); have b1 : decide (4096 < n) = false := decide_eq_false (by omega); have b2 : decide (size < 1) = false := decide_eq_false (by omega); have b3 : decide (64 < size) = false := decide_eq_false (by omega); obtain ⟨N, rfl⟩ := Int.eq_ofNat_of_zero_le (show 0 ≤ n by omega); go_enter Tryd.func10, Tryd.ntmps10; go_wp2_with (first | ((with_reducible refine gate_dst (N := 26) rfl ?_); refine Kd.R_make (Kd.int .i64) w.heap.size 3 rfl rfl 66 _ _ rfl (N : Int) rfl rfl Tryd.underlying66 (.int .i64 0) 8 info3 rfl (by decide) (by omega) 0 (ok := fun _ => True) (okp := fun _ => True) rfl (fun _ hk => hk) trivial (by omega) (by omega) HB.out (below_size HB.out) ?_; intro v1 w1 ho hb hg_ hnew_; rw [Int.toNat_natCast] at ho; have HO1 := AQ ho; clear HB hg_ hnew_ ho; have HB := AQ hb; clear hb; obtain ⟨Ao, co, eo⟩ := Kd.R_slice HO1.out; rw [List.length_replicate] at eo; subst eo) | ((with_reducible refine gate_dst (N := 28) rfl ?_); refine box_event ?hg (N := 28) ?hd (cs := #[.int .i64 (N : Int), .int .i64 size, .slice none 0 0, .slice Ao N co, .bool false]) (t := 74) ?hr ?_; (case hd => rfl); (case hg => rfl); (case hr => first | (go_simp; done) | (go_simp; rfl)); intro g hg w3 hbox hb; have n0_ := AQ (Kd.R_below HO1.out hb); have n1_ := AQ hbox; have n2_ := AQ (show w.heap.size ≤ g by rw [hg]; exact below_size HB.out); have n3_ := AQ (below_step HB.out hb); clear HO1 HB; have HO1 := n0_; have BK := n1_; have GE := n2_; have HB := n3_; clear n0_ n1_ n2_ n3_ hb hbox hg; have hcz0 := (blk_cell BK.out 3).trans rfl)); go_loopg [34] (N + 1) (fun kq v34 w' => ∃ i : Nat, v34 = .int .i64 (i : Int) ∧ Aside0 (kq + i = N + 1 ∧ i ≤ N) ∧ Aside0 (w'.heap[g]? = some (.cells #[.int .i64 (N : Int), .int .i64 size, .slice none 0 0, .slice Ao N co, .bool false] 74 (0, 0))) ∧ Aside0 (Kd.R (Kd.int .i64) 3 w' w.heap.size (fun _ => True) (.slice Ao N co) (List.replicate i (-1) ++ List.replicate (N - i) 0)) ∧ Aside0 (Below w.heap.size w w'))
  case atStart => exact ⟨0, rfl, ⟨by omega, by omega⟩, ⟨PK BK⟩, ⟨PR HO1⟩, ⟨PB HB⟩⟩
  case round =>
    clear HB HO1 BK hcz0; obtain ⟨i, rfl, HKi, BK, HO1, HB⟩ := hrel; cases gk with
    | zero => exact absurd HKi.out.1 (by have := HKi.out.2; omega)
    | succ g1 =>
      have hcz0 := (blk_cell BK.out 3).trans rfl
      by_cases hlt : i < N
      · have hci : decide ((i : Int) < (N : Int)) = true := decide_eq_true (by omega)
        have hpi : (0 : Int) ≤ (i : Int) := (by omega); have hlen : (List.replicate i (-1 : Int) ++ List.replicate (N - i) 0).length = N := (by simp; omega); obtain ⟨g5, cap, he, hbase, hlt5, cells, hcells⟩ := Kd.R_form HO1.out (by omega); injection he with ha hb hc; subst ha; obtain ⟨c', hcl, hM, hcc, hfr⟩ := Kd.R_elem HO1.out 0 (i : Int) (by omega) (by omega); rw [Int.toNat_natCast] at hcc hM hfr; have e2 : i * Kd.sz (Kd.int .i64) + 0 = i := (by show i * 1 + 0 = i; omega); have hc9 := hcc 0 _ (by rw [show c' = [.int .i64 _] from hM]; rfl); have hf9 := hfr 0; rw [e2] at hc9 hf9; have hput := Kd.R_putn HO1.out (i : Int) (-1); rw [Int.toNat_natCast, show N - i = (N - (i + 1)) + 1 by omega, elimM_set_rep] at hput
        have hne : g ≠ g5 := fun e => by
          have h1 := BK.out; rw [e, hcells] at h1; injection h1 with h1; injection h1 with _ h1 _; exact absurd h1 (by decide)
        have hbk := blk_far (p := ⟨g5, i, none⟩) BK.out hne (.int .i64 (-1)); have hbl := HB.out.setCell (p := ⟨g5, i, none⟩) hbase (.int .i64 (-1)); have HP1 := AQ hput; have HP2 := AQ hbk; have HP3 := AQ hbl; clear hput hbk hbl hcells hM hcc hfr hb hc hlen hcl; go_wp2; go_roundg g1
        case measure => have := HKi.out.1; omega
        case rel => exact ⟨i + 1, by go_num, ⟨by have := HKi.out; omega, by omega⟩, ⟨by (with_reducible repeat (first | refine blk_drewN ?_ _ | refine blk_drew ?_)); exact HP2.out⟩, ⟨by (with_reducible repeat (first | apply Kd.R_drewN | apply Kd.R_drew)); exact HP1.out⟩, ⟨by repeat (first | (with_reducible first | exact HP3.out | apply below_alloc | apply pw_below_drewN | apply below_drew1) | exact HP3.out)⟩⟩
      · have hci : decide ((i : Int) < (N : Int)) = false := decide_eq_false (by omega)
        have ei : i = N := (by have := HKi.out.2; omega); subst ei; have HO2 := HO1.out; rw [Nat.sub_self, List.replicate_zero, List.append_nil] at HO2; have HO3 := AQ HO2; clear HO2; go_wp2; go_ret2; exact ⟨g, _, rfl, GE.out, by (with_reducible repeat (first | refine blk_drewN ?_ _ | refine blk_drew ?_)); exact BK.out, by rw [Int.toNat_natCast]; (with_reducible repeat (first | apply Kd.R_drewN | apply Kd.R_drew)); exact HO3.out, PB HB⟩
set_option maxRecDepth 100000 in
set_option maxHeartbeats 4000000 in
theorem elimM_New.no (w : World) (n size : Int) (h : ¬ (1 ≤ n ∧ n ≤ 4096 ∧ 1 ≤ size ∧ size ≤ 64)) : Calls Tryd.prog 10 #[.int .i64 n, .int .i64 size] w fun e w' => ∃ v1_ : Value, e = .returned (.tuple #[.pointer none, errOf v1_]) ∧ Kd.R kF 95 w' w.heap.size (fun _ => True) v1_ [⟨(⟨#[101, 108, 105, 109, 46, 78, 101, 119]⟩ : ByteArray), true, 1⟩] ∧ Below w.heap.size w w' := by
  have HB := AQ (Below.refl w.heap.size w)
  by_cases h0 : n < 1
  · have b0 : decide (n < 1) = true := decide_eq_true h0
    clear h h0; go_enter Tryd.func10, Tryd.ntmps10; go_wp2_with ((with_reducible refine gate_callee (f := 28) rfl ?_); refine gL _ rfl rfl Tryd.func28 #[.string (⟨#[101, 108, 105, 109, 46, 78, 101, 119]⟩ : ByteArray), .int .i64 1] rfl ?_; (with_reducible refine (fault_New.calls (⟨#[101, 108, 105, 109, 46, 78, 101, 119]⟩ : ByteArray) 1 [⟨(⟨#[101, 108, 105, 109, 46, 78, 101, 119]⟩ : ByteArray), true, 1⟩] _ rfl).mono ?_); rintro e w17 ⟨v236, rfl, ho0, hb⟩; refine ⟨_, rfl, ?_⟩; have n1_ := AQ (Kd.R_lower ho0 (below_size (PB HB))); have n2_ := AQ (below_step (PB HB) hb); clear HB; have HO1 := n1_; have HB := n2_; clear n1_ n2_; (try clear hb); (try clear ho0)); go_ret2; exact ⟨_, by first | rfl | (simp [errW_none, errW_some] <;> rfl) | (simp [*, errW_none, errW_some] <;> rfl), PR HO1, PB HB⟩
  by_cases h1 : 4096 < n
  · have b0 : decide (n < 1) = false := decide_eq_false h0
    have b1 : decide (4096 < n) = true := decide_eq_true h1; clear h h0 h1; go_enter Tryd.func10, Tryd.ntmps10; go_wp2_with ((with_reducible refine gate_callee (f := 28) rfl ?_); refine gL _ rfl rfl Tryd.func28 #[.string (⟨#[101, 108, 105, 109, 46, 78, 101, 119]⟩ : ByteArray), .int .i64 1] rfl ?_; (with_reducible refine (fault_New.calls (⟨#[101, 108, 105, 109, 46, 78, 101, 119]⟩ : ByteArray) 1 [⟨(⟨#[101, 108, 105, 109, 46, 78, 101, 119]⟩ : ByteArray), true, 1⟩] _ rfl).mono ?_); rintro e w17 ⟨v236, rfl, ho0, hb⟩; refine ⟨_, rfl, ?_⟩; have n1_ := AQ (Kd.R_lower ho0 (below_size (PB HB))); have n2_ := AQ (below_step (PB HB) hb); clear HB; have HO1 := n1_; have HB := n2_; clear n1_ n2_; (try clear hb); (try clear ho0)); go_ret2; exact ⟨_, by first | rfl | (simp [errW_none, errW_some] <;> rfl) | (simp [*, errW_none, errW_some] <;> rfl), PR HO1, PB HB⟩
  by_cases h2 : size < 1
  · have b0 : decide (n < 1) = false := decide_eq_false h0
    have b1 : decide (4096 < n) = false := decide_eq_false h1; have b2 : decide (size < 1) = true := decide_eq_true h2; clear h h0 h1 h2; go_enter Tryd.func10, Tryd.ntmps10; go_wp2_with ((with_reducible refine gate_callee (f := 28) rfl ?_); refine gL _ rfl rfl Tryd.func28 #[.string (⟨#[101, 108, 105, 109, 46, 78, 101, 119]⟩ : ByteArray), .int .i64 1] rfl ?_; (with_reducible refine (fault_New.calls (⟨#[101, 108, 105, 109, 46, 78, 101, 119]⟩ : ByteArray) 1 [⟨(⟨#[101, 108, 105, 109, 46, 78, 101, 119]⟩ : ByteArray), true, 1⟩] _ rfl).mono ?_); rintro e w17 ⟨v236, rfl, ho0, hb⟩; refine ⟨_, rfl, ?_⟩; have n1_ := AQ (Kd.R_lower ho0 (below_size (PB HB))); have n2_ := AQ (below_step (PB HB) hb); clear HB; have HO1 := n1_; have HB := n2_; clear n1_ n2_; (try clear hb); (try clear ho0)); go_ret2; exact ⟨_, by first | rfl | (simp [errW_none, errW_some] <;> rfl) | (simp [*, errW_none, errW_some] <;> rfl), PR HO1, PB HB⟩
  · have b0 : decide (n < 1) = false := decide_eq_false h0
    have b1 : decide (4096 < n) = false := decide_eq_false h1; have b2 : decide (size < 1) = false := decide_eq_false h2; have b3 : decide (64 < size) = true := decide_eq_true (by omega); clear h h0 h1 h2; go_enter Tryd.func10, Tryd.ntmps10; go_wp2_with ((with_reducible refine gate_callee (f := 28) rfl ?_); refine gL _ rfl rfl Tryd.func28 #[.string (⟨#[101, 108, 105, 109, 46, 78, 101, 119]⟩ : ByteArray), .int .i64 1] rfl ?_; (with_reducible refine (fault_New.calls (⟨#[101, 108, 105, 109, 46, 78, 101, 119]⟩ : ByteArray) 1 [⟨(⟨#[101, 108, 105, 109, 46, 78, 101, 119]⟩ : ByteArray), true, 1⟩] _ rfl).mono ?_); rintro e w17 ⟨v236, rfl, ho0, hb⟩; refine ⟨_, rfl, ?_⟩; have n1_ := AQ (Kd.R_lower ho0 (below_size (PB HB))); have n2_ := AQ (below_step (PB HB) hb); clear HB; have HO1 := n1_; have HB := n2_; clear n1_ n2_; (try clear hb); (try clear ho0)); go_ret2; exact ⟨_, by first | rfl | (simp [errW_none, errW_some] <;> rfl) | (simp [*, errW_none, errW_some] <;> rfl), PR HO1, PB HB⟩
end Go.Proofs.YtjmgkknbgffbjaaDoor.P
namespace Go.Proofs.YtjmgkknbgffbjaaDoor.P
open Go.RowKit Go.Proofs.YtjmgkknbgffbjaaDoorW.PrintWords Go.Proofs.YtjmgkknbgffbjaaDoorW.PrintLast Go.Proofs.YtjmgkknbgffbjaaDoorW.PrintErr Go.Proofs.YtjmgkknbgffbjaaDoorW.PrintMore
attribute [local go_sem] max2_int min2_int max_two min_two max_three min_three max_four min_four run_eql_errOf run_neq_errOf eqGuard_errOf run_eql_ptrOf run_neq_ptrOf eqGuard_ptrOf   -- for this text's walks alone
set_option linter.unusedVariables false
set_option linter.unusedSimpArgs false
def elim_New.f (a0 : Int) (a1 : Int) : Option (List S74 × List FE) := some (if 1 ≤ a0 ∧ a0 ≤ 4096 ∧ 1 ≤ a1 ∧ a1 ≤ 64 then ([⟨a0, a1, [], List.replicate a0.toNat (-1), false⟩], []) else ([], [⟨(⟨#[101, 108, 105, 109, 46, 78, 101, 119]⟩ : ByteArray), true, 1⟩]))
theorem elim_New.calls (a0 : Int) (a1 : Int) (r1 : List S74) (r2 : List FE) (w : World) (h : elim_New.f a0 a1 = some (r1, r2)) :
  Calls Tryd.prog 10 #[.int .i64 a0, .int .i64 a1] w fun e w' => ∃ v0_ v1_ : Value, e = .returned (.tuple #[(ptrOf v0_), (errOf v1_)]) ∧ Kd.R k74 74 w' w.heap.size (fun _ => True) v0_ r1 ∧ Kd.R kF 95 w' w.heap.size (fun _ => True) v1_ r2 ∧ Below w.heap.size w w' := by
 unfold elim_New.f at h
 by_cases hz : 1 ≤ a0 ∧ a0 ≤ 4096 ∧ 1 ≤ a1 ∧ a1 ≤ 64
 ·rw [if_pos hz] at h; obtain ⟨rfl, rfl⟩ := Prod.mk.inj (Option.some.inj h); refine (elimM_New.calls w a0 a1 hz.1 hz.2.1 hz.2.2.1 hz.2.2.2).mono fun e w' hx => ?_
  obtain ⟨g, va, rfl, hg, hs, ha, hb⟩ := hx; exact ⟨_, .slice none 0 0, by rw [ptrOf_pos _ _ _ (by decide)]; rfl, SysB.row hs hg trivial (Kd.R_nil _ _ _ _ _) ha, fault_none _ _ _, hb⟩
 ·rw [if_neg hz] at h; obtain ⟨rfl, rfl⟩ := Prod.mk.inj (Option.some.inj h); refine (elimM_New.no w a0 a1 hz).mono fun e w' hx => ?_
  obtain ⟨v1_, he, h1, hb⟩ := hx; exact ⟨.slice none 0 0, v1_, he, Kd.R_nil _ _ _ _ _, h1, hb⟩
def packed_Size.f (a0 : Int) : Option (Int) := if a0 < 0 then (some 0) else (if a0 > 4096 then (some 0) else (some (wrap64 (Int.tdiv (wrap64 (a0 + 63)) 64))))
set_option maxHeartbeats 8000000 in
set_option maxRecDepth 100000 in
theorem packed_Size.calls (a0 : Int) (r : Int) (w : World) (h : packed_Size.f a0 = some r) :
  Calls Tryd.prog 46 #[.int .i64 a0] w fun e w' => e = .returned (.int .i64 r) ∧ Drawn0 w w' := by
 have H : (if a0 < 0 then (some 0) else (if a0 > 4096 then (some 0) else (some (wrap64 (Int.tdiv (wrap64 (a0 + 63)) 64))))) = some r := h; clear h
 by_cases c2 : a0 < 0
 ·rw [if_pos c2] at H; have c2b0 : decide (a0 < 0) = true := decide_eq_true c2; clear c2; obtain rfl := Option.some.inj H; go_enter Tryd.func46, Tryd.ntmps46; go_wp2; go_ret; exact ⟨by first | rfl | (simp; done) | (simp [*]; done), by repeat (first | exact Drawn0.refl _ | apply Drawn0.step)⟩
 ·rw [if_neg c2] at H; have c2b0 : decide (a0 < 0) = false := decide_eq_false c2; clear c2
  by_cases c3 : a0 > 4096
  ·rw [if_pos c3] at H; have c3b0 : decide (4096 < a0) = true := decide_eq_true c3; clear c3; obtain rfl := Option.some.inj H; go_enter Tryd.func46, Tryd.ntmps46; go_wp2; go_ret; exact ⟨by first | rfl | (simp; done) | (simp [*]; done), by repeat (first | exact Drawn0.refl _ | apply Drawn0.step)⟩
  ·rw [if_neg c3] at H; have c3b0 : decide (4096 < a0) = false := decide_eq_false c3; clear c3; obtain rfl := Option.some.inj H; go_enter Tryd.func46, Tryd.ntmps46; go_wp2; go_ret; exact ⟨by first | rfl | (simp; done) | (simp [*]; done), by repeat (first | exact Drawn0.refl _ | apply Drawn0.step)⟩
end Go.Proofs.YtjmgkknbgffbjaaDoor.P
namespace Go.Proofs.YtjmgkknbgffbjaaDoor.P
open Go.RowKit Go.Proofs.YtjmgkknbgffbjaaDoorW.PrintWords Go.Proofs.YtjmgkknbgffbjaaDoorW.PrintLast Go.Proofs.YtjmgkknbgffbjaaDoorW.PrintErr Go.Proofs.YtjmgkknbgffbjaaDoorW.PrintMore
attribute [local go_sem] max2_int min2_int max_two min_two max_three min_three max_four min_four run_eql_errOf run_neq_errOf eqGuard_errOf   -- for this text's walks alone
set_option linter.unusedVariables false
set_option linter.unusedSimpArgs false
def elimM_fits.f (l0 : List (S74)) (l1 : List Int) : Option (Bool) := if 0 < (l0.length : Int) then ((packed_Size.f ((rd_T74 l0 0).f0)).bind fun t131 => (if (l1.length : Int) = t131 then (if (Int.tmod ((rd_T74 l0 0).f0) 64) = 0 then (some true) else (if 0 ≤ (wrap64 ((l1.length : Int) - 1)) then (if (wrap64 ((l1.length : Int) - 1)) < (l1.length : Int) then (if 0 ≤ (Int.tmod ((rd_T74 l0 0).f0) 64) then (some ((shr .u64 (rd l1 (wrap64 ((l1.length : Int) - 1))) (Int.tmod ((rd_T74 l0 0).f0) 64)) == 0)) else (none)) else (none)) else (none))) else (some false))) else (none)
set_option maxRecDepth 100000 in
set_option maxHeartbeats 4000000 in
theorem elimM_fits.calls (ad900 : Addr) (l0 : List (S74)) (A1 : Option Addr) (c1 : Nat) (l1 : List Int) (r : Bool) (w : World) (hr0 : Kd.C k74 w (some ad900) l0.length l0) (hr1 : Kd.C (Kd.int .u64) w A1 l1.length l1) (hc1 : l1.length ≤ c1) (h : elimM_fits.f l0 l1 = some r) :
  Calls Tryd.prog 29 #[.pointer (some ad900), .slice A1 l1.length c1] w fun e w' => e = .returned (.bool r) ∧ Below w.heap.size w w' := by
 unfold elimM_fits.f at h
 by_cases c3 : 0 < (l0.length : Int)
 ·rw [if_pos c3] at h; obtain ⟨S, hS, h⟩ := Option.bind_eq_some_iff.mp h; obtain ⟨ad, A2, c2, A3, c3', e, hc0, _⟩ := at_T74 hr0 0 (by omega) c3; obtain rfl : ad900 = ad := by injection e
  have hc0 : w.cell? ad900 = some (.int .i64 (rd_T74 l0 0).f0) := by
   rw [show ((0 : Int)).toNat = 0 from rfl, show 0 * 5 = 0 from rfl, Addr.add_zero'] at hc0; exact hc0
  obtain ⟨n, hn⟩ : ∃ n, n = (rd_T74 l0 0).f0 := ⟨_, rfl⟩; rw [← hn] at hS h hc0; have HR := AQ hr1; have HS := AQ hS; clear hr0 hr1 hc1 hS hn e c3
  by_cases e1 : (l1.length : Int) = S
  ·have b1 : ((l1.length : Int) == S) = true := beq_iff_eq.mpr e1; rw [if_pos e1] at h
   by_cases e2 : Int.tmod n 64 = 0
   ·have b2 : (Int.tmod n 64 == 0) = true := beq_iff_eq.mpr e2; rw [if_pos e2] at h; obtain rfl := Option.some.inj h; go_enter Tryd.func29, Tryd.ntmps29; (try go_wp2); go_quiet ((go_at_call 46; exact Calls.quiet_of ((packed_Size.calls n S _ HS.out).mono (fun _ _ h => ⟨h.1, h.2.out⟩)))); go_wp2; go_ret; exact ⟨rfl, Drawn0.below ⟨⟨_, rfl⟩⟩⟩
   ·have b2 : (Int.tmod n 64 == 0) = false := beq_eq_false_iff_ne.mpr e2; rw [if_neg e2] at h; obtain ⟨ix, hix⟩ : ∃ ix : Int, wrap64 ((l1.length : Int) - 1) = ix := ⟨_, rfl⟩; rw [hix] at h; have w1 : IntKind.i64.wrap ((l1.length : Int) - 1) = ix := by rw [i64_w]; exact hix
    by_cases p1 : 0 ≤ ix
    ·rw [if_pos p1] at h
     by_cases q1 : ix < (l1.length : Int)
     ·rw [if_pos q1] at h
      by_cases t0 : 0 ≤ Int.tmod n 64
      ·rw [if_pos t0] at h; obtain ⟨ad, ead, hx⟩ := Kd.at_int HR.out ix p1 q1; cases ead; have t1 : Int.tmod n 64 ≤ 64 := (by have := Int.tmod_lt_of_pos n (show (0 : Int) < 64 by omega); omega); obtain ⟨z, hz⟩ : ∃ z, z = shr .u64 (rd l1 ix) (Int.tmod n 64) := ⟨_, rfl⟩; have hz1 : (rd l1 ix) / 2 ^ (Int.tmod n 64).toNat = z := (by rw [hz]; exact shr_small rfl t1); have hz2 : (rd l1 ix) / 2 ^ min (Int.tmod n 64).toNat 64 = z := hz.symm; rw [← hz] at h; clear e1; have b3 : decide (0 ≤ Int.tmod n 64) = true := decide_eq_true t0; have p2 := eq_true p1; have q2 := eq_true q1; clear hz; obtain rfl := Option.some.inj h; go_enter Tryd.func29, Tryd.ntmps29; (try go_wp2); go_quiet ((go_at_call 46; exact Calls.quiet_of ((packed_Size.calls n S _ HS.out).mono (fun _ _ h => ⟨h.1, h.2.out⟩)))); go_wp2; go_ret; exact ⟨rfl, Drawn0.below ⟨⟨_, rfl⟩⟩⟩
      ·rw [if_neg t0] at h; exact absurd h (by simp)
     ·rw [if_neg q1] at h; exact absurd h (by simp)
    ·rw [if_neg p1] at h; exact absurd h (by simp)
  ·have b1 : ((l1.length : Int) == S) = false := beq_eq_false_iff_ne.mpr e1; rw [if_neg e1] at h; obtain rfl := Option.some.inj h; go_enter Tryd.func29, Tryd.ntmps29; (try go_wp2); go_quiet ((go_at_call 46; exact Calls.quiet_of ((packed_Size.calls n S _ HS.out).mono (fun _ _ h => ⟨h.1, h.2.out⟩)))); go_wp2; go_ret; exact ⟨rfl, Drawn0.below ⟨⟨_, rfl⟩⟩⟩
 ·rw [if_neg c3] at h; exact absurd h (by simp)
end Go.Proofs.YtjmgkknbgffbjaaDoor.P
namespace Go.Proofs.YtjmgkknbgffbjaaDoor.P
open Go.RowKit Go.Proofs.YtjmgkknbgffbjaaDoorW.PrintWords Go.Proofs.YtjmgkknbgffbjaaDoorW.PrintLast Go.Proofs.YtjmgkknbgffbjaaDoorW.PrintErr Go.Proofs.YtjmgkknbgffbjaaDoorW.PrintMore
attribute [local go_sem] max2_int min2_int max_two min_two max_three min_three max_four min_four run_eql_errOf run_neq_errOf eqGuard_errOf run_eql_ptrOf run_neq_ptrOf eqGuard_ptrOf   -- for this text's walks alone
set_option linter.unusedVariables false
set_option linter.unusedSimpArgs false
def bits_TrailingZeros64.f (a0 : Int) : Option (Int) := if 0 ≤ a0 ∧ a0 < 18446744073709551616 then some ((Lib.ctz 64 a0.toNat : Nat) : Int) else none
theorem bits_TrailingZeros64.core (x k idx : Nat) (w : World) (hx0 : ((x : Int) == 0) = false)
  (key : IntKind.u64.wrap (Go.bits BinOp.and IntKind.u64 (x : Int) (IntKind.u64.wrap (-(x : Int))) * 285870213051353865) / 288230376151711744 = (idx : Int))
  (hi : idx < 64) (hk : k < 64) (hcell : w.cell? ⟨1, idx, none⟩ = some (.int .u8 k)) :
  Calls Tryd.prog 68 #[.int .u64 x] w fun e w' => e = .returned (.int .i64 k) ∧ w' = w := by
 go_enter Tryd.func68, Tryd.ntmps68; go_wp2_with (simp only [key]); go_ret; exact ⟨rfl, rfl⟩
theorem bits_TrailingZeros64.zero (w : World) : Calls Tryd.prog 68 #[.int .u64 0] w fun e w' => e = .returned (.int .i64 64) ∧ w' = w := by
 go_enter Tryd.func68, Tryd.ntmps68; go_wp2; go_ret; exact ⟨rfl, rfl⟩
theorem bits_TrailingZeros64.calls (a0 : Int) (r : Int) (w : World) (ht : TabIn w) (h : bits_TrailingZeros64.f a0 = some r) :
  Calls Tryd.prog 68 #[.int .u64 a0] w fun e w' => e = .returned (.int .i64 r) ∧ Drawn0 w w' := by
 unfold bits_TrailingZeros64.f at h; split at h
 ·rename_i hh; obtain ⟨x, rfl⟩ := Int.eq_ofNat_of_zero_le hh.1; have hx : x < 18446744073709551616 := (by omega); obtain rfl := Option.some.inj h; rw [Int.toNat_natCast]
  by_cases hx0 : x = 0
  ·subst hx0; exact (bits_TrailingZeros64.zero w).mono fun e w' ⟨he, hw⟩ => ⟨by rw [he]; rfl, by rw [hw]; exact Drawn0.refl _⟩
  ·obtain ⟨hlow, hk⟩ := Lib.lowest_bit 64 x hx0 hx; obtain ⟨hi, htab⟩ := Lib.deBruijn64_at _ hk; have hc := ht _ hi; rw [htab] at hc; exact (bits_TrailingZeros64.core x _ _ w (by simp; omega) (Go.Proofs.tz64_key x _ hx hx0 hlow) hi hk hc).mono fun e w' ⟨he, hw⟩ => ⟨he, by rw [hw]; exact Drawn0.refl _⟩
 ·cases h
def packed_First.l0 : Nat → List Int → Int → Int → Option (Int)
 | 0, _, _, _ => none
 | k + 1, x5, x6, x7 => if x7 < x6 then (if 0 ≤ x7 then (if x7 < (x5.length : Int) then (if (rd x5 x7) = 0 then (packed_First.l0 k x5 x6 (wrap64 (x7 + 1))) else ((bits_TrailingZeros64.f (rd x5 x7)).bind fun t128 => (some (wrap64 ((wrap64 (64 * x7)) + t128))))) else (none)) else (none)) else (some (-1))
def packed_First.f (k : Nat) (l0 : List Int) : Option (Int) := packed_First.l0 k l0 (l0.length : Int) 0
theorem packed_First.mono_l : ∀ k, (∀ y0 y1 y2, LeO (packed_First.l0 k y0 y1 y2) (packed_First.l0 (k + 1) y0 y1 y2))
 | 0 => fun _ _ _ r h => by simp [packed_First.l0] at h
 | k + 1 => by
  have ih0 := packed_First.mono_l k
  ·intro y0 y1 y2; unfold packed_First.l0
   repeat' first
   | (with_reducible exact ih0 _ _ _)
   | (with_reducible exact LeO.refl _)
   | (with_reducible exact LeO.none _)
   | (with_reducible refine LeO.ite ?_ ?_)
   | (with_reducible refine LeO.bind ?_ (fun _ => ?_))
   | exact ih0 _ _ _
   | exact LeO.none _
   | refine LeO.ite ?_ ?_
   | refine LeO.bind ?_ (fun _ => ?_)
theorem packed_First.mono : ∀ a0 k, LeO (packed_First.f k a0) (packed_First.f (k + 1) a0) := by
 intro a0 k; have ih0 := packed_First.mono_l k; unfold packed_First.f
 repeat' first
   | (with_reducible exact ih0 _ _ _)
   | (with_reducible exact LeO.refl _)
   | (with_reducible exact LeO.none _)
   | (with_reducible refine LeO.ite ?_ ?_)
   | (with_reducible refine LeO.bind ?_ (fun _ => ?_))
   | exact ih0 _ _ _
   | exact LeO.none _
   | refine LeO.ite ?_ ?_
   | refine LeO.bind ?_ (fun _ => ?_)
set_option maxHeartbeats 8000000 in
set_option maxRecDepth 100000 in
theorem packed_First.calls (k : Nat) (A0 : Option Addr) (c0 : Nat) (l0 : List Int) (r : Int) (w : World) (ht : TabIn w) (hr0 : Kd.C (Kd.int .u64) w A0 l0.length l0) (hc0 : l0.length ≤ c0) (h : packed_First.f k l0 = some r) :
  Calls Tryd.prog 47 #[.slice A0 l0.length c0] w fun e w' => e = .returned (.int .i64 r) ∧ Drawn0 w w' := by
 have HR0 := AQ hr0; have HC0 := AQ hc0; clear hr0 hc0; have HT := AQ ht; clear ht; have H : (packed_First.l0 k l0 (l0.length : Int) 0) = some r := h; clear h; have H' := AQ H; clear H; go_enter Tryd.func47, Tryd.ntmps47; go_wp2; go_loopg [7] k (fun kq v7 w' => ∃ (x7_1 : Int), v7 = .int .i64 x7_1 ∧ Aside0 (packed_First.l0 kq l0 (l0.length : Int) x7_1 = some r) ∧ Aside0 (kq ≤ k) ∧ Drawn0 w w')
 case atStart => exact ⟨(0), (by first | rfl | (simp; done) | (simp [*]; done)), H', ⟨Nat.le_refl _⟩, by repeat (first | exact Drawn0.refl _ | apply Drawn0.step)⟩
 case round =>
  clear H'; obtain ⟨x7_1, rfl, HA, HK1, ⟨m1, rfl⟩⟩ := hrel; cases gk with
  | zero => exact absurd HA.out (by simp [packed_First.l0])
  | succ k1 =>
   have H := HA.out; clear HA; simp only [packed_First.l0] at H
   by_cases c2 : x7_1 < (l0.length : Int)
   ·rw [if_pos c2] at H; have c2b0 : decide (x7_1 < (l0.length : Int)) = true := decide_eq_true c2; clear c2
    by_cases c3 : 0 ≤ x7_1
    ·rw [if_pos c3] at H; have c3b0 : decide (0 ≤ x7_1) = true := decide_eq_true c3; clear c3
     by_cases c4 : x7_1 < (l0.length : Int)
     ·rw [if_pos c4] at H; have c4b0 : decide (x7_1 < (l0.length : Int)) = true := decide_eq_true c4; clear c4
      by_cases c5 : (rd l0 x7_1) = 0
      ·rw [if_pos c5] at H; have c5b0 : ((rd l0 x7_1) == 0) = true := beq_iff_eq.mpr c5; have c5b1 : ((rd l0 x7_1) != 0) = false := bne_eq_false_iff_eq.mpr c5; clear c5; have H' := AQ H; clear H; have p127 : 0 ≤ (x7_1 : Int) := PD; have q127 : x7_1 < (l0.length : Int) := PD; obtain ⟨ad127, e127, hx127_0⟩ := Kd.at_int HR0.out x7_1 p127 q127; cases e127; replace p127 := eq_true p127; replace q127 := eq_true q127; go_wp2; go_roundg k1
       case measure => have := HK1.out; omega
       case rel => exact ⟨(wrap64 (x7_1 + 1)), (by first | rfl | (simp; done) | (simp [*]; done)), H', ⟨by have := HK1.out; omega⟩, by repeat (first | exact Drawn0.refl _ | apply Drawn0.step)⟩
      ·rw [if_neg c5] at H; have c5b0 : ((rd l0 x7_1) == 0) = false := beq_eq_false_iff_ne.mpr c5; have c5b1 : ((rd l0 x7_1) != 0) = true := bne_iff_ne.mpr c5; replace H := Option.bind_eq_some_iff.mp H; obtain ⟨t128, A60, H⟩ := H; replace H : (some (wrap64 ((wrap64 (64 * x7_1)) + t128))) = some r := H; have A6 := AQ A60; clear A60; obtain rfl := Option.some.inj H; have p127 : 0 ≤ (x7_1 : Int) := PD; have q127 : x7_1 < (l0.length : Int) := PD; obtain ⟨ad127, e127, hx127_0⟩ := Kd.at_int HR0.out x7_1 p127 q127; cases e127; replace p127 := eq_true p127; replace q127 := eq_true q127; go_wp2_with (first | ((with_reducible refine gate_callee (f := 68) rfl ?_); refine gL (some 17) rfl rfl Tryd.func68 #[.int .u64 (rd l0 x7_1)] rfl ?_; (with_reducible refine (bits_TrailingZeros64.calls (rd l0 x7_1) t128 _ ?side1 A6.out).mono ?_); (case side1 => first | exact HT.out | exact TabIn.below HT.out (HB.out) | (repeat (first | apply TabIn.drewN | apply TabIn.drew | exact HT.out))); rintro e w' ⟨rfl, ⟨nd, rfl⟩⟩; refine ⟨_, rfl, ?_⟩)); go_ret; exact ⟨by first | rfl | (simp; done) | (simp [*]; done), by repeat (first | exact Drawn0.refl _ | apply Drawn0.step)⟩
     ·rw [if_neg c4] at H; exact absurd H (by simp)
    ·rw [if_neg c3] at H; exact absurd H (by simp)
   ·rw [if_neg c2] at H; have c2b0 : decide (x7_1 < (l0.length : Int)) = false := decide_eq_false c2; clear c2; obtain rfl := Option.some.inj H; go_wp2; go_ret; exact ⟨by first | rfl | (simp; done) | (simp [*]; done), by repeat (first | exact Drawn0.refl _ | apply Drawn0.step)⟩
def packed_Has.f (l0 : List Int) (a1 : Int) : Option (Bool) := if a1 ≥ 0 then (if (wrap64 (Int.tdiv a1 64)) < (l0.length : Int) then (if 0 ≤ (wrap64 (Int.tdiv a1 64)) then (if 0 ≤ (Int.tmod a1 64) then (some ((Go.bits .and .u64 (shr .u64 (rd l0 (wrap64 (Int.tdiv a1 64))) (Int.tmod a1 64)) 1) == 1)) else (none)) else (none)) else (some false)) else (some false)
set_option maxHeartbeats 8000000 in
set_option maxRecDepth 100000 in
theorem packed_Has.calls (A0 : Option Addr) (c0 : Nat) (l0 : List Int) (a1 : Int) (r : Bool) (w : World) (hr0 : Kd.C (Kd.int .u64) w A0 l0.length l0) (hc0 : l0.length ≤ c0) (h : packed_Has.f l0 a1 = some r) :
  Calls Tryd.prog 48 #[.slice A0 l0.length c0, .int .i64 a1] w fun e w' => e = .returned (.bool r) ∧ Drawn0 w w' := by
 have HR0 := AQ hr0; have HC0 := AQ hc0; clear hr0 hc0; have H : (if a1 ≥ 0 then (if (wrap64 (Int.tdiv a1 64)) < (l0.length : Int) then (if 0 ≤ (wrap64 (Int.tdiv a1 64)) then (if 0 ≤ (Int.tmod a1 64) then (some ((Go.bits .and .u64 (shr .u64 (rd l0 (wrap64 (Int.tdiv a1 64))) (Int.tmod a1 64)) 1) == 1)) else (none)) else (none)) else (some false)) else (some false)) = some r := h; clear h
 by_cases c3 : a1 ≥ 0
 ·rw [if_pos c3] at H; have c3b0 : decide (0 ≤ a1) = true := decide_eq_true c3; clear c3
  by_cases c4 : (wrap64 (Int.tdiv a1 64)) < (l0.length : Int)
  ·rw [if_pos c4] at H; have c4b0 : decide ((wrap64 (Int.tdiv a1 64)) < (l0.length : Int)) = true := decide_eq_true c4; clear c4; obtain ⟨ji5, hji5⟩ : ∃ j_ : Int, (wrap64 (Int.tdiv a1 64)) = j_ := ⟨_, rfl⟩; replace H : (if 0 ≤ (ji5) then (if 0 ≤ (Int.tmod a1 64) then (some ((Go.bits .and .u64 (shr .u64 (rd l0 (ji5)) (Int.tmod a1 64)) 1) == 1)) else (none)) else (none)) = some r := (by first | (rw [hji5] at H; exact H) | (simp only [hji5] at H ⊢; exact H)); (try rw [hji5] at c4b0); have hji5w : (IntKind.i64.wrap (Int.tdiv a1 64)) = ji5 := (i64_w _).trans hji5
   by_cases c6 : 0 ≤ (ji5)
   ·rw [if_pos c6] at H; have c6b0 : decide (0 ≤ (ji5)) = true := decide_eq_true c6; clear c6; obtain ⟨ji7, hji7⟩ : ∃ j_ : Int, (Int.tmod a1 64) = j_ := ⟨_, rfl⟩; replace H : (if 0 ≤ (ji7) then (some ((Go.bits .and .u64 (shr .u64 (rd l0 (ji5)) (ji7)) 1) == 1)) else (none)) = some r := by first | (rw [hji7] at H; exact H) | (simp only [hji7] at H ⊢; exact H)
    by_cases c8 : 0 ≤ (ji7)
    ·rw [if_pos c8] at H; have c8b0 := eq_true c8; have c8b1 : decide (0 ≤ (ji7)) = true := decide_eq_true c8; clear c8; obtain ⟨ji9, hji9⟩ : ∃ j_ : Int, (shr .u64 (rd l0 (ji5)) (ji7)) = j_ := ⟨_, rfl⟩; replace H : (some ((Go.bits .and .u64 (ji9) 1) == 1)) = some r := (by first | (rw [hji9] at H; exact H) | (simp only [hji9] at H ⊢; exact H)); have hji9_ : ((rd l0 (ji5)) / 2 ^ min (ji7).toNat 64) = ji9 := hji9; have hji9z : (ji7) ≤ 64 → ((rd l0 (ji5)) / 2 ^ (ji7).toNat) = ji9 := shr_small hji9; obtain rfl := Option.some.inj H; have p129 : 0 ≤ ((ji5) : Int) := PD; have q129 : (ji5) < (l0.length : Int) := PD; obtain ⟨ad129, e129, hx129_0⟩ := Kd.at_int HR0.out (ji5) p129 q129; cases e129; replace p129 := eq_true p129; replace q129 := eq_true q129; go_enter Tryd.func48, Tryd.ntmps48; go_wp2; go_ret; exact ⟨by first | rfl | (simp; done) | (simp only [← hji5, ← hji7, ← hji9] <;> (first | rfl | simp)) | (simp [*]; done), by repeat (first | exact Drawn0.refl _ | apply Drawn0.step)⟩
    ·rw [if_neg c8] at H; exact absurd H (by simp)
   ·rw [if_neg c6] at H; exact absurd H (by simp)
  ·rw [if_neg c4] at H; have c4b0 : decide ((wrap64 (Int.tdiv a1 64)) < (l0.length : Int)) = false := decide_eq_false c4; clear c4; obtain rfl := Option.some.inj H; go_enter Tryd.func48, Tryd.ntmps48; go_wp2; go_ret; exact ⟨by first | rfl | (simp; done) | (simp [*]; done), by repeat (first | exact Drawn0.refl _ | apply Drawn0.step)⟩
 ·rw [if_neg c3] at H; have c3b0 : decide (0 ≤ a1) = false := decide_eq_false c3; clear c3; obtain rfl := Option.some.inj H; go_enter Tryd.func48, Tryd.ntmps48; go_wp2; go_ret; exact ⟨by first | rfl | (simp; done) | (simp [*]; done), by repeat (first | exact Drawn0.refl _ | apply Drawn0.step)⟩
def packed_Xor.l0 : Nat → List Int → List Int → List Int → Int → Int → Option (List Int × List FE)
 | 0, _, _, _, _, _ => none
 | k + 1, x0, x1, x6, x18, x19 => if x19 < x18 then (if 0 ≤ x19 then (if x19 < (x0.length : Int) then (if x19 < (x1.length : Int) then (if x19 < (x6.length : Int) then (packed_Xor.l0 k x0 x1 (x6.set (x19 : Int).toNat (Go.bits .xor .u64 (rd x0 x19) (rd x1 x19))) x18 (wrap64 (x19 + 1))) else (none)) else (none)) else (none)) else (none)) else (some (x6, ([] : List FE)))
def packed_Xor.f (k : Nat) (l0 : List Int) (l1 : List Int) : Option (List Int × List FE) := if (l0.length : Int) = (l1.length : Int) then (if 0 ≤ (l0.length : Int) then (if ((l0.length : Int) : Int).toNat ≤ 35184372088832 then ((some (List.replicate ((l0.length : Int) : Int).toNat 0 : List Int)).bind fun y133 => (packed_Xor.l0 k l0 l1 y133 (y133.length : Int) 0)) else (none)) else (none)) else ((fault_New.f (⟨#[112, 97, 99, 107, 101, 100, 46, 88, 111, 114]⟩ : ByteArray) 2).bind fun t130 => (some (([] : List Int), t130)))
theorem packed_Xor.mono_l : ∀ k, (∀ y0 y1 y2 y3 y4, LeO (packed_Xor.l0 k y0 y1 y2 y3 y4) (packed_Xor.l0 (k + 1) y0 y1 y2 y3 y4))
 | 0 => fun _ _ _ _ _ r h => by simp [packed_Xor.l0] at h
 | k + 1 => by
  have ih0 := packed_Xor.mono_l k
  ·intro y0 y1 y2 y3 y4; unfold packed_Xor.l0
   repeat' first
   | (with_reducible exact ih0 _ _ _ _ _)
   | (with_reducible exact LeO.refl _)
   | (with_reducible exact LeO.none _)
   | (with_reducible refine LeO.ite ?_ ?_)
   | (with_reducible refine LeO.bind ?_ (fun _ => ?_))
   | exact ih0 _ _ _ _ _
   | exact LeO.none _
   | refine LeO.ite ?_ ?_
   | refine LeO.bind ?_ (fun _ => ?_)
theorem packed_Xor.mono : ∀ a0 a1 k, LeO (packed_Xor.f k a0 a1) (packed_Xor.f (k + 1) a0 a1) := by
 intro a0 a1 k; have ih0 := packed_Xor.mono_l k; unfold packed_Xor.f
 repeat' first
   | (with_reducible exact ih0 _ _ _ _ _)
   | (with_reducible exact LeO.refl _)
   | (with_reducible exact LeO.none _)
   | (with_reducible refine LeO.ite ?_ ?_)
   | (with_reducible refine LeO.bind ?_ (fun _ => ?_))
   | exact ih0 _ _ _ _ _
   | exact LeO.none _
   | refine LeO.ite ?_ ?_
   | refine LeO.bind ?_ (fun _ => ?_)
def packed_Xor.T7 : Bool × List (List Nat × List Nat) := (true, [([], []), ([], []), ([], []), ([], []), ([2, 3], [2, 3]), ([4], [4]), ([], []), ([], []), ([6, 7], [6, 7]), ([8], [8]), ([5, 9], [5, 9]), ([0, 1, 0, 1, 2, 3, 4, 5, 6, 7, 8, 9, 10], [0, 1]), ([11, 10, 0, 1, 2, 3, 4, 5, 6, 7, 8, 9, 10], [10, 11])])
def packed_Xor.B7 : List Nat := [0, 0, 0, 0, 12, 28, 0, 0, 192, 448, 1020, 2047, 4095]
theorem packed_Xor.tab7 : rtab .any (opsOf Tryd.f49 7) = packed_Xor.T7 := by kernel_rfl
theorem packed_Xor.bits7 : waitsOk packed_Xor.T7.2 packed_Xor.B7 = true := by kernel_rfl
set_option maxHeartbeats 8000000 in
set_option maxRecDepth 100000 in
theorem packed_Xor.calls (k : Nat) (A0 : Option Addr) (c0 : Nat) (l0 : List Int) (A1 : Option Addr) (c1 : Nat) (l1 : List Int) (r1 : List Int) (r2 : List FE) (w : World) (hr0 : Kd.C (Kd.int .u64) w A0 l0.length l0) (hc0 : l0.length ≤ c0) (hr1 : Kd.C (Kd.int .u64) w A1 l1.length l1) (hc1 : l1.length ≤ c1) (h : packed_Xor.f k l0 l1 = some (r1, r2)) :
  Calls Tryd.prog 49 #[.slice A0 l0.length c0, .slice A1 l1.length c1] w fun e w' => ∃ v0_ v1_ : Value, e = .returned (.tuple #[v0_, (errOf v1_)]) ∧ Kd.R (Kd.int .u64) 35 w' w.heap.size (fun _ => True) v0_ r1 ∧ Kd.R kF 95 w' w.heap.size (fun _ => True) v1_ r2 ∧ Below w.heap.size w w' := by
 have HR0 := AQ hr0; have HC0 := AQ hc0; clear hr0 hc0; have HR1 := AQ hr1; have HC1 := AQ hc1; clear hr1 hc1; have HB := AQ (Below.refl w.heap.size w); have H : (if (l0.length : Int) = (l1.length : Int) then (if 0 ≤ (l0.length : Int) then (if ((l0.length : Int) : Int).toNat ≤ 35184372088832 then ((some (List.replicate ((l0.length : Int) : Int).toNat 0 : List Int)).bind fun y133 => (packed_Xor.l0 k l0 l1 y133 (y133.length : Int) 0)) else (none)) else (none)) else ((fault_New.f (⟨#[112, 97, 99, 107, 101, 100, 46, 88, 111, 114]⟩ : ByteArray) 2).bind fun t130 => (some (([] : List Int), t130)))) = some (r1, r2) := h; clear h
 by_cases c3 : (l0.length : Int) = (l1.length : Int)
 ·rw [if_pos c3] at H; have c3b0 : ((l0.length : Int) == (l1.length : Int)) = true := beq_iff_eq.mpr c3; have c3b1 : ((l0.length : Int) != (l1.length : Int)) = false := bne_eq_false_iff_eq.mpr c3; have c3b2 : (l0.length == l1.length) = true := (by first | simpa using c3 | (simp at c3 ⊢; omega)); clear c3
  by_cases c4 : 0 ≤ (l0.length : Int)
  ·rw [if_pos c4] at H; have c4b0 := eq_true c4; have c4b1 : decide (0 ≤ (l0.length : Int)) = true := decide_eq_true c4; clear c4
   by_cases c5 : ((l0.length : Int) : Int).toNat ≤ 35184372088832
   ·rw [if_pos c5] at H; have c5b0 := eq_true c5; have c5b1 : decide (((l0.length : Int) : Int).toNat ≤ 35184372088832) = true := decide_eq_true c5; clear c5; obtain ⟨y133, hy133⟩ : ∃ y_ : List Int, y_ = (List.replicate ((l0.length : Int) : Int).toNat 0) := ⟨_, rfl⟩; replace H : (packed_Xor.l0 k l0 l1 y133 (y133.length : Int) 0) = some (r1, r2) := PY hy133 H; have Ny133 := AQ hy133; clear hy133; have H' := AQ H; clear H; go_enter Tryd.func49, Tryd.ntmps49; go_wp2_with (first | ((with_reducible refine gate_dst (N := 16) rfl ?_); refine Kd.R_make (Kd.int .u64) _ 35 rfl (N := 16) rfl 23 _ _ rfl (l0.length : Int) rfl rfl Tryd.underlying23 (.int .u64 0) 8 info35 rfl (by decide) (by omega) 0 (ok := fun _ => True) (okp := fun _ => True) rfl (fun _ hk => hk) trivial (PD) (Nat.le_trans (Nat.mul_le_mul_right _ (PD : (l0.length : Int).toNat ≤ 35184372088832)) (by omega)) (Below.refl _ _) (Nat.le_refl _) ?_; intro v134 w6 ho7 hb hg_ hnew_; clear hg_ hnew_; (first | rw [← Ny133.out] at ho7 | (simp only [Int.reduceToNat] at ho7; rw [← Ny133.out] at ho7)); have n0_ := AQ (Kd.R_lower ho7 (below_size (PB HB))); have n1_ := AQ (below_step (PB HB) hb); clear HB; have HO135 := n0_; have HB := n1_; clear n0_ n1_; clear hb ho7; obtain ⟨Ao8, co8, eo8⟩ := Kd.R_slice HO135.out; subst eo8)); go_loopg [19] k (fun kq v19 w' => ∃ (x6_1 : List Int) (x19_1 : Int), v19 = .int .i64 x19_1 ∧ Aside0 (packed_Xor.l0 kq l0 l1 x6_1 (y133.length : Int) x19_1 = some (r1, r2)) ∧ Aside0 (kq ≤ k) ∧ Aside0 (Kd.R (Kd.int .u64) 35 w' w.heap.size (fun _ => True) (.slice Ao8 y133.length co8) x6_1) ∧ Aside0 (Below w.heap.size w w'))
    case atStart => exact ⟨(y133), (0), (by first | rfl | (simp; done) | (simp [*]; done)), H', ⟨Nat.le_refl _⟩, ⟨PR HO135⟩, ⟨PB HB⟩⟩
    case round =>
     clear H'; (try clear c1); (try clear p2); (try clear c3); (try clear c3b0); (try clear c3b1); (try clear c3b2); (try clear c4); (try clear c4b0); (try clear c4b1); (try clear c5); (try clear c5b0); (try clear c5b1); obtain ⟨x6_1, x19_1, rfl, HA, HK1, HO_6, HB⟩ := hrel; have hl6_1 := (Kd.R_reads' HO_6.out).1; rw [hl6_1] at HO_6; (try simp only [hl6_1]); cases gk with
     | zero => exact absurd HA.out (by simp [packed_Xor.l0])
     | succ k1 =>
      have H := HA.out; clear HA; simp only [packed_Xor.l0] at H
      by_cases c9 : x19_1 < (y133.length : Int)
      ·rw [if_pos c9] at H; have c9b0 : decide (x19_1 < (y133.length : Int)) = true := decide_eq_true c9; (try (have c9b0q := c9b0; simp only [hl6_1] at c9b0q)); clear c9
       by_cases c10 : 0 ≤ x19_1
       ·rw [if_pos c10] at H; have c10b0 : decide (0 ≤ x19_1) = true := decide_eq_true c10; clear c10
        by_cases c11 : x19_1 < (l0.length : Int)
        ·rw [if_pos c11] at H; have c11b0 : decide (x19_1 < (l0.length : Int)) = true := decide_eq_true c11; (try (have c11b0q := c11b0; simp only [hl6_1] at c11b0q)); clear c11
         by_cases c12 : x19_1 < (l1.length : Int)
         ·rw [if_pos c12] at H; have c12b0 : decide (x19_1 < (l1.length : Int)) = true := decide_eq_true c12; (try (have c12b0q := c12b0; simp only [hl6_1] at c12b0q)); clear c12
          by_cases c13 : x19_1 < (x6_1.length : Int)
          ·rw [if_pos c13] at H; have c13b0 : decide (x19_1 < (x6_1.length : Int)) = true := decide_eq_true c13; (try (have c13b0q := c13b0; simp only [hl6_1] at c13b0q)); clear c13; obtain ⟨y138, hy138⟩ : ∃ y_ : List Int, y_ = (x6_1.set (x19_1 : Int).toNat (Go.bits .xor .u64 (rd l0 x19_1) (rd l1 x19_1))) := ⟨_, rfl⟩; replace H : (packed_Xor.l0 k1 l0 l1 y138 (y133.length : Int) (wrap64 (x19_1 + 1))) = some (r1, r2) := PY hy138 H; have Ny138 := AQ hy138; clear hy138; have H' := AQ H; clear H; (try go_wp2); have n0_ := AQ (Kd.R_drew HO_6.out); have n1_ := AQ (below_drew1 HB.out); clear HO_6; clear HB; have HO_6 := n0_; have HB := n1_; clear n0_ n1_; have p136 : 0 ≤ (x19_1 : Int) := PD; have q136 : x19_1 < (l0.length : Int) := PD; obtain ⟨ad136, e136, hx136_0⟩ := Kd.at_int HR0.out x19_1 p136 q136; have hw136_0 := hx136_0; cases e136; (first | replace hx136_0 := PH HB hx136_0 | skip); replace p136 := eq_true p136; replace q136 := eq_true q136; have p137 : 0 ≤ (x19_1 : Int) := PD; have q137 : x19_1 < (l1.length : Int) := PD; obtain ⟨ad137, e137, hx137_0⟩ := Kd.at_int HR1.out x19_1 p137 q137; have hw137_0 := hx137_0; cases e137; (first | replace hx137_0 := PH HB hx137_0 | skip); replace p137 := eq_true p137; replace q137 := eq_true q137; have p14 : 0 ≤ (x19_1 : Int) := PD; have q14 : (x19_1 : Int) < ((x6_1.length : Int) : Int) := PD; obtain ⟨go14, co14, eo14, gb14, gl14, cl14, HG14⟩ := Kd.R_form HO_6.out (by omega); (first | cases eo14 | (injection eo14 with ea_ en_ ec_; (first | subst ea_ | (injection ea_ with ea_; subst ea_)); subst ec_; clear en_)); have GB14 := AQ gb14; have GG14 := AQ HG14; clear gb14 gl14 HG14; obtain ⟨hx14_0, hf14_0⟩ := Kd.R_celln 0 HO_6.out (x19_1 : Int) p14 q14; replace p14 := eq_true p14; replace q14 := eq_true q14; have HP16 := Kd.R_putn HO_6.out (x19_1 : Int) (Go.bits .xor .u64 (rd l0 x19_1) (rd l1 x19_1)); rw [← Ny138.out] at HP16; have HQ16 := AQ HP16; clear HP16; refine start_ (n := 13) (S := fun w' => w'.cell? (ad136.add (x19_1).toNat) = some (.int .u64 (rd l0 x19_1)) ∧ w'.cell? (ad137.add (x19_1).toNat) = some (.int .u64 (rd l1 x19_1))) (ds := [12]) #[false, false, false, false, false, false, false, false, false, false, false, false, false] (by kernel_rfl) rfl rfl ⟨(PH HB hw136_0), (PH HB hw137_0)⟩ (fun hHeld => ?_); refine with_tabW packed_Xor.tab7 packed_Xor.bits7 (fun HT_ HW_ => ?_)
           generalize wr.drew = w15 at HO_6 HB GG14 HQ16 hf14_0 hx136_0 hx137_0 hx14_0 hHeld ⊢; refine pW 0 (some 22) (bA 13 1) HT_ ?_; refine pW 1 (some 23) (bA 13 3) HT_ ?_; refine pW 2 (some 24) (bA 13 7) HT_ ?_; refine pW 3 (some 25) (bA 13 15) HT_ ?_; refine pW 4 (some 26) (bA 13 31) HT_ ?_; refine pW 6 (some 28) (bA 13 95) HT_ ?_; refine pW 7 (some 29) (bA 13 223) HT_ ?_; refine pW 8 (some 30) (bA 13 479) HT_ ?_; refine tW 5 (some 27) (bA 13 511) HT_ HW_ hHeld ?_; refine tW 9 (some 31) (bA 13 1023) HT_ HW_ hHeld ?_; refine pW 10 (some 32) (bA 13 2047) HT_ ?_; refine pW 11 (some 33) (bA 13 4095) HT_ ?_; refine last_ (i := 12) (N := none) (bA 13 8191) rfl rfl (one_of HT_.out (by kernel_rfl)) (by decide) (fun K hK => ?_); refine skip_ (w1 := ?_) (by rfl) rfl ?_ ?_; rotate_left
           ·go_simp; rfl
           refine hK.out _ _ ?_; clear hK K; refine done_ (done_of HT_.out (by kernel_rfl)) ?_; (try go_wp2); (try simp only [← hl6_1]); go_roundg k1
           case measure => have := HK1.out; omega
           case rel => exact ⟨(y138), (wrap64 (x19_1 + 1)), (by first | rfl | (simp; done) | (simp [*]; done)), H', ⟨by have := HK1.out; omega⟩, ⟨by (try simp only [hl6_1]); (with_reducible repeat (first | apply Kd.R_alloc | apply Kd.R_drewN | apply Kd.R_drew)); exact HQ16.out⟩, ⟨PX HB⟩⟩
          ·rw [if_neg c13] at H; exact absurd H (by simp)
         ·rw [if_neg c12] at H; exact absurd H (by simp)
        ·rw [if_neg c11] at H; exact absurd H (by simp)
       ·rw [if_neg c10] at H; exact absurd H (by simp)
      ·rw [if_neg c9] at H; have c9b0 : decide (x19_1 < (y133.length : Int)) = false := decide_eq_false c9; (try (have c9b0q := c9b0; simp only [hl6_1] at c9b0q)); clear c9; simp only [Option.some.injEq, Prod.mk.injEq] at H; obtain ⟨rfl, rfl⟩ := H; go_wp2; go_ret2; exact ⟨_, (.slice none 0 0), by first | rfl | (simp [errW_none, errW_some] <;> rfl) | (simp [*, errW_none, errW_some] <;> rfl), PR HO_6, by first | exact Kd.R_nil _ _ _ _ _ | exact Kd.N_nil _ _ _ _ _ | exact Kd.V_nil _ _ _ _ _ | exact Kd.Q_nil _ _ _ _ _ | exact Kd.S_nil _ _ _ _ _, PB HB⟩
   ·rw [if_neg c5] at H; exact absurd H (by simp)
  ·rw [if_neg c4] at H; exact absurd H (by simp)
 ·rw [if_neg c3] at H; have c3b0 : ((l0.length : Int) == (l1.length : Int)) = false := beq_eq_false_iff_ne.mpr c3; have c3b1 : ((l0.length : Int) != (l1.length : Int)) = true := bne_iff_ne.mpr c3; have c3b2 : (l0.length == l1.length) = false := (by first | simpa using c3 | (simp at c3 ⊢; omega)); replace H := Option.bind_eq_some_iff.mp H; obtain ⟨t130, A170, H⟩ := H; replace H : (some (([] : List Int), t130)) = some (r1, r2) := H; have A17 := AQ A170; clear A170; simp only [Option.some.injEq, Prod.mk.injEq] at H; obtain ⟨rfl, rfl⟩ := H; go_enter Tryd.func49, Tryd.ntmps49; go_wp2_with (first | ((with_reducible refine gate_callee (f := 28) rfl ?_); refine gL (some 13) rfl rfl Tryd.func28 #[.string (⟨#[112, 97, 99, 107, 101, 100, 46, 88, 111, 114]⟩ : ByteArray), .int .i64 2] rfl ?_; (with_reducible refine (fault_New.calls (⟨#[112, 97, 99, 107, 101, 100, 46, 88, 111, 114]⟩ : ByteArray) 2 t130 _ A17.out).mono ?_); rintro e w18 ⟨v131, rfl, ho0, hb⟩; refine ⟨_, rfl, ?_⟩; have n0_ := AQ (Kd.R_lower ho0 (below_size (PB HB))); have n1_ := AQ (below_step (PB HB) hb); clear HB; have HO132 := n0_; have HB := n1_; clear n0_ n1_; (try clear hb); (try clear hb2); (try clear hk); (try clear hi); (try clear ho0))); go_ret2; exact ⟨_, _, by first | rfl | (simp [errW_none, errW_some] <;> rfl) | (simp [*, errW_none, errW_some] <;> rfl), by first | exact Kd.R_nil _ _ _ _ _ | exact Kd.N_nil _ _ _ _ _ | exact Kd.V_nil _ _ _ _ _ | exact Kd.Q_nil _ _ _ _ _ | exact Kd.S_nil _ _ _ _ _, PR HO132, PB HB⟩
mutual
def symbol_into.l0 : Nat → List Int → List (List Int) → Int → Int → Option (List Int)
 | 0, _, _, _, _ => none
 | k + 1, x0, x8, x9, x10 => if x10 < x9 then (if 0 ≤ x10 then (if x10 < (x8.length : Int) then (symbol_into.l1 k x0 x8 x9 x10 (rd_Lsu8 x8 x10) ((rd_Lsu8 x8 x10).length : Int) 0) else (none)) else (none)) else (some x0)
def symbol_into.l1 : Nat → List Int → List (List Int) → Int → Int → List Int → Int → Int → Option (List Int)
 | 0, _, _, _, _, _, _, _ => none
 | k + 1, x0, x8, x9, x10, x14, x15, x16 => if x16 < x15 then (if 0 ≤ x16 then (if x16 < (x14.length : Int) then (if x16 < (x0.length : Int) then (symbol_into.l1 k (x0.set (x16 : Int).toNat (Go.bits .xor .u8 (rd x0 x16) (rd x14 x16))) x8 x9 x10 x14 x15 (wrap64 (x16 + 1))) else (none)) else (none)) else (none)) else (symbol_into.l0 k x0 x8 x9 (wrap64 (x10 + 1)))
end
def symbol_into.f (k : Nat) (l0 : List Int) (l1 : List (List Int)) : Option (List Int) := symbol_into.l0 k l0 l1 (l1.length : Int) 0
theorem symbol_into.mono_l : ∀ k, (∀ y0 y1 y2 y3, LeO (symbol_into.l0 k y0 y1 y2 y3) (symbol_into.l0 (k + 1) y0 y1 y2 y3)) ∧ (∀ y0 y1 y2 y3 y4 y5 y6, LeO (symbol_into.l1 k y0 y1 y2 y3 y4 y5 y6) (symbol_into.l1 (k + 1) y0 y1 y2 y3 y4 y5 y6))
 | 0 => ⟨fun _ _ _ _ r h => by simp [symbol_into.l0] at h, fun _ _ _ _ _ _ _ r h => by simp [symbol_into.l1] at h⟩
 | k + 1 => by
  obtain ⟨ih0, ih1⟩ := symbol_into.mono_l k; refine ⟨?_, ?_⟩; intro y0 y1 y2 y3; unfold symbol_into.l0; rotate_left
  intro y0 y1 y2 y3 y4 y5 y6; unfold symbol_into.l1; rotate_left
  all_goals repeat' first
   | (with_reducible exact ih0 _ _ _ _)
   | (with_reducible exact ih1 _ _ _ _ _ _ _)
   | (with_reducible exact LeO.refl _)
   | (with_reducible exact LeO.none _)
   | (with_reducible refine LeO.ite ?_ ?_)
   | (with_reducible refine LeO.bind ?_ (fun _ => ?_))
   | exact ih0 _ _ _ _
   | exact ih1 _ _ _ _ _ _ _
   | exact LeO.none _
   | refine LeO.ite ?_ ?_
   | refine LeO.bind ?_ (fun _ => ?_)
theorem symbol_into.mono : ∀ a0 a1 k, LeO (symbol_into.f k a0 a1) (symbol_into.f (k + 1) a0 a1) := by
 intro a0 a1 k; obtain ⟨ih0, ih1⟩ := symbol_into.mono_l k; unfold symbol_into.f
 repeat' first
   | (with_reducible exact ih0 _ _ _ _)
   | (with_reducible exact ih1 _ _ _ _ _ _ _)
   | (with_reducible exact LeO.refl _)
   | (with_reducible exact LeO.none _)
   | (with_reducible refine LeO.ite ?_ ?_)
   | (with_reducible refine LeO.bind ?_ (fun _ => ?_))
   | exact ih0 _ _ _ _
   | exact ih1 _ _ _ _ _ _ _
   | exact LeO.none _
   | refine LeO.ite ?_ ?_
   | refine LeO.bind ?_ (fun _ => ?_)
set_option maxHeartbeats 8000000 in
set_option maxRecDepth 100000 in
theorem symbol_into.calls (k : Nat) (P0_ : Nat → Prop) (u9000_ : Value) (l0 : List Int) (A1 : Option Addr) (c1 : Nat) (l1 : List (List Int)) (r : List Int) (w0 w : World) (hB : Below w0.heap.size w0 w) (ho0 : Kd.R (Kd.int .u8) 5 w w0.heap.size P0_ u9000_ l0) (hr1 : ∀ W_, Kept w W_ (fun k_ => P0_ k_) → Kd.C (Kd.slice 5 (Kd.int .u8)) W_ A1 l1.length l1) (hc1 : l1.length ≤ c1) (h : symbol_into.f k l0 l1 = some r) :
  Calls Tryd.prog 69 #[u9000_, .slice A1 l1.length c1] w fun e w' => e = .returned (.tuple #[]) ∧ Kd.R (Kd.int .u8) 5 w' w0.heap.size (fun k_ => (P0_ k_ ∨ w.heap.size ≤ k_)) u9000_ r ∧ Below w0.heap.size w0 w' ∧ Kept w w' (fun k_ => P0_ k_) := by
 have HO0 := AQ (show Kd.R (Kd.int .u8) 5 w w0.heap.size (fun k_ => (P0_ k_ ∨ w.heap.size ≤ k_)) u9000_ l0 from Kd.R_mono ho0 (fun k_ hk => (.inl hk))); have HR1 := AQ hr1; have HC1 := AQ hc1; clear hr1 hc1; have HK := AQ (Kept.refl w (fun k_ => P0_ k_)); have HW0 := AQ hB.size; have HB := AQ hB; clear hB; have H : (symbol_into.l0 k l0 l1 (l1.length : Int) 0) = some r := h; clear h; have H' := AQ H; clear H; go_enter Tryd.func69, Tryd.ntmps69; go_wp2; go_loopg [10] k (fun kq v10 w' => ∃ (x0_1 : List Int) (x10_1 : Int), v10 = .int .i64 x10_1 ∧ Aside0 (symbol_into.l0 kq x0_1 l1 (l1.length : Int) x10_1 = some r) ∧ Aside0 (kq ≤ k) ∧ Aside0 (Kd.R (Kd.int .u8) 5 w' w0.heap.size (fun k_ => (P0_ k_ ∨ w.heap.size ≤ k_)) u9000_ x0_1) ∧ Aside0 (Kept w w' (fun k_ => P0_ k_)) ∧ Aside0 (Below w0.heap.size w0 w'))
 case atStart => exact ⟨(l0), (0), (by first | rfl | (simp; done) | (simp [*]; done)), H', ⟨Nat.le_refl _⟩, ⟨PR HO0⟩, ⟨by repeat (first | (with_reducible first | exact HK.out | apply Kept.alloc | apply Kept.drewN | apply Kept.drew) | exact HK.out)⟩, ⟨PB HB⟩⟩
 case round =>
  clear H'; (try clear c1); (try clear c2); (try clear p2); obtain ⟨x0_1, x10_1, rfl, HA, HK1, HO_0, HK, HB⟩ := hrel; cases gk with
  | zero => exact absurd HA.out (by simp [symbol_into.l0])
  | succ k1 =>
   have H := HA.out; clear HA; simp only [symbol_into.l0] at H
   by_cases c3 : x10_1 < (l1.length : Int)
   ·rw [if_pos c3] at H; have c3b0 : decide (x10_1 < (l1.length : Int)) = true := decide_eq_true c3; clear c3
    by_cases c4 : 0 ≤ x10_1
    ·rw [if_pos c4] at H; have c4b0 : decide (0 ≤ x10_1) = true := decide_eq_true c4; clear c4
     by_cases c5 : x10_1 < (l1.length : Int)
     ·rw [if_pos c5] at H; have c5b0 : decide (x10_1 < (l1.length : Int)) = true := decide_eq_true c5; clear c5; have H' := AQ H; clear H; have p102 : 0 ≤ (x10_1 : Int) := PD; have q102 : x10_1 < (l1.length : Int) := PD; obtain ⟨ad102, A102_0, c102_0, e102, hx102_0, hl102_0, hi102_0⟩ := at_Lsu8 (Kd.C_kept_now HR1.out HK.out) x10_1 p102 q102; cases e102; have HR102_0 := AQ (foot_elem HR1.out HK.out x10_1 p102 q102 hx102_0); have HC102_0 := AQ hl102_0; clear hi102_0 hl102_0; replace p102 := eq_true p102; replace q102 := eq_true q102; go_wp2; go_loopg [16] k1 (fun kq v16 w' => ∃ (x0_2 : List Int) (x16_2 : Int), v16 = .int .i64 x16_2 ∧ Aside0 (symbol_into.l1 kq x0_2 l1 (l1.length : Int) x10_1 (rd_Lsu8 l1 x10_1) ((rd_Lsu8 l1 x10_1).length : Int) x16_2 = some r) ∧ Aside0 (kq ≤ k1) ∧ Aside0 (Kd.R (Kd.int .u8) 5 w' w0.heap.size (fun k_ => (P0_ k_ ∨ w.heap.size ≤ k_)) u9000_ x0_2) ∧ Aside0 (Kept w w' (fun k_ => P0_ k_)) ∧ Aside0 (Below w0.heap.size w0 w'))
      case atStart => exact ⟨(x0_1), (0), (by first | rfl | (simp; done) | (simp [*]; done)), H', ⟨Nat.le_refl _⟩, ⟨PR HO_0⟩, ⟨by repeat (first | (with_reducible first | exact HK.out | apply Kept.alloc | apply Kept.drewN | apply Kept.drew) | exact HK.out)⟩, ⟨PB HB⟩⟩
      case round =>
       clear H'; (try clear c1); (try clear p1); (try clear q1); (try clear hx1); (try clear c2); (try clear p2); (try clear c3); (try clear c3b0); (try clear c4); (try clear c4b0); (try clear c5); (try clear c5b0); (try clear hx102_0); (try clear p102); (try clear p2); (try clear q102); obtain ⟨x0_2, x16_2, rfl, HA, HK2, HO_0, HK, HB⟩ := hrel; cases gk with
       | zero => exact absurd HA.out (by simp [symbol_into.l1])
       | succ k2 =>
        have H := HA.out; clear HA; simp only [symbol_into.l1] at H
        by_cases c6 : x16_2 < ((rd_Lsu8 l1 x10_1).length : Int)
        ·rw [if_pos c6] at H; have c6b0 : decide (x16_2 < ((rd_Lsu8 l1 x10_1).length : Int)) = true := decide_eq_true c6; clear c6
         by_cases c7 : 0 ≤ x16_2
         ·rw [if_pos c7] at H; have c7b0 : decide (0 ≤ x16_2) = true := decide_eq_true c7; clear c7
          by_cases c8 : x16_2 < ((rd_Lsu8 l1 x10_1).length : Int)
          ·rw [if_pos c8] at H; have c8b0 : decide (x16_2 < ((rd_Lsu8 l1 x10_1).length : Int)) = true := decide_eq_true c8; clear c8
           by_cases c9 : x16_2 < (x0_2.length : Int)
           ·rw [if_pos c9] at H; have c9b0 : decide (x16_2 < (x0_2.length : Int)) = true := decide_eq_true c9; clear c9; obtain ⟨y105, hy105⟩ : ∃ y_ : List Int, y_ = (x0_2.set (x16_2 : Int).toNat (Go.bits .xor .u8 (rd x0_2 x16_2) (rd (rd_Lsu8 l1 x10_1) x16_2))) := ⟨_, rfl⟩; replace H : (symbol_into.l1 k2 y105 l1 (l1.length : Int) x10_1 (rd_Lsu8 l1 x10_1) ((rd_Lsu8 l1 x10_1).length : Int) (wrap64 (x16_2 + 1))) = some r := PY hy105 H; have Ny105 := AQ hy105; clear hy105; have H' := AQ H; clear H; have p103 : 0 ≤ (x16_2 : Int) := PD; have q103 : x16_2 < ((rd_Lsu8 l1 x10_1).length : Int) := PD; obtain ⟨ad103, e103, hx103_0⟩ := Kd.at_int (HR102_0.out _ HK.out) x16_2 p103 q103; cases e103; replace p103 := eq_true p103; replace q103 := eq_true q103; obtain ⟨Ao11, co11, eo11⟩ := Kd.R_slice HO_0.out; subst eo11; have p104 : 0 ≤ (x16_2 : Int) := PD; have q104 : x16_2 < (x0_2.length : Int) := PD; obtain ⟨ad104, e104, hx104_0⟩ := Kd.at_int (Kd.R_reads' HO_0.out).2.2 x16_2 p104 q104; cases e104; replace p104 := eq_true p104; replace q104 := eq_true q104; have p10 : 0 ≤ (x16_2 : Int) := PD; have q10 : (x16_2 : Int) < ((x0_2.length : Int) : Int) := PD; obtain ⟨go10, co10, eo10, gb10, gl10, cl10, HG10⟩ := Kd.R_form HO_0.out (by omega); (first | cases eo10 | (injection eo10 with ea_ en_ ec_; (first | subst ea_ | (injection ea_ with ea_; subst ea_)); subst ec_; clear en_)); have GB10 := AQ gb10; have GG10 := AQ HG10; clear gb10 gl10 HG10; have HMgo10 := AQ (show (P0_ go10 ∨ w.heap.size ≤ go10) from (HO_0.out.1 _ rfl)); (first | simp only [add_plain] at hx104_0 | skip); obtain ⟨hx10_0, hf10_0⟩ := Kd.R_celln 0 HO_0.out (x16_2 : Int) p10 q10; replace p10 := eq_true p10; replace q10 := eq_true q10; have HP12 := Kd.R_putg HO_0.out (x16_2 : Int) (Go.bits .xor .u8 (rd x0_2 x16_2) (rd (rd_Lsu8 l1 x10_1) x16_2)); go_wp2_with (first | ((with_reducible refine gate_store (t := 5) (p := 27) rfl ?_); refine store_event (t := 5) (p := 27) (v := ?vo_w13) (w1 := (wr.setCell ⟨go10, (x16_2 : Int).toNat, none⟩ (.int .u8 (Go.bits .xor .u8 (rd x0_2 x16_2) (rd (rd_Lsu8 l1 x10_1) x16_2))))) ?hg ?ho ?hn ?hr ?_; (case ho => rfl); (case hg => rfl); (case hn => rfl); (case hr => first | (go_simp; done) | (go_simp; rfl)); intro w13 hw; have hg : wr.grownBy w13 (some go10) := (by rw [hw]; exact HP12.2); have hp_ : Kd.R (Kd.int .u8) 5 w13 w0.heap.size (fun k_ => (P0_ k_ ∨ w.heap.size ≤ k_)) (.slice (some ⟨go10, 0, none⟩) x0_2.length co11) y105 := (by rw [hw, Ny105.out]; exact HP12.1); clear HP12; have n0_ := AQ (hp_); have n1_ := AQ ((by rw [hw]; exact below_set (HB.out) GB10.out : Below w0.heap.size w0 w13)); have n2_ := AQ (Kept.of_grown (S := (fun k_ => P0_ k_)) hg (by repeat (first | (with_reducible first | exact HK.out | apply Kept.alloc | apply Kept.drewN | apply Kept.drew) | exact HK.out)) (fun k_ e_ => (HO_0.out.1 k_ e_))); clear HO_0; clear HB; clear HK; have HO_0 := n0_; have HB := n1_; have HK := n2_; clear n0_ n1_ n2_; clear hg hw hp_)); go_roundg k2
            case measure => have := HK1.out; have := HK2.out; omega
            case rel => exact ⟨(y105), (wrap64 (x16_2 + 1)), (by first | rfl | (simp; done) | (simp [*]; done)), H', ⟨by have := HK1.out; have := HK2.out; omega⟩, ⟨PR HO_0⟩, ⟨by repeat (first | (with_reducible first | exact HK.out | apply Kept.alloc | apply Kept.drewN | apply Kept.drew) | exact HK.out)⟩, ⟨PB HB⟩⟩
           ·rw [if_neg c9] at H; exact absurd H (by simp)
          ·rw [if_neg c8] at H; exact absurd H (by simp)
         ·rw [if_neg c7] at H; exact absurd H (by simp)
        ·rw [if_neg c6] at H; have c6b0 : decide (x16_2 < ((rd_Lsu8 l1 x10_1).length : Int)) = false := decide_eq_false c6; clear c6; have H' := AQ H; clear H; go_wp2; go_roundg k2
         case measure => have := HK1.out; have := HK2.out; omega
         case rel => exact ⟨(x0_2), (wrap64 (x10_1 + 1)), (by first | rfl | (simp; done) | (simp [*]; done)), H', ⟨by have := HK1.out; have := HK2.out; omega⟩, ⟨PR HO_0⟩, ⟨by repeat (first | (with_reducible first | exact HK.out | apply Kept.alloc | apply Kept.drewN | apply Kept.drew) | exact HK.out)⟩, ⟨PB HB⟩⟩
     ·rw [if_neg c5] at H; exact absurd H (by simp)
    ·rw [if_neg c4] at H; exact absurd H (by simp)
   ·rw [if_neg c3] at H; have c3b0 : decide (x10_1 < (l1.length : Int)) = false := decide_eq_false c3; clear c3; obtain rfl := Option.some.inj H; go_wp2
    first | go_end0 | ((try simp only [Exit.inBlock, Exit.then]); refine bodyPost_ret (results_none rfl _ _ _) rfl ?_)
    exact ⟨by first | rfl | (simp [errW_none, errW_some] <;> rfl) | (simp [*, errW_none, errW_some] <;> rfl), PR HO_0, PB HB, by repeat (first | (with_reducible first | exact HK.out | apply Kept.alloc | apply Kept.drewN | apply Kept.drew) | exact HK.out)⟩
def symbol_Xor.f (k : Nat) (l0 : List Int) (l1 : List Int) : Option (List Int × List FE) := if (l0.length : Int) = (l1.length : Int) then (if 0 ≤ (l0.length : Int) then (if ((l0.length : Int) : Int).toNat ≤ 281474976710656 then ((symbol_into.f k (copyL (List.replicate ((l0.length : Int) : Int).toNat 0) l0) (([l1] : List (List Int)))).bind fun t146 => (some (t146, ([] : List FE)))) else (none)) else (none)) else ((fault_New.f (⟨#[115, 121, 109, 98, 111, 108, 46, 88, 111, 114]⟩ : ByteArray) 2).bind fun t147 => (some (([] : List Int), t147)))
theorem symbol_Xor.mono : ∀ a0 a1 k, LeO (symbol_Xor.f k a0 a1) (symbol_Xor.f (k + 1) a0 a1) := by
 intro a0 a1 k; unfold symbol_Xor.f
 repeat' first
   | (with_reducible exact symbol_into.mono _ _ _)
   | (with_reducible exact LeO.refl _)
   | (with_reducible exact LeO.none _)
   | (with_reducible refine LeO.ite ?_ ?_)
   | (with_reducible refine LeO.bind ?_ (fun _ => ?_))
   | exact symbol_into.mono _ _ _
   | exact LeO.none _
   | refine LeO.ite ?_ ?_
   | refine LeO.bind ?_ (fun _ => ?_)
set_option maxHeartbeats 8000000 in
set_option maxRecDepth 100000 in
theorem symbol_Xor.calls (k : Nat) (A0 : Option Addr) (c0 : Nat) (l0 : List Int) (P1_ : Nat → Prop) (A1 : Option Addr) (c1 : Nat) (l1 : List Int) (r1 : List Int) (r2 : List FE) (w : World) (hr0 : Kd.C (Kd.int .u8) w A0 l0.length l0) (hc0 : l0.length ≤ c0) (hs1 : Kd.V (Kd.int .u8) 5 w w.heap.size (fun k_ => P1_ k_) (.slice A1 l1.length c1) l1) (h : symbol_Xor.f k l0 l1 = some (r1, r2)) :
  Calls Tryd.prog 50 #[.slice A0 l0.length c0, .slice A1 l1.length c1] w fun e w' => ∃ v0_ v1_ : Value, e = .returned (.tuple #[v0_, (errOf v1_)]) ∧ Kd.R (Kd.int .u8) 5 w' w.heap.size (fun k_ => (w.heap.size ≤ k_)) v0_ r1 ∧ Kd.R kF 95 w' w.heap.size (fun k_ => (w.heap.size ≤ k_)) v1_ r2 ∧ Below w.heap.size w w' := by
 have HR0 := AQ hr0; have HC0 := AQ hc0; clear hr0 hc0; have HO1 := AQ (show Kd.V (Kd.int .u8) 5 w w.heap.size (fun k_ => (P1_ k_ ∨ w.heap.size ≤ k_)) (.slice A1 l1.length c1) l1 from Kd.V_mono hs1 (fun k_ hk => .inl hk)); have HB := AQ (Below.refl w.heap.size w); have H : (if (l0.length : Int) = (l1.length : Int) then (if 0 ≤ (l0.length : Int) then (if ((l0.length : Int) : Int).toNat ≤ 281474976710656 then ((symbol_into.f k (copyL (List.replicate ((l0.length : Int) : Int).toNat 0) l0) (([l1] : List (List Int)))).bind fun t146 => (some (t146, ([] : List FE)))) else (none)) else (none)) else ((fault_New.f (⟨#[115, 121, 109, 98, 111, 108, 46, 88, 111, 114]⟩ : ByteArray) 2).bind fun t147 => (some (([] : List Int), t147)))) = some (r1, r2) := h; clear h
 by_cases c3 : (l0.length : Int) = (l1.length : Int)
 ·rw [if_pos c3] at H; have c3b0 : ((l0.length : Int) == (l1.length : Int)) = true := beq_iff_eq.mpr c3; have c3b1 : ((l0.length : Int) != (l1.length : Int)) = false := bne_eq_false_iff_eq.mpr c3; have c3b2 : (l0.length == l1.length) = true := (by first | simpa using c3 | (simp at c3 ⊢; omega)); clear c3
  by_cases c4 : 0 ≤ (l0.length : Int)
  ·rw [if_pos c4] at H; have c4b0 := eq_true c4; have c4b1 : decide (0 ≤ (l0.length : Int)) = true := decide_eq_true c4; clear c4
   by_cases c5 : ((l0.length : Int) : Int).toNat ≤ 281474976710656
   ·rw [if_pos c5] at H; have c5b0 := eq_true c5; have c5b1 : decide (((l0.length : Int) : Int).toNat ≤ 281474976710656) = true := decide_eq_true c5; clear c5; obtain ⟨y139, hy139⟩ : ∃ y_ : List Int, y_ = (List.replicate ((l0.length : Int) : Int).toNat 0) := ⟨_, rfl⟩; replace H : ((symbol_into.f k (copyL y139 l0) (([l1] : List (List Int)))).bind fun t146 => (some (t146, ([] : List FE)))) = some (r1, r2) := PY hy139 H; have Ny139 := AQ hy139; clear hy139; obtain ⟨y142, hy142⟩ : ∃ y_ : List Int, y_ = (copyL y139 l0) := ⟨_, rfl⟩; replace H : ((symbol_into.f k y142 (([l1] : List (List Int)))).bind fun t146 => (some (t146, ([] : List FE)))) = some (r1, r2) := PY hy142 H; have Ny142 := AQ hy142; clear hy142; obtain ⟨y143, hy143⟩ : ∃ y_ : List (List Int), y_ = (([l1] : List (List Int))) := ⟨_, rfl⟩; replace H : ((symbol_into.f k y142 y143).bind fun t146 => (some (t146, ([] : List FE)))) = some (r1, r2) := PY hy143 H; have Ny143 := AQ hy143; clear hy143; replace H := Option.bind_eq_some_iff.mp H; obtain ⟨t146, A60, H⟩ := H; replace H : (some (t146, ([] : List FE))) = some (r1, r2) := H; have A6 := AQ A60; clear A60; simp only [Option.some.injEq, Prod.mk.injEq] at H; obtain ⟨rfl, rfl⟩ := H; go_enter Tryd.func50, Tryd.ntmps50; go_wp2_with (first | ((with_reducible refine gate_dst (N := 15) rfl ?_); refine Kd.R_make (Kd.int .u8) _ 5 rfl (N := 15) rfl 36 _ _ rfl (l0.length : Int) rfl rfl Tryd.underlying36 (.int .u8 0) 1 info5 rfl (by decide) (by omega) 0 (ok := fun _ => True) (okp := fun _ => True) rfl (fun _ hk => hk) trivial (PD) (Nat.le_trans (Nat.mul_le_mul_right _ (PD : (l0.length : Int).toNat ≤ 281474976710656)) (by omega)) (Below.refl _ _) (Nat.le_refl _) ?_; intro v140 w7 ho8 hb hg_ hnew_; clear hg_ hnew_; (first | rw [← Ny139.out] at ho8 | (simp only [Int.reduceToNat] at ho8; rw [← Ny139.out] at ho8)); have n0_ := AQ (Kd.V_elder' (PV HO1) (Kd.R_base ho8) hb); have n1_ := AQ (Kd.R_lower (Kd.R_newM (M := fun k_ => (w.heap.size ≤ k_)) ho8 (below_size (PB HB)) (fun k_ h_ => h_)) (below_size (PB HB))); have n2_ := AQ (below_step (PB HB) hb); clear HO1; clear HB; have HO1 := n0_; have HO141 := n1_; have HB := n2_; clear n0_ n1_ n2_; clear hb ho8; obtain ⟨Ao9, co9, eo9⟩ := Kd.R_slice HO141.out; subst eo9; have n_ := AQ (Kd.R_mono (ok' := (fun k_ => (w.heap.size ≤ k_))) HO141.out (fun k_ hk => hk.1)); clear HO141; have HO141 := n_; clear n_) | ((with_reducible refine gate_builtin (b := .copy) (xs := #[.tmp 16, .tmp 17]) rfl ?_); refine R_copy_event (w0 := w) w.heap.size rfl (.tmp 16) (.tmp 17) 36 36 rfl 5 Tryd.underlying36 (by kernel_rfl) (.slice Ao9 y139.length co9) y139 A0 _ c0 l0 (fun k_ => (w.heap.size ≤ k_)) rfl rfl (PR HO141) ?cS (PB HB) ?_; (case cS => exact QB HR0 HB); intro w11 hp_ hb_ hg; rw [← Ny142.out] at hp_; have hw := True.intro; have n0_ := AQ (Kd.V_afterv (v := (.slice Ao9 y139.length co9)) (v1 := (.slice Ao9 y139.length co9)) (ok := (fun k_ => (P1_ k_ ∨ w.heap.size ≤ k_))) (PV HO1) hg (.inl rfl)); have n1_ := AQ (hp_); have n2_ := AQ (hb_); clear HO1; clear HO141; clear HB; have HO1 := n0_; have HO141 := n1_; have HB := n2_; clear n0_ n1_ n2_; clear hg hw hp_ hb_) | ((with_reducible refine gate_dst (N := 21) rfl ?_); refine Kd.N_lit (Kd.slice 5 (Kd.int .u8)) _ 36 ?hg (N' := 21) ?hd (xs := ([l1] : List (List Int))) (inner := [.slice A1 l1.length c1]) (ok := (fun k_ => (P1_ k_ ∨ w.heap.size ≤ k_) ∧ some k_ ≠ (.slice Ao9 y139.length co9 : Value).ownBlock)) (okp := (fun k_ => (P1_ k_ ∨ w.heap.size ≤ k_) ∧ some k_ ≠ (.slice Ao9 y139.length co9 : Value).ownBlock)) ?hr ?hp (fun _ hk => hk) ((show ∀ k_, w11.heap.size ≤ k_ → (fun k_ => (P1_ k_ ∨ w.heap.size ≤ k_) ∧ some k_ ≠ (.slice Ao9 y139.length co9 : Value).ownBlock) k_ from fun k_ hk => ⟨(.inr (Nat.le_trans (below_size (PB HB)) hk)), Kd.fresh' (Kd.R_lt (PR HO141)) k_ hk⟩) _ (Nat.le_refl _)) (Below.refl _ _) (Nat.le_refl _) (by simp) ?_; (case hd => rfl); (case hg => rfl); (case hr => first | (go_simp; done) | (go_simp; rfl)); (case hp => exact (Reps.one (show Kd.FK (Kd.slice 5 (Kd.int .u8)) _ _ l1 [.slice A1 l1.length c1] from (Kd.FK_slice_mk (Kd.V_reads' (Kd.V_mono (ok' := (fun k_ => (P1_ k_ ∨ w.heap.size ≤ k_) ∧ some k_ ≠ (.slice Ao9 y139.length co9 : Value).ownBlock)) (HO1.out) (fun k_ hk => ⟨hk.1, hk.2⟩))).2.1 (Kd.V_F (Kd.V_mono (ok' := (fun k_ => (P1_ k_ ∨ w.heap.size ≤ k_) ∧ some k_ ≠ (.slice Ao9 y139.length co9 : Value).ownBlock)) (HO1.out) (fun k_ hk => ⟨hk.1, hk.2⟩))))) (Reps.none _ _))); intro v144 w12 ho13 hb hg_ hnew_; clear hg_ hnew_; (first | rw [← Ny143.out] at ho13 | (simp only [Int.reduceToNat] at ho13; rw [← Ny143.out] at ho13)); have n0_ := AQ (Kd.V_elder' (PV HO1) (Kd.N_base ho13) hb); have n1_ := AQ (Kd.R_below (PR HO141) hb); have n2_ := AQ (Kd.N_lower ho13 (below_size (PB HB))); have n3_ := AQ (below_step (PB HB) hb); clear HO1; clear HO141; clear HB; have HO1 := n0_; have HO141 := n1_; have HO145 := n2_; have HB := n3_; clear n0_ n1_ n2_ n3_; clear hb ho13; obtain ⟨Ao14, co14, eo14⟩ := Kd.N_slice HO145.out; subst eo14) | ((with_reducible refine gate_callee (f := 69) rfl ?_); refine gL (some 22) rfl rfl Tryd.func69 #[.slice Ao9 y139.length co9, .slice Ao14 y143.length co14] rfl ?_; (with_reducible refine (symbol_into.calls k (fun k_ => some k_ = (.slice Ao9 y139.length co9 : Value).ownBlock) (.slice Ao9 y139.length co9) y142 _ _ y143 t146 w _ ?side1 ?side2 ?side3 ?side4 A6.out).mono ?_); (case side1 => exact PB HB); (case side2 => exact Kd.R_tight rfl HO141.out); (case side3 => exact Kd.C_kept_ownV (base := 0) (Kd.N_V (HO145.out)) (fun k_ hk_ hs_ => (hk_.2) hs_)); (case side4 => exact (Kd.N_reads' HO145.out).2.1); rintro e w15 ⟨rfl, hy0, hb, hkp⟩; refine ⟨_, rfl, ?_⟩; have n0_ := AQ (Kd.V_mono (ok' := fun k_ => (P1_ k_ ∨ w.heap.size ≤ k_) ∧ some k_ ≠ (.slice Ao9 y139.length co9 : Value).ownBlock ∧ some k_ ≠ (.slice Ao14 y143.length co14 : Value).ownBlock) (Kd.V_keptB (HO1.out) hkp (fun k_ hk_ hs_ => (hk_.1.2) hs_)) (fun k_ hk_ => ⟨hk_.1.1.1, hk_.1.1.2, hk_.1.2⟩)); have n1_ := AQ (Kd.R_reok rfl hy0 (fun k_ e_ => HO141.out.1 k_ e_)); have n2_ := AQ (Kd.N_mono (ok' := fun k_ => (P1_ k_ ∨ w.heap.size ≤ k_) ∧ some k_ ≠ (.slice Ao9 y139.length co9 : Value).ownBlock) (Kd.N_keptB (HO145.out) hkp (fun k_ hk_ hs_ => (hk_.2) hs_)) (fun k_ hk_ => ⟨hk_.1.1, hk_.1.2⟩)); have n3_ := AQ (hb); clear HO1; clear HO141; clear HO145; clear HB; have HO1 := n0_; have HO141 := n1_; have HO145 := n2_; have HB := n3_; clear n0_ n1_ n2_ n3_; (try clear hb); (try clear hkp); (try clear hy0))); go_ret2; exact ⟨_, (.slice none 0 0), by first | rfl | (simp [errW_none, errW_some] <;> rfl) | (simp [*, errW_none, errW_some] <;> rfl), PR HO141, by first | exact Kd.R_nil _ _ _ _ _ | exact Kd.N_nil _ _ _ _ _ | exact Kd.V_nil _ _ _ _ _ | exact Kd.Q_nil _ _ _ _ _ | exact Kd.S_nil _ _ _ _ _, PB HB⟩
   ·rw [if_neg c5] at H; exact absurd H (by simp)
  ·rw [if_neg c4] at H; exact absurd H (by simp)
 ·rw [if_neg c3] at H; have c3b0 : ((l0.length : Int) == (l1.length : Int)) = false := beq_eq_false_iff_ne.mpr c3; have c3b1 : ((l0.length : Int) != (l1.length : Int)) = true := bne_iff_ne.mpr c3; have c3b2 : (l0.length == l1.length) = false := (by first | simpa using c3 | (simp at c3 ⊢; omega)); replace H := Option.bind_eq_some_iff.mp H; obtain ⟨t147, A160, H⟩ := H; replace H : (some (([] : List Int), t147)) = some (r1, r2) := H; have A16 := AQ A160; clear A160; simp only [Option.some.injEq, Prod.mk.injEq] at H; obtain ⟨rfl, rfl⟩ := H; go_enter Tryd.func50, Tryd.ntmps50; go_wp2_with (first | ((with_reducible refine gate_callee (f := 28) rfl ?_); refine gL (some 12) rfl rfl Tryd.func28 #[.string (⟨#[115, 121, 109, 98, 111, 108, 46, 88, 111, 114]⟩ : ByteArray), .int .i64 2] rfl ?_; (with_reducible refine (fault_New.calls (⟨#[115, 121, 109, 98, 111, 108, 46, 88, 111, 114]⟩ : ByteArray) 2 t147 _ A16.out).mono ?_); rintro e w17 ⟨v148, rfl, ho0, hb⟩; refine ⟨_, rfl, ?_⟩; have n0_ := AQ (Kd.V_below (PV HO1) hb); have n1_ := AQ (Kd.R_lower (Kd.R_newM (M := fun k_ => (w.heap.size ≤ k_)) ho0 (below_size (PB HB)) (fun k_ h_ => h_)) (below_size (PB HB))); have n2_ := AQ (below_step (PB HB) hb); clear HO1; clear HB; have HO1 := n0_; have HO149 := n1_; have HB := n2_; clear n0_ n1_ n2_; (try clear hb); (try clear hb2); (try clear hk); (try clear hi); (try clear ho0))); go_ret2; exact ⟨_, _, by first | rfl | (simp [errW_none, errW_some] <;> rfl) | (simp [*, errW_none, errW_some] <;> rfl), by first | exact Kd.R_nil _ _ _ _ _ | exact Kd.N_nil _ _ _ _ _ | exact Kd.V_nil _ _ _ _ _ | exact Kd.Q_nil _ _ _ _ _ | exact Kd.S_nil _ _ _ _ _, by (with_reducible repeat (first | apply Kd.R_alloc | apply Kd.R_drewN | apply Kd.R_drew)); exact Kd.R_mono HO149.out (fun _ hk => hk.1), PB HB⟩
end Go.Proofs.YtjmgkknbgffbjaaDoor.P
