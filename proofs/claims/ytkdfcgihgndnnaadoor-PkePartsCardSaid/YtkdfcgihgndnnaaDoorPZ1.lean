import Derived.Test.YtkdfcgihgndnnaaDoorProg
import Derived.WalkKit
import Derived.LaidEql
import Derived.Stop.Asserts
import Derived.RowKitTokens
import Derived.Below
import Derived.Deep.RegionWith
import Derived.Deep.Slices
import Derived.ChangeArms
import Derived.SizedLaws
import Derived.Deep.Draws
import Derived.Deep.AppendLies
import Derived.Maps.AppendAt
import Derived.OwnWalk
import Derived.Laws.BytesArg
import Derived.Laws.MakeOwn
import Derived.Laws.OwnMore
import Derived.Deep.OwnRows
import Derived.Tactics
import Derived.Lib.ConvBytes
import Derived.Laws.Slices
import Derived.KernelRfl
import Derived.RowKit3
import Derived.Deep.LoopGhost
import Derived.Deep.QuietTactic
import Derived.BigQuiet
import Derived.WideLaws
import Derived.Deep.DeepCutAuto
import Derived.Deep.CutBlock
import Derived.Deep.RegionHeld3
import Derived.Laws.Rows
import Derived.Lib.AppendStr
import Derived.ArgAppend
import Derived.Laws.IdiomCopy
import Derived.OrdersHeld
import Derived.Laws.BitsLemmas
import Derived.RowKit
import Derived.WalkSpells
import Derived.Lib.SliceRun
import Derived.Test.YtkdfcgihgndnnaaDoorPZ0
import Derived.Deep.MidRow
section
/-
  errors.As, errors.Is and api.Code at an error that is a pointer to an api.Fault: what each answers, by their own text.
-/
namespace Go.Proofs.YtkdfcgihgndnnaaDoor.Errs
open Go.RowKit Go.Extern.Stop Go.Stop Go.Extern

/-! ### closed facts on the model's entries for internal/reflectlite -/
theorem valueOfPP (t : Addr) (w : World) : (ReflectliteValue.unpack (.iface 68 (.pointer (some t)))).run Tryd.prog w
    = .ok (.agg #[.pointer (some ⟨1, 68, none⟩), .pointer (some ⟨w.heap.size, 0, none⟩), .int .u64 150]) (w.alloc (.cells #[.pointer (some t)] 68)) := by kernel_rfl
theorem valueOfPE (t : Addr) (w : World) : (ReflectliteValue.unpack (.iface 105 (.pointer (some t)))).run Tryd.prog w
    = .ok (.agg #[.pointer (some ⟨1, 105, none⟩), .pointer (some ⟨w.heap.size, 0, none⟩), .int .u64 150]) (w.alloc (.cells #[.pointer (some t)] 105)) := by kernel_rfl
theorem valueOfP (e : Addr) (w : World) : (ReflectliteValue.unpack (.iface 66 (.pointer (some e)))).run Tryd.prog w
    = .ok (.agg #[.pointer (some ⟨1, 66, none⟩), .pointer (some ⟨w.heap.size, 0, none⟩), .int .u64 150]) (w.alloc (.cells #[.pointer (some e)] 66)) := by kernel_rfl
theorem valueOfE (c : Int) (w : World) : (ReflectliteValue.unpack (.iface 48 (.int .i64 c))).run Tryd.prog w
    = .ok (.agg #[.pointer (some ⟨1, 48, none⟩), .pointer (some ⟨w.heap.size, 0, none⟩), .int .u64 130]) (w.alloc (.cells #[.int .i64 c] 48)) := by kernel_rfl
theorem typePP (a : Addr) (w : World) : (ReflectliteValue.methodAny (ReflectliteValue.valueError "reflectlite.Value.Type" 0) (fun t _ _ _ => ReflectliteType.toType t) #[.agg #[.pointer (some ⟨1, 68, none⟩), .pointer (some a), .int .u64 150]]).run Tryd.prog w
    = .ok (.iface 115 (.agg #[.pointer (some ⟨1, 68, none⟩)])) w := by kernel_rfl
theorem typePE (a : Addr) (w : World) : (ReflectliteValue.methodAny (ReflectliteValue.valueError "reflectlite.Value.Type" 0) (fun t _ _ _ => ReflectliteType.toType t) #[.agg #[.pointer (some ⟨1, 105, none⟩), .pointer (some a), .int .u64 150]]).run Tryd.prog w
    = .ok (.iface 115 (.agg #[.pointer (some ⟨1, 105, none⟩)])) w := by kernel_rfl
theorem methodKind (h : Value) (w : World) : (Go.method 265 115 (.agg #[h]) "Kind").run Tryd.prog w = .ok (103, h) w := by kernel_rfl
theorem kindPP (w : World) : ((ReflectliteType.abiMethod fun t => (fun a : Nat => Value.int IntKind.u8 (a : Int)) <$> Rtype.kind t) #[.pointer (some ⟨1, 68, none⟩)]).run Tryd.prog w = .ok (.int .u8 22) w := by kernel_rfl
theorem kindPE (w : World) : ((ReflectliteType.abiMethod fun t => (fun a : Nat => Value.int IntKind.u8 (a : Int)) <$> Rtype.kind t) #[.pointer (some ⟨1, 105, none⟩)]).run Tryd.prog w = .ok (.int .u8 22) w := by kernel_rfl
theorem kindP (w : World) : ((ReflectliteType.abiMethod fun t => (fun a : Nat => Value.int IntKind.u8 (a : Int)) <$> Rtype.kind t) #[.pointer (some ⟨1, 66, none⟩)]).run Tryd.prog w = .ok (.int .u8 22) w := by kernel_rfl
theorem kindE (w : World) : ((ReflectliteType.abiMethod fun t => (fun a : Nat => Value.int IntKind.u8 (a : Int)) <$> Rtype.kind t) #[.pointer (some ⟨1, 48, none⟩)]).run Tryd.prog w = .ok (.int .u8 2) w := by kernel_rfl
theorem rlm (z : Sem Value) (f : TypeId → Addr → Nat → Nat → Sem Value) (v : Value) :
    ReflectliteValue.method z f #[v] = (do match ← ReflectliteValue.parts v with | none => z | some (t, a, fl) => f t a fl (fl % 32)) := rfl
theorem partsPP (a : Addr) (w : World) : (ReflectliteValue.parts (.agg #[.pointer (some ⟨1, 68, none⟩), .pointer (some a), .int .u64 150])).run Tryd.prog w = .ok (some (68, a, 150)) w := by kernel_rfl
theorem partsPE (a : Addr) (w : World) : (ReflectliteValue.parts (.agg #[.pointer (some ⟨1, 105, none⟩), .pointer (some a), .int .u64 150])).run Tryd.prog w = .ok (some (105, a, 150)) w := by kernel_rfl
theorem isNilPP (a p : Addr) (W : World) (ha : W.cell? a = some (.pointer (some p))) :
    (ReflectliteValue.method (ReflectliteValue.valueError "reflectlite.Value.IsNil" 0) ReflectliteValue.isNil #[.agg #[.pointer (some ⟨1, 68, none⟩), .pointer (some a), .int .u64 150]]).run Tryd.prog W = .ok (.bool false) W := by
  rw [rlm]
  simp only [Sem.run_bind, partsPP, Result.andThen]
  simp [ReflectliteValue.isNil, loadVar, isAgg, underlying, Tryd.underlying68, ha, Result.andThen]
theorem isNilPE (a p : Addr) (W : World) (ha : W.cell? a = some (.pointer (some p))) :
    (ReflectliteValue.method (ReflectliteValue.valueError "reflectlite.Value.IsNil" 0) ReflectliteValue.isNil #[.agg #[.pointer (some ⟨1, 105, none⟩), .pointer (some a), .int .u64 150]]).run Tryd.prog W = .ok (.bool false) W := by
  rw [rlm]
  simp only [Sem.run_bind, partsPE, Result.andThen]
  simp [ReflectliteValue.isNil, loadVar, isAgg, underlying, Tryd.underlying105, ha, Result.andThen]
theorem methodElem (h : Value) (w : World) : (Go.method 265 115 (.agg #[h]) "Elem").run Tryd.prog w = .ok (115, .agg #[h]) w := by kernel_rfl
theorem methodImplements (h : Value) (w : World) : (Go.method 265 115 (.agg #[h]) "Implements").run Tryd.prog w = .ok (116, .agg #[h]) w := by kernel_rfl
theorem methodAssignableTo (h : Value) (w : World) : (Go.method 265 115 (.agg #[h]) "AssignableTo").run Tryd.prog w = .ok (113, .agg #[h]) w := by kernel_rfl
theorem methodComparable (h : Value) (w : World) : (Go.method 265 115 (.agg #[h]) "Comparable").run Tryd.prog w = .ok (114, .agg #[h]) w := by kernel_rfl
theorem methodUnwrap (h : Value) (w : World) : (Go.method 265 66 h "Unwrap").run Tryd.prog w = .ok (108, h) w := by kernel_rfl
theorem elemPP (w : World) : (ReflectliteType.method ReflectliteType.elem #[.agg #[.pointer (some ⟨1, 68, none⟩)]]).run Tryd.prog w = .ok (.iface 115 (.agg #[.pointer (some ⟨1, 66, none⟩)])) w := by kernel_rfl
theorem elemPE (w : World) : (ReflectliteType.method ReflectliteType.elem #[.agg #[.pointer (some ⟨1, 105, none⟩)]]).run Tryd.prog w = .ok (.iface 115 (.agg #[.pointer (some ⟨1, 48, none⟩)])) w := by kernel_rfl
theorem implementsP (w : World) : (ReflectliteType.relation "Implements" ReflectliteType.implements_ #[.agg #[.pointer (some ⟨1, 66, none⟩)], .iface 115 (.agg #[.pointer (some ⟨1, 26, none⟩)])]).run Tryd.prog w = .ok (.bool true) w := by kernel_rfl
theorem implementsE (w : World) : (ReflectliteType.relation "Implements" ReflectliteType.implements_ #[.agg #[.pointer (some ⟨1, 48, none⟩)], .iface 115 (.agg #[.pointer (some ⟨1, 26, none⟩)])]).run Tryd.prog w = .ok (.bool true) w := by kernel_rfl
theorem typeOfP (v : Value) (w : World) : (ReflectliteType.typeOf #[.iface 66 v]).run Tryd.prog w = .ok (.iface 115 (.agg #[.pointer (some ⟨1, 66, none⟩)])) w := by kernel_rfl
theorem typeOfE (v : Value) (w : World) : (ReflectliteType.typeOf #[.iface 48 v]).run Tryd.prog w = .ok (.iface 115 (.agg #[.pointer (some ⟨1, 48, none⟩)])) w := by kernel_rfl
theorem assignablePP (w : World) : (ReflectliteType.relation "AssignableTo" ReflectliteType.assignableTo #[.agg #[.pointer (some ⟨1, 66, none⟩)], .iface 115 (.agg #[.pointer (some ⟨1, 66, none⟩)])]).run Tryd.prog w = .ok (.bool true) w := by kernel_rfl
theorem assignableEE (w : World) : (ReflectliteType.relation "AssignableTo" ReflectliteType.assignableTo #[.agg #[.pointer (some ⟨1, 48, none⟩)], .iface 115 (.agg #[.pointer (some ⟨1, 48, none⟩)])]).run Tryd.prog w = .ok (.bool true) w := by kernel_rfl
theorem assignablePE (w : World) : (ReflectliteType.relation "AssignableTo" ReflectliteType.assignableTo #[.agg #[.pointer (some ⟨1, 66, none⟩)], .iface 115 (.agg #[.pointer (some ⟨1, 48, none⟩)])]).run Tryd.prog w = .ok (.bool false) w := by kernel_rfl
theorem elemOfPP (w : World) : (Rtype.elem? 68).run Tryd.prog w = .ok (some 66) w := by kernel_rfl
theorem elemOfPE (w : World) : (Rtype.elem? 105).run Tryd.prog w = .ok (some 48) w := by kernel_rfl
theorem mkP (p : Addr) (w : World) : (ReflectliteValue.mk 66 p ReflectliteValue.flagAddr).run Tryd.prog w = .ok (.agg #[.pointer (some ⟨1, 66, none⟩), .pointer (some p), .int .u64 406]) w := by kernel_rfl
theorem mkE (p : Addr) (w : World) : (ReflectliteValue.mk 48 p ReflectliteValue.flagAddr).run Tryd.prog w = .ok (.agg #[.pointer (some ⟨1, 48, none⟩), .pointer (some p), .int .u64 386]) w := by kernel_rfl
theorem elemVPP (a p : Addr) (W : World) (ha : W.cell? a = some (.pointer (some p))) :
    (ReflectliteValue.method (ReflectliteValue.valueError "reflectlite.Value.Elem" 0) ReflectliteValue.elem #[.agg #[.pointer (some ⟨1, 68, none⟩), .pointer (some a), .int .u64 150]]).run Tryd.prog W
      = .ok (.agg #[.pointer (some ⟨1, 66, none⟩), .pointer (some p), .int .u64 406]) W := by
  rw [rlm]
  simp only [Sem.run_bind, partsPP, Result.andThen]
  simp [ReflectliteValue.elem, loadVar, isAgg, underlying, Tryd.underlying68, ha, Result.andThen, elemOfPP, mkP]
theorem elemVPE (a p : Addr) (W : World) (ha : W.cell? a = some (.pointer (some p))) :
    (ReflectliteValue.method (ReflectliteValue.valueError "reflectlite.Value.Elem" 0) ReflectliteValue.elem #[.agg #[.pointer (some ⟨1, 105, none⟩), .pointer (some a), .int .u64 150]]).run Tryd.prog W
      = .ok (.agg #[.pointer (some ⟨1, 48, none⟩), .pointer (some p), .int .u64 386]) W := by
  rw [rlm]
  simp only [Sem.run_bind, partsPE, Result.andThen]
  simp [ReflectliteValue.elem, loadVar, isAgg, underlying, Tryd.underlying105, ha, Result.andThen, elemOfPE, mkE]
theorem rls (v x : Value) : ReflectliteValue.set #[v, x] = (do
    let (some (dst, a, fl), some (src, b, _)) := (← ReflectliteValue.parts v, ← ReflectliteValue.parts x)
      | unsupported (.noEntry "extern/(internal/reflectlite.Value).Set.zeroValue")
    if fl / ReflectliteValue.flagAddr % 2 == 0 then unsupported (.noEntry "extern/(internal/reflectlite.Value).Set.unaddressable")
    let val ← loadVar src b
    if ← Rtype.directlyAssignable dst src then storeVar dst a val
    else if ← Rtype.implements dst src then
      if (← Rtype.kind src) == 20 then
        match val with
        | .nilIface => unsupported (.noEntry "extern/reflectlite: a nil value of one interface type handed on as a value of another")
        | _ => storeVar dst a val
      else storeVar dst a (.iface src val)
    else panicString ("reflectlite.Set: value of type " ++ (← Rtype.spelt src) ++ " is not assignable to type " ++ (← Rtype.spelt dst))
    pure (.tuple #[])) := rfl
theorem partsPa (a : Addr) (w : World) : (ReflectliteValue.parts (.agg #[.pointer (some ⟨1, 66, none⟩), .pointer (some a), .int .u64 406])).run Tryd.prog w = .ok (some (66, a, 406)) w := by kernel_rfl
theorem partsP (a : Addr) (w : World) : (ReflectliteValue.parts (.agg #[.pointer (some ⟨1, 66, none⟩), .pointer (some a), .int .u64 150])).run Tryd.prog w = .ok (some (66, a, 150)) w := by kernel_rfl
theorem partsEa (a : Addr) (w : World) : (ReflectliteValue.parts (.agg #[.pointer (some ⟨1, 48, none⟩), .pointer (some a), .int .u64 386])).run Tryd.prog w = .ok (some (48, a, 386)) w := by kernel_rfl
theorem partsE (a : Addr) (w : World) : (ReflectliteValue.parts (.agg #[.pointer (some ⟨1, 48, none⟩), .pointer (some a), .int .u64 130])).run Tryd.prog w = .ok (some (48, a, 130)) w := by kernel_rfl
theorem directP (w : World) : (Rtype.directlyAssignable 66 66).run Tryd.prog w = .ok true w := by kernel_rfl
theorem directE (w : World) : (Rtype.directlyAssignable 48 48).run Tryd.prog w = .ok true w := by kernel_rfl
theorem setP (ta b e : Addr) (old : Value) (W : World) (hb : W.cell? b = some (.pointer (some e))) (ht : W.cell? ta = some old) (hf : W.frozen? ta = false) :
    (ReflectliteValue.set #[.agg #[.pointer (some ⟨1, 66, none⟩), .pointer (some ta), .int .u64 406], .agg #[.pointer (some ⟨1, 66, none⟩), .pointer (some b), .int .u64 150]]).run Tryd.prog W
      = .ok (.tuple #[]) (W.setCell ta (.pointer (some e))) := by
  rw [rls]
  simp only [Sem.run_bind, partsPa, partsP, Result.andThen]
  simp [ReflectliteValue.flagAddr, loadVar, isAgg, underlying, Tryd.underlying66, hb, Result.andThen, directP, storeVar, Value.cells, storeCells, Addr.add]
  rw [run_store Tryd.prog W ta _ _ (by rfl)]
  simp [ht, hf]
theorem setE (ta b : Addr) (c : Int) (old : Value) (W : World) (hb : W.cell? b = some (.int .i64 c)) (ht : W.cell? ta = some old) (hf : W.frozen? ta = false) :
    (ReflectliteValue.set #[.agg #[.pointer (some ⟨1, 48, none⟩), .pointer (some ta), .int .u64 386], .agg #[.pointer (some ⟨1, 48, none⟩), .pointer (some b), .int .u64 130]]).run Tryd.prog W
      = .ok (.tuple #[]) (W.setCell ta (.int .i64 c)) := by
  rw [rls]
  simp only [Sem.run_bind, partsEa, partsE, Result.andThen]
  simp [ReflectliteValue.flagAddr, loadVar, isAgg, underlying, Tryd.underlying48, hb, Result.andThen, directE, storeVar, Value.cells, storeCells, Addr.add]
  rw [run_store Tryd.prog W ta _ _ (by rfl)]
  simp [ht, hf]
end Go.Proofs.YtkdfcgihgndnnaaDoor.Errs
end
section
/-
  errors.As, errors.Is, api.Code at an error that is a pointer to an api.Fault: the contracts; and what the statements' Num answers.
-/
namespace Go.Proofs.YtkdfcgihgndnnaaDoor.Errs
open Go.RowKit Go.Extern.Stop Go.Stop Go.Extern

theorem comparableE (w : World) : (ReflectliteType.method (fun t => do Rtype.noPackHeld "Comparable" t; (fun a => Value.bool a.comparable) <$> typeInfo t) #[.agg #[.pointer (some ⟨1, 48, none⟩)]]).run Tryd.prog w = .ok (.bool true) w := by kernel_rfl
theorem noAs (v : Value) (xT : TypeId) (w : World) : (Instr.typeAssert (.iface 66 v) xT 119 true).run Tryd.prog w = .ok (.tuple #[.nilIface, .bool false]) w := run_typeAssert_lacksB Tryd.underlying119 (by kernel_rfl) (by kernel_rfl) v xT w
theorem noIs (v : Value) (xT : TypeId) (w : World) : (Instr.typeAssert (.iface 66 v) xT 127 true).run Tryd.prog w = .ok (.tuple #[.nilIface, .bool false]) w := run_typeAssert_lacksB Tryd.underlying127 (by kernel_rfl) (by kernel_rfl) v xT w
theorem hasUnwrap (v : Value) (xT : TypeId) (w : World) : (Instr.typeAssert (.iface 66 v) xT 122 true).run Tryd.prog w = .ok (.tuple #[.iface 66 v, .bool true]) w := run_typeAssert_hasB Tryd.underlying122 (by kernel_rfl) v xT w

theorem unwrap_P (g : Nat) (c : Int) (w : World) (hc : w.cell? ⟨g, 0, none⟩ = some (.int .i64 c)) :
    Calls Tryd.prog 108 #[.pointer (some ⟨g, 0, none⟩)] w fun e w' => e = .returned (.iface 48 (.int .i64 c)) ∧ w' = w := by
  go_enter Tryd.func108, Tryd.ntmps108
  go_wp2
  go_ret
  exact ⟨rfl, rfl⟩

abbrev wAs (w : World) (PT : TypeId) (t : Addr) : World := ((w.alloc (.cells #[.pointer (some t)] PT)).alloc (.cells #[.pointer (some ⟨1, PT, none⟩), .pointer (some ⟨w.heap.size, 0, none⟩), .int .u64 150] 94)).alloc (.cells #[.pointer (some ⟨1, PT, none⟩), .pointer (some ⟨w.heap.size, 0, none⟩), .int .u64 150] 94)
set_option maxHeartbeats 4000000 in
theorem as_P (e t : Addr) (old : Value) (w : World) (hg : w.cell? ⟨0, 0, none⟩ = some (.iface 115 (.agg #[.pointer (some ⟨1, 26, none⟩)]))) (ht0 : w.cell? t = some old) (hf0 : w.frozen? t = false) :
    Calls Tryd.prog 39 #[.iface 66 (.pointer (some e)), .iface 68 (.pointer (some t))] w fun ev w' => ev = .returned (.bool true) ∧ w' = ((wAs w 68 t).alloc (.cells #[.pointer (some e)] 66)).setCell t (.pointer (some e)) := by
  have h6 := @run_callFunc_extern Tryd.prog 59 _ (fun args => ReflectliteValue.unpack (args.getD 0 (.tuple #[]))) Tryd.func59 (by kernel_rfl) (by kernel_rfl) (by kernel_rfl) (by kernel_rfl)
  have h7 := @run_callFunc_extern Tryd.prog 60 _ (ReflectliteValue.methodAny (ReflectliteValue.valueError "reflectlite.Value.Type" 0) (fun t _ _ _ => ReflectliteType.toType t)) Tryd.func60 (by kernel_rfl) (by kernel_rfl) (by kernel_rfl) (by kernel_rfl)
  have h8 := @run_callFunc_extern Tryd.prog 61 _ (ReflectliteValue.method (ReflectliteValue.valueError "reflectlite.Value.IsNil" 0) ReflectliteValue.isNil) Tryd.func61 (by kernel_rfl) (by kernel_rfl) (by kernel_rfl) (by kernel_rfl)
  have h27 := @run_callFunc_extern Tryd.prog 103 _ (ReflectliteType.abiMethod fun t => do pure (.int .u8 (← Rtype.kind t))) Tryd.func103 (by kernel_rfl) (by kernel_rfl) (by kernel_rfl) (by kernel_rfl)
  have h37 := @run_callFunc_extern Tryd.prog 115 _ (ReflectliteType.method ReflectliteType.elem) Tryd.func115 (by kernel_rfl) (by kernel_rfl) (by kernel_rfl) (by kernel_rfl)
  have h38 := @run_callFunc_extern Tryd.prog 116 _ (ReflectliteType.relation "Implements" ReflectliteType.implements_) Tryd.func116 (by kernel_rfl) (by kernel_rfl) (by kernel_rfl) (by kernel_rfl)
  have h10 := @run_callFunc_extern Tryd.prog 63 _ ReflectliteType.typeOf Tryd.func63 (by kernel_rfl) (by kernel_rfl) (by kernel_rfl) (by kernel_rfl)
  have h35 := @run_callFunc_extern Tryd.prog 113 _ (ReflectliteType.relation "AssignableTo" ReflectliteType.assignableTo) Tryd.func113 (by kernel_rfl) (by kernel_rfl) (by kernel_rfl) (by kernel_rfl)
  have h11 := @run_callFunc_extern Tryd.prog 77 _ (ReflectliteValue.method (ReflectliteValue.valueError "reflectlite.Value.Elem" 0) ReflectliteValue.elem) Tryd.func77 (by kernel_rfl) (by kernel_rfl) (by kernel_rfl) (by kernel_rfl)
  have h12 := @run_callFunc_extern Tryd.prog 78 _ ReflectliteValue.set Tryd.func78 (by kernel_rfl) (by kernel_rfl) (by kernel_rfl) (by kernel_rfl)
  have tO := typeOfP
  have mA := methodAssignableTo
  have a25 := assignablePP
  have v25 := valueOfP
  have f6 := valueOfPP
  have f7 := typePP
  have mK := methodKind
  have mE := methodElem
  have mI := methodImplements
  have k27 := kindPP
  have k25 := kindP
  have e27 := elemPP
  have i25 := implementsP
  have n8 := isNilPP ⟨w.heap.size, 0, none⟩ t ((w.alloc (.cells #[.pointer (some t)] 68)).alloc (.cells #[.pointer (some ⟨1, 68, none⟩), .pointer (some ⟨w.heap.size, 0, none⟩), .int .u64 150] 94)) (by simp)
  have hlt : 0 < w.heap.size := by
    rcases Nat.eq_zero_or_pos w.heap.size with h0 | h
    · simp [World.cell?, h0] at hg
    · exact h
  have hg2 : ((w.alloc (.cells #[.pointer (some t)] 68)).alloc (.cells #[.pointer (some ⟨1, 68, none⟩), .pointer (some ⟨w.heap.size, 0, none⟩), .int .u64 150] 94)).cell? ⟨0, 0, none⟩ = some (.iface 115 (.agg #[.pointer (some ⟨1, 26, none⟩)])) := by
    rw [World.cell?_alloc_lt _ _ ⟨0, 0, none⟩ (by simp), World.cell?_alloc_lt _ _ ⟨0, 0, none⟩ hlt]; exact hg
  have htl : t.block < w.heap.size := by
    rcases Nat.lt_or_ge t.block w.heap.size with h | h
    · exact h
    · simp [World.cell?, Array.getElem?_eq_none h] at ht0
  have el := elemVPP ⟨w.heap.size, 0, none⟩ t (wAs w 68 t) (by unfold wAs; rw [World.cell?_alloc_lt _ _ ⟨w.heap.size, 0, none⟩ (by simp; omega)]; simp)
  have st := setP t ⟨w.heap.size + 1 + 1 + 1, 0, none⟩ e old ((wAs w 68 t).alloc (.cells #[.pointer (some e)] 66))
    (by unfold wAs; rw [World.cell?_alloc_at _ _ _ _ (by simp)]; rfl)
    (by unfold wAs; rw [World.cell?_alloc_lt _ _ t (by simp; omega), World.cell?_alloc_lt _ _ t (by simp; omega), World.cell?_alloc_lt _ _ t (by simp; omega), World.cell?_alloc_lt _ _ t htl]; exact ht0)
    (by unfold wAs; rw [World.frozen?_alloc_old _ _ t (by simp; omega), World.frozen?_alloc_old _ _ t (by simp; omega), World.frozen?_alloc_old _ _ t (by simp; omega), World.frozen?_alloc_old _ _ t (Nat.ne_of_lt htl)]; exact hf0)
  go_enter Tryd.func39, Tryd.ntmps39
  go_wp2
  refine wp_loop_rounds 1 ?_
  rw [rounds_succ]
  go_wp2
  go_ret
  exact ⟨rfl, rfl⟩
end Go.Proofs.YtkdfcgihgndnnaaDoor.Errs
end
section
/-
  errors.As at an api.Errno's place, errors.Is, api.Code: at an error that is a pointer to an api.Fault.
-/
namespace Go.Proofs.YtkdfcgihgndnnaaDoor.Errs
open Go.RowKit Go.Extern.Stop Go.Stop Go.Extern

set_option maxHeartbeats 8000000 in
theorem as_E (g : Nat) (c : Int) (t : Addr) (old : Value) (w : World) (hg : w.cell? ⟨0, 0, none⟩ = some (.iface 115 (.agg #[.pointer (some ⟨1, 26, none⟩)]))) (hc : w.cell? ⟨g, 0, none⟩ = some (.int .i64 c)) (ht0 : w.cell? t = some old) (hf0 : w.frozen? t = false) :
    Calls Tryd.prog 39 #[.iface 66 (.pointer (some ⟨g, 0, none⟩)), .iface 105 (.pointer (some t))] w fun ev w' => ev = .returned (.bool true) ∧ w' = ((wAs w 105 t).alloc (.cells #[.int .i64 c] 48)).setCell t (.int .i64 c) := by
  have h6 := @run_callFunc_extern Tryd.prog 59 _ (fun args => ReflectliteValue.unpack (args.getD 0 (.tuple #[]))) Tryd.func59 (by kernel_rfl) (by kernel_rfl) (by kernel_rfl) (by kernel_rfl)
  have h7 := @run_callFunc_extern Tryd.prog 60 _ (ReflectliteValue.methodAny (ReflectliteValue.valueError "reflectlite.Value.Type" 0) (fun t _ _ _ => ReflectliteType.toType t)) Tryd.func60 (by kernel_rfl) (by kernel_rfl) (by kernel_rfl) (by kernel_rfl)
  have h8 := @run_callFunc_extern Tryd.prog 61 _ (ReflectliteValue.method (ReflectliteValue.valueError "reflectlite.Value.IsNil" 0) ReflectliteValue.isNil) Tryd.func61 (by kernel_rfl) (by kernel_rfl) (by kernel_rfl) (by kernel_rfl)
  have h27 := @run_callFunc_extern Tryd.prog 103 _ (ReflectliteType.abiMethod fun t => do pure (.int .u8 (← Rtype.kind t))) Tryd.func103 (by kernel_rfl) (by kernel_rfl) (by kernel_rfl) (by kernel_rfl)
  have h37 := @run_callFunc_extern Tryd.prog 115 _ (ReflectliteType.method ReflectliteType.elem) Tryd.func115 (by kernel_rfl) (by kernel_rfl) (by kernel_rfl) (by kernel_rfl)
  have h38 := @run_callFunc_extern Tryd.prog 116 _ (ReflectliteType.relation "Implements" ReflectliteType.implements_) Tryd.func116 (by kernel_rfl) (by kernel_rfl) (by kernel_rfl) (by kernel_rfl)
  have h10 := @run_callFunc_extern Tryd.prog 63 _ ReflectliteType.typeOf Tryd.func63 (by kernel_rfl) (by kernel_rfl) (by kernel_rfl) (by kernel_rfl)
  have h35 := @run_callFunc_extern Tryd.prog 113 _ (ReflectliteType.relation "AssignableTo" ReflectliteType.assignableTo) Tryd.func113 (by kernel_rfl) (by kernel_rfl) (by kernel_rfl) (by kernel_rfl)
  have h11 := @run_callFunc_extern Tryd.prog 77 _ (ReflectliteValue.method (ReflectliteValue.valueError "reflectlite.Value.Elem" 0) ReflectliteValue.elem) Tryd.func77 (by kernel_rfl) (by kernel_rfl) (by kernel_rfl) (by kernel_rfl)
  have h12 := @run_callFunc_extern Tryd.prog 78 _ ReflectliteValue.set Tryd.func78 (by kernel_rfl) (by kernel_rfl) (by kernel_rfl) (by kernel_rfl)
  have tO := typeOfP
  have tO2 := typeOfE
  have mA := methodAssignableTo
  have mU := methodUnwrap
  have a25 := assignablePE
  have a26 := assignableEE
  have v25 := valueOfE
  have f6 := valueOfPE
  have f7 := typePE
  have mK := methodKind
  have mE := methodElem
  have mI := methodImplements
  have k27 := kindPE
  have k25 := kindE
  have e27 := elemPE
  have i25 := implementsE
  have nA := noAs
  have hU := hasUnwrap
  have n8 := isNilPE ⟨w.heap.size, 0, none⟩ t ((w.alloc (.cells #[.pointer (some t)] 105)).alloc (.cells #[.pointer (some ⟨1, 105, none⟩), .pointer (some ⟨w.heap.size, 0, none⟩), .int .u64 150] 94)) (by simp)
  have hlt : 0 < w.heap.size := by
    rcases Nat.eq_zero_or_pos w.heap.size with h0 | h
    · simp [World.cell?, h0] at hg
    · exact h
  have hgl : g < w.heap.size := by
    rcases Nat.lt_or_ge g w.heap.size with h | h
    · exact h
    · simp [World.cell?, Array.getElem?_eq_none h] at hc
  have hg2 : ((w.alloc (.cells #[.pointer (some t)] 105)).alloc (.cells #[.pointer (some ⟨1, 105, none⟩), .pointer (some ⟨w.heap.size, 0, none⟩), .int .u64 150] 94)).cell? ⟨0, 0, none⟩ = some (.iface 115 (.agg #[.pointer (some ⟨1, 26, none⟩)])) := by
    rw [World.cell?_alloc_lt _ _ ⟨0, 0, none⟩ (by simp), World.cell?_alloc_lt _ _ ⟨0, 0, none⟩ hlt]; exact hg
  have hc2 : (wAs w 105 t).cell? ⟨g, 0, none⟩ = some (.int .i64 c) := by
    unfold wAs
    rw [World.cell?_alloc_lt _ _ ⟨g, 0, none⟩ (by simp; omega), World.cell?_alloc_lt _ _ ⟨g, 0, none⟩ (by simp; omega), World.cell?_alloc_lt _ _ ⟨g, 0, none⟩ hgl]; exact hc
  have htl : t.block < w.heap.size := by
    rcases Nat.lt_or_ge t.block w.heap.size with h | h
    · exact h
    · simp [World.cell?, Array.getElem?_eq_none h] at ht0
  have el := elemVPE ⟨w.heap.size, 0, none⟩ t (wAs w 105 t) (by unfold wAs; rw [World.cell?_alloc_lt _ _ ⟨w.heap.size, 0, none⟩ (by simp; omega)]; simp)
  have st := setE t ⟨w.heap.size + 1 + 1 + 1, 0, none⟩ c old ((wAs w 105 t).alloc (.cells #[.int .i64 c] 48))
    (by unfold wAs; rw [World.cell?_alloc_at _ _ _ _ (by simp)]; rfl)
    (by unfold wAs; rw [World.cell?_alloc_lt _ _ t (by simp; omega), World.cell?_alloc_lt _ _ t (by simp; omega), World.cell?_alloc_lt _ _ t (by simp; omega), World.cell?_alloc_lt _ _ t htl]; exact ht0)
    (by unfold wAs; rw [World.frozen?_alloc_old _ _ t (by simp; omega), World.frozen?_alloc_old _ _ t (by simp; omega), World.frozen?_alloc_old _ _ t (by simp; omega), World.frozen?_alloc_old _ _ t (Nat.ne_of_lt htl)]; exact hf0)
  go_enter Tryd.func39, Tryd.ntmps39
  go_wp2
  refine wp_loop_rounds 2 ?_
  rw [rounds_succ]
  go_wp2_with (go_at_call 108; refine (unwrap_P g c _ hc2).mono ?_; rintro e w' ⟨rfl, rfl⟩)
  rw [rounds_succ]
  go_wp2
  go_ret
  exact ⟨rfl, rfl⟩
end Go.Proofs.YtkdfcgihgndnnaaDoor.Errs
end
section
/-
  errors.Is, api.Code and Num at an error that is a pointer to an api.Fault.
-/
namespace Go.Proofs.YtkdfcgihgndnnaaDoor.Errs
open Go.RowKit Go.Extern.Stop Go.Stop Go.Extern

theorem run_equalIn_two {P : Program} (w : World) (d : Nat) {ti tn : TypeId} {ms : Array (String × TypeId)} {i : TypeInfo} {k : IntKind} (a b : Int)
    (hi : P.underlying ti = some (.interface ms)) (hn : P.underlying tn = some (.int k)) (hinfo : P.info? tn = some i) (hcomp : i.comparable = true) :
    (Op.equalIn (d + 2) ti (.iface tn (.int k a)) (.iface tn (.int k b))).run P w = .ok (a == b) w := by
  simp [Op.equalIn, run_underlying hi, run_underlying hn, typeInfo, hinfo, hcomp]
theorem run_eql_two {P : Program} (w : World) {ti tn : TypeId} {ms : Array (String × TypeId)} {i : TypeInfo} {k : IntKind} (a b : Int)
    (hi : P.underlying ti = some (.interface ms)) (hn : P.underlying tn = some (.int k)) (hinfo : P.info? tn = some i) (hcomp : i.comparable = true) :
    (binOp .eql ti (.iface tn (.int k a)) (.iface tn (.int k b))).run P w = .ok (.bool (a == b)) w := by
  simp only [binOp]
  simp [Op.equal, Op.maxDepth, run_equalIn_two w 9998 a b hi hn hinfo hcomp]
theorem infoE : (Tryd.prog.info? 48).map (·.comparable) = some true := by kernel_rfl
theorem eqE (c : Int) (W : World) : (binOp .eql 26 (.iface 48 (.int .i64 c)) (.iface 48 (.int .i64 c))).run Tryd.prog W = .ok (.bool true) W := by
  obtain ⟨i, hi, hc⟩ := Option.map_eq_some_iff.1 infoE
  rw [run_eql_two W c c Tryd.underlying26 Tryd.underlying48 hi hc, beq_self_eq_true]

set_option maxHeartbeats 8000000 in
set_option maxRecDepth 100000 in
theorem is_P (g : Nat) (c : Int) (w : World) (hc : w.cell? ⟨g, 0, none⟩ = some (.int .i64 c)) :
    Calls Tryd.prog 40 #[.iface 66 (.pointer (some ⟨g, 0, none⟩)), .iface 48 (.int .i64 c)] w fun ev w' => ev = .returned (.bool true) ∧ w' = w := by
  have h10 := @run_callFunc_extern Tryd.prog 63 _ ReflectliteType.typeOf Tryd.func63 (by kernel_rfl) (by kernel_rfl) (by kernel_rfl) (by kernel_rfl)
  have h36 := @run_callFunc_extern Tryd.prog 114 _ (ReflectliteType.method (fun t => do Rtype.noPackHeld "Comparable" t; pure (.bool (← typeInfo t).comparable))) Tryd.func114 (by kernel_rfl) (by kernel_rfl) (by kernel_rfl) (by kernel_rfl)
  have tO2 := typeOfE
  have mC := methodComparable
  have mU := methodUnwrap
  have cE := comparableE
  have nI := noIs
  have hU := hasUnwrap
  have ne : ∀ (v u : Value) (W : World), (binOp .eql 26 (.iface 66 v) (.iface 48 u)).run Tryd.prog W = .ok (.bool false) W := fun v u W => run_eql_iface_types 66 48 v u Tryd.underlying26 (by decide) W
  have eE := eqE c
  go_enter Tryd.func40, Tryd.ntmps40
  go_wp2
  refine wp_loop_rounds 2 ?_
  rw [rounds_succ]
  go_wp2_with (go_at_call 108; refine (unwrap_P g c _ hc).mono ?_; rintro e w' ⟨rfl, rfl⟩)
  rw [rounds_succ]
  go_wp2
  go_ret
  exact ⟨rfl, rfl⟩
set_option maxHeartbeats 8000000 in
theorem code_P (g : Nat) (c : Int) (w : World) (hg : w.cell? ⟨0, 0, none⟩ = some (.iface 115 (.agg #[.pointer (some ⟨1, 26, none⟩)]))) (hc : w.cell? ⟨g, 0, none⟩ = some (.int .i64 c)) :
    Calls Tryd.prog 41 #[.iface 66 (.pointer (some ⟨g, 0, none⟩))] w fun ev w' => ev = .returned (.int .i64 c) ∧ Below w.heap.size w w' := by
  have hlt : 0 < w.heap.size := by
    rcases Nat.eq_zero_or_pos w.heap.size with h0 | h
    · simp [World.cell?, h0] at hg
    · exact h
  have hgl : g < w.heap.size := by
    rcases Nat.lt_or_ge g w.heap.size with h | h
    · exact h
    · simp [World.cell?, Array.getElem?_eq_none h] at hc
  have h1 : (w.alloc (.cells #[.int .i64 0] 48)).cell? ⟨0, 0, none⟩ = some (.iface 115 (.agg #[.pointer (some ⟨1, 26, none⟩)])) := by rw [World.cell?_alloc_lt _ _ ⟨0, 0, none⟩ hlt]; exact hg
  have h2 : (w.alloc (.cells #[.int .i64 0] 48)).cell? ⟨g, 0, none⟩ = some (.int .i64 c) := by rw [World.cell?_alloc_lt _ _ ⟨g, 0, none⟩ hgl]; exact hc
  have h3 : (w.alloc (.cells #[.int .i64 0] 48)).cell? ⟨w.heap.size, 0, none⟩ = some (.int .i64 0) := by simp
  have h4 : (w.alloc (.cells #[.int .i64 0] 48)).frozen? ⟨w.heap.size, 0, none⟩ = false := by simp
  go_enter Tryd.func41, Tryd.ntmps41
  go_wp2_with (go_at_call 39; refine (as_E g c _ _ _ h1 h2 h3 h4).mono ?_; rintro e w' ⟨rfl, rfl⟩)
  go_ret
  refine ⟨rfl, ?_⟩
  repeat (first | exact Below.refl _ _ | refine Below.alloc ?_ (by first | omega | (simp; done) | (simp; omega)) _)
theorem as_num (g : Nat) (c : Int) (T : Nat) (W : World) (h0 : 0 < T) (hgT : g < T) (hg : W.cell? ⟨0, 0, none⟩ = some (.iface 115 (.agg #[.pointer (some ⟨1, 26, none⟩)]))) (hc : W.cell? ⟨g, 0, none⟩ = some (.int .i64 c)) (ht : W.cell? ⟨T, 0, none⟩ = some (.pointer none)) (hf : W.frozen? ⟨T, 0, none⟩ = false) :
    Calls Tryd.prog 39 #[.iface 66 (.pointer (some ⟨g, 0, none⟩)), .iface 68 (.pointer (some ⟨T, 0, none⟩))] W fun ev w1 => ev = .returned (.bool true) ∧ Below T W w1 ∧ T < w1.heap.size ∧
      w1.cell? ⟨T, 0, none⟩ = some (.pointer (some ⟨g, 0, none⟩)) ∧ w1.cell? ⟨g, 0, none⟩ = some (.int .i64 c) ∧ w1.cell? ⟨0, 0, none⟩ = some (.iface 115 (.agg #[.pointer (some ⟨1, 26, none⟩)])) := by
  have hTl : T < W.heap.size := by
    rcases Nat.lt_or_ge T W.heap.size with h | h
    · exact h
    · simp [World.cell?, Array.getElem?_eq_none h] at ht
  refine (as_P ⟨g, 0, none⟩ ⟨T, 0, none⟩ (.pointer none) W hg ht hf).mono fun e w1 ⟨he, hw⟩ => ?_
  have hB0 : Below T W ((wAs W 68 ⟨T, 0, none⟩).alloc (.cells #[.pointer (some ⟨g, 0, none⟩)] 66)) := by
    repeat (first | exact Below.refl _ _ | refine Below.alloc ?_ (by first | omega | (simp; done) | (simp; omega)) _)
  have hB : Below T W w1 := by
    rw [hw]; exact hB0.setCell (p := ⟨T, 0, none⟩) (Nat.le_refl _) _
  have hs : T < w1.heap.size := Nat.lt_of_lt_of_le hTl hB.size
  refine ⟨he, hB, hs, ?_, (hB.cell (p := ⟨g, 0, none⟩) hgT).trans hc, (hB.cell (p := ⟨0, 0, none⟩) h0).trans hg⟩
  have ht2 : ((wAs W 68 ⟨T, 0, none⟩).alloc (.cells #[.pointer (some ⟨g, 0, none⟩)] 66)).cell? ⟨T, 0, none⟩ = some (.pointer none) := by
    unfold wAs; rw [World.cell?_alloc_lt _ _ ⟨T, 0, none⟩ (by simp; omega), World.cell?_alloc_lt _ _ ⟨T, 0, none⟩ (by simp; omega), World.cell?_alloc_lt _ _ ⟨T, 0, none⟩ (by simp; omega), World.cell?_alloc_lt _ _ ⟨T, 0, none⟩ hTl]; exact ht
  rw [hw]
  exact World.cell?_setCell_same _ _ _ ht2
theorem num_nil (w : World) : Calls Tryd.prog 21 #[.nilIface] w fun ev w' => ev = .returned (.int .i64 0) ∧ Below w.heap.size w w' := by
  go_enter Tryd.func21, Tryd.ntmps21
  go_wp2
  go_ret
  exact ⟨rfl, Below.refl _ _⟩
set_option maxRecDepth 100000 in
set_option maxHeartbeats 8000000 in
theorem num_P (g : Nat) (c : Int) (w : World) (h0 : c ≠ 0) (hg : w.cell? ⟨0, 0, none⟩ = some (.iface 115 (.agg #[.pointer (some ⟨1, 26, none⟩)]))) (hc : w.cell? ⟨g, 0, none⟩ = some (.int .i64 c)) :
    Calls Tryd.prog 21 #[.iface 66 (.pointer (some ⟨g, 0, none⟩))] w fun ev w' => ev = .returned (.int .i64 c) ∧ Below w.heap.size w w' := by
  have hlt : 0 < w.heap.size := by
    rcases Nat.eq_zero_or_pos w.heap.size with h0 | h
    · simp [World.cell?, h0] at hg
    · exact h
  have hgl : g < w.heap.size := by
    rcases Nat.lt_or_ge g w.heap.size with h | h
    · exact h
    · simp [World.cell?, Array.getElem?_eq_none h] at hc
  have hA1 : (w.alloc (.cells #[.pointer none] 66)).cell? ⟨0, 0, none⟩ = some (.iface 115 (.agg #[.pointer (some ⟨1, 26, none⟩)])) := by rw [World.cell?_alloc_lt _ _ ⟨0, 0, none⟩ hlt]; exact hg
  have hA2 : (w.alloc (.cells #[.pointer none] 66)).cell? ⟨g, 0, none⟩ = some (.int .i64 c) := by rw [World.cell?_alloc_lt _ _ ⟨g, 0, none⟩ hgl]; exact hc
  have hA3 : (w.alloc (.cells #[.pointer none] 66)).cell? ⟨w.heap.size, 0, none⟩ = some (.pointer none) := by simp
  have hA4 : (w.alloc (.cells #[.pointer none] 66)).frozen? ⟨w.heap.size, 0, none⟩ = false := by simp
  have hcb1 : (c == 0) = false := beq_eq_false_iff_ne.2 h0
  have hcb2 : (c != 0) = true := bne_iff_ne.2 h0
  have hA5 : Below w.heap.size w (w.alloc (.cells #[.pointer none] 66)) := (Below.refl _ _).alloc (Nat.le_refl _) _
  go_enter Tryd.func21, Tryd.ntmps21
  go_wp2
  go_region_with (first
    | (go_at_call 39; refine (as_num g c w.heap.size _ hlt hgl ?_ ?_ ?_ ?_).mono ?_; exact hA1; exact hA2; exact hA3; exact hA4; rintro e w1 ⟨rfl, hB1, hs1, ht1, hc1, hg1⟩)
    | (go_at_call 40; refine (is_P g c _ hc1).mono ?_; rintro e w' ⟨rfl, rfl⟩)
    | (go_at_call 41; refine (code_P g c _ hg1 hc1).mono ?_; rintro e w2 ⟨rfl, hB2⟩; have ht2 := (hB2.cell (p := ⟨w.heap.size, 0, none⟩) hs1).trans ht1; have hc2 := (hB2.cell (p := ⟨g, 0, none⟩) (Nat.lt_trans hgl hs1)).trans hc1))
  all_goals (try go_wp2)
  all_goals (go_ret; first | exact ⟨rfl, (hA5.drew.trans hB1).trans (hB2.mono (Nat.le_of_lt hs1))⟩ | exact ⟨rfl, (hA5.trans hB1).trans (hB2.mono (Nat.le_of_lt hs1))⟩)
end Go.Proofs.YtkdfcgihgndnnaaDoor.Errs
end
section
namespace Go.Proofs.YtkdfcgihgndnnaaDoor.PPK
open Go.RowKit Go.Proofs.YtkdfcgihgndnnaaDoorW.PrintWords Go.Proofs.YtkdfcgihgndnnaaDoorW.PrintLast Go.Proofs.YtkdfcgihgndnnaaDoorW.PrintMore
attribute [local go_sem] max2_int min2_int max_two min_two max_three min_three max_four min_four   -- for this text's walks alone
set_option linter.unusedVariables false
set_option linter.unusedSimpArgs false



def errW : Option Int → Value
  | none => .nilIface
  | some c => .iface 0 (.int .i64 c)
theorem errW_none : errW none = .nilIface := rfl
theorem errW_some (c : Int) : errW (some c) = .iface 0 (.int .i64 c) := rfl

/-! ### words of this session's own -/
theorem own_goesV {P : Program} {ops : Array Oper} {Q : Exit → Act → World → Prop} {oi : Oper} {N : Option Tmp} {a : Act} {w : World} {K : Act → World → Prop} {f : FuncId} {fn : Func} {o : Operand} {ys : Array Operand} {ts : Array TypeId} (hf : P.funcs[f]? = some fn) (hname : (fn.name == "runtime.NumGoroutine") = false) (hb : fn.body.isSome = true) (args : Array Value)
    (hw : Region.wanted oi (yielded ops a.tmps) = true) (hN : oi.dst = N) (hop : oi.op = .call { callee := .value o, args := ys, argTypes := ts }) (ho : a.eval o = .func (.func f) #[] #[]) (hargs : ys.map a.eval = args)
    (h : Calls P f args w fun e w' => ∃ v, e = .returned v ∧ K (a.put N v) w') : if Region.wanted oi (yielded ops a.tmps) = true then Oper.wp P oi a w K Q else K (a.put N undef) w := by
  refine call_ f args hw hN ?_ h
  have he := enters_ hf hname hb args w
  unfold execOp
  simp [hop, resolve, ho, Deferred.ofValue, invoke, hargs, he]
theorem own_C_none {α : Type} {d : Kd α} {w : World} {A : Option Addr} {n : Nat} {xs : List α} (hA : A = none) (h : d.C w A n xs) : xs = [] := by
  obtain ⟨h1, _, h3⟩ := h
  cases Nat.eq_zero_or_pos n with
  | inl h0 => exact List.eq_nil_of_length_eq_zero (h1.trans h0)
  | inr h0 => obtain ⟨ad, ha, _⟩ := h3 h0; rw [hA] at ha; cases ha
theorem own_ite {c : Prop} [Decidable c] {a b : Prop} (h : if c then a else b) : if c then a else b := h
theorem own_upon {P : Program} {o : Oper} {a : Act} {nx : Act → World → Prop} {Q : Exit → Act → World → Prop} {r : Result Next} (h : Oper.upon P o a nx Q r) : Oper.upon P o a nx Q r := h
theorem own_cond {P : Program} {c : Operand} {x y : Code} {Q : Exit → Act → World → Prop} {a : Act} {w : World} (h : (Code.cond c x y).wp P Q a w) : (Code.cond c x y).wp P Q a w := h
theorem own_condT {P : Program} {c : Operand} {x y : Code} {Q : Exit → Act → World → Prop} {a : Act} {w : World} (hc : a.eval c = .bool true) (h : x.wp P Q a w) : (Code.cond c x y).wp P Q a w := wp_cond_split hc (fun _ => h) (fun e => by cases e)
theorem own_condF {P : Program} {c : Operand} {x y : Code} {Q : Exit → Act → World → Prop} {a : Act} {w : World} (hc : a.eval c = .bool false) (h : y.wp P Q a w) : (Code.cond c x y).wp P Q a w := wp_cond_split hc (fun e => by cases e) (fun _ => h)
theorem own_iteT {α : Sort _} {a b : α} : (if true = true then a else b) = a := if_pos rfl
theorem own_iteF {α : Sort _} {a b : α} : (if false = true then a else b) = b := if_neg (by decide)
/-! ### arguments opened, kind by kind -/
def Fits (P : Program) (t : TypeId) {H : Type} (d : DataW H) : Prop := ∀ n ∈ d.weights P t, n ≤ 140737488351232
theorem weights_mem_all {H : Type} {P : Program} {e : TypeId} {d : DataW H} {n : Nat} (hn : n ∈ d.weights P e) : ∀ {l : List (DataW H)}, d ∈ l → n ∈ DataW.weightsAll P e l
  | x :: r, h => by
    simp only [DataW.weightsAll, List.mem_append]
    rcases List.mem_cons.1 h with z | z
    · subst z; exact .inl hn
    · exact .inr (weights_mem_all hn z)
def Opens (P : Program) {α : Type} (d : Kd α) (Q : α → Prop) (t : TypeId) : Prop :=
  ∀ (H : Type) (enc : TypeId × Value → H) (w : World) (fuel : Nat) (cs : List Value) (x : DataW H × List MemPlace), DataW.trod enc P w 0 (fun _ => true) true fuel t cs = some x → Fits P t x.1 → ∃ p, d.K w p cs ∧ Q p
theorem Opens.int {P : Program} {t : TypeId} {k : IntKind} (hu : P.underlying t = some (.int k)) : Opens P (Kd.int k) (fun n => (Lit.int k n).wf = true) t := fun _ _ _ _ _ _ h _ => by
  obtain ⟨n, rfl, _, hw⟩ := DataW.trod_int hu h
  exact ⟨n, rfl, hw⟩
theorem Opens.bool {P : Program} {t : TypeId} (hu : P.underlying t = some .bool) : Opens P Kd.bool (fun _ => True) t := fun _ _ _ _ _ _ h _ => by
  obtain ⟨b, rfl, _⟩ := DataW.trod_bool hu h
  exact ⟨b, rfl, trivial⟩
theorem Opens.string {P : Program} {t : TypeId} (hu : P.underlying t = some .string) : Opens P Kd.string (fun s => s.size ≤ 140737488351232) t := fun _ _ _ _ _ _ h hf => by
  obtain ⟨s, rfl, rfl, hs⟩ := DataW.trod_string hu h
  exact ⟨s, rfl, by simpa using hf s.data.toList.length (by simp [DataW.weights])⟩
theorem opens_list {α : Type} (d : Kd α) (Q : α → Prop) (w : World) (a : Addr) (sz : Nat) (hsz : d.sz = sz) : ∀ len, (∀ i, i < len → ∃ p cs, d.K w p cs ∧ Q p ∧ ∀ j u, cs[j]? = some u → w.cell? (a.add (i * sz + j)) = some u) →
    ∃ xs : List α, xs.length = len ∧ (∀ x ∈ xs, Q x) ∧ ∀ j p, xs[j]? = some p → ∃ c, c.length = sz ∧ d.K w p c ∧ ∀ i u, c[i]? = some u → w.cell? (a.add (j * sz + i)) = some u
  | 0, _ => ⟨[], rfl, fun _ h => (List.not_mem_nil h).elim, fun _ _ h => by simp at h⟩
  | len + 1, h => by
    obtain ⟨xs, hl, hq, hx⟩ := opens_list d Q w a sz hsz len (fun i hi => h i (Nat.lt_succ_of_lt hi))
    obtain ⟨p, cs, hk, hp, hc⟩ := h len (Nat.lt_succ_self len)
    refine ⟨xs ++ [p], by rw [List.length_append, hl]; rfl, fun x hm => ?_, fun j q hj => ?_⟩
    · rcases List.mem_append.1 hm with z | z
      · exact hq x z
      · rw [List.mem_singleton.1 z]; exact hp
    · rcases Nat.lt_or_ge j xs.length with z | z
      · rw [List.getElem?_append_left z] at hj
        exact hx j q hj
      · rw [List.getElem?_append_right z] at hj
        obtain ⟨hj1, hj2⟩ := List.getElem?_eq_some_iff.1 hj
        have hj0 : j - xs.length = 0 := by simpa using hj1
        have e : j = len := by omega
        subst e
        have hq' : q = p := by rw [← hj2]; simp [hj0]
        subst hq'
        exact ⟨cs, (d.K_len hk).trans hsz, hk, hc⟩
theorem Opens.slice {P : Program} {α : Type} {d : Kd α} {Q : α → Prop} {t e : TypeId} (hu : P.underlying t = some (.slice e)) (hc : P.cellsOf e = d.sz) {B : Nat} (hB : P.bytesOf e = B) (h : Opens P d Q e) : Opens P (Kd.slice e d) (fun xs => xs.length ≤ maxLen ∧ xs.length * B ≤ 140737488351232 ∧ ∀ x ∈ xs, Q x) t := fun H enc w fuel cs x hx hf => by
  rcases Go.Deep.open_slice hu hx with ⟨rfl, _⟩ | ⟨a, len, cap, m, n, D, Pl, rfl, _, hl, hm, hmm, rfl, hi⟩
  · exact ⟨[], ⟨none, 0, rfl, Nat.le_refl _, Kd.C_nil _ _⟩, Nat.zero_le _, by simp, fun _ z => by cases z⟩
  · have hmc : m = cap := hmm
    obtain ⟨xs, h1, h2, h3⟩ := opens_list d Q w a (P.cellsOf e) hc.symm len (fun i hil => by
      obtain ⟨cs', hcs, ht⟩ := hi i (by omega)
      obtain ⟨p, hk, hq⟩ := h H enc w n cs' _ ht (fun q hq => hf q (by
        simp only [DataW.weights, hu, List.mem_cons, List.mem_append]
        exact .inr (.inl (weights_mem_all hq (List.mem_map.2 ⟨i, List.mem_range.2 hil, rfl⟩)))))
      obtain ⟨_, hcl, hat⟩ := World.cells?_some hcs
      refine ⟨p, cs', hk, hq, fun j u hj => ?_⟩
      have hjl : j < P.cellsOf e := by have := (List.getElem?_eq_some_iff.1 hj).1; omega
      have := hat j hjl
      rw [← Go.Deep.add_add, this, hj])
    subst h1
    have hw : xs.length * B ≤ 140737488351232 := by
      refine Nat.le_trans ?_ (hf _ (by simp only [DataW.weights, hu, List.mem_cons]; exact .inl rfl))
      rw [hB]
      exact Nat.mul_le_mul_right _ (by simp)
    refine ⟨xs, ⟨some a, cap, rfl, hl, rfl, Nat.le_trans (Nat.le_trans hl hm) (by decide), fun _ => ⟨a, rfl, fun j p hj => ?_⟩⟩, Nat.le_trans hl hm, hw, h2⟩
    obtain ⟨c, c1, c2, c3⟩ := h3 j p hj
    rw [hc] at c1 c3
    exact ⟨c, c1, c2, c3⟩
/-- Types in line: each one's cells, one behind the other. -/
def Segs {H : Type} (enc : TypeId × Value → H) (P : Program) (w : World) (n : Nat) : List TypeId → List Value → Prop
  | [], cs => cs = []
  | t :: ts, cs => (∃ y, DataW.trod enc P w 0 (fun _ => true) true n t (cs.take (P.cellsOf t)) = some y ∧ Fits P t y.1) ∧ Segs enc P w n ts (cs.drop (P.cellsOf t))
def OpensL (P : Program) {α : Type} (d : Kd α) (Q : α → Prop) (ts : List TypeId) : Prop :=
  ∀ (H : Type) (enc : TypeId × Value → H) (w : World) (n : Nat) (cs : List Value), Segs enc P w n ts cs → ∃ p, d.K w p cs ∧ Q p
theorem OpensL.one {P : Program} {α : Type} {d : Kd α} {Q : α → Prop} {t : TypeId} (h : Opens P d Q t) : OpensL P d Q [t] := fun H enc w n cs hs => by
  obtain ⟨⟨y, hy, hf⟩, hd⟩ := hs
  obtain ⟨p, hk, hq⟩ := h H enc w n _ y hy hf
  refine ⟨p, ?_, hq⟩
  have e : cs.take (P.cellsOf t) = cs := by
    have := List.take_append_drop (P.cellsOf t) cs
    rw [show cs.drop (P.cellsOf t) = [] from hd, List.append_nil] at this
    exact this
  rw [e] at hk; exact hk
theorem OpensL.cons {P : Program} {α β : Type} {a : Kd α} {b : Kd β} {Qa : α → Prop} {Qb : β → Prop} {t : TypeId} {ts : List TypeId} (h : Opens P a Qa t) (hs : OpensL P b Qb ts) : OpensL P (Kd.pair a b) (fun x => Qa x.1 ∧ Qb x.2) (t :: ts) := fun H enc w n cs hg => by
  obtain ⟨⟨y, hy, hf⟩, hd⟩ := hg
  obtain ⟨p, hk, hq⟩ := h H enc w n _ y hy hf
  obtain ⟨r, hk2, hq2⟩ := hs H enc w n _ hd
  exact ⟨(p, r), ⟨_, _, (List.take_append_drop _ _).symm, hk, hk2⟩, hq, hq2⟩
def okOff (P : Program) : Nat → List Field → Option Nat
  | off, [] => some off
  | off, f :: r => if f.offset = off then okOff P (off + P.cellsOf f.type) r else none
theorem segs_of {H : Type} (enc : TypeId × Value → H) (P : Program) (w : World) (n : Nat) (cs : List Value) : ∀ (fs : List Field) (off : Nat), okOff P off fs = some cs.length →
    (∀ f ∈ fs, ∃ y, DataW.trod enc P w 0 (fun _ => true) true n f.type ((cs.drop f.offset).take (P.cellsOf f.type)) = some y ∧ Fits P f.type y.1) → Segs enc P w n (fs.map (·.type)) (cs.drop off)
  | [], off, ho, _ => by
    have e : off = cs.length := Option.some.inj ho
    show cs.drop off = []
    rw [e, List.drop_length]
  | f :: r, off, ho, h => by
    unfold okOff at ho
    by_cases c : f.offset = off
    · rw [if_pos c] at ho
      obtain ⟨y, hy⟩ := h f List.mem_cons_self
      rw [c] at hy
      refine ⟨⟨y, hy.1, hy.2⟩, ?_⟩
      have := segs_of enc P w n cs r (off + P.cellsOf f.type) ho (fun g hg => h g (List.mem_cons_of_mem _ hg))
      rw [List.drop_drop]; exact this
    · rw [if_neg c] at ho; cases ho
theorem Opens.struct {P : Program} {α : Type} {d : Kd α} {Q : α → Prop} {t : TypeId} {fs : Array Field} (hu : P.underlying t = some (.struct fs)) (hoff : okOff P 0 fs.toList = some (P.cellsOf t)) (h : OpensL P d Q (fs.toList.map (·.type))) : Opens P d Q t := fun H enc w fuel cs x hx hfit => by
  obtain ⟨xs, n, _, rfl, hl, hxl, hf⟩ := DataW.trod_struct hu hx
  have hs := segs_of enc P w n cs fs.toList 0 (by rw [hoff, hl]) (fun f hm => by
    obtain ⟨i, hi⟩ := List.mem_iff_getElem?.1 hm
    have hi2 : fs[i]? = some f := by simpa using hi
    have hlt : i < xs.length := by
      have := (Array.getElem?_eq_some_iff.1 hi2).1
      omega
    refine ⟨xs[i], (hf i f hi2).trans (List.getElem?_eq_getElem hlt), fun q hq => hfit q ?_⟩
    simp only [DataW.weights, hu]
    exact DataW.weights_mem_each (j := i) (by simp [hi2]) (by simp [hlt]) q hq)
  exact h H enc w n cs hs
theorem Opens.iso {P : Program} {α β : Type} {d : Kd α} {Q : α → Prop} {t : TypeId} (f : β → α) (g : α → β) (hfg : ∀ x, f (g x) = x) (h : Opens P d Q t) : Opens P (Kd.iso d f) (fun y => Q (f y)) t := fun H enc w fuel cs x hx hf => by
  obtain ⟨p, hk, hq⟩ := h H enc w fuel cs x hx hf
  refine ⟨g p, ?_, ?_⟩
  · show d.K w (f (g p)) cs
    rw [hfg]; exact hk
  · show Q (f (g p))
    rw [hfg]; exact hq
/-! ### rows with spare room that is marked: a row of the call's own, and the same row three places longer -/
def lendV : Value → Value
  | .slice A n c => .slice A (n + 3) c
  | v => v
section
variable {d : Kd Int} {e e' : Nat} {w w1 W W2 : World} {base g N : Nat} {ok ok' : Nat → Prop} {u v : Value} {xs : List Int} {S : Nat → Prop}
def Kd.LI (d : Kd Int) (e : Nat) (w : World) (base : Nat) (ok : Nat → Prop) (v : Value) (xs : List Int) : Prop := d.R e w base ok v xs ∧ d.R e w base ok (lendV v) (xs ++ [-777, -777, -777])
def Kd.LB (d : Kd Int) (e : Nat) (w : World) (base : Nat) (ok : Nat → Prop) (v : Value) (xs : List Int) : Prop := d.R e w base ok v xs ∧ d.R e w base ok (lendV v) (xs ++ [119, 119, 119])
def Kd.Z (d : Kd Int) (e : Nat) (w : World) (base : Nat) (ok : Nat → Prop) (v : Value) (xs : List Int) : Prop := d.R e w base ok v xs ∧ (xs = [] → v = .slice none 0 0)
end
theorem info3 : (Tryd.prog.info? 3).map (fun i => (i.zero, i.size, i.bytes)) = some (some (.int .i64 0), 1, 8) := by kernel_rfl
theorem info5 : (Tryd.prog.info? 5).map (fun i => (i.zero, i.size, i.bytes)) = some (some (.int .u8 0), 1, 1) := by kernel_rfl
-- the values' own types

end Go.Proofs.YtkdfcgihgndnnaaDoor.PPK
end
section
namespace Go.Proofs.YtkdfcgihgndnnaaDoor.PPK
open Go.RowKit Go.Proofs.YtkdfcgihgndnnaaDoorW.PrintWords Go.Proofs.YtkdfcgihgndnnaaDoorW.PrintLast Go.Proofs.YtkdfcgihgndnnaaDoorW.PrintMore
attribute [local go_sem] max2_int min2_int max_two min_two max_three min_three max_four min_four   -- for this text's walks alone
set_option linter.unusedVariables false
set_option linter.unusedSimpArgs false

/-! ### bits_RotateLeft64: function 88 -/
def bits_RotateLeft64.f (a0 : Int) (a1 : Int) : Option (Int) := if 0 ≤ (Go.bits .and .u64 (IntKind.u64.wrap (a1)) 63) then (if 0 ≤ (IntKind.u64.wrap (64 - (Go.bits .and .u64 (IntKind.u64.wrap (a1)) 63))) then (some (Go.bits .or .u64 (shl .u64 a0 (Go.bits .and .u64 (IntKind.u64.wrap (a1)) 63)) (shr .u64 a0 (IntKind.u64.wrap (64 - (Go.bits .and .u64 (IntKind.u64.wrap (a1)) 63)))))) else (none)) else (none)
set_option maxHeartbeats 8000000 in
set_option maxRecDepth 100000 in
theorem bits_RotateLeft64.calls (a0 : Int) (a1 : Int) (r : Int) (w : World) (h : bits_RotateLeft64.f a0 a1 = some r) :
    Calls Tryd.prog 88 #[.int .u64 a0, .int .i64 a1] w fun e w' => e = .returned (.int .u64 r) ∧ Drawn0 w w' := by
  have H : (if 0 ≤ (Go.bits .and .u64 (IntKind.u64.wrap (a1)) 63) then (if 0 ≤ (IntKind.u64.wrap (64 - (Go.bits .and .u64 (IntKind.u64.wrap (a1)) 63))) then (some (Go.bits .or .u64 (shl .u64 a0 (Go.bits .and .u64 (IntKind.u64.wrap (a1)) 63)) (shr .u64 a0 (IntKind.u64.wrap (64 - (Go.bits .and .u64 (IntKind.u64.wrap (a1)) 63)))))) else (none)) else (none)) = some r := h
  clear h
  obtain ⟨ji3, hji3⟩ : ∃ j_ : Int, (Go.bits .and .u64 (IntKind.u64.wrap (a1)) 63) = j_ := ⟨_, rfl⟩
  replace H : (if 0 ≤ (ji3) then (if 0 ≤ (IntKind.u64.wrap (64 - (ji3))) then (some (Go.bits .or .u64 (shl .u64 a0 (ji3)) (shr .u64 a0 (IntKind.u64.wrap (64 - (ji3)))))) else (none)) else (none)) = some r := by first | (rw [hji3] at H; exact H) | (simp only [hji3] at H ⊢; exact H)
  by_cases c4 : 0 ≤ (ji3)
  · rw [if_pos c4] at H
    have c4b0 := eq_true c4
    have c4b1 : decide (0 ≤ (ji3)) = true := decide_eq_true c4
    clear c4
    obtain ⟨ji5, hji5⟩ : ∃ j_ : Int, (shl .u64 a0 (ji3)) = j_ := ⟨_, rfl⟩
    replace H : (if 0 ≤ (IntKind.u64.wrap (64 - (ji3))) then (some (Go.bits .or .u64 (ji5) (shr .u64 a0 (IntKind.u64.wrap (64 - (ji3)))))) else (none)) = some r := by first | (rw [hji5] at H; exact H) | (simp only [hji5] at H ⊢; exact H)
    have hji5_ : (IntKind.u64.wrap (a0 * 2 ^ min (ji3).toNat 64)) = ji5 := hji5
    have hji5z : (ji3) ≤ 64 → (IntKind.u64.wrap (a0 * 2 ^ (ji3).toNat)) = ji5 := shl_small hji5
    obtain ⟨ji6, hji6⟩ : ∃ j_ : Int, (IntKind.u64.wrap (64 - (ji3))) = j_ := ⟨_, rfl⟩
    replace H : (if 0 ≤ (ji6) then (some (Go.bits .or .u64 (ji5) (shr .u64 a0 (ji6)))) else (none)) = some r := by first | (rw [hji6] at H; exact H) | (simp only [hji6] at H ⊢; exact H)
    by_cases c7 : 0 ≤ (ji6)
    · rw [if_pos c7] at H
      have c7b0 := eq_true c7
      have c7b1 : decide (0 ≤ (ji6)) = true := decide_eq_true c7
      clear c7
      obtain ⟨ji8, hji8⟩ : ∃ j_ : Int, (shr .u64 a0 (ji6)) = j_ := ⟨_, rfl⟩
      replace H : (some (Go.bits .or .u64 (ji5) (ji8))) = some r := by first | (rw [hji8] at H; exact H) | (simp only [hji8] at H ⊢; exact H)
      have hji8_ : (a0 / 2 ^ min (ji6).toNat 64) = ji8 := hji8
      have hji8z : (ji6) ≤ 64 → (a0 / 2 ^ (ji6).toNat) = ji8 := shr_small hji8
      obtain rfl := Option.some.inj H
      go_enter Tryd.func88, Tryd.ntmps88
      go_wp2
      go_ret
      exact ⟨by first | rfl | (simp; done) | (simp only [← hji3, ← hji5, ← hji6, ← hji8] <;> (first | rfl | simp)) | (simp [*]; done), by repeat (first | exact Drawn0.refl _ | apply Drawn0.step)⟩
    · rw [if_neg c7] at H
      exact absurd H (by simp)
  · rw [if_neg c4] at H
    exact absurd H (by simp)

/-! ### keccak_at: function 87 -/
def keccak_at.f (a0 : Int) (a1 : Int) : Option (Int) := some (wrap64 ((Int.tmod a0 5) + (wrap64 (5 * (Int.tmod a1 5)))))
set_option maxHeartbeats 8000000 in
set_option maxRecDepth 100000 in
theorem keccak_at.calls (a0 : Int) (a1 : Int) (r : Int) (w : World) (h : keccak_at.f a0 a1 = some r) :
    Calls Tryd.prog 87 #[.int .i64 a0, .int .i64 a1] w fun e w' => e = .returned (.int .i64 r) ∧ Drawn0 w w' := by
  have H : (some (wrap64 ((Int.tmod a0 5) + (wrap64 (5 * (Int.tmod a1 5)))))) = some r := h
  clear h
  obtain rfl := Option.some.inj H
  go_enter Tryd.func87, Tryd.ntmps87
  go_wp2
  go_ret
  exact ⟨by first | rfl | (simp; done) | (simp [*]; done), by repeat (first | exact Drawn0.refl _ | apply Drawn0.step)⟩

/-! ### bits_Low: function 35 -/
def bits_Low.f (a0 : Int) (a1 : Int) : Option (Int) := if a0 < 0 then (some 0) else (if a0 > 62 then (some 0) else (if 0 ≤ a0 then (some (Go.bits .and .i64 a1 (wrap64 ((shl .i64 1 a0) - 1)))) else (none)))
set_option maxHeartbeats 8000000 in
set_option maxRecDepth 100000 in
theorem bits_Low.calls (a0 : Int) (a1 : Int) (r : Int) (w : World) (h : bits_Low.f a0 a1 = some r) :
    Calls Tryd.prog 35 #[.int .i64 a0, .int .i64 a1] w fun e w' => e = .returned (.int .i64 r) ∧ Drawn0 w w' := by
  have H : (if a0 < 0 then (some 0) else (if a0 > 62 then (some 0) else (if 0 ≤ a0 then (some (Go.bits .and .i64 a1 (wrap64 ((shl .i64 1 a0) - 1)))) else (none)))) = some r := h
  clear h
  by_cases c3 : a0 < 0
  · rw [if_pos c3] at H
    have c3b0 : decide (a0 < 0) = true := decide_eq_true c3
    clear c3
    obtain rfl := Option.some.inj H
    go_enter Tryd.func35, Tryd.ntmps35
    go_wp2
    go_ret
    exact ⟨by first | rfl | (simp; done) | (simp [*]; done), by repeat (first | exact Drawn0.refl _ | apply Drawn0.step)⟩
  · rw [if_neg c3] at H
    have c3b0 : decide (a0 < 0) = false := decide_eq_false c3
    clear c3
    by_cases c4 : a0 > 62
    · rw [if_pos c4] at H
      have c4b0 : decide (62 < a0) = true := decide_eq_true c4
      clear c4
      obtain rfl := Option.some.inj H
      go_enter Tryd.func35, Tryd.ntmps35
      go_wp2
      go_ret
      exact ⟨by first | rfl | (simp; done) | (simp [*]; done), by repeat (first | exact Drawn0.refl _ | apply Drawn0.step)⟩
    · rw [if_neg c4] at H
      have c4b0 : decide (62 < a0) = false := decide_eq_false c4
      clear c4
      by_cases c5 : 0 ≤ a0
      · rw [if_pos c5] at H
        have c5b0 := eq_true c5
        have c5b1 : decide (0 ≤ a0) = true := decide_eq_true c5
        clear c5
        obtain ⟨ji6, hji6⟩ : ∃ j_ : Int, (shl .i64 1 a0) = j_ := ⟨_, rfl⟩
        replace H : (some (Go.bits .and .i64 a1 (wrap64 ((ji6) - 1)))) = some r := by first | (rw [hji6] at H; exact H) | (simp only [hji6] at H ⊢; exact H)
        have hji6_ : (IntKind.i64.wrap (1 * 2 ^ min a0.toNat 64)) = ji6 := hji6
        have hji6z : a0 ≤ 64 → (IntKind.i64.wrap (1 * 2 ^ a0.toNat)) = ji6 := shl_small hji6
        have hji6u : (IntKind.i64.wrap (2 ^ min a0.toNat 64)) = ji6 := by have h_ := hji6_; rw [Int.one_mul] at h_; exact h_
        have hji6v : a0 ≤ 64 → (IntKind.i64.wrap (2 ^ a0.toNat)) = ji6 := fun hle_ => by have h_ := hji6z hle_; rw [Int.one_mul] at h_; exact h_
        have hji6y : (wrap64 (1 * 2 ^ min a0.toNat 64)) = ji6 := (i64_w _).symm.trans hji6_
        have hji6x : a0 ≤ 64 → (wrap64 (1 * 2 ^ a0.toNat)) = ji6 := fun h_ => (i64_w _).symm.trans (hji6z h_)
        obtain rfl := Option.some.inj H
        go_enter Tryd.func35, Tryd.ntmps35
        go_wp2
        go_ret
        exact ⟨by first | rfl | (simp; done) | (simp only [← hji6] <;> (first | rfl | simp)) | (simp [*]; done), by repeat (first | exact Drawn0.refl _ | apply Drawn0.step)⟩
      · rw [if_neg c5] at H
        exact absurd H (by simp)

end Go.Proofs.YtkdfcgihgndnnaaDoor.PPK
end
section
namespace Go.Proofs.YtkdfcgihgndnnaaDoor.PPK
open Go.RowKit Go.Proofs.YtkdfcgihgndnnaaDoorW.PrintWords Go.Proofs.YtkdfcgihgndnnaaDoorW.PrintLast Go.Proofs.YtkdfcgihgndnnaaDoorW.PrintMore
attribute [local go_sem] max2_int min2_int max_two min_two max_three min_three max_four min_four
set_option linter.unusedVariables false
set_option linter.unusedSimpArgs false
section
/-- A row of words, as cells. -/
def U64 (l : List Int) : Array Value := (l.map fun x => Value.int .u64 x).toArray
theorem U64_size (l : List Int) : (U64 l).size = l.length := by simp [U64]
theorem U64_get (l : List Int) (i : Nat) (h : i < l.length) : (U64 l)[i]? = some (.int .u64 (l.getD i 0)) := by
  unfold U64
  rw [List.getD_eq_getElem?_getD, List.getElem?_eq_getElem h]
  simp [h]
theorem U64_set (l : List Int) (i : Nat) (x : Int) : (U64 l).setIfInBounds i (.int .u64 x) = U64 (l.set i x) := by
  unfold U64
  simp [List.map_set]
theorem U64_ok (l : List Int) : (U64 l).all (·.oneCell') = true := by
  unfold U64
  rw [Array.all_eq_true_iff_forall_mem]
  intro v hv
  simp only [List.mem_toArray, List.mem_map] at hv
  obtain ⟨x, _, rfl⟩ := hv
  rfl
/-- A box of words. -/
def Bk (w : World) (g T : Nat) (l : List Int) : Prop := w.heap[g]? = some (.cells (U64 l) T (0, 0))
theorem Bk.cell {w : World} {g T : Nat} {l : List Int} (h : Bk w g T l) (i : Nat) (hi : i < l.length) : w.cell? ⟨g, i, none⟩ = some (.int .u64 (l.getD i 0)) := (blk_cell h i).trans (U64_get l i hi)
theorem Bk.frozen {w : World} {g T : Nat} {l : List Int} (h : Bk w g T l) (i : Nat) : w.frozen? ⟨g, i, none⟩ = false := blk_frozen h i
theorem Bk.put {w : World} {g T : Nat} {l : List Int} (h : Bk w g T l) (i : Nat) (x : Int) : Bk (w.setCell ⟨g, i, none⟩ (.int .u64 x)) g T (l.set i x) := blk_put h i _ (U64_set l i x)
theorem Bk.far {w : World} {g g' T : Nat} {l : List Int} (h : Bk w g T l) (hne : g ≠ g') (i : Nat) (v : Value) : Bk (w.setCell ⟨g', i, none⟩ v) g T l := (Below.heap_setCell w ⟨g', i, none⟩ v g hne).trans h
theorem Bk.below {w w1 : World} {g T : Nat} {l : List Int} (h : Bk w g T l) (hb : Below w.heap.size w w1) : Bk w1 g T l := blk_below h hb
theorem Bk.row {w : World} {g T : Nat} {old l : List Int} (h : Bk w g T old) : Bk (w.setRow g (U64 l)) g T l := setRow_heap w g _ _ _ _ h
theorem setRow_below {W w : World} {g : Nat} (hb : Below W.heap.size W w) (hg : W.heap.size ≤ g) (c : Array Value) : Below W.heap.size W (w.setRow g c) :=
  ⟨hb.os, hb.tape, hb.output, by simpa using hb.size, fun k hk => (setRow_other w g k c (by omega)).trans (hb.block k hk)⟩
theorem U64_index (l : List Int) (hl : l.length = 25) (i : Nat) (hi : i < 25) (w : World) : (Instr.index 110 (.agg (U64 l)) (.int .i64 (i : Int))).run Tryd.prog w = .ok (.int .u64 (l.getD i 0)) w := by
  have h := Tryd.underlying110
  have hg := U64_get l i (by omega)
  simp [Instr.index, run_underlying h, asIntOf, hg, go_sem]
  intro h
  omega
def xr (x y : Int) : Int := Go.bits .xor .u64 x y
def rotl (x k : Int) : Int := (bits_RotateLeft64.f x k).getD 0
theorem rotl_f (x : Int) (k : Nat) (hk : k < 64) : bits_RotateLeft64.f x (k : Int) = some (rotl x k) := by
  have hw : ∀ n : Int, IntKind.u64.wrap n = n % 18446744073709551616 := fun n => by simp [IntKind.wrap, IntKind.bits, IntKind.signed]
  have h1 : Go.bits .and .u64 (IntKind.u64.wrap (k : Int)) 63 = (k : Int) := by
    have h2 : IntKind.u64.wrap (k : Int) = (k : Int) := by rw [hw]; omega
    rw [h2]
    have := bits_mask .u64 64 (by decide) (fun n k0 k1 => by rw [hw]; exact Int.emod_eq_of_lt k0 k1) 6 (by decide) (k : Int) (by omega) (by omega)
    rw [show (2 : Int) ^ 6 - 1 = 63 by decide, show (2 : Int) ^ 6 = 64 by decide] at this
    rw [this]
    omega
  have e : ∃ r, bits_RotateLeft64.f x (k : Int) = some r := by
    unfold bits_RotateLeft64.f
    rw [h1, if_pos (by omega), if_pos (by rw [hw]; omega)]
    exact ⟨_, rfl⟩
  obtain ⟨r, hr⟩ := e
  unfold rotl
  rw [hr]
  rfl
/-- Theta's columns, behind i lanes. -/
def thC (a : List Int) : Nat → List Int
  | 0 => List.replicate 5 0
  | i + 1 => (thC a i).set (i % 5) (xr ((thC a i).getD (i % 5) 0) (a.getD i 0))
def thA (c a : List Int) : Nat → List Int
  | 0 => a
  | i + 1 => (thA c a i).set i (xr ((thA c a i).getD i 0) (xr (c.getD ((i % 5 + 4) % 5) 0) (rotl (c.getD ((i % 5 + 1) % 5) 0) 1)))
def theta (a : List Int) : List Int := thA (thC a 25) a 25
theorem thC_len (a : List Int) : ∀ i, (thC a i).length = 5
  | 0 => rfl
  | i + 1 => by rw [thC, List.length_set, thC_len a i]
theorem thA_len (c a : List Int) (ha : a.length = 25) : ∀ i, (thA c a i).length = 25
  | 0 => ha
  | i + 1 => by rw [thA, List.length_set, thA_len c a ha i]
def Theta.T11 : Bool × List (List Nat × List Nat) := (true, [([], []), ([0], [0]), ([1], [1]), ([], []), ([3], [3]), ([4], [4]), ([5], [5]), ([6], [6]), ([], []), ([8], [8]), ([9], [9]), ([10], [10]), ([11], [11]), ([12], [12]), ([7, 13], [7, 13]), ([2, 14], [2, 14]), ([0, 0, 1, 2, 3, 4, 5, 6, 7, 8, 9, 10, 11, 12, 13, 14, 15], [0]), ([16, 15, 13, 0, 1, 2, 3, 4, 5, 6, 7, 8, 9, 10, 11, 12, 13, 14, 15], [15, 16])])
def Theta.B11 : List Nat := [0, 1, 3, 0, 8, 24, 56, 120, 0, 256, 768, 1792, 3840, 7936, 16376, 32767, 65535, 131071]
theorem Theta.tab11 : rtab .any (opsOf Tryd.f86 11) = Theta.T11 := by kernel_rfl
theorem Theta.bits11 : waitsOk Theta.T11.2 Theta.B11 = true := by kernel_rfl
set_option maxHeartbeats 8000000 in
set_option maxRecDepth 100000 in
theorem Theta.calls (a : List Int) (ha : a.length = 25) (w : World) : Calls Tryd.prog 86 #[.agg (U64 a)] w fun e w' => e = .returned (.agg (U64 (theta a))) ∧ Below w.heap.size w w' := by
  have HA := Aside0.mk ha
  have SZ : Aside0 (∀ l : List Int, l.length = 25 → (Tryd.prog.info? 110).map (·.size) = some (U64 l).size) := ⟨fun l h => by rw [U64_size, h]; kernel_rfl⟩
  clear ha
  go_enter Tryd.func86, Tryd.ntmps86
  go_upto_region 2 with (fail)
  obtain ⟨w0, hw0⟩ : ∃ w0, w0 = (((w.alloc (.cells (U64 a) 110)).alloc (.cells #[.int .u64 0, .int .u64 0, .int .u64 0, .int .u64 0, .int .u64 0, .int .u64 0, .int .u64 0, .int .u64 0, .int .u64 0, .int .u64 0, .int .u64 0, .int .u64 0, .int .u64 0, .int .u64 0, .int .u64 0, .int .u64 0, .int .u64 0, .int .u64 0, .int .u64 0, .int .u64 0, .int .u64 0, .int .u64 0, .int .u64 0, .int .u64 0, .int .u64 0] 110)).alloc (.cells #[.int .u64 0, .int .u64 0, .int .u64 0, .int .u64 0, .int .u64 0] 134)) := ⟨_, rfl⟩
  rw [← hw0]
  obtain ⟨g1, hg1⟩ : ∃ g, g = w.heap.size := ⟨_, rfl⟩
  obtain ⟨g2, hg2⟩ : ∃ g, g = w.heap.size + 1 := ⟨_, rfl⟩
  obtain ⟨g3, hg3⟩ : ∃ g, g = w.heap.size + 1 + 1 := ⟨_, rfl⟩
  have Q1 : Bk w0 g1 110 a := by rw [hw0, hg1]; exact blk_alloc (blk_alloc (blk_new w (.cells (U64 a) 110)) _) _
  have Q2 : Bk w0 g2 110 (List.replicate 25 0) := by
    rw [hw0, hg2]
    exact blk_alloc (by have q := blk_new (w.alloc (.cells (U64 a) 110)) (.cells #[.int .u64 0, .int .u64 0, .int .u64 0, .int .u64 0, .int .u64 0, .int .u64 0, .int .u64 0, .int .u64 0, .int .u64 0, .int .u64 0, .int .u64 0, .int .u64 0, .int .u64 0, .int .u64 0, .int .u64 0, .int .u64 0, .int .u64 0, .int .u64 0, .int .u64 0, .int .u64 0, .int .u64 0, .int .u64 0, .int .u64 0, .int .u64 0, .int .u64 0] 110); rwa [show (w.alloc (.cells (U64 a) 110)).heap.size = w.heap.size + 1 from (by show (Array.push _ _).size = _; simp)] at q) _
  have Q3 : Bk w0 g3 134 (List.replicate 5 0) := by
    rw [hw0, hg3]
    have q := blk_new ((w.alloc (.cells (U64 a) 110)).alloc (.cells #[.int .u64 0, .int .u64 0, .int .u64 0, .int .u64 0, .int .u64 0, .int .u64 0, .int .u64 0, .int .u64 0, .int .u64 0, .int .u64 0, .int .u64 0, .int .u64 0, .int .u64 0, .int .u64 0, .int .u64 0, .int .u64 0, .int .u64 0, .int .u64 0, .int .u64 0, .int .u64 0, .int .u64 0, .int .u64 0, .int .u64 0, .int .u64 0, .int .u64 0] 110)) (.cells #[.int .u64 0, .int .u64 0, .int .u64 0, .int .u64 0, .int .u64 0] 134)
    rwa [show ((w.alloc (.cells (U64 a) 110)).alloc (.cells #[.int .u64 0, .int .u64 0, .int .u64 0, .int .u64 0, .int .u64 0, .int .u64 0, .int .u64 0, .int .u64 0, .int .u64 0, .int .u64 0, .int .u64 0, .int .u64 0, .int .u64 0, .int .u64 0, .int .u64 0, .int .u64 0, .int .u64 0, .int .u64 0, .int .u64 0, .int .u64 0, .int .u64 0, .int .u64 0, .int .u64 0, .int .u64 0, .int .u64 0] 110)).heap.size = w.heap.size + 1 + 1 from (by show (Array.push (Array.push _ _) _).size = _; simp)] at q
  have B0 : Aside0 (Below w.heap.size w w0) := ⟨by rw [hw0]; exact below_alloc (below_alloc (below_alloc (Below.refl _ _) _) _) _⟩
  have GE : Aside0 (w.heap.size ≤ g1 ∧ w.heap.size ≤ g2 ∧ w.heap.size ≤ g3 ∧ g1 ≠ g2 ∧ g1 ≠ g3 ∧ g2 ≠ g3) := ⟨by omega⟩
  rw [← hg3, ← hg2, ← hg1]
  clear hg1 hg2 hg3 hw0
  have P1 := Aside0.mk Q1
  clear Q1
  go_wp2_with (first | ((with_reducible refine gate_dst (N := 8) rfl ?_); refine wpList_load_row rfl 110 (.tmp 1) rfl g1 rfl 110 _ (0, 0) _ P1.out Tryd.underlying110 rfl (SZ.out _ HA.out) ?_))
  go_loopg [9] 25 (fun kq v9 w' => ∃ i : Nat, v9 = .int .i64 (i : Int) ∧ Aside0 (i + kq = 25) ∧ Aside0 (Bk w' g1 110 (a)) ∧ Aside0 (Bk w' g2 110 (List.replicate 25 0)) ∧ Aside0 (Bk w' g3 134 (thC a i)) ∧ Aside0 (Below w.heap.size w w'))
  case atStart => exact ⟨0, rfl, ⟨by omega⟩, P1, ⟨Q2⟩, ⟨Q3⟩, B0⟩
  case round =>
    clear P1 Q2 Q3 B0
    obtain ⟨i, rfl, HJ, P1, P2, P3, B1⟩ := hrel
    by_cases ci : i < 25
    · have z1 : decide ((i : Int) < 25) = true := decide_eq_true (by omega)
      have z1' : decide (i < 25) = true := decide_eq_true ci
      have z2 : ((i : Int) < 25) = True := eq_true (by omega)
      have z3 : (0 ≤ (i : Int)) = True := eq_true (by omega)
      have HCI := Aside0.mk ci
      cases gk with
      | zero => have := HJ.out; omega
      | succ k1 =>
        obtain ⟨m, hm⟩ : ∃ m, m = i % 5 := ⟨_, rfl⟩
        have ty : Int.tmod (i : Int) 5 = (m : Int) := by rw [Int.tmod_eq_emod_of_nonneg (by omega), hm]; omega
        have hm5 : m < 5 := by omega
        have z4 : ((m : Int) < 5) = True := eq_true (by omega)
        have z5 : (0 ≤ (m : Int)) = True := eq_true (by omega)
        have idx : ∀ W, (Instr.index 110 (.agg (U64 a)) (.int .i64 (i : Int))).run Tryd.prog W = .ok (.int .u64 (a.getD i 0)) W := fun W => U64_index a HA.out i ci W
        have cel := P3.out.cell m (by rw [thC_len]; exact hm5)
        have frz := P3.out.frozen m
        obtain ⟨x, hx⟩ : ∃ x, x = a.getD i 0 := ⟨_, rfl⟩
        obtain ⟨y, hy⟩ : ∃ y, y = (thC a i).getD m 0 := ⟨_, rfl⟩
        rw [← hx] at idx
        rw [← hy] at cel
        have HX := Aside0.mk (And.intro hx (And.intro hy hm))
        clear hx hy hm
        go_wp2
        go_roundg k1
        case measure => omega
        case rel => exact ⟨i + 1, (by
          have hw : wrap64 ((i : Int) + 1) = ((i + 1 : Nat) : Int) := by have := HCI.out; unfold wrap64; omega
          first | rfl | (rw [← hw]; rfl) | (simp [*]; done)), ⟨by have := HJ.out; omega⟩, ⟨P1.out.far GE.out.2.2.2.2.1 _ _⟩, ⟨P2.out.far GE.out.2.2.2.2.2 _ _⟩, ⟨by
          have q := P3.out.put m (xr y x)
          rw [thC, ← HX.out.2.2, ← HX.out.2.1, ← HX.out.1]
          exact q⟩, ⟨below_set B1.out GE.out.2.2.1⟩⟩
    · have z1 : decide ((i : Int) < 25) = false := decide_eq_false (by omega)
      have z1' : decide (i < 25) = false := decide_eq_false ci
      obtain rfl : i = 25 := by have := HJ.out; omega
      go_wp2
      go_loopg [21] 25 (fun kq v21 w' => ∃ i : Nat, v21 = .int .i64 (i : Int) ∧ Aside0 (i + kq = 25) ∧ Aside0 (Bk w' g1 110 (thA (thC a 25) a i)) ∧ Aside0 (Bk w' g2 110 (List.replicate 25 0)) ∧ Aside0 (Bk w' g3 134 (thC a 25)) ∧ Aside0 (Below w.heap.size w w'))
      case atStart => exact ⟨0, rfl, ⟨by omega⟩, P1, P2, P3, B1⟩
      case round =>
        clear P1 P2 P3 B1 HJ ci z1 z1'
        obtain ⟨i, rfl, HJ, P1, P2, P3, B1⟩ := hrel
        by_cases ci : i < 25
        · have z1 : decide ((i : Int) < 25) = true := decide_eq_true (by omega)
          have z1' : decide (i < 25) = true := decide_eq_true ci
          have z2 : ((i : Int) < 25) = True := eq_true (by omega)
          have z3 : (0 ≤ (i : Int)) = True := eq_true (by omega)
          have HCI := Aside0.mk ci
          cases gk with
          | zero => have := HJ.out; omega
          | succ k1 =>
            obtain ⟨m, hm⟩ : ∃ m, m = i % 5 := ⟨_, rfl⟩
            have ty : Int.tmod (i : Int) 5 = (m : Int) := by rw [Int.tmod_eq_emod_of_nonneg (by omega), hm]; omega
            have hm5 : m < 5 := by omega
            obtain ⟨m1, hm1⟩ : ∃ m1, m1 = (m + 4) % 5 := ⟨_, rfl⟩
            obtain ⟨m2, hm2⟩ : ∃ m2, m2 = (m + 1) % 5 := ⟨_, rfl⟩
            have ty1 : Int.tmod (wrap64 ((m : Int) + 4)) 5 = (m1 : Int) := by rw [show wrap64 ((m : Int) + 4) = ((m + 4 : Nat) : Int) by unfold wrap64; omega, Int.tmod_eq_emod_of_nonneg (by omega), hm1]; omega
            have ty2 : Int.tmod (wrap64 ((m : Int) + 1)) 5 = (m2 : Int) := by rw [show wrap64 ((m : Int) + 1) = ((m + 1 : Nat) : Int) by unfold wrap64; omega, Int.tmod_eq_emod_of_nonneg (by omega), hm2]; omega
            have y1 : ((m1 : Int) < 5) = True := eq_true (by omega)
            have y2 : (0 ≤ (m1 : Int)) = True := eq_true (by omega)
            have y3 : ((m2 : Int) < 5) = True := eq_true (by omega)
            have y4 : (0 ≤ (m2 : Int)) = True := eq_true (by omega)
            have cx := P1.out.cell i (by rw [thA_len _ _ HA.out]; exact ci)
            have cy := P3.out.cell m1 (by rw [thC_len]; omega)
            have cz := P3.out.cell m2 (by rw [thC_len]; omega)
            obtain ⟨x, hx⟩ : ∃ x, x = (thA (thC a 25) a i).getD i 0 := ⟨_, rfl⟩
            obtain ⟨y, hy⟩ : ∃ y, y = (thC a 25).getD m1 0 := ⟨_, rfl⟩
            obtain ⟨z, hz⟩ : ∃ z, z = (thC a 25).getD m2 0 := ⟨_, rfl⟩
            rw [← hx] at cx
            rw [← hy] at cy
            rw [← hz] at cz
            have HX : Aside0 (thA (thC a 25) a (i + 1) = (thA (thC a 25) a i).set i (xr x (xr y (rotl z 1)))) := ⟨by rw [thA, ← hm, ← hm1, ← hm2, ← hx, ← hy, ← hz]⟩
            have HR : Aside0 (bits_RotateLeft64.f z 1 = some (rotl z 1)) := ⟨rotl_f z 1 (by decide)⟩
            clear hx hy hz hm hm1 hm2
            obtain ⟨r, hr⟩ : ∃ r, r = rotl z 1 := ⟨_, rfl⟩
            rw [← hr] at HX HR
            clear hr
            go_wp2
            have P1 : Aside0 (Bk wr.drew g1 110 (thA (thC a 25) a i)) := ⟨P1.out⟩
            have P2 : Aside0 (Bk wr.drew g2 110 (List.replicate 25 0)) := ⟨P2.out⟩
            have P3 : Aside0 (Bk wr.drew g3 134 (thC a 25)) := ⟨P3.out⟩
            have B1 : Aside0 (Below w.heap.size w wr.drew) := ⟨below_drew1 B1.out⟩
            replace cx : wr.drew.cell? ⟨g1, i, none⟩ = some (.int .u64 x) := cx
            replace cy : wr.drew.cell? ⟨g3, m1, none⟩ = some (.int .u64 y) := cy
            replace cz : wr.drew.cell? ⟨g3, m2, none⟩ = some (.int .u64 z) := cz
            refine start_ (n := 18) (S := fun w' => w'.cell? ⟨g1, i, none⟩ = some (.int .u64 x) ∧ w'.cell? ⟨g3, m1, none⟩ = some (.int .u64 y) ∧ w'.cell? ⟨g3, m2, none⟩ = some (.int .u64 z)) (ds := [17]) #[false, false, false, false, false, false, false, false, false, false, false, false, false, false, false, false, false, false] (by kernel_rfl) rfl rfl ⟨cx, cy, cz⟩ (fun hHeld => ?_)
            refine with_tabW Theta.tab11 Theta.bits11 (fun HT_ HW_ => ?_)
            generalize wr.drew = wd at P1 P2 P3 B1 cx cy cz hHeld ⊢
            refine pure_ (i := 0) (N := some 26) (v := ?_) (a' := ?_) #[true, false, false, false, false, false, false, false, false, false, false, false, false, false, false, false, false, false] rfl rfl (any_of HT_.out (by kernel_rfl)) (fun _ _ _ h => h) (Or.inl ⟨by rfl, ?_⟩) ?_ ?_
            rotate_left
            · intro w'
              go_simp
              with_reducible rfl
            rotate_left
            · simp only [Act.put, List.setIfInBounds_toArray, List.set_cons_zero, List.set_cons_succ, i64_w, i32_w]
              rfl
            refine pure_ (i := 1) (N := some 27) (v := ?_) (a' := ?_) #[true, true, false, false, false, false, false, false, false, false, false, false, false, false, false, false, false, false] rfl rfl (any_of HT_.out (by kernel_rfl)) (fun _ _ _ h => h) (Or.inl ⟨by rfl, ?_⟩) ?_ ?_
            rotate_left
            · intro w'
              go_simp
              with_reducible rfl
            rotate_left
            · simp only [Act.put, List.setIfInBounds_toArray, List.set_cons_zero, List.set_cons_succ, i64_w, i32_w]
              rfl
            refine pure_ (i := 3) (N := some 29) (v := ?_) (a' := ?_) #[true, true, false, true, false, false, false, false, false, false, false, false, false, false, false, false, false, false] rfl rfl (any_of HT_.out (by kernel_rfl)) (fun _ _ _ h => h) (Or.inl ⟨by rfl, ?_⟩) ?_ ?_
            rotate_left
            · intro w'
              go_simp
              with_reducible rfl
            rotate_left
            · simp only [Act.put, List.setIfInBounds_toArray, List.set_cons_zero, List.set_cons_succ, i64_w, i32_w]
              rfl
            refine pure_ (i := 4) (N := some 30) (v := ?_) (a' := ?_) #[true, true, false, true, true, false, false, false, false, false, false, false, false, false, false, false, false, false] rfl rfl (any_of HT_.out (by kernel_rfl)) (fun _ _ _ h => h) (Or.inl ⟨by rfl, ?_⟩) ?_ ?_
            rotate_left
            · intro w'
              go_simp
              with_reducible rfl
            rotate_left
            · simp only [Act.put, List.setIfInBounds_toArray, List.set_cons_zero, List.set_cons_succ, i64_w, i32_w]
              rfl
            refine pure_ (i := 5) (N := some 31) (v := ?_) (a' := ?_) #[true, true, false, true, true, true, false, false, false, false, false, false, false, false, false, false, false, false] rfl rfl (any_of HT_.out (by kernel_rfl)) (fun _ _ _ h => h) (Or.inl ⟨by rfl, ?_⟩) ?_ ?_
            rotate_left
            · intro w'
              go_simp
              with_reducible rfl
            rotate_left
            · simp only [Act.put, List.setIfInBounds_toArray, List.set_cons_zero, List.set_cons_succ, i64_w, i32_w]
              rfl
            refine pure_ (i := 6) (N := some 32) (v := ?_) (a' := ?_) #[true, true, false, true, true, true, true, false, false, false, false, false, false, false, false, false, false, false] rfl rfl (any_of HT_.out (by kernel_rfl)) (fun _ _ _ h => h) (Or.inl ⟨by rfl, ?_⟩) ?_ ?_
            rotate_left
            · intro w'
              go_simp
              with_reducible rfl
            rotate_left
            · simp only [Act.put, List.setIfInBounds_toArray, List.set_cons_zero, List.set_cons_succ, i64_w, i32_w]
              rfl
            refine pure_ (i := 8) (N := some 34) (v := ?_) (a' := ?_) #[true, true, false, true, true, true, true, false, true, false, false, false, false, false, false, false, false, false] rfl rfl (any_of HT_.out (by kernel_rfl)) (fun _ _ _ h => h) (Or.inl ⟨by rfl, ?_⟩) ?_ ?_
            rotate_left
            · intro w'
              go_simp
              with_reducible rfl
            rotate_left
            · simp only [Act.put, List.setIfInBounds_toArray, List.set_cons_zero, List.set_cons_succ, i64_w, i32_w]
              rfl
            refine pure_ (i := 9) (N := some 35) (v := ?_) (a' := ?_) #[true, true, false, true, true, true, true, false, true, true, false, false, false, false, false, false, false, false] rfl rfl (any_of HT_.out (by kernel_rfl)) (fun _ _ _ h => h) (Or.inl ⟨by rfl, ?_⟩) ?_ ?_
            rotate_left
            · intro w'
              go_simp
              with_reducible rfl
            rotate_left
            · simp only [Act.put, List.setIfInBounds_toArray, List.set_cons_zero, List.set_cons_succ, i64_w, i32_w]
              rfl
            refine pure_ (i := 10) (N := some 36) (v := ?_) (a' := ?_) #[true, true, false, true, true, true, true, false, true, true, true, false, false, false, false, false, false, false] rfl rfl (any_of HT_.out (by kernel_rfl)) (fun _ _ _ h => h) (Or.inl ⟨by rfl, ?_⟩) ?_ ?_
            rotate_left
            · intro w'
              go_simp
              with_reducible rfl
            rotate_left
            · simp only [Act.put, List.setIfInBounds_toArray, List.set_cons_zero, List.set_cons_succ, i64_w, i32_w]
              rfl
            refine pure_ (i := 11) (N := some 37) (v := ?_) (a' := ?_) #[true, true, false, true, true, true, true, false, true, true, true, true, false, false, false, false, false, false] rfl rfl (any_of HT_.out (by kernel_rfl)) (fun _ _ _ h => h) (Or.inl ⟨by rfl, ?_⟩) ?_ ?_
            rotate_left
            · intro w'
              go_simp
              with_reducible rfl
            rotate_left
            · simp only [Act.put, List.setIfInBounds_toArray, List.set_cons_zero, List.set_cons_succ, i64_w, i32_w]
              rfl
            refine take_ (i := 2) (N := some 28) (v := ?_) (a' := ?_) #[true, true, true, true, true, true, true, false, true, true, true, true, false, false, false, false, false, false] rfl rfl (take_ofW HT_.out HW_.out (by kernel_rfl)) (fun _ _ _ h => h) (Or.inl ⟨by rfl, ?_⟩) hHeld ?_ ?_
            rotate_left
            · rintro w' ⟨s0, s1, s2⟩
              go_simp
              with_reducible rfl
            rotate_left
            · simp only [Act.put, List.setIfInBounds_toArray, List.set_cons_zero, List.set_cons_succ, i64_w, i32_w]
              rfl
            refine take_ (i := 7) (N := some 33) (v := ?_) (a' := ?_) #[true, true, true, true, true, true, true, true, true, true, true, true, false, false, false, false, false, false] rfl rfl (take_ofW HT_.out HW_.out (by kernel_rfl)) (fun _ _ _ h => h) (Or.inl ⟨by rfl, ?_⟩) hHeld ?_ ?_
            rotate_left
            · rintro w' ⟨s0, s1, s2⟩
              go_simp
              with_reducible rfl
            rotate_left
            · simp only [Act.put, List.setIfInBounds_toArray, List.set_cons_zero, List.set_cons_succ, i64_w, i32_w]
              rfl
            refine take_ (i := 12) (N := some 38) (v := ?_) (a' := ?_) #[true, true, true, true, true, true, true, true, true, true, true, true, true, false, false, false, false, false] rfl rfl (take_ofW HT_.out HW_.out (by kernel_rfl)) (fun _ _ _ h => h) (Or.inl ⟨by rfl, ?_⟩) hHeld ?_ ?_
            rotate_left
            · rintro w' ⟨s0, s1, s2⟩
              go_simp
              with_reducible rfl
            rotate_left
            · simp only [Act.put, List.setIfInBounds_toArray, List.set_cons_zero, List.set_cons_succ, i64_w, i32_w]
              rfl
            refine one_ (i := 13) (N := some 39) #[true, true, true, true, true, true, true, true, true, true, true, true, true, true, false, false, false, false] rfl rfl (one_of HT_.out (by kernel_rfl)) (by decide) (fun K hK => ?_)
            refine goes_ Tryd.func88 (by kernel_rfl) rfl #[.int .u64 z, .int .i64 1] (by rfl) rfl rfl (by simp only [List.map_toArray, List.map_cons, List.map_nil]; rfl) ?_
            with_reducible refine (bits_RotateLeft64.calls z 1 r _ HR.out).mono ?_
            rintro e w3 ⟨rfl, hd⟩
            refine ⟨_, rfl, ?_⟩
            have hb := hd.below
            clear hd
            have P1b := Aside0.mk (P1.out.below hb)
            have P2b := Aside0.mk (P2.out.below hb)
            have P3b := Aside0.mk (P3.out.below hb)
            have B1b := Aside0.mk (below_step B1.out hb)
            have cx3 := pw_cell_below hb cx
            have cy3 := pw_cell_below hb cy
            have cz3 := pw_cell_below hb cz
            clear hb cx cy cz
            have fz := P1b.out.frozen i
            refine hK.out _ _ ⟨cx3, cy3, cz3⟩ (fun hHeld => ?_)
            clear hK K
            refine norm_ (a' := ?_) ?_ ?_
            rotate_left
            · show Act.put _ (some 39) _ = _
              simp only [Act.put, List.setIfInBounds_toArray, List.set_cons_zero, List.set_cons_succ, i64_w, i32_w]
              rfl
            refine pure_ (i := 14) (N := some 40) (v := ?_) (a' := ?_) #[true, true, true, true, true, true, true, true, true, true, true, true, true, true, true, false, false, false] rfl rfl (any_of HT_.out (by kernel_rfl)) (fun _ _ _ h => h) (Or.inl ⟨by rfl, ?_⟩) ?_ ?_
            rotate_left
            · intro w'
              go_simp
              with_reducible rfl
            rotate_left
            · simp only [Act.put, List.setIfInBounds_toArray, List.set_cons_zero, List.set_cons_succ, i64_w, i32_w]
              rfl
            refine pure_ (i := 15) (N := some 41) (v := ?_) (a' := ?_) #[true, true, true, true, true, true, true, true, true, true, true, true, true, true, true, true, false, false] rfl rfl (any_of HT_.out (by kernel_rfl)) (fun _ _ _ h => h) (Or.inl ⟨by rfl, ?_⟩) ?_ ?_
            rotate_left
            · intro w'
              go_simp
              with_reducible rfl
            rotate_left
            · simp only [Act.put, List.setIfInBounds_toArray, List.set_cons_zero, List.set_cons_succ, i64_w, i32_w]
              rfl
            refine pure_ (i := 16) (N := some 42) (v := ?_) (a' := ?_) #[true, true, true, true, true, true, true, true, true, true, true, true, true, true, true, true, true, false] rfl rfl (any_of HT_.out (by kernel_rfl)) (fun _ _ _ h => h) (Or.inl ⟨by rfl, ?_⟩) ?_ ?_
            rotate_left
            · intro w'
              go_simp
              with_reducible rfl
            rotate_left
            · simp only [Act.put, List.setIfInBounds_toArray, List.set_cons_zero, List.set_cons_succ, i64_w, i32_w]
              rfl
            refine last_ (i := 17) (N := none) #[true, true, true, true, true, true, true, true, true, true, true, true, true, true, true, true, true, true] rfl rfl (one_of HT_.out (by kernel_rfl)) (by decide) (fun K hK => ?_)
            refine skip_ (w1 := ?_) (by rfl) rfl ?_ ?_
            rotate_left
            · go_simp
              rfl
            refine hK.out _ _ ?_
            clear hK K
            refine done_ (done_of HT_.out (by kernel_rfl)) ?_

            have Q1 : Aside0 (Bk (w3.setCell ⟨g1, i, none⟩ (.int .u64 (xr x (xr y r)))) g1 110 (thA (thC a 25) a (i + 1))) := ⟨by rw [HX.out]; exact P1b.out.put i _⟩
            have Q2 := Aside0.mk (P2b.out.far (Ne.symm GE.out.2.2.2.1) i (.int .u64 (xr x (xr y r))))
            have Q3 := Aside0.mk (P3b.out.far (Ne.symm GE.out.2.2.2.2.1) i (.int .u64 (xr x (xr y r))))
            have QB := Aside0.mk (below_set (j := i) (v := .int .u64 (xr x (xr y r))) B1b.out GE.out.1)
            go_wp2
            go_roundg k1
            case measure => omega
            case rel => exact ⟨i + 1, (by
          have hw : wrap64 ((i : Int) + 1) = ((i + 1 : Nat) : Int) := by have := HCI.out; unfold wrap64; omega
          first | rfl | (rw [← hw]; rfl) | (simp [*]; done)), ⟨by have := HJ.out; omega⟩, Q1, Q2, Q3, QB⟩
        · have z1 : decide ((i : Int) < 25) = false := decide_eq_false (by omega)
          have z1' : decide (i < 25) = false := decide_eq_false ci
          obtain rfl : i = 25 := by have := HJ.out; omega
          have LN := Aside0.mk (thA_len (thC a 25) a HA.out 25)
          go_wp2_with (first | ((with_reducible refine gate_dst (N := 44) rfl ?_); refine wpList_load_row rfl 110 (.tmp 1) rfl g1 rfl 110 _ (0, 0) _ P1.out Tryd.underlying110 rfl (SZ.out _ LN.out) ?_) | ((with_reducible refine gate_store (t := 110) (p := 2) rfl ?_); refine wpList_store_row rfl 110 (.tmp 2) (.tmp 44) rfl g2 _ rfl rfl 110 _ P2.out (SZ.out _ LN.out) (by rw [U64_size, U64_size, LN.out]; rfl) (U64_ok _) ?_))
          have PR := P2.out.row (l := thA (thC a 25) a 25)
          have BR := setRow_below B1.out GE.out.2.1 (U64 (thA (thC a 25) a 25))
          refine bodyPost_ret (results_cell_row rfl _ _ g2 110 _ (0, 0) _ rfl PR Tryd.underlying110 rfl (SZ.out _ LN.out)) rfl ?_
          exact ⟨rfl, BR⟩
end

end Go.Proofs.YtkdfcgihgndnnaaDoor.PPK
end
section
namespace Go.Proofs.YtkdfcgihgndnnaaDoor.PPK
open Go.RowKit Go.Proofs.YtkdfcgihgndnnaaDoorW.PrintWords Go.Proofs.YtkdfcgihgndnnaaDoorW.PrintLast Go.Proofs.YtkdfcgihgndnnaaDoorW.PrintMore
attribute [local go_sem] max2_int min2_int max_two min_two max_three min_three max_four min_four
set_option linter.unusedVariables false
set_option linter.unusedSimpArgs false
section
theorem at_lt (x y : Nat) : x % 5 + 5 * (y % 5) < 25 := by omega
theorem sum3 (x y z : Nat) (hz : z = x + 3 * y) (hx : x < 5) (hy : y < 5) : wrap64 ((x : Int) + wrap64 (3 * (y : Int))) = (z : Int) := by
  have e1 : wrap64 (3 * (y : Int)) = 3 * (y : Int) := by unfold wrap64; omega
  rw [e1, hz]
  unfold wrap64
  omega
theorem rho_y (x y : Nat) (hx : x < 5) (hy : y < 5) : Int.tmod (wrap64 (wrap64 (2 * (x : Int)) + wrap64 (3 * (y : Int)))) 5 = (((2 * x + 3 * y) % 5 : Nat) : Int) := by
  have e1 : wrap64 (2 * (x : Int)) = 2 * (x : Int) := by unfold wrap64; omega
  have e2 : wrap64 (3 * (y : Int)) = 3 * (y : Int) := by unfold wrap64; omega
  rw [e1, e2]
  have e3 : wrap64 (2 * (x : Int) + 3 * (y : Int)) = ((2 * x + 3 * y : Nat) : Int) := by unfold wrap64; omega
  rw [e3, Int.tmod_eq_emod_of_nonneg (by omega)]
  omega
theorem rho_k (i t : Nat) (hi : i < 24) (ht : t = i + 1) : Int.tmod (wrap64 (Int.tdiv (wrap64 ((t : Int) * wrap64 ((t : Int) + 1))) 2)) 64 = (((i + 1) * (i + 2) / 2 % 64 : Nat) : Int) := by
  have hm : (i + 1) * (i + 2) ≤ 24 * 25 := Nat.mul_le_mul (by omega) (by omega)
  have e1 : wrap64 ((t : Int) + 1) = ((i + 2 : Nat) : Int) := by unfold wrap64; omega
  have e2 : (t : Int) * ((i + 2 : Nat) : Int) = (((i + 1) * (i + 2) : Nat) : Int) := by rw [ht]; push_cast; rfl
  rw [e1, e2]
  generalize (i + 1) * (i + 2) = s at hm
  have e3 : wrap64 (s : Int) = (s : Int) := by unfold wrap64; omega
  rw [e3, Int.tdiv_eq_ediv_of_nonneg (by omega)]
  have e4 : wrap64 ((s : Int) / 2) = ((s / 2 : Nat) : Int) := by unfold wrap64; omega
  rw [e4, Int.tmod_eq_emod_of_nonneg (by omega)]
  omega
theorem at_f (x y : Nat) (hx : x < 1000) (hy : y < 1000) : keccak_at.f (x : Int) (y : Int) = some ((x % 5 + 5 * (y % 5) : Nat) : Int) := by
  unfold keccak_at.f
  rw [Int.tmod_eq_emod_of_nonneg (by omega), Int.tmod_eq_emod_of_nonneg (by omega)]
  have h1 : wrap64 (5 * ((y : Int) % 5)) = 5 * ((y : Int) % 5) := by unfold wrap64; omega
  rw [h1]
  have h2 : wrap64 ((x : Int) % 5 + 5 * ((y : Int) % 5)) = (x : Int) % 5 + 5 * ((y : Int) % 5) := by unfold wrap64; omega
  rw [h2]
  congr 1
theorem at_calls (x y : Nat) (hx : x < 1000) (hy : y < 1000) (w : World) : Calls Tryd.prog 87 #[.int .i64 (x : Int), .int .i64 (y : Int)] w fun e w' => ∃ p : Nat, p = x % 5 + 5 * (y % 5) ∧ e = .returned (.int .i64 (p : Int)) ∧ Below w.heap.size w w' :=
  (keccak_at.calls _ _ _ w (at_f x y hx hy)).mono fun e w' h => ⟨_, rfl, h.1, h.2.below⟩
/-- Rho, behind so many turns. -/
def rhoS (a : List Int) : Nat → List Int × Nat × Nat
  | 0 => (a, 1, 0)
  | i + 1 => ((rhoS a i).1.set ((rhoS a i).2.1 % 5 + 5 * ((rhoS a i).2.2 % 5)) (rotl ((rhoS a i).1.getD ((rhoS a i).2.1 % 5 + 5 * ((rhoS a i).2.2 % 5)) 0) (((i + 1) * (i + 2) / 2 % 64 : Nat) : Int)), (rhoS a i).2.2, (2 * (rhoS a i).2.1 + 3 * (rhoS a i).2.2) % 5)
def rho (a : List Int) : List Int := (rhoS a 24).1
theorem rhoS_ok (a : List Int) (ha : a.length = 25) : ∀ i, (rhoS a i).1.length = 25 ∧ (rhoS a i).2.1 < 5 ∧ (rhoS a i).2.2 < 5
  | 0 => ⟨ha, (show 1 < 5 by decide), (show 0 < 5 by decide)⟩
  | i + 1 => by
    obtain ⟨h1, h2, h3⟩ := rhoS_ok a ha i
    exact ⟨List.length_set.trans h1, h3, Nat.mod_lt _ (by decide)⟩
/-- Pi, behind so many lanes. -/
def piS (a : List Int) : Nat → List Int
  | 0 => List.replicate 25 0
  | n + 1 => (piS a n).set (n % 5 % 5 + 5 * (n / 5 % 5)) (a.getD ((n % 5 + 3 * (n / 5)) % 5 + 5 * (n % 5 % 5)) 0)
def pi_ (a : List Int) : List Int := piS a 25
theorem piS_len (a : List Int) : ∀ n, (piS a n).length = 25
  | 0 => rfl
  | n + 1 => by rw [piS, List.length_set, piS_len a n]
set_option maxHeartbeats 8000000 in
set_option maxRecDepth 100000 in
theorem Rho.calls (a : List Int) (ha : a.length = 25) (w : World) : Calls Tryd.prog 85 #[.agg (U64 a)] w fun e w' => e = .returned (.agg (U64 (rho a))) ∧ Below w.heap.size w w' := by
  have HA := Aside0.mk ha
  have SZ : Aside0 (∀ l : List Int, l.length = 25 → (Tryd.prog.info? 110).map (·.size) = some (U64 l).size) := ⟨fun l h => by rw [U64_size, h]; kernel_rfl⟩
  clear ha
  go_enter Tryd.func85, Tryd.ntmps85
  go_upto_region 1 with (fail)
  obtain ⟨w0, hw0⟩ : ∃ w0, w0 = ((w.alloc (.cells (U64 a) 110)).alloc (.cells #[.int .u64 0, .int .u64 0, .int .u64 0, .int .u64 0, .int .u64 0, .int .u64 0, .int .u64 0, .int .u64 0, .int .u64 0, .int .u64 0, .int .u64 0, .int .u64 0, .int .u64 0, .int .u64 0, .int .u64 0, .int .u64 0, .int .u64 0, .int .u64 0, .int .u64 0, .int .u64 0, .int .u64 0, .int .u64 0, .int .u64 0, .int .u64 0, .int .u64 0] 110)) := ⟨_, rfl⟩
  rw [← hw0]
  obtain ⟨g1, hg1⟩ : ∃ g, g = w.heap.size := ⟨_, rfl⟩
  obtain ⟨g2, hg2⟩ : ∃ g, g = w.heap.size + 1 := ⟨_, rfl⟩
  have Q1 : Bk w0 g1 110 a := by rw [hw0, hg1]; exact blk_alloc (blk_new w (.cells (U64 a) 110)) _
  have Q2 : Bk w0 g2 110 (List.replicate 25 0) := by
    rw [hw0, hg2]
    exact (by have q := blk_new (w.alloc (.cells (U64 a) 110)) (.cells #[.int .u64 0, .int .u64 0, .int .u64 0, .int .u64 0, .int .u64 0, .int .u64 0, .int .u64 0, .int .u64 0, .int .u64 0, .int .u64 0, .int .u64 0, .int .u64 0, .int .u64 0, .int .u64 0, .int .u64 0, .int .u64 0, .int .u64 0, .int .u64 0, .int .u64 0, .int .u64 0, .int .u64 0, .int .u64 0, .int .u64 0, .int .u64 0, .int .u64 0] 110); rwa [show (w.alloc (.cells (U64 a) 110)).heap.size = w.heap.size + 1 from (by show (Array.push _ _).size = _; simp)] at q)
  have B0 : Aside0 (Below w.heap.size w w0) := ⟨by rw [hw0]; exact below_alloc (below_alloc (Below.refl _ _) _) _⟩
  have GE : Aside0 (w.heap.size ≤ g1 ∧ w.heap.size ≤ g2 ∧ g1 ≠ g2) := ⟨by omega⟩
  rw [← hg2, ← hg1]
  clear hg1 hg2 hw0
  have P1 := Aside0.mk Q1
  clear Q1
  go_wp2
  go_loopg [3, 4, 5] 24 (fun kq v3 v4 v5 w' => ∃ i t : Nat, v3 = .int .i64 ((rhoS a i).2.1 : Int) ∧ v4 = .int .i64 ((rhoS a i).2.2 : Int) ∧ v5 = .int .i64 (t : Int) ∧ Aside0 (t = i + 1 ∧ i + kq = 24) ∧ Aside0 (Bk w' g1 110 ((rhoS a i).1)) ∧ Aside0 (Bk w' g2 110 (List.replicate 25 0)) ∧ Aside0 (Below w.heap.size w w'))
  case atStart => exact ⟨0, 1, rfl, rfl, rfl, ⟨by omega⟩, P1, ⟨Q2⟩, B0⟩
  case round =>
    clear P1 Q2 B0
    obtain ⟨i, t, rfl, rfl, rfl, HJ, P1, P2, B1⟩ := hrel
    obtain ⟨l1, l2, l3⟩ := rhoS_ok a HA.out i
    have HL := Aside0.mk l1
    by_cases ci : i < 24
    · have z1 : decide ((t : Int) ≤ 24) = true := decide_eq_true (by have := HJ.out; omega)
      have z1' : decide (t ≤ 24) = true := decide_eq_true (by have := HJ.out; omega)
      have HCI : Aside0 (t ≤ 24) := ⟨by have := HJ.out; omega⟩
      cases gk with
      | zero => have := HJ.out; omega
      | succ k1 =>
        obtain ⟨x, hx⟩ : ∃ x, x = (rhoS a i).2.1 := ⟨_, rfl⟩
        obtain ⟨y, hy⟩ : ∃ y, y = (rhoS a i).2.2 := ⟨_, rfl⟩
        obtain ⟨p, hp⟩ : ∃ p, p = (rhoS a i).1 := ⟨_, rfl⟩
        obtain ⟨q, hq⟩ : ∃ q, q = x % 5 + 5 * (y % 5) := ⟨_, rfl⟩
        obtain ⟨k, hk⟩ : ∃ k, k = (i + 1) * (i + 2) / 2 % 64 := ⟨_, rfl⟩
        obtain ⟨y', hy'⟩ : ∃ y', y' = (2 * x + 3 * y) % 5 := ⟨_, rfl⟩
        obtain ⟨v, hv⟩ : ∃ v, v = p.getD q 0 := ⟨_, rfl⟩
        have HN : Aside0 (rhoS a (i + 1) = (p.set q (rotl v k), y, y')) := ⟨by rw [rhoS, ← hx, ← hy, ← hp, ← hq, ← hv, ← hk, ← hy']⟩
        rw [← hx] at l2
        rw [← hy] at l3
        rw [← hp] at HL P1
        rw [← hx, ← hy]
        have hq25 : q < 25 := by rw [hq]; exact at_lt _ _
        have hk64 : k < 64 := by rw [hk]; exact Nat.mod_lt _ (by decide)
        have cx := P1.out.cell q (by rw [HL.out]; exact hq25)
        rw [← hv] at cx
        have AT : Aside0 (∀ w', Calls Tryd.prog 87 #[.int .i64 (x : Int), .int .i64 (y : Int)] w' fun e w'' => e = .returned (.int .i64 (q : Int)) ∧ Below w'.heap.size w' w'') := ⟨fun w' => (at_calls x y (Nat.lt_trans l2 (by decide)) (Nat.lt_trans l3 (by decide)) w').mono fun e w'' h => by
          obtain ⟨q', h1, h2, h3⟩ := h
          rw [h1, ← hq] at h2
          exact ⟨h2, h3⟩⟩
        have RT : Aside0 (∀ w', Calls Tryd.prog 88 #[.int .u64 v, .int .i64 (k : Int)] w' fun e w'' => e = .returned (.int .u64 (rotl v k)) ∧ Below w'.heap.size w' w'') := ⟨fun w' => (bits_RotateLeft64.calls v (k : Int) _ w' (rotl_f v k hk64)).mono fun e w'' h => ⟨h.1, h.2.below⟩⟩
        have ek : Int.tmod (wrap64 (Int.tdiv (wrap64 ((t : Int) * wrap64 ((t : Int) + 1))) 2)) 64 = (k : Int) := by rw [hk]; exact rho_k i t ci HJ.out.1
        have ey : Int.tmod (wrap64 (wrap64 (2 * (x : Int)) + wrap64 (3 * (y : Int)))) 5 = (y' : Int) := by rw [hy']; exact rho_y x y l2 l3
        have HY := Aside0.mk hy'
        clear hx hy hp hq hk hy' hv
        have q1 : ((q : Int) < 25) = True := eq_true (by omega)
        have q2 : (0 ≤ (q : Int)) = True := eq_true (by omega)
        obtain ⟨r, hr⟩ : ∃ r, r = rotl v k := ⟨_, rfl⟩
        rw [← hr] at HN RT
        clear hr
        go_wp2_with (first | (go_at_call 88; (with_reducible refine (RT.out _).mono ?_); rintro e w4 ⟨rfl, hb4⟩; have P1c := Aside0.mk (P1b.out.below hb4); have P2c := Aside0.mk (P2b.out.below hb4); have B1c := Aside0.mk (below_step B1b.out hb4); have fx4 := P1c.out.frozen q; have cx4 := P1c.out.cell q (by rw [HL.out]; exact hq25); clear hb4 cx3 fx3) | (go_at_call 87; (with_reducible refine (AT.out _).mono ?_); rintro e w3 ⟨rfl, hb3⟩; have P1b := Aside0.mk (P1.out.below hb3); have P2b := Aside0.mk (P2.out.below hb3); have B1b := Aside0.mk (below_step B1.out hb3); have cx3 := pw_cell_below hb3 cx; have fx3 := P1b.out.frozen q; clear hb3 cx))
        go_roundg k1
        case measure => omega
        case rel => exact ⟨i + 1, t + 1, congrArg (fun s : List Int × Nat × Nat => Value.int .i64 (s.2.1 : Int)) HN.out.symm, (by
          rw [HN.out]
          show Value.int .i64 ((2 * (x : Int) + 3 * (y : Int)) % 5) = Value.int .i64 (y' : Int)
          rw [HY.out]
          push_cast
          rfl), (by
          have hw : wrap64 ((t : Int) + 1) = ((t + 1 : Nat) : Int) := by have := HCI.out; unfold wrap64; omega
          first | rfl | (rw [← hw]; rfl) | (simp [*]; done)), ⟨by have := HJ.out; omega⟩, ⟨by rw [HN.out]; exact P1c.out.put q r⟩, ⟨P2c.out.far (Ne.symm GE.out.2.2) _ _⟩, ⟨below_set B1c.out GE.out.1⟩⟩
    · have z1 : decide ((t : Int) ≤ 24) = false := decide_eq_false (by have := HJ.out; omega)
      have z1' : decide (t ≤ 24) = false := decide_eq_false (by have := HJ.out; omega)
      obtain rfl : i = 24 := by have := HJ.out; omega
      have LN := Aside0.mk ((rhoS_ok a HA.out 24).1)
      go_wp2_with (first | ((with_reducible refine gate_dst (N := 33) rfl ?_); refine wpList_load_row rfl 110 (.tmp 1) rfl g1 rfl 110 _ (0, 0) _ P1.out Tryd.underlying110 rfl (SZ.out _ LN.out) ?_) | ((with_reducible refine gate_store (t := 110) (p := 2) rfl ?_); refine wpList_store_row rfl 110 (.tmp 2) (.tmp 33) rfl g2 _ rfl rfl 110 _ P2.out (SZ.out _ LN.out) (by rw [U64_size, U64_size, LN.out]; rfl) (U64_ok _) ?_))
      have PR := P2.out.row (l := (rhoS a 24).1)
      have BR := setRow_below B1.out GE.out.2.1 (U64 ((rhoS a 24).1))
      refine bodyPost_ret (results_cell_row rfl _ _ g2 110 _ (0, 0) _ rfl PR Tryd.underlying110 rfl (SZ.out _ LN.out)) rfl ?_
      exact ⟨rfl, BR⟩
set_option maxHeartbeats 8000000 in
set_option maxRecDepth 100000 in
theorem Pi.calls (a : List Int) (ha : a.length = 25) (w : World) : Calls Tryd.prog 84 #[.agg (U64 a)] w fun e w' => e = .returned (.agg (U64 (pi_ a))) ∧ Below w.heap.size w w' := by
  have HA := Aside0.mk ha
  have SZ : Aside0 (∀ l : List Int, l.length = 25 → (Tryd.prog.info? 110).map (·.size) = some (U64 l).size) := ⟨fun l h => by rw [U64_size, h]; kernel_rfl⟩
  clear ha
  go_enter Tryd.func84, Tryd.ntmps84
  go_upto_region 2 with (fail)
  obtain ⟨w0, hw0⟩ : ∃ w0, w0 = (((w.alloc (.cells (U64 a) 110)).alloc (.cells #[.int .u64 0, .int .u64 0, .int .u64 0, .int .u64 0, .int .u64 0, .int .u64 0, .int .u64 0, .int .u64 0, .int .u64 0, .int .u64 0, .int .u64 0, .int .u64 0, .int .u64 0, .int .u64 0, .int .u64 0, .int .u64 0, .int .u64 0, .int .u64 0, .int .u64 0, .int .u64 0, .int .u64 0, .int .u64 0, .int .u64 0, .int .u64 0, .int .u64 0] 110)).alloc (.cells #[.int .u64 0, .int .u64 0, .int .u64 0, .int .u64 0, .int .u64 0, .int .u64 0, .int .u64 0, .int .u64 0, .int .u64 0, .int .u64 0, .int .u64 0, .int .u64 0, .int .u64 0, .int .u64 0, .int .u64 0, .int .u64 0, .int .u64 0, .int .u64 0, .int .u64 0, .int .u64 0, .int .u64 0, .int .u64 0, .int .u64 0, .int .u64 0, .int .u64 0] 110)) := ⟨_, rfl⟩
  rw [← hw0]
  obtain ⟨g1, hg1⟩ : ∃ g, g = w.heap.size := ⟨_, rfl⟩
  obtain ⟨g2, hg2⟩ : ∃ g, g = w.heap.size + 1 := ⟨_, rfl⟩
  obtain ⟨g3, hg3⟩ : ∃ g, g = w.heap.size + 1 + 1 := ⟨_, rfl⟩
  have Q1 : Bk w0 g1 110 a := by rw [hw0, hg1]; exact blk_alloc (blk_alloc (blk_new w (.cells (U64 a) 110)) _) _
  have Q2 : Bk w0 g2 110 (List.replicate 25 0) := by
    rw [hw0, hg2]
    exact blk_alloc (by have q := blk_new (w.alloc (.cells (U64 a) 110)) (.cells #[.int .u64 0, .int .u64 0, .int .u64 0, .int .u64 0, .int .u64 0, .int .u64 0, .int .u64 0, .int .u64 0, .int .u64 0, .int .u64 0, .int .u64 0, .int .u64 0, .int .u64 0, .int .u64 0, .int .u64 0, .int .u64 0, .int .u64 0, .int .u64 0, .int .u64 0, .int .u64 0, .int .u64 0, .int .u64 0, .int .u64 0, .int .u64 0, .int .u64 0] 110); rwa [show (w.alloc (.cells (U64 a) 110)).heap.size = w.heap.size + 1 from (by show (Array.push _ _).size = _; simp)] at q) _
  have Q3 : Bk w0 g3 110 (List.replicate 25 0) := by
    rw [hw0, hg3]
    have q := blk_new ((w.alloc (.cells (U64 a) 110)).alloc (.cells #[.int .u64 0, .int .u64 0, .int .u64 0, .int .u64 0, .int .u64 0, .int .u64 0, .int .u64 0, .int .u64 0, .int .u64 0, .int .u64 0, .int .u64 0, .int .u64 0, .int .u64 0, .int .u64 0, .int .u64 0, .int .u64 0, .int .u64 0, .int .u64 0, .int .u64 0, .int .u64 0, .int .u64 0, .int .u64 0, .int .u64 0, .int .u64 0, .int .u64 0] 110)) (.cells #[.int .u64 0, .int .u64 0, .int .u64 0, .int .u64 0, .int .u64 0, .int .u64 0, .int .u64 0, .int .u64 0, .int .u64 0, .int .u64 0, .int .u64 0, .int .u64 0, .int .u64 0, .int .u64 0, .int .u64 0, .int .u64 0, .int .u64 0, .int .u64 0, .int .u64 0, .int .u64 0, .int .u64 0, .int .u64 0, .int .u64 0, .int .u64 0, .int .u64 0] 110)
    rwa [show ((w.alloc (.cells (U64 a) 110)).alloc (.cells #[.int .u64 0, .int .u64 0, .int .u64 0, .int .u64 0, .int .u64 0, .int .u64 0, .int .u64 0, .int .u64 0, .int .u64 0, .int .u64 0, .int .u64 0, .int .u64 0, .int .u64 0, .int .u64 0, .int .u64 0, .int .u64 0, .int .u64 0, .int .u64 0, .int .u64 0, .int .u64 0, .int .u64 0, .int .u64 0, .int .u64 0, .int .u64 0, .int .u64 0] 110)).heap.size = w.heap.size + 1 + 1 from (by show (Array.push (Array.push _ _) _).size = _; simp)] at q
  have B0 : Aside0 (Below w.heap.size w w0) := ⟨by rw [hw0]; exact below_alloc (below_alloc (below_alloc (Below.refl _ _) _) _) _⟩
  have GE : Aside0 (w.heap.size ≤ g1 ∧ w.heap.size ≤ g2 ∧ w.heap.size ≤ g3 ∧ g1 ≠ g2 ∧ g1 ≠ g3 ∧ g2 ≠ g3) := ⟨by omega⟩
  rw [← hg3, ← hg2, ← hg1]
  clear hg1 hg2 hg3 hw0
  have P1 := Aside0.mk Q1
  clear Q1
  go_wp2
  go_loopg [6] 5 (fun kq v6 w' => ∃ y : Nat, v6 = .int .i64 (y : Int) ∧ Aside0 (y + kq = 5) ∧ Aside0 (Bk w' g1 110 a) ∧ Aside0 (Bk w' g2 110 (List.replicate 25 0)) ∧ Aside0 (Bk w' g3 110 (piS a (5 * y))) ∧ Aside0 (Below w.heap.size w w'))
  case atStart => exact ⟨0, rfl, ⟨by omega⟩, P1, ⟨Q2⟩, ⟨Q3⟩, B0⟩
  case round =>
    clear P1 Q2 Q3 B0
    obtain ⟨y, rfl, HJ, P1, P2, P3, B1⟩ := hrel
    by_cases cy : y < 5
    · have z1 : decide ((y : Int) < 5) = true := decide_eq_true (by omega)
      have z1' : decide (y < 5) = true := decide_eq_true cy
      have HCY := Aside0.mk cy
      cases gk with
      | zero => have := HJ.out; omega
      | succ k1 =>
        go_wp2
        go_loopg [9] 5 (fun kq v9 w' => ∃ x : Nat, v9 = .int .i64 (x : Int) ∧ Aside0 (x + kq = 5) ∧ Aside0 (Bk w' g1 110 a) ∧ Aside0 (Bk w' g2 110 (List.replicate 25 0)) ∧ Aside0 (Bk w' g3 110 (piS a (5 * y + x))) ∧ Aside0 (Below w.heap.size w w'))
        case atStart => exact ⟨0, rfl, ⟨by omega⟩, P1, P2, P3, B1⟩
        case round =>
          clear P1 P2 P3 B1
          obtain ⟨x, rfl, HI, P1, P2, P3, B1⟩ := hrel
          by_cases cx' : x < 5
          · have z2 : decide ((x : Int) < 5) = true := decide_eq_true (by omega)
            have z2' : decide (x < 5) = true := decide_eq_true cx'
            have HCX := Aside0.mk cx'
            cases gk with
            | zero => have := HI.out; omega
            | succ k2 =>
              obtain ⟨n, hn⟩ : ∃ n, n = 5 * y + x := ⟨_, rfl⟩
              rw [← hn] at P3
              obtain ⟨z, hz⟩ : ∃ z, z = x + 3 * y := ⟨_, rfl⟩
              obtain ⟨q, hq⟩ : ∃ q, q = x % 5 + 5 * (y % 5) := ⟨_, rfl⟩
              obtain ⟨q', hq'⟩ : ∃ q', q' = z % 5 + 5 * (x % 5) := ⟨_, rfl⟩
              obtain ⟨v, hv⟩ : ∃ v, v = a.getD q' 0 := ⟨_, rfl⟩
              have HN : Aside0 (piS a (5 * y + (x + 1)) = (piS a n).set q v) := ⟨by
                rw [show 5 * y + (x + 1) = n + 1 by omega, piS, show n % 5 = x by omega, show n / 5 = y by omega, ← hz, ← hq, ← hq', ← hv]⟩
              have cx := P1.out.cell q' (by rw [HA.out, hq']; exact at_lt _ _)
              rw [← hv] at cx
              have AT3 : Aside0 (∀ w', Calls Tryd.prog 87 #[.int .i64 (x : Int), .int .i64 (y : Int)] w' fun e w'' => e = .returned (.int .i64 (q : Int)) ∧ Below w'.heap.size w' w'') := ⟨fun w' => (at_calls x y (Nat.lt_trans cx' (by decide)) (Nat.lt_trans cy (by decide)) w').mono fun e w'' h => by
                obtain ⟨_, h1, h2, h3⟩ := h
                rw [h1, ← hq] at h2
                exact ⟨h2, h3⟩⟩
              have ezz : (x : Int) + 3 * (y : Int) = (z : Int) := by rw [hz]; push_cast; rfl
              have AT4 : Aside0 (∀ w', Calls Tryd.prog 87 #[.int .i64 ((x : Int) + 3 * (y : Int)), .int .i64 (x : Int)] w' fun e w'' => e = .returned (.int .i64 (q' : Int)) ∧ Below w'.heap.size w' w'') := ⟨fun w' => by
                rw [ezz]
                refine (at_calls z x (by rw [hz]; omega) (Nat.lt_trans cx' (by decide)) w').mono ?_
                rintro e w'' ⟨_, h1, h2, h3⟩
                rw [h1, ← hq'] at h2
                exact ⟨h2, h3⟩⟩
              have ez := sum3 x y z hz cx' cy
              have hq25 : q < 25 := by rw [hq]; exact at_lt _ _
              have hq25' : q' < 25 := by rw [hq']; exact at_lt _ _
              clear hn hz hq hq' hv ezz ez
              have q1 : ((q : Int) < 25) = True := eq_true (by omega)
              have q2 : (0 ≤ (q : Int)) = True := eq_true (by omega)
              have q3 : ((q' : Int) < 25) = True := eq_true (by omega)
              have q4 : (0 ≤ (q' : Int)) = True := eq_true (by omega)
              go_wp2_with (first | (go_at_call 87; (with_reducible refine (AT4.out _).mono ?_); rintro e w4 ⟨rfl, hb4⟩; have P1c := Aside0.mk (P1b.out.below hb4); have P2c := Aside0.mk (P2b.out.below hb4); have P3c := Aside0.mk (P3b.out.below hb4); have B1c := Aside0.mk (below_step B1b.out hb4); have cx4 := pw_cell_below hb4 cx3; have fx4 := P3c.out.frozen q; have cq4 := P3c.out.cell q (by rw [piS_len]; exact hq25); clear hb4 cx3) | (go_at_call 87; (with_reducible refine (AT3.out _).mono ?_); rintro e w3 ⟨rfl, hb3⟩; have P1b := Aside0.mk (P1.out.below hb3); have P2b := Aside0.mk (P2.out.below hb3); have P3b := Aside0.mk (P3.out.below hb3); have B1b := Aside0.mk (below_step B1.out hb3); have cx3 := pw_cell_below hb3 cx; clear hb3 cx))
              go_roundg k2
              case measure => omega
              case rel => exact ⟨x + 1, (by
          have hw : wrap64 ((x : Int) + 1) = ((x + 1 : Nat) : Int) := by have := HCX.out; unfold wrap64; omega
          first | rfl | (rw [← hw]; rfl) | (simp [*]; done)), ⟨by have := HI.out; omega⟩, ⟨P1c.out.far GE.out.2.2.2.2.1 _ _⟩, ⟨P2c.out.far GE.out.2.2.2.2.2 _ _⟩, ⟨by rw [HN.out]; exact P3c.out.put q v⟩, ⟨below_set B1c.out GE.out.2.2.1⟩⟩
          · have z2 : decide ((x : Int) < 5) = false := decide_eq_false (by omega)
            have z2' : decide (x < 5) = false := decide_eq_false cx'
            obtain rfl : x = 5 := by have := HI.out; omega
            go_wp2
            go_roundg k1
            case measure => omega
            case rel => exact ⟨y + 1, (by
          have hw : wrap64 ((y : Int) + 1) = ((y + 1 : Nat) : Int) := by have := HCY.out; unfold wrap64; omega
          first | rfl | (rw [← hw]; rfl) | (simp [*]; done)), ⟨by have := HJ.out; omega⟩, P1, P2, P3, B1⟩
    · have z1 : decide ((y : Int) < 5) = false := decide_eq_false (by omega)
      have z1' : decide (y < 5) = false := decide_eq_false cy
      obtain rfl : y = 5 := by have := HJ.out; omega
      have LN := Aside0.mk (piS_len a 25)
      go_wp2_with (first | ((with_reducible refine gate_dst (N := 26) rfl ?_); refine wpList_load_row rfl 110 (.tmp 3) rfl g3 rfl 110 _ (0, 0) _ P3.out Tryd.underlying110 rfl (SZ.out _ LN.out) ?_) | ((with_reducible refine gate_store (t := 110) (p := 2) rfl ?_); refine wpList_store_row rfl 110 (.tmp 2) (.tmp 26) rfl g2 _ rfl rfl 110 _ P2.out (SZ.out _ LN.out) (by rw [U64_size, U64_size, LN.out]; rfl) (U64_ok _) ?_))
      have PR := P2.out.row (l := piS a 25)
      have BR := setRow_below B1.out GE.out.2.1 (U64 (piS a 25))
      refine bodyPost_ret (results_cell_row rfl _ _ g2 110 _ (0, 0) _ rfl PR Tryd.underlying110 rfl (SZ.out _ LN.out)) rfl ?_
      exact ⟨rfl, BR⟩
end

end Go.Proofs.YtkdfcgihgndnnaaDoor.PPK
end
section
namespace Go.Proofs.YtkdfcgihgndnnaaDoor.PPK
open Go.RowKit Go.Proofs.YtkdfcgihgndnnaaDoorW.PrintWords Go.Proofs.YtkdfcgihgndnnaaDoorW.PrintLast Go.Proofs.YtkdfcgihgndnnaaDoorW.PrintMore
attribute [local go_sem] max2_int min2_int max_two min_two max_three min_three max_four min_four
set_option linter.unusedVariables false
set_option linter.unusedSimpArgs false
section
def un (v : Int) : Int := Go.bits .xor .u64 IntKind.u64.max v
theorem wa1 (x : Nat) (h : x < 5) : wrap64 ((x : Int) + 1) = ((x + 1 : Nat) : Int) := by unfold wrap64; omega
theorem wa2 (x : Nat) (h : x < 5) : wrap64 ((x : Int) + 2) = ((x + 2 : Nat) : Int) := by unfold wrap64; omega
def an (x y : Int) : Int := Go.bits .and .u64 x y
/-- Chi, behind so many lanes. -/
def chS (a : List Int) : Nat → List Int
  | 0 => a
  | n + 1 => (chS a n).set (n % 5 % 5 + 5 * (n / 5 % 5)) (xr ((chS a n).getD (n % 5 % 5 + 5 * (n / 5 % 5)) 0) (an (un (a.getD ((n % 5 + 1) % 5 + 5 * (n / 5 % 5)) 0)) (a.getD ((n % 5 + 2) % 5 + 5 * (n / 5 % 5)) 0)))
def chi (a : List Int) : List Int := chS a 25
theorem chS_len (a : List Int) (ha : a.length = 25) : ∀ n, (chS a n).length = 25
  | 0 => ha
  | n + 1 => by rw [chS, List.length_set, chS_len a ha n]
theorem Bk.rowFar {w : World} {g g' T : Nat} {l : List Int} (h : Bk w g T l) (hne : g ≠ g') (c : Array Value) : Bk (w.setRow g' c) g T l := (setRow_other w g' g c hne).trans h
def Chi.T8 : Bool × List (List Nat × List Nat) := (true, [([], []), ([], []), ([0, 1], [0, 1]), ([2], [2]), ([3], [3]), ([], []), ([5], [5]), ([], []), ([6, 7, 2], [6, 7]), ([8], [8]), ([9], [9]), ([10], [10]), ([], []), ([12], [12]), ([], []), ([13, 14, 8], [13, 14]), ([15], [15]), ([16], [16]), ([11, 17], [11, 17]), ([4, 18], [4, 18]), ([2, 0, 1, 2, 3, 4, 5, 6, 7, 8, 9, 10, 11, 12, 13, 14, 15, 16, 17, 18, 19], [2]), ([20, 19, 15, 0, 1, 2, 3, 4, 5, 6, 7, 8, 9, 10, 11, 12, 13, 14, 15, 16, 17, 18, 19], [19, 20])])
def Chi.B8 : List Nat := [0, 0, 3, 7, 15, 0, 32, 0, 231, 487, 999, 2023, 0, 4096, 0, 29159, 61927, 127463, 262119, 524287, 1048575, 2097151]
theorem Chi.tab8 : rtab .any (opsOf Tryd.f83 8) = Chi.T8 := by kernel_rfl
theorem Chi.bits8 : waitsOk Chi.T8.2 Chi.B8 = true := by kernel_rfl
set_option maxHeartbeats 8000000 in
set_option maxRecDepth 100000 in
theorem Chi.calls (a : List Int) (ha : a.length = 25) (w : World) : Calls Tryd.prog 83 #[.agg (U64 a)] w fun e w' => e = .returned (.agg (U64 (chi a))) ∧ Below w.heap.size w w' := by
  have HA := Aside0.mk ha
  have SZ : Aside0 (∀ l : List Int, l.length = 25 → (Tryd.prog.info? 110).map (·.size) = some (U64 l).size) := ⟨fun l h => by rw [U64_size, h]; kernel_rfl⟩
  clear ha
  go_enter Tryd.func83, Tryd.ntmps83
  go_upto_region 1 with (fail)
  obtain ⟨w0, hw0⟩ : ∃ w0, w0 = ((w.alloc (.cells (U64 a) 110)).alloc (.cells #[.int .u64 0, .int .u64 0, .int .u64 0, .int .u64 0, .int .u64 0, .int .u64 0, .int .u64 0, .int .u64 0, .int .u64 0, .int .u64 0, .int .u64 0, .int .u64 0, .int .u64 0, .int .u64 0, .int .u64 0, .int .u64 0, .int .u64 0, .int .u64 0, .int .u64 0, .int .u64 0, .int .u64 0, .int .u64 0, .int .u64 0, .int .u64 0, .int .u64 0] 110)) := ⟨_, rfl⟩
  rw [← hw0]
  obtain ⟨g1, hg1⟩ : ∃ g, g = w.heap.size := ⟨_, rfl⟩
  obtain ⟨g2, hg2⟩ : ∃ g, g = w.heap.size + 1 := ⟨_, rfl⟩
  have Q1 : Bk w0 g1 110 a := by rw [hw0, hg1]; exact blk_alloc (blk_new w (.cells (U64 a) 110)) _
  have Q2 : Bk w0 g2 110 (List.replicate 25 0) := by
    rw [hw0, hg2]
    exact (by have q := blk_new (w.alloc (.cells (U64 a) 110)) (.cells #[.int .u64 0, .int .u64 0, .int .u64 0, .int .u64 0, .int .u64 0, .int .u64 0, .int .u64 0, .int .u64 0, .int .u64 0, .int .u64 0, .int .u64 0, .int .u64 0, .int .u64 0, .int .u64 0, .int .u64 0, .int .u64 0, .int .u64 0, .int .u64 0, .int .u64 0, .int .u64 0, .int .u64 0, .int .u64 0, .int .u64 0, .int .u64 0, .int .u64 0] 110); rwa [show (w.alloc (.cells (U64 a) 110)).heap.size = w.heap.size + 1 from (by show (Array.push _ _).size = _; simp)] at q)
  have B0 : Aside0 (Below w.heap.size w w0) := ⟨by rw [hw0]; exact below_alloc (below_alloc (Below.refl _ _) _) _⟩
  have GE : Aside0 (w.heap.size ≤ g1 ∧ w.heap.size ≤ g2 ∧ g1 ≠ g2) := ⟨by omega⟩
  rw [← hg2, ← hg1]
  clear hg1 hg2 hw0
  have P1 := Aside0.mk Q1
  clear Q1
  go_upto_region 2 with (first | ((with_reducible refine gate_dst (N := 6) rfl ?_); refine wpList_load_row rfl 110 (.tmp 1) rfl g1 rfl 110 _ (0, 0) _ P1.out Tryd.underlying110 rfl (SZ.out _ HA.out) ?_) | ((with_reducible refine gate_store (t := 110) (p := 3) rfl ?_); refine wpList_store_row rfl 110 (.tmp 3) (.tmp 6) rfl w0.heap.size _ rfl rfl 110 _ (blk_new _ _) (SZ.out _ HA.out) (by rw [U64_size, HA.out]; rfl) (U64_ok _) ?_))
  obtain ⟨g3, hg3⟩ : ∃ g, g = w0.heap.size := ⟨_, rfl⟩
  rw [← hg3]
  have B0' : Below w.heap.size w (w0.alloc (.cells #[.int .u64 0, .int .u64 0, .int .u64 0, .int .u64 0, .int .u64 0, .int .u64 0, .int .u64 0, .int .u64 0, .int .u64 0, .int .u64 0, .int .u64 0, .int .u64 0, .int .u64 0, .int .u64 0, .int .u64 0, .int .u64 0, .int .u64 0, .int .u64 0, .int .u64 0, .int .u64 0, .int .u64 0, .int .u64 0, .int .u64 0, .int .u64 0, .int .u64 0] 110)) := below_alloc B0.out _
  have hlt1 : g1 < w0.heap.size := blk_lt P1.out
  have hlt2 : g2 < w0.heap.size := blk_lt Q2
  have GE : Aside0 (w.heap.size ≤ g1 ∧ w.heap.size ≤ g2 ∧ w.heap.size ≤ g3 ∧ g1 ≠ g2 ∧ g1 ≠ g3 ∧ g2 ≠ g3) := ⟨by have := GE.out; have := B0.out.size; omega⟩
  have R1 : Bk ((w0.alloc (.cells #[.int .u64 0, .int .u64 0, .int .u64 0, .int .u64 0, .int .u64 0, .int .u64 0, .int .u64 0, .int .u64 0, .int .u64 0, .int .u64 0, .int .u64 0, .int .u64 0, .int .u64 0, .int .u64 0, .int .u64 0, .int .u64 0, .int .u64 0, .int .u64 0, .int .u64 0, .int .u64 0, .int .u64 0, .int .u64 0, .int .u64 0, .int .u64 0, .int .u64 0] 110)).setRow g3 (U64 a)) g1 110 a := Bk.rowFar (blk_alloc P1.out _) GE.out.2.2.2.2.1 _
  have R2 : Bk ((w0.alloc (.cells #[.int .u64 0, .int .u64 0, .int .u64 0, .int .u64 0, .int .u64 0, .int .u64 0, .int .u64 0, .int .u64 0, .int .u64 0, .int .u64 0, .int .u64 0, .int .u64 0, .int .u64 0, .int .u64 0, .int .u64 0, .int .u64 0, .int .u64 0, .int .u64 0, .int .u64 0, .int .u64 0, .int .u64 0, .int .u64 0, .int .u64 0, .int .u64 0, .int .u64 0] 110)).setRow g3 (U64 a)) g2 110 (List.replicate 25 0) := Bk.rowFar (blk_alloc Q2 _) GE.out.2.2.2.2.2 _
  have R3 : Bk ((w0.alloc (.cells #[.int .u64 0, .int .u64 0, .int .u64 0, .int .u64 0, .int .u64 0, .int .u64 0, .int .u64 0, .int .u64 0, .int .u64 0, .int .u64 0, .int .u64 0, .int .u64 0, .int .u64 0, .int .u64 0, .int .u64 0, .int .u64 0, .int .u64 0, .int .u64 0, .int .u64 0, .int .u64 0, .int .u64 0, .int .u64 0, .int .u64 0, .int .u64 0, .int .u64 0] 110)).setRow g3 (U64 a)) g3 110 a := Bk.row (old := List.replicate 25 0) (by rw [hg3]; exact blk_new _ _)
  have RB : Aside0 (Below w.heap.size w ((w0.alloc (.cells #[.int .u64 0, .int .u64 0, .int .u64 0, .int .u64 0, .int .u64 0, .int .u64 0, .int .u64 0, .int .u64 0, .int .u64 0, .int .u64 0, .int .u64 0, .int .u64 0, .int .u64 0, .int .u64 0, .int .u64 0, .int .u64 0, .int .u64 0, .int .u64 0, .int .u64 0, .int .u64 0, .int .u64 0, .int .u64 0, .int .u64 0, .int .u64 0, .int .u64 0] 110)).setRow g3 (U64 a))) := ⟨setRow_below B0' GE.out.2.2.1 _⟩
  generalize (w0.alloc (.cells #[.int .u64 0, .int .u64 0, .int .u64 0, .int .u64 0, .int .u64 0, .int .u64 0, .int .u64 0, .int .u64 0, .int .u64 0, .int .u64 0, .int .u64 0, .int .u64 0, .int .u64 0, .int .u64 0, .int .u64 0, .int .u64 0, .int .u64 0, .int .u64 0, .int .u64 0, .int .u64 0, .int .u64 0, .int .u64 0, .int .u64 0, .int .u64 0, .int .u64 0] 110)).setRow g3 (U64 a) = w1 at R1 R2 R3 RB ⊢
  clear P1 Q2 B0 B0' hg3 hlt1 hlt2
  go_wp2
  go_loopg [7] 5 (fun kq v6 w' => ∃ y : Nat, v6 = .int .i64 (y : Int) ∧ Aside0 (y + kq = 5) ∧ Aside0 (Bk w' g1 110 a) ∧ Aside0 (Bk w' g2 110 (List.replicate 25 0)) ∧ Aside0 (Bk w' g3 110 (chS a (5 * y))) ∧ Aside0 (Below w.heap.size w w'))
  case atStart => exact ⟨0, rfl, ⟨by omega⟩, ⟨R1⟩, ⟨R2⟩, ⟨R3⟩, RB⟩
  case round =>
    clear R1 R2 R3 RB
    obtain ⟨y, rfl, HJ, P1, P2, P3, B1⟩ := hrel
    by_cases cy : y < 5
    · have z1 : decide ((y : Int) < 5) = true := decide_eq_true (by omega)
      have z1' : decide (y < 5) = true := decide_eq_true cy
      have HCY := Aside0.mk cy
      cases gk with
      | zero => have := HJ.out; omega
      | succ k1 =>
        go_wp2
        go_loopg [10] 5 (fun kq v9 w' => ∃ x : Nat, v9 = .int .i64 (x : Int) ∧ Aside0 (x + kq = 5) ∧ Aside0 (Bk w' g1 110 a) ∧ Aside0 (Bk w' g2 110 (List.replicate 25 0)) ∧ Aside0 (Bk w' g3 110 (chS a (5 * y + x))) ∧ Aside0 (Below w.heap.size w w'))
        case atStart => exact ⟨0, rfl, ⟨by omega⟩, P1, P2, P3, B1⟩
        case round =>
          clear P1 P2 P3 B1
          obtain ⟨x, rfl, HI, P1, P2, P3, B1⟩ := hrel
          by_cases cx' : x < 5
          · have z2 : decide ((x : Int) < 5) = true := decide_eq_true (by omega)
            have z2' : decide (x < 5) = true := decide_eq_true cx'
            have HCX := Aside0.mk cx'
            cases gk with
            | zero => have := HI.out; omega
            | succ k2 =>
              obtain ⟨n, hn⟩ : ∃ n, n = 5 * y + x := ⟨_, rfl⟩
              rw [← hn] at P3
              obtain ⟨q, hq⟩ : ∃ q, q = x % 5 + 5 * (y % 5) := ⟨_, rfl⟩
              obtain ⟨q1, hq1⟩ : ∃ q1, q1 = (x + 1) % 5 + 5 * (y % 5) := ⟨_, rfl⟩
              obtain ⟨q2, hq2⟩ : ∃ q2, q2 = (x + 2) % 5 + 5 * (y % 5) := ⟨_, rfl⟩
              obtain ⟨v0, hv0⟩ : ∃ v, v = (chS a n).getD q 0 := ⟨_, rfl⟩
              obtain ⟨v1, hv1⟩ : ∃ v, v = a.getD q1 0 := ⟨_, rfl⟩
              obtain ⟨v2, hv2⟩ : ∃ v, v = a.getD q2 0 := ⟨_, rfl⟩
              have HN : Aside0 (chS a (5 * y + (x + 1)) = (chS a n).set q (xr v0 (an (un v1) v2))) := ⟨by
                rw [show 5 * y + (x + 1) = n + 1 by omega, chS, show n % 5 = x by omega, show n / 5 = y by omega, ← hq, ← hq1, ← hq2, ← hv0, ← hv1, ← hv2]⟩
              have c0 := P3.out.cell q (by rw [chS_len a HA.out, hq]; exact at_lt _ _)
              have c1 := P1.out.cell q1 (by rw [HA.out, hq1]; exact at_lt _ _)
              have c2 := P1.out.cell q2 (by rw [HA.out, hq2]; exact at_lt _ _)
              rw [← hv0] at c0
              rw [← hv1] at c1
              rw [← hv2] at c2
              have hq25 : q < 25 := by rw [hq]; exact at_lt _ _
              have hq25a : q1 < 25 := by rw [hq1]; exact at_lt _ _
              have hq25b : q2 < 25 := by rw [hq2]; exact at_lt _ _
              have AT3 : Aside0 (∀ w', Calls Tryd.prog 87 #[.int .i64 (x : Int), .int .i64 (y : Int)] w' fun e w'' => e = .returned (.int .i64 (q : Int)) ∧ Below w'.heap.size w' w'') := ⟨fun w' => by
                skip
                refine (at_calls (x) y (Nat.lt_trans cx' (by decide)) (Nat.lt_trans cy (by decide)) w').mono ?_
                rintro e w'' ⟨_, h1, h2, h3⟩
                rw [h1, ← hq] at h2
                exact ⟨h2, h3⟩⟩
              have AT4 : Aside0 (∀ w', Calls Tryd.prog 87 #[.int .i64 (wrap64 ((x : Int) + 1)), .int .i64 (y : Int)] w' fun e w'' => e = .returned (.int .i64 (q1 : Int)) ∧ Below w'.heap.size w' w'') := ⟨fun w' => by
                rw [wa1 x cx']
                refine (at_calls (x + 1) y (Nat.lt_trans (Nat.add_lt_add_right cx' _) (by decide)) (Nat.lt_trans cy (by decide)) w').mono ?_
                rintro e w'' ⟨_, h1, h2, h3⟩
                rw [h1, ← hq1] at h2
                exact ⟨h2, h3⟩⟩
              have AT5 : Aside0 (∀ w', Calls Tryd.prog 87 #[.int .i64 (wrap64 ((x : Int) + 2)), .int .i64 (y : Int)] w' fun e w'' => e = .returned (.int .i64 (q2 : Int)) ∧ Below w'.heap.size w' w'') := ⟨fun w' => by
                rw [wa2 x cx']
                refine (at_calls (x + 2) y (Nat.lt_trans (Nat.add_lt_add_right cx' _) (by decide)) (Nat.lt_trans cy (by decide)) w').mono ?_
                rintro e w'' ⟨_, h1, h2, h3⟩
                rw [h1, ← hq2] at h2
                exact ⟨h2, h3⟩⟩
              clear hn hq hq1 hq2 hv0 hv1 hv2
              have i1 : ((q : Int) < 25) = True := eq_true (by omega)
              have i2 : (0 ≤ (q : Int)) = True := eq_true (by omega)
              have i3 : ((q1 : Int) < 25) = True := eq_true (by omega)
              have i4 : (0 ≤ (q1 : Int)) = True := eq_true (by omega)
              have i5 : ((q2 : Int) < 25) = True := eq_true (by omega)
              have i6 : (0 ≤ (q2 : Int)) = True := eq_true (by omega)
              go_wp2
              have P1 : Aside0 (Bk wr.drew g1 110 a) := ⟨P1.out⟩
              have P2 : Aside0 (Bk wr.drew g2 110 (List.replicate 25 0)) := ⟨P2.out⟩
              have P3 : Aside0 (Bk wr.drew g3 110 (chS a n)) := ⟨P3.out⟩
              have B1 : Aside0 (Below w.heap.size w wr.drew) := ⟨below_drew1 B1.out⟩
              replace c0 : wr.drew.cell? ⟨g3, q, none⟩ = some (.int .u64 v0) := c0
              replace c1 : wr.drew.cell? ⟨g1, q1, none⟩ = some (.int .u64 v1) := c1
              replace c2 : wr.drew.cell? ⟨g1, q2, none⟩ = some (.int .u64 v2) := c2
              refine start_ (n := 22) (S := fun w' => w'.cell? ⟨g3, q, none⟩ = some (.int .u64 v0) ∧ w'.cell? ⟨g1, q1, none⟩ = some (.int .u64 v1) ∧ w'.cell? ⟨g1, q2, none⟩ = some (.int .u64 v2)) (ds := [21]) #[false, false, false, false, false, false, false, false, false, false, false, false, false, false, false, false, false, false, false, false, false, false] (by kernel_rfl) rfl rfl ⟨c0, c1, c2⟩ (fun hHeld => ?_)
              refine with_tabW Chi.tab8 Chi.bits8 (fun HT_ HW_ => ?_)
              generalize wr.drew = wd at P1 P2 P3 B1 c0 c1 c2 hHeld ⊢
              refine pure_ (i := 0) (N := some 13) (v := ?_) (a' := ?_) #[true, false, false, false, false, false, false, false, false, false, false, false, false, false, false, false, false, false, false, false, false, false] rfl rfl (any_of HT_.out (by kernel_rfl)) (fun _ _ _ h => h) (Or.inl ⟨by rfl, ?_⟩) ?_ ?_
              rotate_left
              · intro w'
                go_simp
                with_reducible rfl
              rotate_left
              · simp only [Act.put, List.setIfInBounds_toArray, List.set_cons_zero, List.set_cons_succ, i64_w, i32_w]
                rfl
              refine pure_ (i := 1) (N := some 14) (v := ?_) (a' := ?_) #[true, true, false, false, false, false, false, false, false, false, false, false, false, false, false, false, false, false, false, false, false, false] rfl rfl (any_of HT_.out (by kernel_rfl)) (fun _ _ _ h => h) (Or.inl ⟨by rfl, ?_⟩) ?_ ?_
              rotate_left
              · intro w'
                go_simp
                with_reducible rfl
              rotate_left
              · simp only [Act.put, List.setIfInBounds_toArray, List.set_cons_zero, List.set_cons_succ, i64_w, i32_w]
                rfl
              refine pure_ (i := 5) (N := some 18) (v := ?_) (a' := ?_) #[true, true, false, false, false, true, false, false, false, false, false, false, false, false, false, false, false, false, false, false, false, false] rfl rfl (any_of HT_.out (by kernel_rfl)) (fun _ _ _ h => h) (Or.inl ⟨by rfl, ?_⟩) ?_ ?_
              rotate_left
              · intro w'
                go_simp
                with_reducible rfl
              rotate_left
              · simp only [Act.put, List.setIfInBounds_toArray, List.set_cons_zero, List.set_cons_succ, i64_w, i32_w]
                rfl
              refine pure_ (i := 6) (N := some 19) (v := ?_) (a' := ?_) #[true, true, false, false, false, true, true, false, false, false, false, false, false, false, false, false, false, false, false, false, false, false] rfl rfl (any_of HT_.out (by kernel_rfl)) (fun _ _ _ h => h) (Or.inl ⟨by rfl, ?_⟩) ?_ ?_
              rotate_left
              · intro w'
                go_simp
                with_reducible rfl
              rotate_left
              · simp only [Act.put, List.setIfInBounds_toArray, List.set_cons_zero, List.set_cons_succ, i64_w, i32_w]
                rfl
              refine pure_ (i := 7) (N := some 20) (v := ?_) (a' := ?_) #[true, true, false, false, false, true, true, true, false, false, false, false, false, false, false, false, false, false, false, false, false, false] rfl rfl (any_of HT_.out (by kernel_rfl)) (fun _ _ _ h => h) (Or.inl ⟨by rfl, ?_⟩) ?_ ?_
              rotate_left
              · intro w'
                go_simp
                with_reducible rfl
              rotate_left
              · simp only [Act.put, List.setIfInBounds_toArray, List.set_cons_zero, List.set_cons_succ, i64_w, i32_w]
                rfl
              refine pure_ (i := 12) (N := some 25) (v := ?_) (a' := ?_) #[true, true, false, false, false, true, true, true, false, false, false, false, true, false, false, false, false, false, false, false, false, false] rfl rfl (any_of HT_.out (by kernel_rfl)) (fun _ _ _ h => h) (Or.inl ⟨by rfl, ?_⟩) ?_ ?_
              rotate_left
              · intro w'
                go_simp
                with_reducible rfl
              rotate_left
              · simp only [Act.put, List.setIfInBounds_toArray, List.set_cons_zero, List.set_cons_succ, i64_w, i32_w]
                rfl
              refine pure_ (i := 13) (N := some 26) (v := ?_) (a' := ?_) #[true, true, false, false, false, true, true, true, false, false, false, false, true, true, false, false, false, false, false, false, false, false] rfl rfl (any_of HT_.out (by kernel_rfl)) (fun _ _ _ h => h) (Or.inl ⟨by rfl, ?_⟩) ?_ ?_
              rotate_left
              · intro w'
                go_simp
                with_reducible rfl
              rotate_left
              · simp only [Act.put, List.setIfInBounds_toArray, List.set_cons_zero, List.set_cons_succ, i64_w, i32_w]
                rfl
              refine pure_ (i := 14) (N := some 27) (v := ?_) (a' := ?_) #[true, true, false, false, false, true, true, true, false, false, false, false, true, true, true, false, false, false, false, false, false, false] rfl rfl (any_of HT_.out (by kernel_rfl)) (fun _ _ _ h => h) (Or.inl ⟨by rfl, ?_⟩) ?_ ?_
              rotate_left
              · intro w'
                go_simp
                with_reducible rfl
              rotate_left
              · simp only [Act.put, List.setIfInBounds_toArray, List.set_cons_zero, List.set_cons_succ, i64_w, i32_w]
                rfl
              refine one_ (i := 2) (N := some 15) #[true, true, true, false, false, true, true, true, false, false, false, false, true, true, true, false, false, false, false, false, false, false] rfl rfl (one_of HT_.out (by kernel_rfl)) (by decide) (fun K hK => ?_)
              refine goes_ Tryd.func87 (by kernel_rfl) rfl #[.int .i64 (x : Int), .int .i64 (y : Int)] (by rfl) rfl rfl (by simp only [List.map_toArray, List.map_cons, List.map_nil]; rfl) ?_
              with_reducible refine (AT3.out _).mono ?_
              rintro e w3 ⟨rfl, hb⟩
              refine ⟨_, rfl, ?_⟩
              have P1a := Aside0.mk (P1.out.below hb)
              have P2a := Aside0.mk (P2.out.below hb)
              have P3a := Aside0.mk (P3.out.below hb)
              have B1a := Aside0.mk (below_step B1.out hb)
              have c0a := pw_cell_below hb c0
              have c1a := pw_cell_below hb c1
              have c2a := pw_cell_below hb c2
              clear hb c0 c1 c2
              refine hK.out _ _ ⟨c0a, c1a, c2a⟩ (fun hHeld => ?_)
              clear hK K
              refine norm_ (a' := ?_) ?_ ?_
              rotate_left
              · show Act.put _ (some 15) _ = _
                simp only [Act.put, List.setIfInBounds_toArray, List.set_cons_zero, List.set_cons_succ, i64_w, i32_w]
                rfl
              refine pure_ (i := 3) (N := some 16) (v := ?_) (a' := ?_) #[true, true, true, true, false, true, true, true, false, false, false, false, true, true, true, false, false, false, false, false, false, false] rfl rfl (any_of HT_.out (by kernel_rfl)) (fun _ _ _ h => h) (Or.inl ⟨by rfl, ?_⟩) ?_ ?_
              rotate_left
              · intro w'
                go_simp
                with_reducible rfl
              rotate_left
              · simp only [Act.put, List.setIfInBounds_toArray, List.set_cons_zero, List.set_cons_succ, i64_w, i32_w]
                rfl
              refine take_ (i := 4) (N := some 17) (v := ?_) (a' := ?_) #[true, true, true, true, true, true, true, true, false, false, false, false, true, true, true, false, false, false, false, false, false, false] rfl rfl (take_ofW HT_.out HW_.out (by kernel_rfl)) (fun _ _ _ h => h) (Or.inl ⟨by rfl, ?_⟩) hHeld ?_ ?_
              rotate_left
              · rintro w' ⟨s0, s1, s2⟩
                go_simp
                with_reducible rfl
              rotate_left
              · simp only [Act.put, List.setIfInBounds_toArray, List.set_cons_zero, List.set_cons_succ, i64_w, i32_w]
                rfl
              refine one_ (i := 8) (N := some 21) #[true, true, true, true, true, true, true, true, true, false, false, false, true, true, true, false, false, false, false, false, false, false] rfl rfl (one_of HT_.out (by kernel_rfl)) (by decide) (fun K hK => ?_)
              refine goes_ Tryd.func87 (by kernel_rfl) rfl #[.int .i64 (wrap64 ((x : Int) + 1)), .int .i64 (y : Int)] (by rfl) rfl rfl (by simp only [List.map_toArray, List.map_cons, List.map_nil]; rfl) ?_
              with_reducible refine (AT4.out _).mono ?_
              rintro e w4 ⟨rfl, hb⟩
              refine ⟨_, rfl, ?_⟩
              have P1b := Aside0.mk (P1a.out.below hb)
              have P2b := Aside0.mk (P2a.out.below hb)
              have P3b := Aside0.mk (P3a.out.below hb)
              have B1b := Aside0.mk (below_step B1a.out hb)
              have c0b := pw_cell_below hb c0a
              have c1b := pw_cell_below hb c1a
              have c2b := pw_cell_below hb c2a
              clear hb c0a c1a c2a
              refine hK.out _ _ ⟨c0b, c1b, c2b⟩ (fun hHeld => ?_)
              clear hK K
              refine norm_ (a' := ?_) ?_ ?_
              rotate_left
              · show Act.put _ (some 21) _ = _
                simp only [Act.put, List.setIfInBounds_toArray, List.set_cons_zero, List.set_cons_succ, i64_w, i32_w]
                rfl
              refine pure_ (i := 9) (N := some 22) (v := ?_) (a' := ?_) #[true, true, true, true, true, true, true, true, true, true, false, false, true, true, true, false, false, false, false, false, false, false] rfl rfl (any_of HT_.out (by kernel_rfl)) (fun _ _ _ h => h) (Or.inl ⟨by rfl, ?_⟩) ?_ ?_
              rotate_left
              · intro w'
                go_simp
                with_reducible rfl
              rotate_left
              · simp only [Act.put, List.setIfInBounds_toArray, List.set_cons_zero, List.set_cons_succ, i64_w, i32_w]
                rfl
              refine take_ (i := 10) (N := some 23) (v := ?_) (a' := ?_) #[true, true, true, true, true, true, true, true, true, true, true, false, true, true, true, false, false, false, false, false, false, false] rfl rfl (take_ofW HT_.out HW_.out (by kernel_rfl)) (fun _ _ _ h => h) (Or.inl ⟨by rfl, ?_⟩) hHeld ?_ ?_
              rotate_left
              · rintro w' ⟨s0, s1, s2⟩
                go_simp
                with_reducible rfl
              rotate_left
              · simp only [Act.put, List.setIfInBounds_toArray, List.set_cons_zero, List.set_cons_succ, i64_w, i32_w]
                rfl
              refine pure_ (i := 11) (N := some 24) (v := ?_) (a' := ?_) #[true, true, true, true, true, true, true, true, true, true, true, true, true, true, true, false, false, false, false, false, false, false] rfl rfl (any_of HT_.out (by kernel_rfl)) (fun _ _ _ h => h) (Or.inl ⟨by rfl, ?_⟩) ?_ ?_
              rotate_left
              · intro w'
                go_simp
                with_reducible rfl
              rotate_left
              · simp only [Act.put, List.setIfInBounds_toArray, List.set_cons_zero, List.set_cons_succ, i64_w, i32_w]
                rfl
              refine one_ (i := 15) (N := some 28) #[true, true, true, true, true, true, true, true, true, true, true, true, true, true, true, true, false, false, false, false, false, false] rfl rfl (one_of HT_.out (by kernel_rfl)) (by decide) (fun K hK => ?_)
              refine goes_ Tryd.func87 (by kernel_rfl) rfl #[.int .i64 (wrap64 ((x : Int) + 2)), .int .i64 (y : Int)] (by rfl) rfl rfl (by simp only [List.map_toArray, List.map_cons, List.map_nil]; rfl) ?_
              with_reducible refine (AT5.out _).mono ?_
              rintro e w5 ⟨rfl, hb⟩
              refine ⟨_, rfl, ?_⟩
              have P1c := Aside0.mk (P1b.out.below hb)
              have P2c := Aside0.mk (P2b.out.below hb)
              have P3c := Aside0.mk (P3b.out.below hb)
              have B1c := Aside0.mk (below_step B1b.out hb)
              have c0c := pw_cell_below hb c0b
              have c1c := pw_cell_below hb c1b
              have c2c := pw_cell_below hb c2b
              clear hb c0b c1b c2b
              have fz := P3c.out.frozen q
              refine hK.out _ _ ⟨c0c, c1c, c2c⟩ (fun hHeld => ?_)
              clear hK K
              refine norm_ (a' := ?_) ?_ ?_
              rotate_left
              · show Act.put _ (some 28) _ = _
                simp only [Act.put, List.setIfInBounds_toArray, List.set_cons_zero, List.set_cons_succ, i64_w, i32_w]
                rfl
              refine pure_ (i := 16) (N := some 29) (v := ?_) (a' := ?_) #[true, true, true, true, true, true, true, true, true, true, true, true, true, true, true, true, true, false, false, false, false, false] rfl rfl (any_of HT_.out (by kernel_rfl)) (fun _ _ _ h => h) (Or.inl ⟨by rfl, ?_⟩) ?_ ?_
              rotate_left
              · intro w'
                go_simp
                with_reducible rfl
              rotate_left
              · simp only [Act.put, List.setIfInBounds_toArray, List.set_cons_zero, List.set_cons_succ, i64_w, i32_w]
                rfl
              refine take_ (i := 17) (N := some 30) (v := ?_) (a' := ?_) #[true, true, true, true, true, true, true, true, true, true, true, true, true, true, true, true, true, true, false, false, false, false] rfl rfl (take_ofW HT_.out HW_.out (by kernel_rfl)) (fun _ _ _ h => h) (Or.inl ⟨by rfl, ?_⟩) hHeld ?_ ?_
              rotate_left
              · rintro w' ⟨s0, s1, s2⟩
                go_simp
                with_reducible rfl
              rotate_left
              · simp only [Act.put, List.setIfInBounds_toArray, List.set_cons_zero, List.set_cons_succ, i64_w, i32_w]
                rfl
              refine pure_ (i := 18) (N := some 31) (v := ?_) (a' := ?_) #[true, true, true, true, true, true, true, true, true, true, true, true, true, true, true, true, true, true, true, false, false, false] rfl rfl (any_of HT_.out (by kernel_rfl)) (fun _ _ _ h => h) (Or.inl ⟨by rfl, ?_⟩) ?_ ?_
              rotate_left
              · intro w'
                go_simp
                with_reducible rfl
              rotate_left
              · simp only [Act.put, List.setIfInBounds_toArray, List.set_cons_zero, List.set_cons_succ, i64_w, i32_w]
                rfl
              refine pure_ (i := 19) (N := some 32) (v := ?_) (a' := ?_) #[true, true, true, true, true, true, true, true, true, true, true, true, true, true, true, true, true, true, true, true, false, false] rfl rfl (any_of HT_.out (by kernel_rfl)) (fun _ _ _ h => h) (Or.inl ⟨by rfl, ?_⟩) ?_ ?_
              rotate_left
              · intro w'
                go_simp
                with_reducible rfl
              rotate_left
              · simp only [Act.put, List.setIfInBounds_toArray, List.set_cons_zero, List.set_cons_succ, i64_w, i32_w]
                rfl
              refine pure_ (i := 20) (N := some 33) (v := ?_) (a' := ?_) #[true, true, true, true, true, true, true, true, true, true, true, true, true, true, true, true, true, true, true, true, true, false] rfl rfl (any_of HT_.out (by kernel_rfl)) (fun _ _ _ h => h) (Or.inl ⟨by rfl, ?_⟩) ?_ ?_
              rotate_left
              · intro w'
                go_simp
                with_reducible rfl
              rotate_left
              · simp only [Act.put, List.setIfInBounds_toArray, List.set_cons_zero, List.set_cons_succ, i64_w, i32_w]
                rfl
              refine last_ (i := 21) (N := none) #[true, true, true, true, true, true, true, true, true, true, true, true, true, true, true, true, true, true, true, true, true, true] rfl rfl (one_of HT_.out (by kernel_rfl)) (by decide) (fun K hK => ?_)
              refine skip_ (w1 := ?_) (by rfl) rfl ?_ ?_
              rotate_left
              · go_simp
                rfl
              refine hK.out _ _ ?_
              clear hK K
              refine done_ (done_of HT_.out (by kernel_rfl)) ?_

              go_wp2
              go_roundg k2
              case measure => omega
              case rel => exact ⟨x + 1, (by
          have hw : wrap64 ((x : Int) + 1) = ((x + 1 : Nat) : Int) := by have := HCX.out; unfold wrap64; omega
          first | rfl | (rw [← hw]; rfl) | (simp [*]; done)), ⟨by have := HI.out; omega⟩, ⟨P1c.out.far GE.out.2.2.2.2.1 _ _⟩, ⟨P2c.out.far GE.out.2.2.2.2.2 _ _⟩, ⟨by rw [HN.out]; exact P3c.out.put q _⟩, ⟨below_set B1c.out GE.out.2.2.1⟩⟩
          · have z2 : decide ((x : Int) < 5) = false := decide_eq_false (by omega)
            have z2' : decide (x < 5) = false := decide_eq_false cx'
            obtain rfl : x = 5 := by have := HI.out; omega
            go_wp2
            go_roundg k1
            case measure => omega
            case rel => exact ⟨y + 1, (by
          have hw : wrap64 ((y : Int) + 1) = ((y + 1 : Nat) : Int) := by have := HCY.out; unfold wrap64; omega
          first | rfl | (rw [← hw]; rfl) | (simp [*]; done)), ⟨by have := HJ.out; omega⟩, P1, P2, P3, B1⟩
    · have z1 : decide ((y : Int) < 5) = false := decide_eq_false (by omega)
      have z1' : decide (y < 5) = false := decide_eq_false cy
      obtain rfl : y = 5 := by have := HJ.out; omega
      have LN := Aside0.mk (chS_len a HA.out 25)
      go_wp2_with (first | ((with_reducible refine gate_dst (N := 36) rfl ?_); refine wpList_load_row rfl 110 (.tmp 3) rfl g3 rfl 110 _ (0, 0) _ P3.out Tryd.underlying110 rfl (SZ.out _ LN.out) ?_) | ((with_reducible refine gate_store (t := 110) (p := 2) rfl ?_); refine wpList_store_row rfl 110 (.tmp 2) (.tmp 36) rfl g2 _ rfl rfl 110 _ P2.out (SZ.out _ LN.out) (by rw [U64_size, U64_size, LN.out]; rfl) (U64_ok _) ?_))
      have PR := P2.out.row (l := chS a 25)
      have BR := setRow_below B1.out GE.out.2.1 (U64 (chS a 25))
      refine bodyPost_ret (results_cell_row rfl _ _ g2 110 _ (0, 0) _ rfl PR Tryd.underlying110 rfl (SZ.out _ LN.out)) rfl ?_
      exact ⟨rfl, BR⟩
end

end Go.Proofs.YtkdfcgihgndnnaaDoor.PPK
end
section
namespace Go.Proofs.YtkdfcgihgndnnaaDoor.PPK
open Go.RowKit Go.Proofs.YtkdfcgihgndnnaaDoorW.PrintWords Go.Proofs.YtkdfcgihgndnnaaDoorW.PrintLast Go.Proofs.YtkdfcgihgndnnaaDoorW.PrintMore
attribute [local go_sem] max2_int min2_int max_two min_two max_three min_three max_four min_four
set_option linter.unusedVariables false
set_option linter.unusedSimpArgs false
section
def rc : List Int := [1, 32898, 9223372036854808714, 9223372039002292224, 32907, 2147483649, 9223372039002292353, 9223372036854808585, 138, 136, 2147516425, 2147483658, 2147516555, 9223372036854775947, 9223372036854808713, 9223372036854808579, 9223372036854808578, 9223372036854775936, 32778, 9223372039002259466, 9223372039002292353, 9223372036854808704, 2147483649, 9223372039002292232]
def iota (a : List Int) (r : Nat) : List Int := a.set 0 (xr (a.getD 0 0) (rc.getD r 0))
theorem theta_len (a : List Int) (ha : a.length = 25) : (theta a).length = 25 := thA_len _ _ ha 25
theorem rho_len (a : List Int) (ha : a.length = 25) : (rho a).length = 25 := (rhoS_ok a ha 24).1
theorem pi_len (a : List Int) : (pi_ a).length = 25 := piS_len a 25
theorem chi_len (a : List Int) (ha : a.length = 25) : (chi a).length = 25 := chS_len a ha 25
theorem iota_len (a : List Int) (r : Nat) (ha : a.length = 25) : (iota a r).length = 25 := List.length_set.trans ha
def round_ (a : List Int) (r : Nat) : List Int := iota (chi (pi_ (rho (theta a)))) r
theorem round_len (a : List Int) (r : Nat) : (round_ a r).length = 25 := iota_len _ _ (chi_len _ (pi_len _))
def perm (a : List Int) : Nat → List Int
  | 0 => a
  | i + 1 => round_ (perm a i) i
theorem perm_len (a : List Int) (ha : a.length = 25) : ∀ i, (perm a i).length = 25
  | 0 => ha
  | i + 1 => round_len _ _
def permute (a : List Int) : List Int := perm a 24
def Iota.T4 : Bool × List (List Nat × List Nat) := (true, [([], []), ([0], [0]), ([], []), ([2], [2]), ([3], [3]), ([1, 4], [1, 4]), ([0, 1, 2, 3, 4, 5], []), ([6, 5, 0, 1, 2, 3, 4, 5], [5, 6])])
def Iota.B4 : List Nat := [0, 1, 0, 4, 12, 31, 63, 127]
theorem Iota.tab4 : rtab .any (opsOf Tryd.f82 4) = Iota.T4 := by kernel_rfl
theorem Iota.bits4 : waitsOk Iota.T4.2 Iota.B4 = true := by kernel_rfl
set_option maxHeartbeats 8000000 in
set_option maxRecDepth 100000 in
theorem Iota.calls (a : List Int) (ha : a.length = 25) (r : Nat) (hr : r < 24) (w : World) : Calls Tryd.prog 82 #[.agg (U64 a), .int .i64 (r : Int)] w fun e w' => e = .returned (.agg (U64 (iota a r))) ∧ Below w.heap.size w w' := by
  have HA := Aside0.mk ha
  have SZ : Aside0 (∀ l : List Int, l.length = 25 → (Tryd.prog.info? 110).map (·.size) = some (U64 l).size) := ⟨fun l h => by rw [U64_size, h]; kernel_rfl⟩
  clear ha
  go_enter Tryd.func82, Tryd.ntmps82
  have d1 : decide ((r : Int) < 0) = false := decide_eq_false (by omega)
  have d2 : decide (23 < (r : Int)) = false := decide_eq_false (by omega)
  have d2' : decide (23 < r) = false := decide_eq_false (by omega)
  have i1 : ((r : Int) < 24) = True := eq_true (by omega)
  have i2 : (0 ≤ (r : Int)) = True := eq_true (by omega)
  go_upto_region 1 with (fail)
  obtain ⟨w0, hw0⟩ : ∃ w0, w0 = ((w.alloc (.cells (U64 a) 110)).alloc (.cells #[.int .u64 0, .int .u64 0, .int .u64 0, .int .u64 0, .int .u64 0, .int .u64 0, .int .u64 0, .int .u64 0, .int .u64 0, .int .u64 0, .int .u64 0, .int .u64 0, .int .u64 0, .int .u64 0, .int .u64 0, .int .u64 0, .int .u64 0, .int .u64 0, .int .u64 0, .int .u64 0, .int .u64 0, .int .u64 0, .int .u64 0, .int .u64 0, .int .u64 0] 110)) := ⟨_, rfl⟩
  rw [← hw0]
  obtain ⟨g1, hg1⟩ : ∃ g, g = w.heap.size := ⟨_, rfl⟩
  obtain ⟨g2, hg2⟩ : ∃ g, g = w.heap.size + 1 := ⟨_, rfl⟩
  have Q1 : Bk w0 g1 110 a := by rw [hw0, hg1]; exact blk_alloc (blk_new w (.cells (U64 a) 110)) _
  have Q2 : Bk w0 g2 110 (List.replicate 25 0) := by
    rw [hw0, hg2]
    exact (by have q := blk_new (w.alloc (.cells (U64 a) 110)) (.cells #[.int .u64 0, .int .u64 0, .int .u64 0, .int .u64 0, .int .u64 0, .int .u64 0, .int .u64 0, .int .u64 0, .int .u64 0, .int .u64 0, .int .u64 0, .int .u64 0, .int .u64 0, .int .u64 0, .int .u64 0, .int .u64 0, .int .u64 0, .int .u64 0, .int .u64 0, .int .u64 0, .int .u64 0, .int .u64 0, .int .u64 0, .int .u64 0, .int .u64 0] 110); rwa [show (w.alloc (.cells (U64 a) 110)).heap.size = w.heap.size + 1 from (by show (Array.push _ _).size = _; simp)] at q)
  have B0 : Aside0 (Below w.heap.size w w0) := ⟨by rw [hw0]; exact below_alloc (below_alloc (Below.refl _ _) _) _⟩
  have GE : Aside0 (w.heap.size ≤ g1 ∧ w.heap.size ≤ g2 ∧ g1 ≠ g2) := ⟨by omega⟩
  rw [← hg2, ← hg1]
  clear hg1 hg2 hw0
  have P1 := Aside0.mk Q1
  have P2 := Aside0.mk Q2
  clear Q1 Q2
  go_upto_region 4 with ((with_reducible refine gate_store (t := 132) (p := 5) rfl ?_); refine wpList_store_row rfl 132 (.tmp 5) (.tmp 13) rfl w0.heap.size (U64 rc) rfl rfl 132 _ (blk_new _ _) (by rw [U64_size]; kernel_rfl) rfl (U64_ok _) ?_)
  obtain ⟨g3, hg3⟩ : ∃ g, g = w0.heap.size := ⟨_, rfl⟩
  rw [← hg3]
  have hlt1 : g1 < w0.heap.size := blk_lt P1.out
  have hlt2 : g2 < w0.heap.size := blk_lt P2.out
  have GE : Aside0 (w.heap.size ≤ g1 ∧ w.heap.size ≤ g2 ∧ w.heap.size ≤ g3 ∧ g1 ≠ g2 ∧ g1 ≠ g3 ∧ g2 ≠ g3) := ⟨by have := GE.out; have := B0.out.size; omega⟩
  obtain ⟨w1, hw1⟩ : ∃ w1, w1 = ((w0.alloc (.cells #[.int .u64 0, .int .u64 0, .int .u64 0, .int .u64 0, .int .u64 0, .int .u64 0, .int .u64 0, .int .u64 0, .int .u64 0, .int .u64 0, .int .u64 0, .int .u64 0, .int .u64 0, .int .u64 0, .int .u64 0, .int .u64 0, .int .u64 0, .int .u64 0, .int .u64 0, .int .u64 0, .int .u64 0, .int .u64 0, .int .u64 0, .int .u64 0] 132)).setRow g3 (U64 rc)) := ⟨_, rfl⟩
  rw [← hw1]
  have R1 : Aside0 (Bk w1 g1 110 a) := ⟨by rw [hw1]; exact Bk.rowFar (blk_alloc P1.out _) GE.out.2.2.2.2.1 _⟩
  have R2 : Aside0 (Bk w1 g2 110 (List.replicate 25 0)) := ⟨by rw [hw1]; exact Bk.rowFar (blk_alloc P2.out _) GE.out.2.2.2.2.2 _⟩
  have R3 : Bk w1 g3 132 rc := by rw [hw1]; exact Bk.row (old := List.replicate 24 0) (by rw [hg3]; exact blk_new _ _)
  have RB : Aside0 (Below w.heap.size w w1) := ⟨by rw [hw1]; exact setRow_below (below_alloc B0.out _) GE.out.2.2.1 _⟩
  have c0 := R1.out.cell 0 (by rw [HA.out]; decide)
  have c1 := R3.cell r (by exact hr)
  have fz := R1.out.frozen 0
  obtain ⟨v0, hv0⟩ : ∃ v, v = a.getD 0 0 := ⟨_, rfl⟩
  obtain ⟨v1, hv1⟩ : ∃ v, v = rc.getD r 0 := ⟨_, rfl⟩
  rw [← hv0] at c0
  rw [← hv1] at c1
  have HN : Aside0 (iota a r = a.set 0 (xr v0 v1)) := ⟨by rw [iota, ← hv0, ← hv1]⟩
  clear hw1 hg3 hlt1 hlt2 P1 P2 B0 R3 hv0 hv1
  clear w0
  generalize hwr : w1 = wr at *
  clear hwr
  have P1 : Aside0 (Bk wr.drew g1 110 a) := ⟨R1.out⟩
  have P2 : Aside0 (Bk wr.drew g2 110 (List.replicate 25 0)) := ⟨R2.out⟩
  have B1 : Aside0 (Below w.heap.size w wr.drew) := ⟨below_drew1 RB.out⟩
  replace c0 : wr.drew.cell? ⟨g1, 0, none⟩ = some (.int .u64 v0) := c0
  replace c1 : wr.drew.cell? ⟨g3, r, none⟩ = some (.int .u64 v1) := c1
  replace fz : wr.drew.frozen? ⟨g1, 0, none⟩ = false := fz
  refine start_ (n := 8) (S := fun w' => w'.cell? ⟨g1, 0, none⟩ = some (.int .u64 v0) ∧ w'.cell? ⟨g3, r, none⟩ = some (.int .u64 v1)) (ds := [7]) #[false, false, false, false, false, false, false, false] (by kernel_rfl) rfl rfl ⟨c0, c1⟩ (fun hHeld => ?_)
  refine with_tabW Iota.tab4 Iota.bits4 (fun HT_ HW_ => ?_)
  generalize wr.drew = wd at P1 P2 B1 c0 c1 fz hHeld ⊢
  refine pure_ (i := 0) (N := some 14) (v := ?_) (a' := ?_) #[true, false, false, false, false, false, false, false] rfl rfl (any_of HT_.out (by kernel_rfl)) (fun _ _ _ h => h) (Or.inl ⟨by rfl, ?_⟩) ?_ ?_
  rotate_left
  · intro w'
    go_simp
    with_reducible rfl
  rotate_left
  · simp only [Act.put, List.setIfInBounds_toArray, List.set_cons_zero, List.set_cons_succ, i64_w, i32_w]
    rfl
  refine pure_ (i := 2) (N := some 16) (v := ?_) (a' := ?_) #[true, false, true, false, false, false, false, false] rfl rfl (any_of HT_.out (by kernel_rfl)) (fun _ _ _ h => h) (Or.inl ⟨by rfl, ?_⟩) ?_ ?_
  rotate_left
  · intro w'
    go_simp
    with_reducible rfl
  rotate_left
  · simp only [Act.put, List.setIfInBounds_toArray, List.set_cons_zero, List.set_cons_succ, i64_w, i32_w]
    rfl
  refine pure_ (i := 3) (N := some 17) (v := ?_) (a' := ?_) #[true, false, true, true, false, false, false, false] rfl rfl (any_of HT_.out (by kernel_rfl)) (fun _ _ _ h => h) (Or.inl ⟨by rfl, ?_⟩) ?_ ?_
  rotate_left
  · intro w'
    go_simp
    with_reducible rfl
  rotate_left
  · simp only [Act.put, List.setIfInBounds_toArray, List.set_cons_zero, List.set_cons_succ, i64_w, i32_w]
    rfl
  refine take_ (i := 1) (N := some 15) (v := ?_) (a' := ?_) #[true, true, true, true, false, false, false, false] rfl rfl (take_ofW HT_.out HW_.out (by kernel_rfl)) (fun _ _ _ h => h) (Or.inl ⟨by rfl, ?_⟩) hHeld ?_ ?_
  rotate_left
  · rintro w' ⟨s0, s1⟩
    go_simp
    with_reducible rfl
  rotate_left
  · simp only [Act.put, List.setIfInBounds_toArray, List.set_cons_zero, List.set_cons_succ, i64_w, i32_w]
    rfl
  refine take_ (i := 4) (N := some 18) (v := ?_) (a' := ?_) #[true, true, true, true, true, false, false, false] rfl rfl (take_ofW HT_.out HW_.out (by kernel_rfl)) (fun _ _ _ h => h) (Or.inl ⟨by rfl, ?_⟩) hHeld ?_ ?_
  rotate_left
  · rintro w' ⟨s0, s1⟩
    go_simp
    with_reducible rfl
  rotate_left
  · simp only [Act.put, List.setIfInBounds_toArray, List.set_cons_zero, List.set_cons_succ, i64_w, i32_w]
    rfl
  refine pure_ (i := 5) (N := some 19) (v := ?_) (a' := ?_) #[true, true, true, true, true, true, false, false] rfl rfl (any_of HT_.out (by kernel_rfl)) (fun _ _ _ h => h) (Or.inl ⟨by rfl, ?_⟩) ?_ ?_
  rotate_left
  · intro w'
    go_simp
    with_reducible rfl
  rotate_left
  · simp only [Act.put, List.setIfInBounds_toArray, List.set_cons_zero, List.set_cons_succ, i64_w, i32_w]
    rfl
  refine pure_ (i := 6) (N := some 20) (v := ?_) (a' := ?_) #[true, true, true, true, true, true, true, false] rfl rfl (any_of HT_.out (by kernel_rfl)) (fun _ _ _ h => h) (Or.inl ⟨by rfl, ?_⟩) ?_ ?_
  rotate_left
  · intro w'
    go_simp
    with_reducible rfl
  rotate_left
  · simp only [Act.put, List.setIfInBounds_toArray, List.set_cons_zero, List.set_cons_succ, i64_w, i32_w]
    rfl
  refine last_ (i := 7) (N := none) #[true, true, true, true, true, true, true, true] rfl rfl (one_of HT_.out (by kernel_rfl)) (by decide) (fun K hK => ?_)
  refine skip_ (w1 := ?_) (by rfl) rfl ?_ ?_
  rotate_left
  · go_simp
    rfl
  refine hK.out _ _ ?_
  clear hK K
  refine done_ (done_of HT_.out (by kernel_rfl)) ?_

  have LN := Aside0.mk (iota_len a r HA.out)
  have T1 : Aside0 (Bk (wd.setCell ⟨g1, 0, none⟩ (.int .u64 (xr v0 v1))) g1 110 (iota a r)) := ⟨by rw [HN.out]; exact P1.out.put 0 _⟩
  have T2 : Aside0 (Bk (wd.setCell ⟨g1, 0, none⟩ (.int .u64 (xr v0 v1))) g2 110 (List.replicate 25 0)) := ⟨P2.out.far (Ne.symm GE.out.2.2.2.1) _ _⟩
  have TB : Aside0 (Below w.heap.size w (wd.setCell ⟨g1, 0, none⟩ (.int .u64 (xr v0 v1)))) := ⟨below_set B1.out GE.out.1⟩
  go_wp2_with (first | ((with_reducible refine gate_dst (N := 21) rfl ?_); refine wpList_load_row rfl 110 (.tmp 2) rfl g1 rfl 110 _ (0, 0) _ T1.out Tryd.underlying110 rfl (SZ.out _ LN.out) ?_) | ((with_reducible refine gate_store (t := 110) (p := 4) rfl ?_); refine wpList_store_row rfl 110 (.tmp 4) (.tmp 21) rfl g2 _ rfl rfl 110 _ T2.out (SZ.out _ LN.out) (by rw [U64_size, U64_size, LN.out]; rfl) (U64_ok _) ?_))
  have PR := T2.out.row (l := iota a r)
  have BR := setRow_below TB.out GE.out.2.1 (U64 (iota a r))
  refine bodyPost_ret (results_cell_row rfl _ _ g2 110 _ (0, 0) _ rfl PR Tryd.underlying110 rfl (SZ.out _ LN.out)) rfl ?_
  exact ⟨rfl, BR⟩
set_option maxHeartbeats 8000000 in
set_option maxRecDepth 100000 in
theorem Round.calls (a : List Int) (ha : a.length = 25) (r : Nat) (hr : r < 24) (w : World) : Calls Tryd.prog 81 #[.agg (U64 a), .int .i64 (r : Int)] w fun e w' => e = .returned (.agg (U64 (round_ a r))) ∧ Below w.heap.size w w' := by
  have HA := Aside0.mk ha
  have SZ : Aside0 (∀ l : List Int, l.length = 25 → (Tryd.prog.info? 110).map (·.size) = some (U64 l).size) := ⟨fun l h => by rw [U64_size, h]; kernel_rfl⟩
  clear ha
  go_enter Tryd.func81, Tryd.ntmps81
  have HR := Aside0.mk hr
  clear hr
  go_upto_region 1 with (fail)
  obtain ⟨w0, hw0⟩ : ∃ w0, w0 = ((w.alloc (.cells (U64 a) 110)).alloc (.cells #[.int .u64 0, .int .u64 0, .int .u64 0, .int .u64 0, .int .u64 0, .int .u64 0, .int .u64 0, .int .u64 0, .int .u64 0, .int .u64 0, .int .u64 0, .int .u64 0, .int .u64 0, .int .u64 0, .int .u64 0, .int .u64 0, .int .u64 0, .int .u64 0, .int .u64 0, .int .u64 0, .int .u64 0, .int .u64 0, .int .u64 0, .int .u64 0, .int .u64 0] 110)) := ⟨_, rfl⟩
  rw [← hw0]
  obtain ⟨g1, hg1⟩ : ∃ g, g = w.heap.size := ⟨_, rfl⟩
  obtain ⟨g2, hg2⟩ : ∃ g, g = w.heap.size + 1 := ⟨_, rfl⟩
  have Q1 : Bk w0 g1 110 a := by rw [hw0, hg1]; exact blk_alloc (blk_new w (.cells (U64 a) 110)) _
  have Q2 : Bk w0 g2 110 (List.replicate 25 0) := by
    rw [hw0, hg2]
    exact (by have q := blk_new (w.alloc (.cells (U64 a) 110)) (.cells #[.int .u64 0, .int .u64 0, .int .u64 0, .int .u64 0, .int .u64 0, .int .u64 0, .int .u64 0, .int .u64 0, .int .u64 0, .int .u64 0, .int .u64 0, .int .u64 0, .int .u64 0, .int .u64 0, .int .u64 0, .int .u64 0, .int .u64 0, .int .u64 0, .int .u64 0, .int .u64 0, .int .u64 0, .int .u64 0, .int .u64 0, .int .u64 0, .int .u64 0] 110); rwa [show (w.alloc (.cells (U64 a) 110)).heap.size = w.heap.size + 1 from (by show (Array.push _ _).size = _; simp)] at q)
  have B0 : Aside0 (Below w.heap.size w w0) := ⟨by rw [hw0]; exact below_alloc (below_alloc (Below.refl _ _) _) _⟩
  have GE : Aside0 (w.heap.size ≤ g1 ∧ w.heap.size ≤ g2 ∧ g1 ≠ g2) := ⟨by omega⟩
  rw [← hg2, ← hg1]
  clear hg1 hg2 hw0
  have P1 := Aside0.mk Q1
  have P20 := Aside0.mk Q2
  clear Q1 Q2
  have L1 := Aside0.mk (theta_len a HA.out)
  have L2 := Aside0.mk (rho_len _ L1.out)
  have L3 := Aside0.mk (pi_len (rho (theta a)))
  have L4 := Aside0.mk (chi_len _ L3.out)
  have LN := Aside0.mk (round_len a r)
  go_wp2_with (first | ((with_reducible refine gate_store (t := 110) (p := 4) rfl ?_); refine wpList_store_row rfl 110 (.tmp 4) (.tmp 11) rfl g2 (U64 (round_ a r)) rfl rfl 110 _ P25.out (SZ.out _ LN.out) (by rw [U64_size, U64_size, LN.out]; rfl) (U64_ok _) ?_) | (go_at_call 82; (with_reducible refine (Iota.calls _ L4.out r HR.out _).mono ?_); rintro e w5 ⟨rfl, hb5⟩; have P25 := Aside0.mk (P24.out.below hb5); have B5 := Aside0.mk (below_step B4.out hb5); clear hb5) | (go_at_call 83; (with_reducible refine (Chi.calls _ L3.out _).mono ?_); rintro e w4 ⟨rfl, hb4⟩; have P24 := Aside0.mk (P23.out.below hb4); have B4 := Aside0.mk (below_step B3.out hb4); clear hb4) | (go_at_call 84; (with_reducible refine (Pi.calls _ L2.out _).mono ?_); rintro e w3 ⟨rfl, hb3⟩; have P23 := Aside0.mk (P22.out.below hb3); have B3 := Aside0.mk (below_step B2.out hb3); clear hb3) | (go_at_call 85; (with_reducible refine (Rho.calls _ L1.out _).mono ?_); rintro e w2 ⟨rfl, hb2⟩; have P22 := Aside0.mk (P21.out.below hb2); have B2 := Aside0.mk (below_step B1.out hb2); clear hb2) | (go_at_call 86; (with_reducible refine (Theta.calls a HA.out _).mono ?_); rintro e w1 ⟨rfl, hb1⟩; have P21 := Aside0.mk (P20.out.below hb1); have B1 := Aside0.mk (below_step B0.out hb1); clear hb1) | ((with_reducible refine gate_dst (N := 5) rfl ?_); refine wpList_load_row rfl 110 (.tmp 2) rfl g1 rfl 110 _ (0, 0) _ P1.out Tryd.underlying110 rfl (SZ.out _ HA.out) ?_))
  have PR := P25.out.row (l := round_ a r)
  have BR := setRow_below B5.out GE.out.2.1 (U64 (round_ a r))
  refine bodyPost_ret (results_cell_row rfl _ _ g2 110 _ (0, 0) _ rfl PR Tryd.underlying110 rfl (SZ.out _ LN.out)) rfl ?_
  exact ⟨rfl, BR⟩
set_option maxHeartbeats 8000000 in
set_option maxRecDepth 100000 in
theorem Permute.calls (a : List Int) (ha : a.length = 25) (w : World) : Calls Tryd.prog 80 #[.agg (U64 a)] w fun e w' => e = .returned (.agg (U64 (permute a))) ∧ Below w.heap.size w w' := by
  have HA := Aside0.mk ha
  have SZ : Aside0 (∀ l : List Int, l.length = 25 → (Tryd.prog.info? 110).map (·.size) = some (U64 l).size) := ⟨fun l h => by rw [U64_size, h]; kernel_rfl⟩
  clear ha
  go_enter Tryd.func80, Tryd.ntmps80
  go_upto_region 1 with (fail)
  obtain ⟨w0, hw0⟩ : ∃ w0, w0 = ((w.alloc (.cells (U64 a) 110)).alloc (.cells #[.int .u64 0, .int .u64 0, .int .u64 0, .int .u64 0, .int .u64 0, .int .u64 0, .int .u64 0, .int .u64 0, .int .u64 0, .int .u64 0, .int .u64 0, .int .u64 0, .int .u64 0, .int .u64 0, .int .u64 0, .int .u64 0, .int .u64 0, .int .u64 0, .int .u64 0, .int .u64 0, .int .u64 0, .int .u64 0, .int .u64 0, .int .u64 0, .int .u64 0] 110)) := ⟨_, rfl⟩
  rw [← hw0]
  obtain ⟨g1, hg1⟩ : ∃ g, g = w.heap.size := ⟨_, rfl⟩
  obtain ⟨g2, hg2⟩ : ∃ g, g = w.heap.size + 1 := ⟨_, rfl⟩
  have Q1 : Bk w0 g1 110 a := by rw [hw0, hg1]; exact blk_alloc (blk_new w (.cells (U64 a) 110)) _
  have Q2 : Bk w0 g2 110 (List.replicate 25 0) := by
    rw [hw0, hg2]
    exact (by have q := blk_new (w.alloc (.cells (U64 a) 110)) (.cells #[.int .u64 0, .int .u64 0, .int .u64 0, .int .u64 0, .int .u64 0, .int .u64 0, .int .u64 0, .int .u64 0, .int .u64 0, .int .u64 0, .int .u64 0, .int .u64 0, .int .u64 0, .int .u64 0, .int .u64 0, .int .u64 0, .int .u64 0, .int .u64 0, .int .u64 0, .int .u64 0, .int .u64 0, .int .u64 0, .int .u64 0, .int .u64 0, .int .u64 0] 110); rwa [show (w.alloc (.cells (U64 a) 110)).heap.size = w.heap.size + 1 from (by show (Array.push _ _).size = _; simp)] at q)
  have B0 : Aside0 (Below w.heap.size w w0) := ⟨by rw [hw0]; exact below_alloc (below_alloc (Below.refl _ _) _) _⟩
  have GE : Aside0 (w.heap.size ≤ g1 ∧ w.heap.size ≤ g2 ∧ g1 ≠ g2) := ⟨by omega⟩
  rw [← hg2, ← hg1]
  clear hg1 hg2 hw0
  have P1 := Aside0.mk Q1
  clear Q1
  go_wp2
  go_loopg [4] 24 (fun kq v4 w' => ∃ i : Nat, v4 = .int .i64 (i : Int) ∧ Aside0 (i + kq = 24) ∧ Aside0 (Bk w' g1 110 (perm a i)) ∧ Aside0 (Bk w' g2 110 (List.replicate 25 0)) ∧ Aside0 (Below w.heap.size w w'))
  case atStart => exact ⟨0, rfl, ⟨by omega⟩, P1, ⟨Q2⟩, B0⟩
  case round =>
    clear P1 Q2 B0
    obtain ⟨i, rfl, HJ, P1, P2, B1⟩ := hrel
    by_cases ci : i < 24
    · have z1 : decide ((i : Int) < 24) = true := decide_eq_true (by omega)
      have z1' : decide (i < 24) = true := decide_eq_true ci
      have HCI := Aside0.mk ci
      have LP := Aside0.mk (perm_len a HA.out i)
      have LQ := Aside0.mk (round_len (perm a i) i)
      cases gk with
      | zero => have := HJ.out; omega
      | succ k1 =>
        go_wp2_with (first | ((with_reducible refine gate_store (t := 110) (p := 1) rfl ?_); refine wpList_store_row rfl 110 (.tmp 1) (.tmp 9) rfl g1 (U64 (round_ (perm a i) i)) rfl rfl 110 _ P1b.out (SZ.out _ LQ.out) (by rw [U64_size, U64_size, LQ.out, LP.out]) (U64_ok _) ?_) | (go_at_call 81; (with_reducible refine (Round.calls _ LP.out i HCI.out _).mono ?_); rintro e w3 ⟨rfl, hb3⟩; have P1b := Aside0.mk (P1.out.below hb3); have P2b := Aside0.mk (P2.out.below hb3); have B1b := Aside0.mk (below_step B1.out hb3); clear hb3) | ((with_reducible refine gate_dst (N := 7) rfl ?_); refine wpList_load_row rfl 110 (.tmp 1) rfl g1 rfl 110 _ (0, 0) _ P1.out Tryd.underlying110 rfl (SZ.out _ LP.out) ?_))
        go_roundg k1
        case measure => omega
        case rel => exact ⟨i + 1, (by
          have hw : wrap64 ((i : Int) + 1) = ((i + 1 : Nat) : Int) := by have := HCI.out; unfold wrap64; omega
          first | rfl | (rw [← hw]; rfl) | (simp [*]; done)), ⟨by have := HJ.out; omega⟩, ⟨P1b.out.row⟩, ⟨Bk.rowFar P2b.out (Ne.symm GE.out.2.2) _⟩, ⟨setRow_below B1b.out GE.out.1 _⟩⟩
    · have z1 : decide ((i : Int) < 24) = false := decide_eq_false (by omega)
      have z1' : decide (i < 24) = false := decide_eq_false ci
      obtain rfl : i = 24 := by have := HJ.out; omega
      have LN := Aside0.mk (perm_len a HA.out 24)
      go_wp2_with (first | ((with_reducible refine gate_dst (N := 11) rfl ?_); refine wpList_load_row rfl 110 (.tmp 1) rfl g1 rfl 110 _ (0, 0) _ P1.out Tryd.underlying110 rfl (SZ.out _ LN.out) ?_) | ((with_reducible refine gate_store (t := 110) (p := 2) rfl ?_); refine wpList_store_row rfl 110 (.tmp 2) (.tmp 11) rfl g2 _ rfl rfl 110 _ P2.out (SZ.out _ LN.out) (by rw [U64_size, U64_size, LN.out]; rfl) (U64_ok _) ?_))
      have PR := P2.out.row (l := perm a 24)
      have BR := setRow_below B1.out GE.out.2.1 (U64 (perm a 24))
      refine bodyPost_ret (results_cell_row rfl _ _ g2 110 _ (0, 0) _ rfl PR Tryd.underlying110 rfl (SZ.out _ LN.out)) rfl ?_
      exact ⟨rfl, BR⟩
end

end Go.Proofs.YtkdfcgihgndnnaaDoor.PPK
end
section
namespace Go.Proofs.YtkdfcgihgndnnaaDoor.PPK
open Go.RowKit Go.Proofs.YtkdfcgihgndnnaaDoorW.PrintWords Go.Proofs.YtkdfcgihgndnnaaDoorW.PrintLast Go.Proofs.YtkdfcgihgndnnaaDoorW.PrintMore
attribute [local go_sem] max2_int min2_int max_two min_two max_three min_three max_four min_four
set_option linter.unusedVariables false
set_option linter.unusedSimpArgs false
section
/-- A block's cells, as a list. -/
def Ls (w : World) (g T : Nat) (l : List Value) : Prop := ∃ cs, w.heap[g]? = some (.cells cs T (0, 0)) ∧ cs.toList = l
theorem Ls.cell {w : World} {g T : Nat} {l : List Value} (h : Ls w g T l) (i : Nat) : w.cell? ⟨g, i, none⟩ = l[i]? := by
  obtain ⟨cs, h1, rfl⟩ := h
  rw [blk_cell h1 i, Array.getElem?_toList]
theorem Ls.frozen {w : World} {g T : Nat} {l : List Value} (h : Ls w g T l) (i : Nat) : w.frozen? ⟨g, i, none⟩ = false := by
  obtain ⟨cs, h1, _⟩ := h
  exact blk_frozen h1 i
theorem Ls.put {w : World} {g T : Nat} {l : List Value} (h : Ls w g T l) (i : Nat) (v : Value) : Ls (w.setCell ⟨g, i, none⟩ v) g T (l.set i v) := by
  obtain ⟨cs, h1, rfl⟩ := h
  exact ⟨_, blk_put h1 i v rfl, by simp⟩
theorem Ls.far {w : World} {g T : Nat} {l : List Value} (h : Ls w g T l) {w' : World} (hf : w'.heap[g]? = w.heap[g]?) : Ls w' g T l := by
  obtain ⟨cs, h1, h2⟩ := h
  exact ⟨cs, hf.trans h1, h2⟩
theorem Ls.below {w w' : World} {g T : Nat} {l : List Value} (h : Ls w g T l) (hb : Below w.heap.size w w') : Ls w' g T l := by
  obtain ⟨cs, h1, h2⟩ := h
  exact ⟨cs, blk_below h1 hb, h2⟩
/-- All but block g stays. -/
structure Kb (g : Nat) (w w' : World) : Prop where
  size : w'.heap.size = w.heap.size
  far : ∀ k, k ≠ g → w'.heap[k]? = w.heap[k]?
  below : ∀ B w0, B ≤ g → Below B w0 w → Below B w0 w'
theorem Kb.refl (g : Nat) (w : World) : Kb g w w := ⟨rfl, fun _ _ => rfl, fun _ _ _ h => h⟩
theorem Kb.trans {g : Nat} {a b c : World} (h : Kb g a b) (k : Kb g b c) : Kb g a c := ⟨k.size.trans h.size, fun j hj => (k.far j hj).trans (h.far j hj), fun B w0 hB hb => k.below B w0 hB (h.below B w0 hB hb)⟩
theorem Kb.set (g i : Nat) (w : World) (v : Value) : Kb g w (w.setCell ⟨g, i, none⟩ v) := ⟨by simp, fun k hk => Below.heap_setCell w _ v k hk, fun B w0 hB hb => hb.setCell hB _⟩
theorem Kb.sets (g : Nat) : ∀ (vs : List Value) (o : Nat) (w : World), Kb g w (w.setCells g o vs)
  | [], o, w => Kb.refl g w
  | v :: r, o, w => (Kb.set g o w v).trans (Kb.sets g r (o + 1) _)
theorem Ls.sets {g T : Nat} : ∀ (vs : List Value) (o : Nat) (w : World) (l : List Value), Ls w g T l → o + vs.length ≤ l.length → Ls (w.setCells g o vs) g T (l.take o ++ vs ++ l.drop (o + vs.length))
  | [], o, w, l, h, _ => by
    have : l.take o ++ [] ++ l.drop (o + 0) = l := by rw [List.append_nil, Nat.add_zero, List.take_append_drop]
    rw [show ([] : List Value).length = 0 from rfl, this]
    exact h
  | v :: r, o, w, l, h, hl => by
    rw [List.length_cons] at hl
    have ih := Ls.sets r (o + 1) _ (l.set o v) (h.put o v) (by rw [List.length_set]; omega)
    have e1 : (l.set o v).take (o + 1) = l.take o ++ [v] := by
      rw [List.take_succ_eq_append_getElem (by rw [List.length_set]; omega), List.take_set_of_le (Nat.le_refl _)]
      simp
    have e2 : (l.set o v).drop (o + 1 + r.length) = l.drop (o + (v :: r).length) := by
      rw [List.drop_set_of_lt (by omega), List.length_cons, Nat.add_comm r.length 1, Nat.add_assoc]
    rw [e1, e2, List.append_assoc (l.take o)] at ih
    exact ih
/-- A sponge's cells. -/
def spl (ws : List Int) (rate suf at_ : Nat) (gives : Bool) : List Value := (ws.map fun x => Value.int .u64 x) ++ [.int .i64 (rate : Int), .int .u8 (suf : Int), .int .i64 (at_ : Int), .bool gives]
structure Sp (w : World) (g : Nat) (ws : List Int) (rate suf at_ : Nat) (gives : Bool) : Prop where
  ls : Ls w g 112 (spl ws rate suf at_ gives)
  len : ws.length = 25
theorem spl_at (ws : List Int) (rate suf at_ : Nat) (gives : Bool) (h : ws.length = 25) (j : Nat) : (spl ws rate suf at_ gives)[25 + j]? = [Value.int .i64 (rate : Int), .int .u8 (suf : Int), .int .i64 (at_ : Int), .bool gives][j]? := by
  unfold spl
  rw [List.getElem?_append_right (by rw [List.length_map]; omega), List.length_map, h, Nat.add_sub_cancel_left]
theorem spl_w (ws : List Int) (rate suf at_ : Nat) (gives : Bool) (h : ws.length = 25) (i : Nat) (hi : i < 25) : (spl ws rate suf at_ gives)[i]? = some (.int .u64 (ws.getD i 0)) := by
  unfold spl
  rw [List.getElem?_append_left (by rw [List.length_map]; omega), List.getElem?_map, List.getD_eq_getElem?_getD, List.getElem?_eq_getElem (by omega)]
  rfl
theorem Sp.word {w : World} {g : Nat} {ws : List Int} {rate suf at_ : Nat} {gives : Bool} (h : Sp w g ws rate suf at_ gives) (i : Nat) (hi : i < 25) : w.cell? ⟨g, i, none⟩ = some (.int .u64 (ws.getD i 0)) := (h.ls.cell i).trans (spl_w _ _ _ _ _ h.len i hi)
theorem Sp.rateC {w : World} {g : Nat} {ws : List Int} {rate suf at_ : Nat} {gives : Bool} (h : Sp w g ws rate suf at_ gives) : w.cell? ⟨g, 25, none⟩ = some (.int .i64 (rate : Int)) := (h.ls.cell 25).trans (spl_at _ _ _ _ _ h.len 0)
theorem Sp.sufC {w : World} {g : Nat} {ws : List Int} {rate suf at_ : Nat} {gives : Bool} (h : Sp w g ws rate suf at_ gives) : w.cell? ⟨g, 26, none⟩ = some (.int .u8 (suf : Int)) := (h.ls.cell 26).trans (spl_at _ _ _ _ _ h.len 1)
theorem Sp.atC {w : World} {g : Nat} {ws : List Int} {rate suf at_ : Nat} {gives : Bool} (h : Sp w g ws rate suf at_ gives) : w.cell? ⟨g, 27, none⟩ = some (.int .i64 (at_ : Int)) := (h.ls.cell 27).trans (spl_at _ _ _ _ _ h.len 2)
theorem Sp.givesC {w : World} {g : Nat} {ws : List Int} {rate suf at_ : Nat} {gives : Bool} (h : Sp w g ws rate suf at_ gives) : w.cell? ⟨g, 28, none⟩ = some (.bool gives) := (h.ls.cell 28).trans (spl_at _ _ _ _ _ h.len 3)
theorem Sp.putw {w : World} {g : Nat} {ws : List Int} {rate suf at_ : Nat} {gives : Bool} (h : Sp w g ws rate suf at_ gives) (i : Nat) (hi : i < 25) (x : Int) : Sp (w.setCell ⟨g, i, none⟩ (.int .u64 x)) g (ws.set i x) rate suf at_ gives := by
  refine ⟨?_, List.length_set.trans h.len⟩
  have := h.ls.put i (.int .u64 x)
  unfold spl at this ⊢
  rwa [List.set_append_left _ _ (by rw [List.length_map, h.len]; exact hi), ← List.map_set] at this
theorem Sp.putt {w : World} {g : Nat} {ws : List Int} {rate suf at_ : Nat} {gives : Bool} (h : Sp w g ws rate suf at_ gives) (j : Nat) (v : Value) : Ls (w.setCell ⟨g, 25 + j, none⟩ v) g 112 ((ws.map fun x => Value.int .u64 x) ++ [Value.int .i64 (rate : Int), .int .u8 (suf : Int), .int .i64 (at_ : Int), .bool gives].set j v) := by
  have := h.ls.put (25 + j) v
  unfold spl at this
  rwa [List.set_append_right _ _ (by rw [List.length_map, h.len]; omega), List.length_map, h.len, Nat.add_sub_cancel_left] at this
theorem Sp.puta {w : World} {g : Nat} {ws : List Int} {rate suf at_ : Nat} {gives : Bool} (h : Sp w g ws rate suf at_ gives) (n : Nat) : Sp (w.setCell ⟨g, 27, none⟩ (.int .i64 (n : Int))) g ws rate suf n gives := ⟨h.putt 2 _, h.len⟩
theorem Sp.putg {w : World} {g : Nat} {ws : List Int} {rate suf at_ : Nat} {gives : Bool} (h : Sp w g ws rate suf at_ gives) (b : Bool) : Sp (w.setCell ⟨g, 28, none⟩ (.bool b)) g ws rate suf at_ b := ⟨h.putt 3 _, h.len⟩
theorem Sp.range {w : World} {g : Nat} {ws : List Int} {rate suf at_ : Nat} {gives : Bool} (h : Sp w g ws rate suf at_ gives) : w.rangeAt g 0 (ws.map fun x => Value.int .u64 x) := by
  intro j v hv
  have hj : j < 25 := by
    rw [List.getElem?_eq_some_iff] at hv
    obtain ⟨h1, _⟩ := hv
    rw [List.length_map, h.len] at h1
    exact h1
  rw [Nat.zero_add, h.ls.cell j]
  unfold spl
  rw [List.getElem?_append_left (by rw [List.length_map, h.len]; exact hj)]
  exact hv
theorem Sp.there {w : World} {g : Nat} {ws : List Int} {rate suf at_ : Nat} {gives : Bool} (h : Sp w g ws rate suf at_ gives) : w.there g 0 25 := fun j hj => by
  rw [Nat.zero_add]
  exact ⟨by rw [h.word j hj]; rfl, h.ls.frozen j⟩
theorem Sp.sets {w : World} {g : Nat} {ws : List Int} {rate suf at_ : Nat} {gives : Bool} (h : Sp w g ws rate suf at_ gives) (us : List Int) (hu : us.length = 25) : Sp (w.setCells g 0 (U64 us).toList) g us rate suf at_ gives := by
  refine ⟨?_, hu⟩
  have hUl : (U64 us).toList = us.map fun x => Value.int .u64 x := by unfold U64; simp
  have := Ls.sets (U64 us).toList 0 w _ h.ls (by rw [hUl, List.length_map, hu]; unfold spl; rw [List.length_append, List.length_map, h.len]; simp)
  rw [List.take_zero, List.nil_append, hUl, List.length_map, hu, Nat.zero_add] at this
  unfold spl at this ⊢
  rwa [List.drop_append_of_le_length (by rw [List.length_map, h.len]; omega), List.drop_of_length_le (by rw [List.length_map, h.len]; omega), List.nil_append] at this
theorem Sp.below {w w' : World} {g : Nat} {ws : List Int} {rate suf at_ : Nat} {gives : Bool} (h : Sp w g ws rate suf at_ gives) (hb : Below w.heap.size w w') : Sp w' g ws rate suf at_ gives := ⟨h.ls.below hb, h.len⟩
theorem q8 (i : Nat) (h : i < 1000) : wrap64 (Int.tdiv (i : Int) 8) = ((i / 8 : Nat) : Int) := by
  rw [Int.tdiv_eq_ediv_of_nonneg (by omega)]
  unfold wrap64
  omega
theorem m8 (i : Nat) : Int.tmod (i : Int) 8 = ((i % 8 : Nat) : Int) := by
  rw [Int.tmod_eq_emod_of_nonneg (by omega)]
  omega
theorem q8' (i : Nat) (h : i < 1000) : wrap64 ((i : Int) / 8) = ((i / 8 : Nat) : Int) := by
  unfold wrap64
  omega
theorem m88 (m : Nat) (h : m < 8) : wrap64 (8 * (m : Int)) = ((8 * m : Nat) : Int) := by
  unfold wrap64
  omega
theorem run_shl64 (x : Int) (m : Nat) (w : World) : (Op.shift .shl .u64 x .i64 (m : Int)).run Tryd.prog w = .ok (.int .u64 (shl .u64 x (m : Int))) w := by
  have h0 : ¬ ((m : Int) < 0) := by omega
  simp [Op.shift, h0, shl, go_sem]
theorem run_shr64 (x : Int) (m : Nat) (w : World) : (Op.shift .shr .u64 x .i64 (m : Int)).run Tryd.prog w = .ok (.int .u64 (shr .u64 x (m : Int))) w := by
  have h0 : ¬ ((m : Int) < 0) := by omega
  simp [Op.shift, h0, shr, go_sem]
  exact Int.fdiv_eq_ediv_of_nonneg _ (Int.le_of_lt (Int.pow_pos (by decide)))
/-- A byte, moved to its place in a word. -/
def shb (b : Int) (m : Nat) : Int := shl .u64 (IntKind.u64.wrap b) ((8 * m : Nat) : Int)
def flipW (ws : List Int) (i : Nat) (b : Int) : List Int := ws.set (i / 8) (xr (ws.getD (i / 8) 0) (shb b (i % 8)))
theorem flip_len (ws : List Int) (i : Nat) (b : Int) (h : ws.length = 25) : (flipW ws i b).length = 25 := List.length_set.trans h
def Flip.T0 : Bool × List (List Nat × List Nat) := (true, [([], []), ([], []), ([1], [1]), ([0], [0]), ([3], [3]), ([4, 2], [2, 4]), ([5], [5]), ([], []), ([7], [7]), ([], []), ([9], [9]), ([10], [10]), ([8, 11], [8, 11]), ([6, 12], [6, 12]), ([0], [0]), ([14], [14]), ([15, 2, 0, 1, 2, 3, 4, 5, 6, 7, 8, 9, 10, 11, 12, 13], [2, 15]), ([16, 13, 0, 1, 2, 3, 4, 5, 6, 7, 8, 9, 10, 11, 12, 13], [13, 16])])
def Flip.B0 : List Nat := [0, 0, 2, 1, 9, 31, 63, 0, 128, 0, 512, 1536, 3968, 8191, 1, 16385, 65535, 131071]
theorem Flip.tab0 : rtab .any (opsOf Tryd.f74 0) = Flip.T0 := by kernel_rfl
theorem Flip.bits0 : waitsOk Flip.T0.2 Flip.B0 = true := by kernel_rfl
set_option maxHeartbeats 8000000 in
set_option maxRecDepth 100000 in
theorem Flip.calls (g : Nat) (ws : List Int) (rate suf at_ : Nat) (gives : Bool) (i : Nat) (hi : i < 200) (b : Int) (w : World) (h : Sp w g ws rate suf at_ gives) : Calls Tryd.prog 74 #[.pointer (some ⟨g, 0, none⟩), .int .i64 (i : Int), .int .u8 b] w fun e w' => e = .returned (.tuple #[]) ∧ Sp w' g (flipW ws i b) rate suf at_ gives ∧ Kb g w w' := by
  have HS := Aside0.mk h
  have e8 := q8' i (by omega)
  have e9 := q8 i (by omega)
  have em := m8 i
  obtain ⟨q, hq⟩ : ∃ q, q = i / 8 := ⟨_, rfl⟩
  obtain ⟨m, hm⟩ : ∃ m, m = i % 8 := ⟨_, rfl⟩
  have hq25 : q < 25 := by omega
  have hm8 : m < 8 := by omega
  have c0 := h.word q hq25
  obtain ⟨v, hv⟩ : ∃ v, v = ws.getD q 0 := ⟨_, rfl⟩
  rw [← hv] at c0
  have HN : Aside0 (flipW ws i b = ws.set q (xr v (shb b m))) := ⟨by rw [flipW, ← hq, ← hm, ← hv]⟩
  rw [← hq] at e8 e9
  rw [← hm] at em
  have fz := h.ls.frozen q
  have e8m := m88 m hm8
  obtain ⟨s, hs⟩ : ∃ s, s = 8 * m := ⟨_, rfl⟩
  rw [← hs] at e8m
  have SH : ∀ W, (Op.shift .shl .u64 (IntKind.u64.wrap b) .i64 (s : Int)).run Tryd.prog W = .ok (.int .u64 (shl .u64 (IntKind.u64.wrap b) (s : Int))) W := fun W => run_shl64 _ s W
  have HN : Aside0 (flipW ws i b = ws.set q (xr v (shl .u64 (IntKind.u64.wrap b) (s : Int)))) := ⟨by rw [HN.out, hs]; rfl⟩
  clear hs
  have HI := Aside0.mk hi
  clear h hq hm hv hi
  have i1 : ((q : Int) < 25) = True := eq_true (by omega)
  have i2 : (0 ≤ (q : Int)) = True := eq_true (by omega)
  have K1 : Aside0 (Kb g w w.drew) := ⟨rfl, fun _ _ => rfl, fun _ _ _ h => below_drew1 h⟩
  have S1 : Aside0 (Sp w.drew g ws rate suf at_ gives) := ⟨HS.out.below (below_drew (Below.refl _ _))⟩
  replace c0 : w.drew.cell? ⟨g, q, none⟩ = some (.int .u64 v) := c0
  replace fz : w.drew.frozen? ⟨g, q, none⟩ = false := fz
  go_enter Tryd.func74, Tryd.ntmps74
  refine start_ (n := 18) (S := fun w' => w'.cell? ⟨g, q, none⟩ = some (.int .u64 v)) (ds := [17]) #[false, false, false, false, false, false, false, false, false, false, false, false, false, false, false, false, false, false] (by kernel_rfl) rfl rfl (c0) (fun hHeld => ?_)
  refine with_tabW Flip.tab0 Flip.bits0 (fun HT_ HW_ => ?_)
  generalize w.drew = wd at S1 c0 fz K1 hHeld ⊢
  refine pure_ (i := 0) (N := some 6) (v := ?_) (a' := ?_) #[true, false, false, false, false, false, false, false, false, false, false, false, false, false, false, false, false, false] rfl rfl (any_of HT_.out (by kernel_rfl)) (fun _ _ _ h => h) (Or.inl ⟨by rfl, ?_⟩) ?_ ?_
  rotate_left
  · intro w'
    go_simp
    with_reducible rfl
  rotate_left
  · simp only [Act.put, List.setIfInBounds_toArray, List.set_cons_zero, List.set_cons_succ, i64_w, i32_w]
    rfl
  refine pure_ (i := 1) (N := some 7) (v := ?_) (a' := ?_) #[true, true, false, false, false, false, false, false, false, false, false, false, false, false, false, false, false, false] rfl rfl (any_of HT_.out (by kernel_rfl)) (fun _ _ _ h => h) (Or.inl ⟨by rfl, ?_⟩) ?_ ?_
  rotate_left
  · intro w'
    go_simp
    with_reducible rfl
  rotate_left
  · simp only [Act.put, List.setIfInBounds_toArray, List.set_cons_zero, List.set_cons_succ, i64_w, i32_w]
    rfl
  refine pure_ (i := 2) (N := some 8) (v := ?_) (a' := ?_) #[true, true, true, false, false, false, false, false, false, false, false, false, false, false, false, false, false, false] rfl rfl (any_of HT_.out (by kernel_rfl)) (fun _ _ _ h => h) (Or.inl ⟨by rfl, ?_⟩) ?_ ?_
  rotate_left
  · intro w'
    go_simp
    with_reducible rfl
  rotate_left
  · simp only [Act.put, List.setIfInBounds_toArray, List.set_cons_zero, List.set_cons_succ, i64_w, i32_w]
    rfl
  refine pure_ (i := 3) (N := some 9) (v := ?_) (a' := ?_) #[true, true, true, true, false, false, false, false, false, false, false, false, false, false, false, false, false, false] rfl rfl (any_of HT_.out (by kernel_rfl)) (fun _ _ _ h => h) (Or.inl ⟨by rfl, ?_⟩) ?_ ?_
  rotate_left
  · intro w'
    go_simp
    with_reducible rfl
  rotate_left
  · simp only [Act.put, List.setIfInBounds_toArray, List.set_cons_zero, List.set_cons_succ, i64_w, i32_w]
    rfl
  refine pure_ (i := 4) (N := some 10) (v := ?_) (a' := ?_) #[true, true, true, true, true, false, false, false, false, false, false, false, false, false, false, false, false, false] rfl rfl (any_of HT_.out (by kernel_rfl)) (fun _ _ _ h => h) (Or.inl ⟨by rfl, ?_⟩) ?_ ?_
  rotate_left
  · intro w'
    go_simp
    with_reducible rfl
  rotate_left
  · simp only [Act.put, List.setIfInBounds_toArray, List.set_cons_zero, List.set_cons_succ, i64_w, i32_w]
    rfl
  refine pure_ (i := 5) (N := some 11) (v := ?_) (a' := ?_) #[true, true, true, true, true, true, false, false, false, false, false, false, false, false, false, false, false, false] rfl rfl (any_of HT_.out (by kernel_rfl)) (fun _ _ _ h => h) (Or.inl ⟨by rfl, ?_⟩) ?_ ?_
  rotate_left
  · intro w'
    go_simp
    with_reducible rfl
  rotate_left
  · simp only [Act.put, List.setIfInBounds_toArray, List.set_cons_zero, List.set_cons_succ, i64_w, i32_w]
    rfl
  refine pure_ (i := 7) (N := some 13) (v := ?_) (a' := ?_) #[true, true, true, true, true, true, false, true, false, false, false, false, false, false, false, false, false, false] rfl rfl (any_of HT_.out (by kernel_rfl)) (fun _ _ _ h => h) (Or.inl ⟨by rfl, ?_⟩) ?_ ?_
  rotate_left
  · intro w'
    go_simp
    with_reducible rfl
  rotate_left
  · simp only [Act.put, List.setIfInBounds_toArray, List.set_cons_zero, List.set_cons_succ, i64_w, i32_w]
    rfl
  refine pure_ (i := 8) (N := some 14) (v := ?_) (a' := ?_) #[true, true, true, true, true, true, false, true, true, false, false, false, false, false, false, false, false, false] rfl rfl (any_of HT_.out (by kernel_rfl)) (fun _ _ _ h => h) (Or.inl ⟨by rfl, ?_⟩) ?_ ?_
  rotate_left
  · intro w'
    go_simp
    with_reducible rfl
  rotate_left
  · simp only [Act.put, List.setIfInBounds_toArray, List.set_cons_zero, List.set_cons_succ, i64_w, i32_w]
    rfl
  refine pure_ (i := 9) (N := some 15) (v := ?_) (a' := ?_) #[true, true, true, true, true, true, false, true, true, true, false, false, false, false, false, false, false, false] rfl rfl (any_of HT_.out (by kernel_rfl)) (fun _ _ _ h => h) (Or.inl ⟨by rfl, ?_⟩) ?_ ?_
  rotate_left
  · intro w'
    go_simp
    with_reducible rfl
  rotate_left
  · simp only [Act.put, List.setIfInBounds_toArray, List.set_cons_zero, List.set_cons_succ, i64_w, i32_w]
    rfl
  refine pure_ (i := 10) (N := some 16) (v := ?_) (a' := ?_) #[true, true, true, true, true, true, false, true, true, true, true, false, false, false, false, false, false, false] rfl rfl (any_of HT_.out (by kernel_rfl)) (fun _ _ _ h => h) (Or.inl ⟨by rfl, ?_⟩) ?_ ?_
  rotate_left
  · intro w'
    go_simp
    with_reducible rfl
  rotate_left
  · simp only [Act.put, List.setIfInBounds_toArray, List.set_cons_zero, List.set_cons_succ, i64_w, i32_w]
    rfl
  refine pure_ (i := 11) (N := some 17) (v := ?_) (a' := ?_) #[true, true, true, true, true, true, false, true, true, true, true, true, false, false, false, false, false, false] rfl rfl (any_of HT_.out (by kernel_rfl)) (fun _ _ _ h => h) (Or.inl ⟨by rfl, ?_⟩) ?_ ?_
  rotate_left
  · intro w'
    go_simp
    with_reducible rfl
  rotate_left
  · simp only [Act.put, List.setIfInBounds_toArray, List.set_cons_zero, List.set_cons_succ, i64_w, i32_w]
    rfl
  refine pure_ (i := 12) (N := some 18) (v := ?_) (a' := ?_) #[true, true, true, true, true, true, false, true, true, true, true, true, true, false, false, false, false, false] rfl rfl (any_of HT_.out (by kernel_rfl)) (fun _ _ _ h => h) (Or.inl ⟨by rfl, ?_⟩) ?_ ?_
  rotate_left
  · intro w'
    go_simp
    with_reducible rfl
  rotate_left
  · simp only [Act.put, List.setIfInBounds_toArray, List.set_cons_zero, List.set_cons_succ, i64_w, i32_w]
    rfl
  refine pure_ (i := 14) (N := some 20) (v := ?_) (a' := ?_) #[true, true, true, true, true, true, false, true, true, true, true, true, true, false, true, false, false, false] rfl rfl (any_of HT_.out (by kernel_rfl)) (fun _ _ _ h => h) (Or.inl ⟨by rfl, ?_⟩) ?_ ?_
  rotate_left
  · intro w'
    go_simp
    with_reducible rfl
  rotate_left
  · simp only [Act.put, List.setIfInBounds_toArray, List.set_cons_zero, List.set_cons_succ, i64_w, i32_w]
    rfl
  refine pure_ (i := 15) (N := some 21) (v := ?_) (a' := ?_) #[true, true, true, true, true, true, false, true, true, true, true, true, true, false, true, true, false, false] rfl rfl (any_of HT_.out (by kernel_rfl)) (fun _ _ _ h => h) (Or.inl ⟨by rfl, ?_⟩) ?_ ?_
  rotate_left
  · intro w'
    go_simp
    with_reducible rfl
  rotate_left
  · simp only [Act.put, List.setIfInBounds_toArray, List.set_cons_zero, List.set_cons_succ, i64_w, i32_w]
    rfl
  refine take_ (i := 6) (N := some 12) (v := ?_) (a' := ?_) #[true, true, true, true, true, true, true, true, true, true, true, true, true, false, true, true, false, false] rfl rfl (take_ofW HT_.out HW_.out (by kernel_rfl)) (fun _ _ _ h => h) (Or.inl ⟨by rfl, ?_⟩) hHeld ?_ ?_
  rotate_left
  · intro w' s0
    go_simp
    with_reducible rfl
  rotate_left
  · simp only [Act.put, List.setIfInBounds_toArray, List.set_cons_zero, List.set_cons_succ, i64_w, i32_w]
    rfl
  refine pure_ (i := 13) (N := some 19) (v := ?_) (a' := ?_) #[true, true, true, true, true, true, true, true, true, true, true, true, true, true, true, true, false, false] rfl rfl (any_of HT_.out (by kernel_rfl)) (fun _ _ _ h => h) (Or.inl ⟨by rfl, ?_⟩) ?_ ?_
  rotate_left
  · intro w'
    go_simp
    with_reducible rfl
  rotate_left
  · simp only [Act.put, List.setIfInBounds_toArray, List.set_cons_zero, List.set_cons_succ, i64_w, i32_w]
    rfl
  refine pure_ (i := 16) (N := some 22) (v := ?_) (a' := ?_) #[true, true, true, true, true, true, true, true, true, true, true, true, true, true, true, true, true, false] rfl rfl (any_of HT_.out (by kernel_rfl)) (fun _ _ _ h => h) (Or.inl ⟨by rfl, ?_⟩) ?_ ?_
  rotate_left
  · intro w'
    go_simp
    with_reducible rfl
  rotate_left
  · simp only [Act.put, List.setIfInBounds_toArray, List.set_cons_zero, List.set_cons_succ, i64_w, i32_w]
    rfl
  refine last_ (i := 17) (N := none) #[true, true, true, true, true, true, true, true, true, true, true, true, true, true, true, true, true, true] rfl rfl (one_of HT_.out (by kernel_rfl)) (by decide) (fun K hK => ?_)
  refine skip_ (w1 := ?_) (by rfl) rfl ?_ ?_
  rotate_left
  · go_simp
    rfl
  refine hK.out _ _ ?_
  clear hK K
  refine done_ (done_of HT_.out (by kernel_rfl)) ?_

  go_wp2
  go_end0
  exact ⟨rfl, by rw [HN.out]; exact S1.out.putw q hq25 _, K1.out.trans (Kb.set g q _ _)⟩
def Turn.T0 : Bool × List (List Nat × List Nat) := (true, [([], []), ([0], [0]), ([1], [1]), ([2], [2]), ([], []), ([4], [4]), ([5], [5]), ([6], [6]), ([3, 7], [3, 7])])
def Turn.B0 : List Nat := [0, 1, 3, 7, 0, 16, 48, 112, 255]
theorem Turn.tab0 : rtab .any (opsOf Tryd.f75 0) = Turn.T0 := by kernel_rfl
theorem Turn.bits0 : waitsOk Turn.T0.2 Turn.B0 = true := by kernel_rfl
def turnW (rate : Nat) (ws : List Int) (at_ : Nat) : List Int × Nat := if at_ = rate then (permute ws, 0) else (ws, at_)
structure Kc (g : Nat) (w w' : World) : Prop where
  size : w.heap.size ≤ w'.heap.size
  far : ∀ k, k < w.heap.size → k ≠ g → w'.heap[k]? = w.heap[k]?
  below : ∀ w0 : World, w0.heap.size ≤ g → Below w0.heap.size w0 w → Below w0.heap.size w0 w'
theorem Kc.of {g : Nat} {w w' : World} (h : Kb g w w') : Kc g w w' := ⟨Nat.le_of_eq h.size.symm, fun k _ hk => h.far k hk, fun w0 hB hb => h.below _ w0 hB hb⟩
theorem Kc.ofB {g : Nat} {w w' : World} (h : Below w.heap.size w w') : Kc g w w' := ⟨h.size, fun k hk _ => h.block k hk, fun w0 _ hb => below_step hb h⟩
theorem Kc.trans {g : Nat} {a b c : World} (h : Kc g a b) (k : Kc g b c) : Kc g a c := ⟨Nat.le_trans h.size k.size, fun j hj hn => (k.far j (Nat.lt_of_lt_of_le hj h.size) hn).trans (h.far j hj hn), fun w0 hB hb => k.below w0 hB (h.below w0 hB hb)⟩
theorem Kc.refl (g : Nat) (w : World) : Kc g w w := Kc.of (Kb.refl g w)
set_option maxHeartbeats 8000000 in
set_option maxRecDepth 100000 in
theorem Turn.calls (g : Nat) (ws : List Int) (rate suf at_ : Nat) (gives : Bool) (w : World) (h : Sp w g ws rate suf at_ gives) : Calls Tryd.prog 75 #[.pointer (some ⟨g, 0, none⟩)] w fun e w' => e = .returned (.tuple #[]) ∧ Sp w' g (turnW rate ws at_).1 rate suf (turnW rate ws at_).2 gives ∧ Kc g w w' := by
  have c0 := h.atC
  have c1 := h.rateC
  have K1 : Aside0 (Kb g w w.drew) := ⟨rfl, fun _ _ => rfl, fun _ _ _ h => below_drew1 h⟩
  have S1 : Aside0 (Sp w.drew g ws rate suf at_ gives) := ⟨h.below (below_drew (Below.refl _ _))⟩
  clear h
  replace c0 : w.drew.cell? ⟨g, 27, none⟩ = some (.int .i64 (at_ : Int)) := c0
  replace c1 : w.drew.cell? ⟨g, 25, none⟩ = some (.int .i64 (rate : Int)) := c1
  have z0 := S1.out.ls.frozen 27
  go_enter Tryd.func75, Tryd.ntmps75
  go_wp2
  refine start_ (n := 9) (S := fun w' => w'.cell? ⟨g, 27, none⟩ = some (.int .i64 (at_ : Int)) ∧ w'.cell? ⟨g, 25, none⟩ = some (.int .i64 (rate : Int))) (ds := []) #[false, false, false, false, false, false, false, false, false] (by kernel_rfl) rfl rfl ⟨c0, c1⟩ (fun hHeld => ?_)
  refine with_tabW Turn.tab0 Turn.bits0 (fun HT_ HW_ => ?_)
  generalize w.drew = wd at S1 c0 c1 z0 K1 hHeld ⊢
  refine pure_ (i := 0) (N := some 2) (v := ?_) (a' := ?_) #[true, false, false, false, false, false, false, false, false] rfl rfl (any_of HT_.out (by kernel_rfl)) (fun _ _ _ h => h) (Or.inl ⟨by rfl, ?_⟩) ?_ ?_
  rotate_left
  · intro w'
    go_simp
    with_reducible rfl
  rotate_left
  · simp only [Act.put, List.setIfInBounds_toArray, List.set_cons_zero, List.set_cons_succ, i64_w, i32_w]
    rfl
  refine pure_ (i := 1) (N := some 3) (v := ?_) (a' := ?_) #[true, true, false, false, false, false, false, false, false] rfl rfl (any_of HT_.out (by kernel_rfl)) (fun _ _ _ h => h) (Or.inl ⟨by rfl, ?_⟩) ?_ ?_
  rotate_left
  · intro w'
    go_simp
    with_reducible rfl
  rotate_left
  · simp only [Act.put, List.setIfInBounds_toArray, List.set_cons_zero, List.set_cons_succ, i64_w, i32_w]
    rfl
  refine pure_ (i := 2) (N := some 4) (v := ?_) (a' := ?_) #[true, true, true, false, false, false, false, false, false] rfl rfl (any_of HT_.out (by kernel_rfl)) (fun _ _ _ h => h) (Or.inl ⟨by rfl, ?_⟩) ?_ ?_
  rotate_left
  · intro w'
    go_simp
    with_reducible rfl
  rotate_left
  · simp only [Act.put, List.setIfInBounds_toArray, List.set_cons_zero, List.set_cons_succ, i64_w, i32_w]
    rfl
  refine pure_ (i := 4) (N := some 6) (v := ?_) (a' := ?_) #[true, true, true, false, true, false, false, false, false] rfl rfl (any_of HT_.out (by kernel_rfl)) (fun _ _ _ h => h) (Or.inl ⟨by rfl, ?_⟩) ?_ ?_
  rotate_left
  · intro w'
    go_simp
    with_reducible rfl
  rotate_left
  · simp only [Act.put, List.setIfInBounds_toArray, List.set_cons_zero, List.set_cons_succ, i64_w, i32_w]
    rfl
  refine pure_ (i := 5) (N := some 7) (v := ?_) (a' := ?_) #[true, true, true, false, true, true, false, false, false] rfl rfl (any_of HT_.out (by kernel_rfl)) (fun _ _ _ h => h) (Or.inl ⟨by rfl, ?_⟩) ?_ ?_
  rotate_left
  · intro w'
    go_simp
    with_reducible rfl
  rotate_left
  · simp only [Act.put, List.setIfInBounds_toArray, List.set_cons_zero, List.set_cons_succ, i64_w, i32_w]
    rfl
  refine pure_ (i := 6) (N := some 8) (v := ?_) (a' := ?_) #[true, true, true, false, true, true, true, false, false] rfl rfl (any_of HT_.out (by kernel_rfl)) (fun _ _ _ h => h) (Or.inl ⟨by rfl, ?_⟩) ?_ ?_
  rotate_left
  · intro w'
    go_simp
    with_reducible rfl
  rotate_left
  · simp only [Act.put, List.setIfInBounds_toArray, List.set_cons_zero, List.set_cons_succ, i64_w, i32_w]
    rfl
  refine take_ (i := 3) (N := some 5) (v := ?_) (a' := ?_) #[true, true, true, true, true, true, true, false, false] rfl rfl (take_ofW HT_.out HW_.out (by kernel_rfl)) (fun _ _ _ h => h) (Or.inl ⟨by rfl, ?_⟩) hHeld ?_ ?_
  rotate_left
  · rintro w' ⟨s0, s1⟩
    go_simp
    with_reducible rfl
  rotate_left
  · simp only [Act.put, List.setIfInBounds_toArray, List.set_cons_zero, List.set_cons_succ, i64_w, i32_w]
    rfl
  refine take_ (i := 7) (N := some 9) (v := ?_) (a' := ?_) #[true, true, true, true, true, true, true, true, false] rfl rfl (take_ofW HT_.out HW_.out (by kernel_rfl)) (fun _ _ _ h => h) (Or.inl ⟨by rfl, ?_⟩) hHeld ?_ ?_
  rotate_left
  · rintro w' ⟨s0, s1⟩
    go_simp
    with_reducible rfl
  rotate_left
  · simp only [Act.put, List.setIfInBounds_toArray, List.set_cons_zero, List.set_cons_succ, i64_w, i32_w]
    rfl
  refine pure_ (i := 8) (N := some 10) (v := ?_) (a' := ?_) #[true, true, true, true, true, true, true, true, true] rfl rfl (any_of HT_.out (by kernel_rfl)) (fun _ _ _ h => h) (Or.inl ⟨by rfl, ?_⟩) ?_ ?_
  rotate_left
  · intro w'
    go_simp
    with_reducible rfl
  rotate_left
  · simp only [Act.put, List.setIfInBounds_toArray, List.set_cons_zero, List.set_cons_succ, i64_w, i32_w]
    rfl
  refine done_ (done_of HT_.out (by kernel_rfl)) ?_

  by_cases c : at_ = rate
  · subst c
    have e1 : ((at_ : Int) == (at_ : Int)) = true := beq_self_eq_true _
    obtain ⟨ps, hps⟩ : ∃ ps, ps = permute ws := ⟨_, rfl⟩
    have LN : Aside0 (ps.length = 25) := ⟨by rw [hps]; exact perm_len ws S1.out.len 24⟩
    have SZ : Aside0 (∀ l : List Int, l.length = 25 → (Tryd.prog.info? 110).map (·.size) = some (U64 l).size) := ⟨fun l h => by rw [U64_size, h]; kernel_rfl⟩
    have SZ' : Aside0 ((Tryd.prog.info? 110).map (·.size) = some (ws.map fun x => Value.int .u64 x).length) := ⟨by rw [List.length_map, S1.out.len]; kernel_rfl⟩
    have HT : Aside0 ((turnW at_ ws at_) = (ps, 0)) := ⟨by rw [hps]; exact if_pos rfl⟩
    have PM : Aside0 (∀ w', Calls Tryd.prog 80 #[.agg (List.map (fun x => Value.int .u64 x) ws).toArray] w' fun e w'' => e = .returned (.agg (U64 ps)) ∧ Below w'.heap.size w' w'') := ⟨fun w' => by rw [hps]; exact Permute.calls ws S1.out.len w'⟩
    clear hps
    clear c0 c1
    go_wp2_with (first | ((with_reducible refine gate_dst (N := 16) rfl ?_); refine wpList_load_mid rfl 110 (.tmp 15) rfl g 0 rfl _ _ S1.out.range Tryd.underlying110 rfl SZ'.out ?_) | ((with_reducible refine gate_store (t := 110) (p := 19) rfl ?_); refine wpList_store_mid rfl 110 (.tmp 19) (.tmp 17) rfl g 0 (U64 ps) rfl rfl (by rw [U64_size, LN.out]; exact S3.out.there) (SZ.out _ LN.out) (U64_ok _) ?_; have S4 := Aside0.mk (S3.out.sets _ LN.out); have a4 := S4.out.atC; have z4 := S4.out.ls.frozen 27) | (go_at_call 80; (with_reducible refine (PM.out _).mono ?_); rintro e w3 ⟨rfl, hb3⟩; have S3 := Aside0.mk (S1.out.below hb3); have z3 := S3.out.ls.frozen 27; have HB3 := Aside0.mk hb3; clear hb3))
    go_end0
    exact ⟨rfl, by rw [HT.out]; exact S4.out.puta 0, (Kc.of K1.out).trans ((Kc.ofB HB3.out).trans ((Kc.of (Kb.sets g _ 0 w3)).trans (Kc.of (Kb.set g 27 _ _))))⟩
  · have e1 : ((at_ : Int) == (rate : Int)) = false := by rw [beq_eq_false_iff_ne]; omega
    have HT : Aside0 ((turnW rate ws at_) = (ws, at_)) := ⟨if_neg c⟩
    go_wp2
    go_end0
    exact ⟨rfl, by rw [HT.out]; exact S1.out, Kc.of K1.out⟩
end

end Go.Proofs.YtkdfcgihgndnnaaDoor.PPK
end
section
namespace Go.Proofs.YtkdfcgihgndnnaaDoor.PPK
open Go.RowKit Go.Proofs.YtkdfcgihgndnnaaDoorW.PrintWords Go.Proofs.YtkdfcgihgndnnaaDoorW.PrintLast Go.Proofs.YtkdfcgihgndnnaaDoorW.PrintMore
attribute [local go_sem] max2_int min2_int max_two min_two max_three min_three max_four min_four
set_option linter.unusedVariables false
set_option linter.unusedSimpArgs false
section
theorem sp_row {w : World} {A : Option Addr} {n : Nat} {xs : List (List Int)} (h : Kd.C (Kd.slice 5 (Kd.int .u8)) w A n xs) (j : Nat) (h1 : j < xs.length) (hn : xs.length = n) : ∃ ad A0 c0, A = some ad ∧ w.cell? (ad.add j) = some (.slice A0 xs[j].length c0) ∧ xs[j].length ≤ c0 ∧ (Kd.int .u8).C w A0 xs[j].length xs[j] := by
  obtain ⟨ad, c, e, _, hK, hc0⟩ := Kd.C_get h ([] : List Int) (j : Int) (by omega) (by omega)
  have hg : xs.getD (j : Int).toNat [] = xs[j] := by rw [Int.toNat_natCast, List.getD_eq_getElem?_getD, List.getElem?_eq_getElem h1]; rfl
  have hc : ∀ i u, c[i]? = some u → w.cell? (ad.add (j * 1 + i)) = some u := hc0
  rw [hg] at hK
  obtain ⟨A0, c0, rfl, l0, g0⟩ := hK
  exact ⟨ad, A0, c0, e, by have hq := hc 0 _ rfl; rwa [Nat.mul_one, Nat.add_zero] at hq, l0, g0⟩
theorem sp_byte {w : World} {A : Option Addr} {l : List Int} (h : Kd.C (Kd.int .u8) w A l.length l) (i : Nat) (hi : i < l.length) : ∃ ad, A = some ad ∧ w.cell? (ad.add i) = some (.int .u8 l[i]) := by
  obtain ⟨_, _, h3⟩ := Kd.reads_of_C (d := (0 : Int)) h
  obtain ⟨ad, e, hc⟩ := h3 (by omega)
  refine ⟨ad, e, ?_⟩
  rw [hc i hi, List.getD_eq_getElem?_getD, List.getElem?_eq_getElem hi]
  rfl
theorem add_block (ad : Addr) (j : Nat) : (ad.add j).block = ad.block := by unfold Addr.add; split <;> rfl
theorem kc_cell {g : Nat} {w w' : World} (K : Kc g w w') {a : Addr} {v : Value} (hne : a.block ≠ g) (h : w.cell? a = some v) : w'.cell? a = some v := (World.cell?_of_block (w := w) (K.far _ (World.block_lt_of_cell? w a h) hne)).trans h
/-- Parts that lie elsewhere than block g. -/
def Pts (w : World) (g : Nat) (A : Option Addr) (l : List (List Int)) : Prop := ∀ j (hj : j < l.length), ∃ ad A1 c1, A = some ad ∧ ad.block ≠ g ∧ w.cell? (ad.add j) = some (.slice A1 l[j].length c1) ∧ ∀ i (hi : i < l[j].length), ∃ ad1, A1 = some ad1 ∧ ad1.block ≠ g ∧ w.cell? (ad1.add i) = some (.int .u8 l[j][i])
theorem pts_of {w0 w : World} {g : Nat} {A : Option Addr} {l : List (List Int)} (hC : Kd.C (Kd.slice 5 (Kd.int .u8)) w0 A l.length l) (hB : Below w0.heap.size w0 w) (hg : w0.heap.size ≤ g) : Pts w g A l := fun j hj => by
  obtain ⟨ad, A1, cc, e, hx, _, hC1⟩ := sp_row hC j hj rfl
  have hb := World.block_lt_of_cell? w0 _ hx
  rw [add_block] at hb
  refine ⟨ad, A1, cc, e, by omega, pw_cell_below hB hx, fun i hi => ?_⟩
  obtain ⟨ad1, e1, h1⟩ := sp_byte hC1 i hi
  have hb1 := World.block_lt_of_cell? w0 _ h1
  rw [add_block] at hb1
  exact ⟨ad1, e1, by omega, pw_cell_below hB h1⟩
def feed1 (rate : Nat) (s : List Int × Nat) (b : Int) : List Int × Nat := turnW rate (flipW s.1 s.2 b) (s.2 + 1)
def feed (rate : Nat) (s : List Int × Nat) (bs : List Int) : List Int × Nat := bs.foldl (feed1 rate) s
theorem feed_snoc (rate : Nat) (s : List Int × Nat) (bs : List Int) (b : Int) : feed rate s (bs ++ [b]) = feed1 rate (feed rate s bs) b := by
  unfold feed
  rw [List.foldl_append]
  rfl
theorem permute_len (a : List Int) (ha : a.length = 25) : (permute a).length = 25 := perm_len a ha 24
theorem turn_ok (rate : Nat) (hr : 1 ≤ rate) (ws : List Int) (a : Nat) (h1 : ws.length = 25) (h2 : a ≤ rate) : (turnW rate ws a).1.length = 25 ∧ (turnW rate ws a).2 < rate := by
  have hp := permute_len ws h1
  unfold turnW
  generalize permute ws = p at hp
  by_cases c : a = rate
  · rw [if_pos c]
    exact ⟨hp, hr⟩
  · rw [if_neg c]
    exact ⟨h1, Nat.lt_of_le_of_ne h2 c⟩
theorem feed1_ok (rate : Nat) (hr : 1 ≤ rate) (s : List Int × Nat) (b : Int) (h1 : s.1.length = 25) (h2 : s.2 < rate) : (feed1 rate s b).1.length = 25 ∧ (feed1 rate s b).2 < rate := turn_ok rate hr _ _ (flip_len _ _ _ h1) h2
theorem feed_ok (rate : Nat) (hr : 1 ≤ rate) : ∀ (bs : List Int) (s : List Int × Nat), s.1.length = 25 → s.2 < rate → (feed rate s bs).1.length = 25 ∧ (feed rate s bs).2 < rate
  | [], _, h1, h2 => ⟨h1, h2⟩
  | b :: r, s, h1, h2 => by
    obtain ⟨h3, h4⟩ := feed1_ok rate hr s b h1 h2
    exact feed_ok rate hr r _ h3 h4
set_option maxHeartbeats 8000000 in
set_option maxRecDepth 100000 in
theorem SpWrite.calls (g : Nat) (ws : List Int) (rate suf at_ : Nat) (hr : 1 ≤ rate ∧ rate ≤ 192) (hat : at_ < rate) (A : Option Addr) (c : Nat) (l : List (List Int)) (w : World) (hC : Pts w g A l) (hl : l.length < 1000000) (hl2 : ∀ x ∈ l, x.length < 1000000) (h : Sp w g ws rate suf at_ false) : Calls Tryd.prog 55 #[.pointer (some ⟨g, 0, none⟩), .slice A l.length c] w fun e w' => e = .returned .nilIface ∧ Sp w' g (feed rate (ws, at_) l.flatten).1 rate suf (feed rate (ws, at_) l.flatten).2 false ∧ Kc g w w' := by
  have HC := Aside0.mk hC
  have HL := Aside0.mk (And.intro hl hl2)
  have HR := Aside0.mk hr
  have LEN := Aside0.mk h.len
  have HAT := Aside0.mk hat
  have S1 : Aside0 (Sp w g (feed rate (ws, at_) (l.take 0).flatten).1 rate suf (feed rate (ws, at_) (l.take 0).flatten).2 false) := ⟨h⟩
  have B1 : Aside0 (Kc g w w) := ⟨Kc.refl g w⟩
  have c0 := h.givesC
  clear hC hl hl2 hr hat h
  go_enter Tryd.func55, Tryd.ntmps55
  go_wp2
  go_loopg [21] l.length (fun kq v21 w' => ∃ j : Nat, v21 = .int .i64 (j : Int) ∧ Aside0 (j + kq = l.length) ∧ Aside0 (Sp w' g (feed rate (ws, at_) (l.take j).flatten).1 rate suf (feed rate (ws, at_) (l.take j).flatten).2 false) ∧ Aside0 (Kc g w w'))
  case atStart => exact ⟨0, rfl, ⟨by omega⟩, S1, B1⟩
  case round =>
    clear S1 B1 c0
    obtain ⟨j, rfl, HJ, S1, B1⟩ := hrel
    by_cases cj : j < l.length
    · have z1 : decide ((j : Int) < (l.length : Int)) = true := decide_eq_true (by omega)
      have z1' : decide (j < l.length) = true := decide_eq_true cj
      have z2 : ((j : Int) < (l.length : Int)) = True := eq_true (by omega)
      have z3 : (0 ≤ (j : Int)) = True := eq_true (by omega)
      have HCJ := Aside0.mk cj
      cases gk with
      | zero => have := HJ.out; omega
      | succ k1 =>
        obtain ⟨ad, A1, cc, rfl, hne, hx, hC1⟩ := HC.out j cj
        replace hx := kc_cell B1.out (by rw [add_block]; exact hne) hx
        obtain ⟨p, hp⟩ : ∃ p, p = l[j] := ⟨_, rfl⟩
        have PL : Aside0 (p.length < 1000000) := ⟨by rw [hp]; exact HL.out.2 _ (List.getElem_mem cj)⟩
        have HT : Aside0 ((l.take (j + 1)).flatten = (l.take j).flatten ++ p) := ⟨by rw [List.take_succ_eq_append_getElem cj, List.flatten_append, hp]; simp⟩
        have HC1 : Aside0 (∀ i (hi : i < p.length), ∃ ad1, A1 = some ad1 ∧ ad1.block ≠ g ∧ w.cell? (ad1.add i) = some (.int .u8 p[i])) := ⟨by subst hp; exact hC1⟩
        rw [← hp] at hx
        clear hp hC1 hne
        have S1 : Aside0 (Sp wr g (feed rate (ws, at_) ((l.take j).flatten ++ p.take 0)).1 rate suf (feed rate (ws, at_) ((l.take j).flatten ++ p.take 0)).2 false) := ⟨by rw [List.take_zero, List.append_nil]; exact S1.out⟩
        go_wp2
        go_loopg [27] p.length (fun kq v27 w' => ∃ i : Nat, v27 = .int .i64 (i : Int) ∧ Aside0 (i + kq = p.length) ∧ Aside0 (Sp w' g (feed rate (ws, at_) ((l.take j).flatten ++ p.take i)).1 rate suf (feed rate (ws, at_) ((l.take j).flatten ++ p.take i)).2 false) ∧ Aside0 (Kc g w w'))
        case atStart => exact ⟨0, rfl, ⟨by omega⟩, S1, B1⟩
        case round =>
          clear S1 B1 hx
          obtain ⟨i, rfl, HI, S1, B1⟩ := hrel
          by_cases ci : i < p.length
          · have y1 : decide ((i : Int) < (p.length : Int)) = true := decide_eq_true (by omega)
            have y1' : decide (i < p.length) = true := decide_eq_true ci
            have y2 : ((i : Int) < (p.length : Int)) = True := eq_true (by omega)
            have y3 : (0 ≤ (i : Int)) = True := eq_true (by omega)
            have HCI := Aside0.mk ci
            cases gk with
            | zero => have := HI.out; omega
            | succ k2 =>
              obtain ⟨ad1, rfl, hne1, hb1⟩ := HC1.out i ci
              replace hb1 := kc_cell B1.out (by rw [add_block]; exact hne1) hb1
              clear hne1
              obtain ⟨b, hb⟩ : ∃ b, b = p[i] := ⟨_, rfl⟩
              rw [← hb] at hb1
              obtain ⟨bs, hbs⟩ : ∃ bs, bs = (l.take j).flatten ++ p.take i := ⟨_, rfl⟩
              have HN : Aside0 ((l.take j).flatten ++ p.take (i + 1) = bs ++ [b]) := ⟨by rw [hbs, List.take_succ_eq_append_getElem ci, hb, List.append_assoc]⟩
              rw [← hbs] at S1
              obtain ⟨f1, f2⟩ := feed_ok rate HR.out.1 bs (ws, at_) LEN.out HAT.out
              obtain ⟨us, hus⟩ : ∃ us, us = (feed rate (ws, at_) bs).1 := ⟨_, rfl⟩
              obtain ⟨t, ht⟩ : ∃ t, t = (feed rate (ws, at_) bs).2 := ⟨_, rfl⟩
              have HF : Aside0 (feed rate (ws, at_) (bs ++ [b]) = turnW rate (flipW us t b) (t + 1)) := ⟨by rw [feed_snoc, feed1, ← hus, ← ht]⟩
              rw [← hus, ← ht] at S1
              rw [← ht] at f2
              have t200 : t < 200 := by have := HR.out.2; omega
              clear hb hbs hus ht f1 f2
              obtain ⟨a1, ha1⟩ : ∃ a1, a1 = t + 1 := ⟨_, rfl⟩
              have ew : wrap64 ((t : Int) + 1) = (a1 : Int) := by rw [ha1]; unfold wrap64; omega
              rw [← ha1] at HF
              have FL : Aside0 (∀ w', Sp w' g us rate suf t false → Calls Tryd.prog 74 #[.pointer (some ⟨g, 0, none⟩), .int .i64 (t : Int), .int .u8 b] w' fun e w'' => e = .returned (.tuple #[]) ∧ Sp w'' g (flipW us t b) rate suf t false ∧ Kb g w' w'') := ⟨fun w' h => Flip.calls g us rate suf t false t t200 b w' h⟩
              have TU : Aside0 (∀ w', Sp w' g (flipW us t b) rate suf a1 false → Calls Tryd.prog 75 #[.pointer (some ⟨g, 0, none⟩)] w' fun e w'' => e = .returned (.tuple #[]) ∧ Sp w'' g (turnW rate (flipW us t b) a1).1 rate suf (turnW rate (flipW us t b) a1).2 false ∧ Kc g w' w'') := ⟨fun w' h => Turn.calls g _ rate suf a1 false w' h⟩
              have a0 := S1.out.atC
              clear ha1 t200
              go_wp2_with (first | (go_at_call 75; (with_reducible refine (TU.out _ (S3.out.puta a1)).mono ?_); rintro e w4 ⟨rfl, hs4, hk4⟩; have S4 := Aside0.mk hs4; have B4 := Aside0.mk (B3.out.trans ((Kc.of (Kb.set g 27 _ _)).trans hk4)); clear hs4 hk4) | (go_at_call 74; (with_reducible refine (FL.out _ S1.out).mono ?_); rintro e w3 ⟨rfl, hs3, hk3⟩; have S3 := Aside0.mk hs3; have B3 := Aside0.mk (B1.out.trans (Kc.of hk3)); have a3 := hs3.atC; have z3 := hs3.ls.frozen 27; clear hs3 hk3))
              go_roundg k2
              case measure => omega
              case rel => exact ⟨i + 1, (by
                have hw : wrap64 ((i : Int) + 1) = ((i + 1 : Nat) : Int) := by have := HCI.out; have := PL.out; unfold wrap64; omega
                first | rfl | (rw [← hw]; rfl) | (simp [*]; done)), ⟨by have := HI.out; omega⟩, ⟨by rw [HN.out, HF.out]; exact S4.out⟩, B4⟩
          · have y1 : decide ((i : Int) < (p.length : Int)) = false := decide_eq_false (by omega)
            have y1' : decide (i < p.length) = false := decide_eq_false ci
            have S1 : Aside0 (Sp wr g (feed rate (ws, at_) (l.take (j + 1)).flatten).1 rate suf (feed rate (ws, at_) (l.take (j + 1)).flatten).2 false) := ⟨by
              rw [HT.out]
              have := S1.out
              rw [show p.take i = p from List.take_of_length_le (by omega)] at this
              exact this⟩
            go_wp2
            go_roundg k1
            case measure => omega
            case rel => exact ⟨j + 1, (by
              have hw : wrap64 ((j : Int) + 1) = ((j + 1 : Nat) : Int) := by have := HCJ.out; have := HL.out.1; unfold wrap64; omega
              first | rfl | (rw [← hw]; rfl) | (simp [*]; done)), ⟨by have := HJ.out; omega⟩, S1, B1⟩
    · have z1 : decide ((j : Int) < (l.length : Int)) = false := decide_eq_false (by omega)
      have z1' : decide (j < l.length) = false := decide_eq_false cj
      have S1 : Aside0 (Sp wr g (feed rate (ws, at_) l.flatten).1 rate suf (feed rate (ws, at_) l.flatten).2 false) := ⟨by
        have := S1.out
        rw [List.take_of_length_le (by omega)] at this
        exact this⟩
      go_wp2
      go_ret
      exact ⟨rfl, S1.out, B1.out⟩
end

end Go.Proofs.YtkdfcgihgndnnaaDoor.PPK
end
section
namespace Go.Proofs.YtkdfcgihgndnnaaDoor.PPK
open Go.RowKit Go.Proofs.YtkdfcgihgndnnaaDoorW.PrintWords Go.Proofs.YtkdfcgihgndnnaaDoorW.PrintLast Go.Proofs.YtkdfcgihgndnnaaDoorW.PrintMore
attribute [local go_sem] max2_int min2_int max_two min_two max_three min_three max_four min_four
set_option linter.unusedVariables false
set_option linter.unusedSimpArgs false
section
set_option maxHeartbeats 8000000 in
set_option maxRecDepth 100000 in
theorem SpNew.calls (rate suf : Nat) (h1 : 8 ≤ rate ∧ rate ≤ 192 ∧ rate % 8 = 0) (h2 : 1 ≤ suf ∧ suf ≤ 127) (w : World) : Calls Tryd.prog 54 #[.int .i64 (rate : Int), .int .u8 (suf : Int)] w fun e w' => e = .returned (.pointer (some ⟨w.heap.size, 0, none⟩)) ∧ Sp w' w.heap.size (List.replicate 25 0) rate suf 0 false ∧ Below w.heap.size w w' := by
  have d1 : decide ((rate : Int) < 8) = false := decide_eq_false (by omega)
  have d1' : decide (rate < 8) = false := decide_eq_false (by omega)
  have d2 : decide (192 < (rate : Int)) = false := decide_eq_false (by omega)
  have d2' : decide (192 < rate) = false := decide_eq_false (by omega)
  have d3 : Int.tmod (rate : Int) 8 = 0 := by rw [Int.tmod_eq_emod_of_nonneg (by omega)]; omega
  have d4 : decide ((suf : Int) < 1) = false := decide_eq_false (by omega)
  have d5 : decide (127 < (suf : Int)) = false := decide_eq_false (by omega)
  have d5' : decide (127 < suf) = false := decide_eq_false (by omega)
  clear h1 h2
  go_enter Tryd.func54, Tryd.ntmps54
  go_wp2
  go_ret
  refine ⟨rfl, ⟨⟨_, blk_new w _, ?_⟩, List.length_replicate⟩, below_alloc (Below.refl _ _) _⟩
  rfl
end

end Go.Proofs.YtkdfcgihgndnnaaDoor.PPK
end
section
namespace Go.Proofs.YtkdfcgihgndnnaaDoor.PPK
open Go.RowKit Go.Proofs.YtkdfcgihgndnnaaDoorW.PrintWords Go.Proofs.YtkdfcgihgndnnaaDoorW.PrintLast Go.Proofs.YtkdfcgihgndnnaaDoorW.PrintMore
attribute [local go_sem] max2_int min2_int max_two min_two max_three min_three max_four min_four
set_option linter.unusedVariables false
set_option linter.unusedSimpArgs false
section
def byteOf (ws : List Int) (t : Nat) : Int := IntKind.u8.wrap (shr .u64 (ws.getD (t / 8) 0) ((8 * (t % 8) : Nat) : Int))
/-- What is squeezed out: so many bytes, and the state behind. -/
def sqz (rate : Nat) : Nat → List Int × Nat → List Int × (List Int × Nat)
  | 0, s => ([], s)
  | k + 1, s => ((sqz rate k s).1 ++ [byteOf (turnW rate (sqz rate k s).2.1 (sqz rate k s).2.2).1 (turnW rate (sqz rate k s).2.1 (sqz rate k s).2.2).2], ((turnW rate (sqz rate k s).2.1 (sqz rate k s).2.2).1, (turnW rate (sqz rate k s).2.1 (sqz rate k s).2.2).2 + 1))
def padW (rate suf : Nat) (s : List Int × Nat) : List Int × Nat := (flipW (flipW s.1 s.2 (suf : Int)) (rate - 1) 128, rate)
theorem sqz_ok (rate : Nat) (hr : 1 ≤ rate) : ∀ (k : Nat) (s : List Int × Nat), s.1.length = 25 → s.2 ≤ rate → (sqz rate k s).1.length = k ∧ (sqz rate k s).2.1.length = 25 ∧ (sqz rate k s).2.2 ≤ rate
  | 0, s, h1, h2 => ⟨rfl, h1, h2⟩
  | k + 1, s, h1, h2 => by
    obtain ⟨i1, i2, i3⟩ := sqz_ok rate hr k s h1 h2
    obtain ⟨j1, j2⟩ := turn_ok rate hr _ _ i2 i3
    rw [sqz]
    refine ⟨?_, j1, j2⟩
    rw [List.length_append, i1]
    rfl
theorem Kc.low {g : Nat} {w a b : World} (h : Kc g w a) (k : Below w.heap.size a b) (hg : g < w.heap.size) : Kc g w b := ⟨Nat.le_trans h.size k.size, fun j hj hn => (k.block j hj).trans (h.far j hj hn), fun w0 hB hb => (h.below w0 hB hb).trans (k.mono (by omega))⟩
theorem s8 (t : Nat) (h : t < 200) : t / 8 < 25 ∧ t % 8 < 8 := by omega
theorem wt1 (t : Nat) (h : t < 200) : wrap64 ((t : Int) + 1) = ((t + 1 : Nat) : Int) := by unfold wrap64; omega
theorem R_kc {g base : Nat} {ok : Nat → Prop} {w w' : World} {v : Value} {xs : List Int} (h : Kd.R (Kd.int .u8) 5 w base ok v xs) (K : Kc g w w') (hg : g < base) : Kd.R (Kd.int .u8) 5 w' base ok v xs := Kd.R_mono (Kd.R_step (Kd.R_bound h) (fun k hk hlt => K.far k hlt (by have := hk.2.1; omega))) (fun _ hk => hk.1)
theorem make0 (n : Nat) (hn : n ≤ 1048576) : ∃ ZC : Array Value, (∀ W : World, (Instr.makeSlice 22 (.int .i64 0) (.int .i64 (n : Int))).run Tryd.prog W = .ok (.slice (some ⟨W.heap.size, 0, none⟩) 0 n) (W.alloc (.cells ZC 5 (0, 0)))) ∧ ∀ (W : World) (base : Nat), base ≤ W.heap.size → Kd.R (Kd.int .u8) 5 (W.alloc (.cells ZC 5 (0, 0))) base (fun _ => True) (.slice (some ⟨W.heap.size, 0, none⟩) 0 n) [] := by
  obtain ⟨i0, hi, hz0, hz1, hz2⟩ := info_parts info5
  refine ⟨madeCells (Value.int .u8 0).cells (n * 1), fun W => ?_, fun W base hb => ?_⟩
  · have hr := run_make (P := Tryd.prog) W 22 5 i0 (.int .u8 0) Tryd.underlying22 hi hz0 .i64 .i64 0 (n : Int) (by omega) (by omega) (by rw [hz2]; omega) (by omega)
    rw [hz1, Int.toNat_natCast] at hr
    exact hr
  · have h2 := World.ownsRow_lit (base := base) (e := 5) (size := 1) W (madeCells (Value.int .u8 0).cells (n * 1)) n hb (by simp only [maxLen]; omega) (by simp [size_madeCells])
    have hr : Kd.R (Kd.int .u8) 5 (W.alloc (.cells (madeCells (Value.int .u8 0).cells (n * 1)) 5 (0, 0))) base (fun _ => True) (.slice (some ⟨W.heap.size, 0, none⟩) n n) (List.replicate n 0) := by
      refine ⟨fun _ _ => trivial, (madeCells (Value.int .u8 0).cells (n * 1)).toList, ?_, Kd.reps_made (z := .int .u8 0) (z0 := (0 : Int)) (size := 1) rfl (by decide) rfl n⟩
      rw [List.length_replicate]
      exact h2
    have := Kd.R_take (m := 0) hr (Nat.zero_le _)
    rwa [List.take_zero] at this
def Read.T4 : Bool × List (List Nat × List Nat) := (true, [([], []), ([], []), ([1], [1]), ([2], [2]), ([3], [3]), ([], []), ([5], [5]), ([6], [6]), ([7], [7]), ([0, 4, 8], [0, 4, 8])])
def Read.B4 : List Nat := [0, 0, 2, 6, 14, 0, 32, 96, 224, 511]
theorem Read.tab4 : rtab .any (opsOf Tryd.f56 4) = Read.T4 := by kernel_rfl
theorem Read.bits4 : waitsOk Read.T4.2 Read.B4 = true := by kernel_rfl
def Read.T11 : Bool × List (List Nat × List Nat) := (true, [([], []), ([], []), ([], []), ([2], [2]), ([3], [3]), ([4], [4]), ([5], [5]), ([1], [1]), ([7], [7]), ([8, 6], [6, 8]), ([9], [9]), ([], []), ([11], [11]), ([12], [12]), ([13], [13]), ([14], [14]), ([15], [15]), ([10, 16], [10, 16]), ([17], [17]), ([18], [18]), ([0, 19], [0, 19]), ([20, 20, 0, 1, 2, 3, 4, 5, 6, 7, 8, 9, 10, 11, 12, 13, 14, 15, 16, 17, 18, 19, 20], [0, 20])])
def Read.B11 : List Nat := [0, 0, 0, 4, 12, 28, 60, 2, 130, 510, 1022, 0, 2048, 6144, 14336, 30720, 63488, 131070, 262142, 524286, 1048575, 2097151]
theorem Read.tab11 : rtab .any (opsOf Tryd.f56 11) = Read.T11 := by kernel_rfl
theorem Read.bits11 : waitsOk Read.T11.2 Read.B11 = true := by kernel_rfl
set_option maxHeartbeats 8000000 in
set_option maxRecDepth 100000 in
theorem SpReadA.calls (g : Nat) (ws : List Int) (rate suf at_ : Nat) (hr : 1 ≤ rate ∧ rate ≤ 192) (hat : at_ ≤ rate) (n : Nat) (hn : 1 ≤ n ∧ n ≤ 1048576) (w : World) (h : Sp w g ws rate suf at_ false) (ha2 : at_ < rate) : Calls Tryd.prog 56 #[.pointer (some ⟨g, 0, none⟩), .int .i64 (n : Int)] w fun e w' => ∃ A c, e = .returned (.slice A n c) ∧ Kd.R (Kd.int .u8) 5 w' w.heap.size (fun _ => True) (.slice A n c) (sqz rate n (padW rate suf (ws, at_))).1 ∧ Sp w' g (sqz rate n (padW rate suf (ws, at_))).2.1 rate suf (sqz rate n (padW rate suf (ws, at_))).2.2 true ∧ Kc g w w' := by
  obtain ⟨s0, hs0⟩ : ∃ s0, s0 = padW rate suf (ws, at_) := ⟨_, rfl⟩
  rw [← hs0]
  have LS : Aside0 (s0.1.length = 25 ∧ s0.2 ≤ rate) := ⟨by rw [hs0]; exact ⟨flip_len _ _ _ (flip_len _ _ _ h.len), Nat.le_refl _⟩⟩
  have HR := Aside0.mk hr
  have HN := Aside0.mk hn
  have GLT : Aside0 (g < w.heap.size) := ⟨by obtain ⟨cs, h1, _⟩ := h.ls; exact blk_lt h1⟩
  have d1 : decide ((n : Int) < 1) = false := decide_eq_false (by omega)
  have d1' : decide (n < 1) = false := decide_eq_false (by omega)
  have d2 : decide (1048576 < (n : Int)) = false := decide_eq_false (by omega)
  have d2' : decide (1048576 < n) = false := decide_eq_false (by omega)
  have c0 := h.atC
  have c1 := h.sufC
  have cg := h.givesC
  have S1 : Aside0 (Sp w.drew g ws rate suf at_ false) := ⟨h.below (below_drew (Below.refl _ _))⟩
  have K1 : Aside0 (Kc g w w.drew) := ⟨Kc.ofB (below_drew (Below.refl _ _))⟩
  have A200 : Aside0 (at_ < 200) := ⟨by omega⟩
  have FL2 : Aside0 (∀ w', Sp w' g (flipW ws at_ (suf : Int)) rate suf at_ false → Calls Tryd.prog 74 #[.pointer (some ⟨g, 0, none⟩), .int .i64 ((rate - 1 : Nat) : Int), .int .u8 128] w' fun e w'' => e = .returned (.tuple #[]) ∧ Sp w'' g (flipW (flipW ws at_ (suf : Int)) (rate - 1) 128) rate suf at_ false ∧ Kb g w' w'') := ⟨fun w' h => Flip.calls g _ rate suf at_ false (rate - 1) (by omega) 128 w' h⟩
  have er : wrap64 ((rate : Int) - 1) = ((rate - 1 : Nat) : Int) := by unfold wrap64; omega
  clear h
  obtain ⟨ZC, hmk, hmr⟩ := make0 n hn.2
  have MR := Aside0.mk hmr
  clear hmr hr hat hn ha2
  go_enter Tryd.func56, Tryd.ntmps56
  go_wp2
  replace c0 : w.drew.cell? ⟨g, 27, none⟩ = some (.int .i64 (at_ : Int)) := c0
  replace c1 : w.drew.cell? ⟨g, 26, none⟩ = some (.int .u8 (suf : Int)) := c1
  refine start_ (n := 10) (S := fun w' => w'.cell? ⟨g, 27, none⟩ = some (.int .i64 (at_ : Int)) ∧ w'.cell? ⟨g, 26, none⟩ = some (.int .u8 (suf : Int))) (ds := []) #[false, false, false, false, false, false, false, false, false, false] (by kernel_rfl) rfl rfl ⟨c0, c1⟩ (fun hHeld => ?_)
  refine with_tabW Read.tab4 Read.bits4 (fun HT_ HW_ => ?_)
  generalize w.drew = wd at S1 c0 c1 K1 hHeld ⊢
  refine pure_ (i := 0) (N := some 21) (v := ?_) (a' := ?_) #[true, false, false, false, false, false, false, false, false, false] rfl rfl (any_of HT_.out (by kernel_rfl)) (fun _ _ _ h => h) (Or.inl ⟨by rfl, ?_⟩) ?_ ?_
  rotate_left
  · intro w'
    go_simp
    with_reducible rfl
  rotate_left
  · simp only [Act.put, List.setIfInBounds_toArray, List.set_cons_zero, List.set_cons_succ, i64_w, i32_w]
    rfl
  refine pure_ (i := 1) (N := some 22) (v := ?_) (a' := ?_) #[true, true, false, false, false, false, false, false, false, false] rfl rfl (any_of HT_.out (by kernel_rfl)) (fun _ _ _ h => h) (Or.inl ⟨by rfl, ?_⟩) ?_ ?_
  rotate_left
  · intro w'
    go_simp
    with_reducible rfl
  rotate_left
  · simp only [Act.put, List.setIfInBounds_toArray, List.set_cons_zero, List.set_cons_succ, i64_w, i32_w]
    rfl
  refine pure_ (i := 2) (N := some 23) (v := ?_) (a' := ?_) #[true, true, true, false, false, false, false, false, false, false] rfl rfl (any_of HT_.out (by kernel_rfl)) (fun _ _ _ h => h) (Or.inl ⟨by rfl, ?_⟩) ?_ ?_
  rotate_left
  · intro w'
    go_simp
    with_reducible rfl
  rotate_left
  · simp only [Act.put, List.setIfInBounds_toArray, List.set_cons_zero, List.set_cons_succ, i64_w, i32_w]
    rfl
  refine pure_ (i := 3) (N := some 24) (v := ?_) (a' := ?_) #[true, true, true, true, false, false, false, false, false, false] rfl rfl (any_of HT_.out (by kernel_rfl)) (fun _ _ _ h => h) (Or.inl ⟨by rfl, ?_⟩) ?_ ?_
  rotate_left
  · intro w'
    go_simp
    with_reducible rfl
  rotate_left
  · simp only [Act.put, List.setIfInBounds_toArray, List.set_cons_zero, List.set_cons_succ, i64_w, i32_w]
    rfl
  refine pure_ (i := 5) (N := some 26) (v := ?_) (a' := ?_) #[true, true, true, true, false, true, false, false, false, false] rfl rfl (any_of HT_.out (by kernel_rfl)) (fun _ _ _ h => h) (Or.inl ⟨by rfl, ?_⟩) ?_ ?_
  rotate_left
  · intro w'
    go_simp
    with_reducible rfl
  rotate_left
  · simp only [Act.put, List.setIfInBounds_toArray, List.set_cons_zero, List.set_cons_succ, i64_w, i32_w]
    rfl
  refine pure_ (i := 6) (N := some 27) (v := ?_) (a' := ?_) #[true, true, true, true, false, true, true, false, false, false] rfl rfl (any_of HT_.out (by kernel_rfl)) (fun _ _ _ h => h) (Or.inl ⟨by rfl, ?_⟩) ?_ ?_
  rotate_left
  · intro w'
    go_simp
    with_reducible rfl
  rotate_left
  · simp only [Act.put, List.setIfInBounds_toArray, List.set_cons_zero, List.set_cons_succ, i64_w, i32_w]
    rfl
  refine pure_ (i := 7) (N := some 28) (v := ?_) (a' := ?_) #[true, true, true, true, false, true, true, true, false, false] rfl rfl (any_of HT_.out (by kernel_rfl)) (fun _ _ _ h => h) (Or.inl ⟨by rfl, ?_⟩) ?_ ?_
  rotate_left
  · intro w'
    go_simp
    with_reducible rfl
  rotate_left
  · simp only [Act.put, List.setIfInBounds_toArray, List.set_cons_zero, List.set_cons_succ, i64_w, i32_w]
    rfl
  refine take_ (i := 4) (N := some 25) (v := ?_) (a' := ?_) #[true, true, true, true, true, true, true, true, false, false] rfl rfl (take_ofW HT_.out HW_.out (by kernel_rfl)) (fun _ _ _ h => h) (Or.inl ⟨by rfl, ?_⟩) hHeld ?_ ?_
  rotate_left
  · rintro w' ⟨s0, s1⟩
    go_simp
    with_reducible rfl
  rotate_left
  · simp only [Act.put, List.setIfInBounds_toArray, List.set_cons_zero, List.set_cons_succ, i64_w, i32_w]
    rfl
  refine take_ (i := 8) (N := some 29) (v := ?_) (a' := ?_) #[true, true, true, true, true, true, true, true, true, false] rfl rfl (take_ofW HT_.out HW_.out (by kernel_rfl)) (fun _ _ _ h => h) (Or.inl ⟨by rfl, ?_⟩) hHeld ?_ ?_
  rotate_left
  · rintro w' ⟨s0, s1⟩
    go_simp
    with_reducible rfl
  rotate_left
  · simp only [Act.put, List.setIfInBounds_toArray, List.set_cons_zero, List.set_cons_succ, i64_w, i32_w]
    rfl
  refine one_ (i := 9) (N := some 30) #[true, true, true, true, true, true, true, true, true, true] rfl rfl (one_of HT_.out (by kernel_rfl)) (by decide) (fun K hK => ?_)
  refine goes_ Tryd.func74 (by kernel_rfl) rfl #[.pointer (some ⟨g, 0, none⟩), .int .i64 (at_ : Int), .int .u8 (suf : Int)] (by rfl) rfl rfl (by simp only [List.map_toArray, List.map_cons, List.map_nil]; rfl) ?_
  with_reducible refine (Flip.calls g ws rate suf at_ false at_ A200.out (suf : Int) _ S1.out).mono ?_
  rintro e w3 ⟨rfl, hs3, hk3⟩
  refine ⟨_, rfl, ?_⟩
  have S3 := Aside0.mk hs3
  have K3 := Aside0.mk (K1.out.trans (Kc.of hk3))
  have c03 := hs3.atC
  have c13 := hs3.sufC
  have c23 := hs3.rateC
  clear hs3 hk3 c0 c1
  refine hK.out _ _ ⟨c03, c13⟩ (fun hHeld => ?_)
  clear hK K
  refine norm_ (a' := ?_) ?_ ?_
  rotate_left
  · show Act.put _ (some 30) _ = _
    simp only [Act.put, List.setIfInBounds_toArray, List.set_cons_zero, List.set_cons_succ, i64_w, i32_w]
    rfl
  refine done_ (done_of HT_.out (by kernel_rfl)) ?_

  go_upto_region 6 with (first | (go_at_call 74; (with_reducible refine (FL2.out _ S3.out).mono ?_); rintro e w4 ⟨rfl, hs4, hk4⟩; have S4 := Aside0.mk hs4; have K4 := Aside0.mk (K3.out.trans (Kc.of hk4)); have c04 := hs4.givesC; have c14 := hs4.atC; have c24 := hs4.rateC; have z04 := hs4.ls.frozen 28; have z14 := hs4.ls.frozen 27; clear hs4 hk4))
  obtain ⟨w6, hw6⟩ : ∃ w6, w6 = (w4.setCell ⟨g, 28, none⟩ (.bool true)).setCell ⟨g, 27, none⟩ (.int .i64 (rate : Int)) := ⟨_, rfl⟩
  have S6 : Aside0 (Sp w6 g s0.1 rate suf s0.2 true) := ⟨by rw [hw6, hs0]; exact (S4.out.putg true).puta rate⟩
  have K6 : Aside0 (Kc g w w6) := ⟨by rw [hw6]; exact K4.out.trans ((Kc.of (Kb.set g 28 _ _)).trans (Kc.of (Kb.set g 27 _ _)))⟩
  go_upto_region 7 with (fail)
  rw [← hw6]
  clear hw6
  go_wp2
  have HMR := MR.out w6 w.heap.size K6.out.size
  go_loopg [5, 51] n (fun kq v5 v51 w' => ∃ i : Nat, v51 = .int .i64 (i : Int) ∧ Aside0 (i + kq = n) ∧ Aside0 (Sp w' g (sqz rate i s0).2.1 rate suf (sqz rate i s0).2.2 true) ∧ Aside0 (Kd.R (Kd.int .u8) 5 w' w.heap.size (fun _ => True) v5 (sqz rate i s0).1) ∧ Aside0 (Kc g w w'))
  case atStart => exact ⟨0, rfl, ⟨by omega⟩, ⟨S6.out.below (below_alloc (Below.refl _ _) _)⟩, ⟨HMR⟩, ⟨K6.out.trans (Kc.ofB (below_alloc (Below.refl _ _) _))⟩⟩
  case round =>
    clear S6 K6 HMR hmk
    obtain ⟨i, rfl, HJ, S1, R1, K1⟩ := hrel
    obtain ⟨l1, l2, l3⟩ := sqz_ok rate HR.out.1 i s0 LS.out.1 LS.out.2
    by_cases ci : i < n
    · have z1 : decide ((i : Int) < (n : Int)) = true := decide_eq_true (by omega)
      have z1' : decide (i < n) = true := decide_eq_true ci
      have HCI := Aside0.mk ci
      cases gk with
      | zero => have := HJ.out; omega
      | succ k1 =>
        have TU : Aside0 (∀ w', Sp w' g (sqz rate i s0).2.1 rate suf (sqz rate i s0).2.2 true → Calls Tryd.prog 75 #[.pointer (some ⟨g, 0, none⟩)] w' fun e w'' => e = .returned (.tuple #[]) ∧ Sp w'' g (turnW rate (sqz rate i s0).2.1 (sqz rate i s0).2.2).1 rate suf (turnW rate (sqz rate i s0).2.1 (sqz rate i s0).2.2).2 true ∧ Kc g w' w'') := ⟨fun w' h => Turn.calls g _ rate suf _ true w' h⟩
        obtain ⟨j1, j2⟩ := turn_ok rate HR.out.1 _ _ l2 l3
        have BL : Aside0 ((sqz rate i s0).1.length ≤ 1048576) := ⟨by rw [l1]; have := HN.out; omega⟩
        clear l1 l2 l3
        obtain ⟨A5, c5, rfl⟩ := Kd.R_slice R1.out
        obtain ⟨us, hus⟩ : ∃ us, us = (turnW rate (sqz rate i s0).2.1 (sqz rate i s0).2.2).1 := ⟨_, rfl⟩
        obtain ⟨t, ht⟩ : ∃ t, t = (turnW rate (sqz rate i s0).2.1 (sqz rate i s0).2.2).2 := ⟨_, rfl⟩
        obtain ⟨bs, hbs⟩ : ∃ bs, bs = (sqz rate i s0).1 := ⟨_, rfl⟩
        have HSQ : Aside0 (sqz rate (i + 1) s0 = (bs ++ [byteOf us t], (us, t + 1))) := ⟨by rw [sqz, ← hus, ← ht, ← hbs]⟩
        rw [← ht] at j2
        rw [← hus, ← ht] at TU
        rw [← hbs] at R1 BL
        rw [← hbs]
        have t200 : t < 200 := by have := HR.out.2; omega
        clear hus ht hbs j1 j2
        obtain ⟨q, hq⟩ : ∃ q, q = t / 8 := ⟨_, rfl⟩
        obtain ⟨m, hm⟩ : ∃ m, m = t % 8 := ⟨_, rfl⟩
        obtain ⟨s, hs⟩ : ∃ s, s = 8 * m := ⟨_, rfl⟩
        obtain ⟨v, hv⟩ : ∃ v, v = us.getD q 0 := ⟨_, rfl⟩
        have HB : Aside0 (byteOf us t = IntKind.u8.wrap (shr .u64 v (s : Int))) := ⟨by rw [byteOf, ← hq, ← hm, ← hv, ← hs]⟩
        have e8 := q8' t (Nat.lt_trans t200 (by decide))
        have e9 := q8 t (Nat.lt_trans t200 (by decide))
        have em := m8 t
        rw [← hq] at e8 e9
        rw [← hm] at em
        have hq25 : q < 25 := by rw [hq]; exact (s8 t t200).1
        have hm8 : m < 8 := by rw [hm]; exact (s8 t t200).2
        have e8m := m88 m hm8
        rw [← hs] at e8m
        have SH : ∀ W, (Op.shift .shr .u64 v .i64 (s : Int)).run Tryd.prog W = .ok (.int .u64 (shr .u64 v (s : Int))) W := fun W => run_shr64 v s W
        obtain ⟨t1, ht1⟩ : ∃ t1, t1 = t + 1 := ⟨_, rfl⟩
        have et : wrap64 ((t : Int) + 1) = (t1 : Int) := by rw [ht1]; exact wt1 t t200
        rw [← ht1] at HSQ
        have HV := Aside0.mk (And.intro hv hq25)
        clear hq hm hs hv t200 hm8 ht1
        have i1 : ((q : Int) < 25) = True := eq_true (Int.ofNat_lt.mpr hq25)
        have i2 : (0 ≤ (q : Int)) = True := eq_true (Int.natCast_nonneg _)
        clear hq25
        go_upto_region 11 with (first | (go_at_call 75; (with_reducible refine (TU.out _ S1.out).mono ?_); rintro e wt ⟨rfl, hs5, hk5⟩; have S5 := Aside0.mk hs5; have R5 := Aside0.mk (R_kc R1.out hk5 GLT.out); have K5 := Aside0.mk (K1.out.trans hk5); clear hs5 hk5))
        have S1 : Aside0 (Sp wt.drew g us rate suf t true) := ⟨S5.out.below (below_drew (Below.refl _ _))⟩
        have c0 := S1.out.atC
        have c1 := S1.out.word q HV.out.2
        rw [← HV.out.1] at c1
        have R1 : Aside0 (Kd.R (Kd.int .u8) 5 wt.drew w.heap.size (fun _ => True) (.slice A5 bs.length c5) bs) := ⟨Kd.R_drew R5.out⟩
        have K1 : Aside0 (Kc g w wt.drew) := ⟨K5.out.trans (Kc.ofB (below_drew (Below.refl _ _)))⟩
        have GW : Aside0 (w.heap.size ≤ wt.drew.heap.size) := ⟨K1.out.size⟩
        refine start_ (n := 22) (S := fun w' => w'.cell? ⟨g, 27, none⟩ = some (.int .i64 (t : Int)) ∧ w'.cell? ⟨g, q, none⟩ = some (.int .u64 v)) (ds := []) #[false, false, false, false, false, false, false, false, false, false, false, false, false, false, false, false, false, false, false, false, false, false] (by kernel_rfl) rfl rfl ⟨c0, c1⟩ (fun hHeld => ?_)
        refine with_tabW Read.tab11 Read.bits11 (fun HT_ HW_ => ?_)
        generalize wt.drew = wd at S1 R1 K1 GW c0 c1 hHeld ⊢
        refine pure_ (i := 0) (N := some 55) (v := ?_) (a' := ?_) #[true, false, false, false, false, false, false, false, false, false, false, false, false, false, false, false, false, false, false, false, false, false] rfl rfl (any_of HT_.out (by kernel_rfl)) (fun _ _ _ h => h) (Or.inl ⟨by rfl, ?_⟩) ?_ ?_
        rotate_left
        · intro w'
          go_simp
          with_reducible rfl
        rotate_left
        · simp only [Act.put, List.setIfInBounds_toArray, List.set_cons_zero, List.set_cons_succ, i64_w, i32_w]
          rfl
        refine pure_ (i := 1) (N := some 56) (v := ?_) (a' := ?_) #[true, true, false, false, false, false, false, false, false, false, false, false, false, false, false, false, false, false, false, false, false, false] rfl rfl (any_of HT_.out (by kernel_rfl)) (fun _ _ _ h => h) (Or.inl ⟨by rfl, ?_⟩) ?_ ?_
        rotate_left
        · intro w'
          go_simp
          with_reducible rfl
        rotate_left
        · simp only [Act.put, List.setIfInBounds_toArray, List.set_cons_zero, List.set_cons_succ, i64_w, i32_w]
          rfl
        refine pure_ (i := 2) (N := some 57) (v := ?_) (a' := ?_) #[true, true, true, false, false, false, false, false, false, false, false, false, false, false, false, false, false, false, false, false, false, false] rfl rfl (any_of HT_.out (by kernel_rfl)) (fun _ _ _ h => h) (Or.inl ⟨by rfl, ?_⟩) ?_ ?_
        rotate_left
        · intro w'
          go_simp
          with_reducible rfl
        rotate_left
        · simp only [Act.put, List.setIfInBounds_toArray, List.set_cons_zero, List.set_cons_succ, i64_w, i32_w]
          rfl
        refine pure_ (i := 3) (N := some 58) (v := ?_) (a' := ?_) #[true, true, true, true, false, false, false, false, false, false, false, false, false, false, false, false, false, false, false, false, false, false] rfl rfl (any_of HT_.out (by kernel_rfl)) (fun _ _ _ h => h) (Or.inl ⟨by rfl, ?_⟩) ?_ ?_
        rotate_left
        · intro w'
          go_simp
          with_reducible rfl
        rotate_left
        · simp only [Act.put, List.setIfInBounds_toArray, List.set_cons_zero, List.set_cons_succ, i64_w, i32_w]
          rfl
        refine pure_ (i := 4) (N := some 59) (v := ?_) (a' := ?_) #[true, true, true, true, true, false, false, false, false, false, false, false, false, false, false, false, false, false, false, false, false, false] rfl rfl (any_of HT_.out (by kernel_rfl)) (fun _ _ _ h => h) (Or.inl ⟨by rfl, ?_⟩) ?_ ?_
        rotate_left
        · intro w'
          go_simp
          with_reducible rfl
        rotate_left
        · simp only [Act.put, List.setIfInBounds_toArray, List.set_cons_zero, List.set_cons_succ, i64_w, i32_w]
          rfl
        refine pure_ (i := 7) (N := some 62) (v := ?_) (a' := ?_) #[true, true, true, true, true, false, false, true, false, false, false, false, false, false, false, false, false, false, false, false, false, false] rfl rfl (any_of HT_.out (by kernel_rfl)) (fun _ _ _ h => h) (Or.inl ⟨by rfl, ?_⟩) ?_ ?_
        rotate_left
        · intro w'
          go_simp
          with_reducible rfl
        rotate_left
        · simp only [Act.put, List.setIfInBounds_toArray, List.set_cons_zero, List.set_cons_succ, i64_w, i32_w]
          rfl
        refine pure_ (i := 8) (N := some 63) (v := ?_) (a' := ?_) #[true, true, true, true, true, false, false, true, true, false, false, false, false, false, false, false, false, false, false, false, false, false] rfl rfl (any_of HT_.out (by kernel_rfl)) (fun _ _ _ h => h) (Or.inl ⟨by rfl, ?_⟩) ?_ ?_
        rotate_left
        · intro w'
          go_simp
          with_reducible rfl
        rotate_left
        · simp only [Act.put, List.setIfInBounds_toArray, List.set_cons_zero, List.set_cons_succ, i64_w, i32_w]
          rfl
        refine pure_ (i := 11) (N := some 66) (v := ?_) (a' := ?_) #[true, true, true, true, true, false, false, true, true, false, false, true, false, false, false, false, false, false, false, false, false, false] rfl rfl (any_of HT_.out (by kernel_rfl)) (fun _ _ _ h => h) (Or.inl ⟨by rfl, ?_⟩) ?_ ?_
        rotate_left
        · intro w'
          go_simp
          with_reducible rfl
        rotate_left
        · simp only [Act.put, List.setIfInBounds_toArray, List.set_cons_zero, List.set_cons_succ, i64_w, i32_w]
          rfl
        refine pure_ (i := 12) (N := some 67) (v := ?_) (a' := ?_) #[true, true, true, true, true, false, false, true, true, false, false, true, true, false, false, false, false, false, false, false, false, false] rfl rfl (any_of HT_.out (by kernel_rfl)) (fun _ _ _ h => h) (Or.inl ⟨by rfl, ?_⟩) ?_ ?_
        rotate_left
        · intro w'
          go_simp
          with_reducible rfl
        rotate_left
        · simp only [Act.put, List.setIfInBounds_toArray, List.set_cons_zero, List.set_cons_succ, i64_w, i32_w]
          rfl
        refine pure_ (i := 13) (N := some 68) (v := ?_) (a' := ?_) #[true, true, true, true, true, false, false, true, true, false, false, true, true, true, false, false, false, false, false, false, false, false] rfl rfl (any_of HT_.out (by kernel_rfl)) (fun _ _ _ h => h) (Or.inl ⟨by rfl, ?_⟩) ?_ ?_
        rotate_left
        · intro w'
          go_simp
          with_reducible rfl
        rotate_left
        · simp only [Act.put, List.setIfInBounds_toArray, List.set_cons_zero, List.set_cons_succ, i64_w, i32_w]
          rfl
        refine take_ (i := 5) (N := some 60) (v := ?_) (a' := ?_) #[true, true, true, true, true, true, false, true, true, false, false, true, true, true, false, false, false, false, false, false, false, false] rfl rfl (take_ofW HT_.out HW_.out (by kernel_rfl)) (fun _ _ _ h => h) (Or.inl ⟨by rfl, ?_⟩) hHeld ?_ ?_
        rotate_left
        · rintro w' ⟨s0, s1⟩
          go_simp
          with_reducible rfl
        rotate_left
        · simp only [Act.put, List.setIfInBounds_toArray, List.set_cons_zero, List.set_cons_succ, i64_w, i32_w]
          rfl
        refine pure_ (i := 6) (N := some 61) (v := ?_) (a' := ?_) #[true, true, true, true, true, true, true, true, true, false, false, true, true, true, false, false, false, false, false, false, false, false] rfl rfl (any_of HT_.out (by kernel_rfl)) (fun _ _ _ h => h) (Or.inl ⟨by rfl, ?_⟩) ?_ ?_
        rotate_left
        · intro w'
          go_simp
          with_reducible rfl
        rotate_left
        · simp only [Act.put, List.setIfInBounds_toArray, List.set_cons_zero, List.set_cons_succ, i64_w, i32_w]
          rfl
        refine pure_ (i := 9) (N := some 64) (v := ?_) (a' := ?_) #[true, true, true, true, true, true, true, true, true, true, false, true, true, true, false, false, false, false, false, false, false, false] rfl rfl (any_of HT_.out (by kernel_rfl)) (fun _ _ _ h => h) (Or.inl ⟨by rfl, ?_⟩) ?_ ?_
        rotate_left
        · intro w'
          go_simp
          with_reducible rfl
        rotate_left
        · simp only [Act.put, List.setIfInBounds_toArray, List.set_cons_zero, List.set_cons_succ, i64_w, i32_w]
          rfl
        refine take_ (i := 10) (N := some 65) (v := ?_) (a' := ?_) #[true, true, true, true, true, true, true, true, true, true, true, true, true, true, false, false, false, false, false, false, false, false] rfl rfl (take_ofW HT_.out HW_.out (by kernel_rfl)) (fun _ _ _ h => h) (Or.inl ⟨by rfl, ?_⟩) hHeld ?_ ?_
        rotate_left
        · rintro w' ⟨s0, s1⟩
          go_simp
          with_reducible rfl
        rotate_left
        · simp only [Act.put, List.setIfInBounds_toArray, List.set_cons_zero, List.set_cons_succ, i64_w, i32_w]
          rfl
        refine take_ (i := 14) (N := some 69) (v := ?_) (a' := ?_) #[true, true, true, true, true, true, true, true, true, true, true, true, true, true, true, false, false, false, false, false, false, false] rfl rfl (take_ofW HT_.out HW_.out (by kernel_rfl)) (fun _ _ _ h => h) (Or.inl ⟨by rfl, ?_⟩) hHeld ?_ ?_
        rotate_left
        · rintro w' ⟨s0, s1⟩
          go_simp
          with_reducible rfl
        rotate_left
        · simp only [Act.put, List.setIfInBounds_toArray, List.set_cons_zero, List.set_cons_succ, i64_w, i32_w]
          rfl
        refine pure_ (i := 15) (N := some 70) (v := ?_) (a' := ?_) #[true, true, true, true, true, true, true, true, true, true, true, true, true, true, true, true, false, false, false, false, false, false] rfl rfl (any_of HT_.out (by kernel_rfl)) (fun _ _ _ h => h) (Or.inl ⟨by rfl, ?_⟩) ?_ ?_
        rotate_left
        · intro w'
          go_simp
          with_reducible rfl
        rotate_left
        · simp only [Act.put, List.setIfInBounds_toArray, List.set_cons_zero, List.set_cons_succ, i64_w, i32_w]
          rfl
        refine pure_ (i := 16) (N := some 71) (v := ?_) (a' := ?_) #[true, true, true, true, true, true, true, true, true, true, true, true, true, true, true, true, true, false, false, false, false, false] rfl rfl (any_of HT_.out (by kernel_rfl)) (fun _ _ _ h => h) (Or.inl ⟨by rfl, ?_⟩) ?_ ?_
        rotate_left
        · intro w'
          go_simp
          with_reducible rfl
        rotate_left
        · simp only [Act.put, List.setIfInBounds_toArray, List.set_cons_zero, List.set_cons_succ, i64_w, i32_w]
          rfl
        refine pure_ (i := 17) (N := some 72) (v := ?_) (a' := ?_) #[true, true, true, true, true, true, true, true, true, true, true, true, true, true, true, true, true, true, false, false, false, false] rfl rfl (any_of HT_.out (by kernel_rfl)) (fun _ _ _ h => h) (Or.inl ⟨by rfl, ?_⟩) ?_ ?_
        rotate_left
        · intro w'
          go_simp
          with_reducible rfl
        rotate_left
        · simp only [Act.put, List.setIfInBounds_toArray, List.set_cons_zero, List.set_cons_succ, i64_w, i32_w]
          rfl
        refine pure_ (i := 18) (N := some 73) (v := ?_) (a' := ?_) #[true, true, true, true, true, true, true, true, true, true, true, true, true, true, true, true, true, true, true, false, false, false] rfl rfl (any_of HT_.out (by kernel_rfl)) (fun _ _ _ h => h) (Or.inl ⟨by rfl, ?_⟩) ?_ ?_
        rotate_left
        · intro w'
          go_simp
          with_reducible rfl
        rotate_left
        · simp only [Act.put, List.setIfInBounds_toArray, List.set_cons_zero, List.set_cons_succ, i64_w, i32_w]
          rfl
        refine one_ (i := 19) (N := some 74) #[true, true, true, true, true, true, true, true, true, true, true, true, true, true, true, true, true, true, true, true, false, false] rfl rfl (one_of HT_.out (by kernel_rfl)) (by decide) (fun K hK => ?_)
        refine value_ (w1 := ?_) (v := ?_) (by rfl) rfl ?_ ?_
        rotate_left 2
        · go_simp
          constructor
          · rfl
          · rfl
        refine hK.out _ _ ⟨(pw_cell_below (below_alloc (Below.refl _ _) _) c0), (pw_cell_below (below_alloc (Below.refl _ _) _) c1)⟩ (fun hHeld => ?_)
        clear hK K
        refine norm_ (a' := ?_) ?_ ?_
        rotate_left
        · show Act.put _ (some 74) _ = _
          simp only [Act.put, List.setIfInBounds_toArray, List.set_cons_zero, List.set_cons_succ, i64_w, i32_w]
          rfl
        refine one_ (i := 20) (N := some 75) #[true, true, true, true, true, true, true, true, true, true, true, true, true, true, true, true, true, true, true, true, true, false] rfl rfl (one_of HT_.out (by kernel_rfl)) (by decide) (fun K hK => ?_)
        refine Kd.R_append_step (Kd.int .u8) (w0 := wd) w.heap.size rfl (.tmp 55) (.tmp 74) 22 5 (.int .u8 0) 1 rfl Tryd.underlying22 info5 rfl (by decide) (by decide) (.slice A5 bs.length c5) bs _ [.int .u8 (IntKind.u8.wrap (shr .u64 v (s : Int)))] (fun _ => True) (fun _ => False) rfl rfl rfl (fun _ h => h.elim) (fun _ _ => trivial) R1.out (Below.refl _ _) GW.out ?_ ?_
        · have := BL.out; omega
        intro v1 w1 ho1 hb1 hg1 hat1
        have R2 := Aside0.mk ho1
        have HB1 := Aside0.mk hb1
        have S2 := Aside0.mk (Sp.mk (S1.out.ls.far (hb1.block g GLT.out)) S1.out.len)
        have c0b := S2.out.atC
        have c1b := (hb1.cell (p := ⟨g, q, none⟩) GLT.out).trans c1
        have z1b := S2.out.ls.frozen 27
        clear ho1 hb1 hg1 hat1 c0 c1
        refine hK.out _ _ ⟨c0b, c1b⟩ (fun hHeld => ?_)
        clear hK K
        refine norm_ (a' := ?_) ?_ ?_
        rotate_left
        · show Act.put _ (some 75) _ = _
          simp only [Act.put, List.setIfInBounds_toArray, List.set_cons_zero, List.set_cons_succ, i64_w, i32_w]
          rfl
        refine pure_ (i := 21) (N := some 5) (v := ?_) (a' := ?_) #[true, true, true, true, true, true, true, true, true, true, true, true, true, true, true, true, true, true, true, true, true, true] rfl rfl (any_of HT_.out (by kernel_rfl)) (fun _ _ _ h => h) (Or.inl ⟨by rfl, ?_⟩) ?_ ?_
        rotate_left
        · intro w'
          go_simp
          with_reducible rfl
        rotate_left
        · simp only [Act.put, List.setIfInBounds_toArray, List.set_cons_zero, List.set_cons_succ, i64_w, i32_w]
          rfl
        refine done_ (done_of HT_.out (by kernel_rfl)) ?_

        go_wp2
        go_roundg k1
        case measure => omega
        case rel => exact ⟨i + 1, (by
            have hw : wrap64 ((i : Int) + 1) = ((i + 1 : Nat) : Int) := by have := HCI.out; have := HN.out; unfold wrap64; omega
            first | rfl | (rw [← hw]; rfl) | (simp [*]; done)), ⟨by have := HJ.out; omega⟩, ⟨by rw [HSQ.out]; exact S2.out.puta t1⟩, ⟨by rw [HSQ.out, HB.out]; exact R_kc R2.out (Kc.of (Kb.set g 27 _ _)) GLT.out⟩, ⟨(K1.out.low HB1.out GLT.out).trans (Kc.of (Kb.set g 27 _ _))⟩⟩
    · have z1 : decide ((i : Int) < (n : Int)) = false := decide_eq_false (by omega)
      have z1' : decide (i < n) = false := decide_eq_false ci
      obtain rfl : i = n := by have := HJ.out; omega
      obtain ⟨A5, c5, rfl⟩ := Kd.R_slice R1.out
      have R2 := R1.out
      rw [l1] at R2 ⊢
      go_wp2
      go_ret
      exact ⟨A5, c5, rfl, R2, S1.out, K1.out⟩
end

end Go.Proofs.YtkdfcgihgndnnaaDoor.PPK
end
section
namespace Go.Proofs.YtkdfcgihgndnnaaDoor.PPK
open Go.RowKit Go.Proofs.YtkdfcgihgndnnaaDoorW.PrintWords Go.Proofs.YtkdfcgihgndnnaaDoorW.PrintLast Go.Proofs.YtkdfcgihgndnnaaDoorW.PrintMore
attribute [local go_sem] max2_int min2_int max_two min_two max_three min_three max_four min_four
set_option linter.unusedVariables false
set_option linter.unusedSimpArgs false
section
def zer25 : List Int := List.replicate 25 0
/-- What comes out of a sponge into which bytes went. -/
def hash (rate suf n : Nat) (bs : List Int) : List Int := (sqz rate n (padW rate suf (feed rate (zer25, 0) bs))).1
theorem hash_len (rate suf n : Nat) (hr : 1 ≤ rate) (bs : List Int) : (hash rate suf n bs).length = n := by
  obtain ⟨h1, h2⟩ := feed_ok rate hr bs (zer25, 0) List.length_replicate hr
  exact (sqz_ok rate hr n _ (flip_len _ _ _ (flip_len _ _ _ h1)) (Nat.le_refl _)).1
theorem sqz_B (rate : Nat) : ∀ (k : Nat) (s : List Int × Nat), ∀ x ∈ (sqz rate k s).1, 0 ≤ x ∧ x < 256
  | 0, s, x, hx => by simp [sqz] at hx
  | k + 1, s, x, hx => by
    rw [sqz] at hx
    rcases List.mem_append.mp hx with h | h
    · exact sqz_B rate k s x h
    · rw [List.mem_singleton.mp h, byteOf]
      have hw : ∀ n : Int, IntKind.u8.wrap n = n % 256 := fun n => by simp [IntKind.wrap, IntKind.bits, IntKind.signed]
      rw [hw]
      omega
theorem hash_B (rate suf n : Nat) (bs : List Int) : ∀ x ∈ hash rate suf n bs, 0 ≤ x ∧ x < 256 := sqz_B rate n _
set_option maxHeartbeats 8000000 in
set_option maxRecDepth 100000 in
theorem SpOf.calls (rate suf n : Nat) (h1 : 8 ≤ rate ∧ rate ≤ 192 ∧ rate % 8 = 0) (h2 : 1 ≤ suf ∧ suf ≤ 127) (hn : 1 ≤ n ∧ n ≤ 1048576) (A : Option Addr) (c : Nat) (l : List (List Int)) (w : World) (hC : Kd.C (Kd.slice 5 (Kd.int .u8)) w A l.length l) (hl : l.length < 1000000) (hl2 : ∀ x ∈ l, x.length < 1000000) : Calls Tryd.prog 34 #[.int .i64 (rate : Int), .int .u8 (suf : Int), .int .i64 (n : Int), .slice A l.length c] w fun e w' => ∃ A' c', e = .returned (.slice A' n c') ∧ Kd.R (Kd.int .u8) 5 w' w.heap.size (fun _ => True) (.slice A' n c') (hash rate suf n l.flatten) ∧ Below w.heap.size w w' := by
  obtain ⟨g, hg⟩ : ∃ g, g = w.heap.size := ⟨_, rfl⟩
  have GE : Aside0 (w.heap.size ≤ g) := ⟨by omega⟩
  obtain ⟨f1, f2⟩ := feed_ok rate (by omega) l.flatten (zer25, 0) List.length_replicate (show 0 < rate by omega)
  obtain ⟨fs, hfs⟩ : ∃ fs, fs = feed rate (zer25, 0) l.flatten := ⟨_, rfl⟩
  have HH : Aside0 (hash rate suf n l.flatten = (sqz rate n (padW rate suf (fs.1, fs.2))).1) := ⟨by rw [hash, ← hfs]⟩
  rw [← hfs] at f1 f2
  have NW : Aside0 (Calls Tryd.prog 54 #[.int .i64 (rate : Int), .int .u8 (suf : Int)] w fun e w' => e = .returned (.pointer (some ⟨g, 0, none⟩)) ∧ Sp w' g zer25 rate suf 0 false ∧ Below w.heap.size w w') := ⟨by rw [hg]; exact SpNew.calls rate suf h1 h2 w⟩
  have WR : Aside0 (∀ w', Below w.heap.size w w' → Sp w' g zer25 rate suf 0 false → Calls Tryd.prog 55 #[.pointer (some ⟨g, 0, none⟩), .slice A l.length c] w' fun e w'' => e = .returned .nilIface ∧ Sp w'' g fs.1 rate suf fs.2 false ∧ Below w.heap.size w w'') := ⟨fun w' hb hs => by rw [hfs]; exact (SpWrite.calls g zer25 rate suf 0 (by omega) (by omega) A c l w' (pts_of hC hb GE.out) hl hl2 hs).mono fun e w'' h => ⟨h.1, h.2.1, h.2.2.below w GE.out hb⟩⟩
  have RD : Aside0 (∀ w', Sp w' g fs.1 rate suf fs.2 false → Calls Tryd.prog 56 #[.pointer (some ⟨g, 0, none⟩), .int .i64 (n : Int)] w' fun e w'' => ∃ A c, e = .returned (.slice A n c) ∧ Kd.R (Kd.int .u8) 5 w'' w'.heap.size (fun _ => True) (.slice A n c) (sqz rate n (padW rate suf (fs.1, fs.2))).1 ∧ Sp w'' g (sqz rate n (padW rate suf (fs.1, fs.2))).2.1 rate suf (sqz rate n (padW rate suf (fs.1, fs.2))).2.2 true ∧ Kc g w' w'') := ⟨fun w' hs => SpReadA.calls g fs.1 rate suf fs.2 (by omega) (Nat.le_of_lt f2) n hn w' hs f2⟩
  clear hfs f1 f2 h1 h2 hn hC hl hl2 hg
  go_enter Tryd.func34, Tryd.ntmps34
  go_wp2_with (first | (go_at_call 56; (with_reducible refine (RD.out _ S2.out).mono ?_); rintro e w3 ⟨A', c', rfl, hr3, hs3, hk3⟩; have R3 := Aside0.mk (Kd.R_lower hr3 B2.out.size); have B3 := Aside0.mk (hk3.below w GE.out B2.out); clear hr3 hs3 hk3) | (go_at_call 55; (with_reducible refine (WR.out _ B1.out S1.out).mono ?_); rintro e w2 ⟨rfl, hs2, hb2⟩; have S2 := Aside0.mk hs2; have B2 := Aside0.mk hb2; clear hs2 hb2) | (go_at_call 54; (with_reducible refine NW.out.mono ?_); rintro e w1 ⟨rfl, hs1, hb1⟩; have S1 := Aside0.mk hs1; have B1 := Aside0.mk hb1; clear hs1 hb1))
  go_ret
  exact ⟨A', c', rfl, by rw [HH.out]; exact R3.out, B3.out⟩
set_option maxHeartbeats 8000000 in
set_option maxRecDepth 100000 in
theorem SpSha512.calls (A : Option Addr) (c : Nat) (l : List (List Int)) (w : World) (hC : Kd.C (Kd.slice 5 (Kd.int .u8)) w A l.length l) (hl : l.length < 1000000) (hl2 : ∀ x ∈ l, x.length < 1000000) : Calls Tryd.prog 15 #[.slice A l.length c] w fun e w' => ∃ A' c', e = .returned (.slice A' 64 c') ∧ Kd.R (Kd.int .u8) 5 w' w.heap.size (fun _ => True) (.slice A' 64 c') (hash 72 6 64 l.flatten) ∧ Below w.heap.size w w' := by
  have OF : Aside0 (Calls Tryd.prog 34 #[.int .i64 72, .int .u8 6, .int .i64 64, .slice A l.length c] w fun e w' => ∃ A' c', e = .returned (.slice A' 64 c') ∧ Kd.R (Kd.int .u8) 5 w' w.heap.size (fun _ => True) (.slice A' 64 c') (hash 72 6 64 l.flatten) ∧ Below w.heap.size w w') := ⟨SpOf.calls 72 6 64 (by decide) (by decide) (by decide) A c l w hC hl hl2⟩
  clear hC hl hl2
  go_enter Tryd.func15, Tryd.ntmps15
  go_wp2_with (first | (go_at_call 34; (with_reducible refine OF.out.mono ?_); rintro e w1 ⟨A', c', rfl, hr1, hb1⟩; have R1 := Aside0.mk hr1; have B1 := Aside0.mk hb1; clear hr1 hb1))
  go_ret
  exact ⟨A', c', rfl, R1.out, B1.out⟩
set_option maxHeartbeats 8000000 in
set_option maxRecDepth 100000 in
theorem SpShake256.calls (n : Nat) (hn : 1 ≤ n ∧ n ≤ 1048576) (A : Option Addr) (c : Nat) (l : List (List Int)) (w : World) (hC : Kd.C (Kd.slice 5 (Kd.int .u8)) w A l.length l) (hl : l.length < 1000000) (hl2 : ∀ x ∈ l, x.length < 1000000) : Calls Tryd.prog 69 #[.int .i64 (n : Int), .slice A l.length c] w fun e w' => ∃ A' c', e = .returned (.slice A' n c') ∧ Kd.R (Kd.int .u8) 5 w' w.heap.size (fun _ => True) (.slice A' n c') (hash 136 31 n l.flatten) ∧ Below w.heap.size w w' := by
  have OF : Aside0 (Calls Tryd.prog 34 #[.int .i64 136, .int .u8 31, .int .i64 (n : Int), .slice A l.length c] w fun e w' => ∃ A' c', e = .returned (.slice A' n c') ∧ Kd.R (Kd.int .u8) 5 w' w.heap.size (fun _ => True) (.slice A' n c') (hash 136 31 n l.flatten) ∧ Below w.heap.size w w') := ⟨SpOf.calls 136 31 n (by decide) (by decide) hn A c l w hC hl hl2⟩
  clear hC hl hl2
  go_enter Tryd.func69, Tryd.ntmps69
  go_wp2_with (first | (go_at_call 34; (with_reducible refine OF.out.mono ?_); rintro e w1 ⟨A', c', rfl, hr1, hb1⟩; have R1 := Aside0.mk hr1; have B1 := Aside0.mk hb1; clear hr1 hb1))
  go_ret
  exact ⟨A', c', rfl, R1.out, B1.out⟩
end

end Go.Proofs.YtkdfcgihgndnnaaDoor.PPK
end
section
namespace Go.Proofs.YtkdfcgihgndnnaaDoor.PPK
open Go.RowKit Go.Proofs.YtkdfcgihgndnnaaDoorW.PrintWords Go.Proofs.YtkdfcgihgndnnaaDoorW.PrintLast Go.Proofs.YtkdfcgihgndnnaaDoorW.PrintMore
attribute [local go_sem] max2_int min2_int max_two min_two max_three min_three max_four min_four
set_option linter.unusedVariables false
set_option linter.unusedSimpArgs false
section
set_option maxHeartbeats 8000000 in
set_option maxRecDepth 100000 in
theorem SpReadB.calls (g : Nat) (ws : List Int) (rate suf at_ : Nat) (hr : 1 ≤ rate ∧ rate ≤ 192) (hat : at_ ≤ rate) (n : Nat) (hn : 1 ≤ n ∧ n ≤ 1048576) (w : World) (h : Sp w g ws rate suf at_ true) : Calls Tryd.prog 56 #[.pointer (some ⟨g, 0, none⟩), .int .i64 (n : Int)] w fun e w' => ∃ A c, e = .returned (.slice A n c) ∧ Kd.R (Kd.int .u8) 5 w' w.heap.size (fun _ => True) (.slice A n c) (sqz rate n (ws, at_)).1 ∧ Sp w' g (sqz rate n (ws, at_)).2.1 rate suf (sqz rate n (ws, at_)).2.2 true ∧ Kc g w w' := by
  obtain ⟨s0, hs0⟩ : ∃ s0, s0 = (ws, at_) := ⟨_, rfl⟩
  rw [← hs0]
  have LS : Aside0 (s0.1.length = 25 ∧ s0.2 ≤ rate) := ⟨by rw [hs0]; exact ⟨h.len, hat⟩⟩
  have HR := Aside0.mk hr
  have HN := Aside0.mk hn
  have GLT : Aside0 (g < w.heap.size) := ⟨by obtain ⟨cs, h1, _⟩ := h.ls; exact blk_lt h1⟩
  have d1 : decide ((n : Int) < 1) = false := decide_eq_false (by omega)
  have d1' : decide (n < 1) = false := decide_eq_false (by omega)
  have d2 : decide (1048576 < (n : Int)) = false := decide_eq_false (by omega)
  have d2' : decide (1048576 < n) = false := decide_eq_false (by omega)
  have cg := h.givesC
  have S6 : Aside0 (Sp w g s0.1 rate suf s0.2 true) := ⟨by rw [hs0]; exact h⟩
  have K6 : Aside0 (Kc g w w) := ⟨Kc.refl g w⟩
  clear h
  obtain ⟨ZC, hmk, hmr⟩ := make0 n hn.2
  have MR := Aside0.mk hmr
  clear hmr hr hat hn
  go_enter Tryd.func56, Tryd.ntmps56
  go_upto_region 7 with (fail)
  go_wp2
  have HMR := MR.out w w.heap.size K6.out.size
  go_loopg [5, 51] n (fun kq v5 v51 w' => ∃ i : Nat, v51 = .int .i64 (i : Int) ∧ Aside0 (i + kq = n) ∧ Aside0 (Sp w' g (sqz rate i s0).2.1 rate suf (sqz rate i s0).2.2 true) ∧ Aside0 (Kd.R (Kd.int .u8) 5 w' w.heap.size (fun _ => True) v5 (sqz rate i s0).1) ∧ Aside0 (Kc g w w'))
  case atStart => exact ⟨0, rfl, ⟨by omega⟩, ⟨S6.out.below (below_alloc (Below.refl _ _) _)⟩, ⟨HMR⟩, ⟨K6.out.trans (Kc.ofB (below_alloc (Below.refl _ _) _))⟩⟩
  case round =>
    clear S6 K6 HMR hmk
    obtain ⟨i, rfl, HJ, S1, R1, K1⟩ := hrel
    obtain ⟨l1, l2, l3⟩ := sqz_ok rate HR.out.1 i s0 LS.out.1 LS.out.2
    by_cases ci : i < n
    · have z1 : decide ((i : Int) < (n : Int)) = true := decide_eq_true (by omega)
      have z1' : decide (i < n) = true := decide_eq_true ci
      have HCI := Aside0.mk ci
      cases gk with
      | zero => have := HJ.out; omega
      | succ k1 =>
        have TU : Aside0 (∀ w', Sp w' g (sqz rate i s0).2.1 rate suf (sqz rate i s0).2.2 true → Calls Tryd.prog 75 #[.pointer (some ⟨g, 0, none⟩)] w' fun e w'' => e = .returned (.tuple #[]) ∧ Sp w'' g (turnW rate (sqz rate i s0).2.1 (sqz rate i s0).2.2).1 rate suf (turnW rate (sqz rate i s0).2.1 (sqz rate i s0).2.2).2 true ∧ Kc g w' w'') := ⟨fun w' h => Turn.calls g _ rate suf _ true w' h⟩
        obtain ⟨j1, j2⟩ := turn_ok rate HR.out.1 _ _ l2 l3
        have BL : Aside0 ((sqz rate i s0).1.length ≤ 1048576) := ⟨by rw [l1]; have := HN.out; omega⟩
        clear l1 l2 l3
        obtain ⟨A5, c5, rfl⟩ := Kd.R_slice R1.out
        obtain ⟨us, hus⟩ : ∃ us, us = (turnW rate (sqz rate i s0).2.1 (sqz rate i s0).2.2).1 := ⟨_, rfl⟩
        obtain ⟨t, ht⟩ : ∃ t, t = (turnW rate (sqz rate i s0).2.1 (sqz rate i s0).2.2).2 := ⟨_, rfl⟩
        obtain ⟨bs, hbs⟩ : ∃ bs, bs = (sqz rate i s0).1 := ⟨_, rfl⟩
        have HSQ : Aside0 (sqz rate (i + 1) s0 = (bs ++ [byteOf us t], (us, t + 1))) := ⟨by rw [sqz, ← hus, ← ht, ← hbs]⟩
        rw [← ht] at j2
        rw [← hus, ← ht] at TU
        rw [← hbs] at R1 BL
        rw [← hbs]
        have t200 : t < 200 := by have := HR.out.2; omega
        clear hus ht hbs j1 j2
        obtain ⟨q, hq⟩ : ∃ q, q = t / 8 := ⟨_, rfl⟩
        obtain ⟨m, hm⟩ : ∃ m, m = t % 8 := ⟨_, rfl⟩
        obtain ⟨s, hs⟩ : ∃ s, s = 8 * m := ⟨_, rfl⟩
        obtain ⟨v, hv⟩ : ∃ v, v = us.getD q 0 := ⟨_, rfl⟩
        have HB : Aside0 (byteOf us t = IntKind.u8.wrap (shr .u64 v (s : Int))) := ⟨by rw [byteOf, ← hq, ← hm, ← hv, ← hs]⟩
        have e8 := q8' t (Nat.lt_trans t200 (by decide))
        have e9 := q8 t (Nat.lt_trans t200 (by decide))
        have em := m8 t
        rw [← hq] at e8 e9
        rw [← hm] at em
        have hq25 : q < 25 := by rw [hq]; exact (s8 t t200).1
        have hm8 : m < 8 := by rw [hm]; exact (s8 t t200).2
        have e8m := m88 m hm8
        rw [← hs] at e8m
        have SH : ∀ W, (Op.shift .shr .u64 v .i64 (s : Int)).run Tryd.prog W = .ok (.int .u64 (shr .u64 v (s : Int))) W := fun W => run_shr64 v s W
        obtain ⟨t1, ht1⟩ : ∃ t1, t1 = t + 1 := ⟨_, rfl⟩
        have et : wrap64 ((t : Int) + 1) = (t1 : Int) := by rw [ht1]; exact wt1 t t200
        rw [← ht1] at HSQ
        have HV := Aside0.mk (And.intro hv hq25)
        clear hq hm hs hv t200 hm8 ht1
        have i1 : ((q : Int) < 25) = True := eq_true (Int.ofNat_lt.mpr hq25)
        have i2 : (0 ≤ (q : Int)) = True := eq_true (Int.natCast_nonneg _)
        clear hq25
        go_upto_region 11 with (first | (go_at_call 75; (with_reducible refine (TU.out _ S1.out).mono ?_); rintro e wt ⟨rfl, hs5, hk5⟩; have S5 := Aside0.mk hs5; have R5 := Aside0.mk (R_kc R1.out hk5 GLT.out); have K5 := Aside0.mk (K1.out.trans hk5); clear hs5 hk5))
        have S1 : Aside0 (Sp wt.drew g us rate suf t true) := ⟨S5.out.below (below_drew (Below.refl _ _))⟩
        have c0 := S1.out.atC
        have c1 := S1.out.word q HV.out.2
        rw [← HV.out.1] at c1
        have R1 : Aside0 (Kd.R (Kd.int .u8) 5 wt.drew w.heap.size (fun _ => True) (.slice A5 bs.length c5) bs) := ⟨Kd.R_drew R5.out⟩
        have K1 : Aside0 (Kc g w wt.drew) := ⟨K5.out.trans (Kc.ofB (below_drew (Below.refl _ _)))⟩
        have GW : Aside0 (w.heap.size ≤ wt.drew.heap.size) := ⟨K1.out.size⟩
        refine start_ (n := 22) (S := fun w' => w'.cell? ⟨g, 27, none⟩ = some (.int .i64 (t : Int)) ∧ w'.cell? ⟨g, q, none⟩ = some (.int .u64 v)) (ds := []) #[false, false, false, false, false, false, false, false, false, false, false, false, false, false, false, false, false, false, false, false, false, false] (by kernel_rfl) rfl rfl ⟨c0, c1⟩ (fun hHeld => ?_)
        refine with_tabW Read.tab11 Read.bits11 (fun HT_ HW_ => ?_)
        generalize wt.drew = wd at S1 R1 K1 GW c0 c1 hHeld ⊢
        refine pure_ (i := 0) (N := some 55) (v := ?_) (a' := ?_) #[true, false, false, false, false, false, false, false, false, false, false, false, false, false, false, false, false, false, false, false, false, false] rfl rfl (any_of HT_.out (by kernel_rfl)) (fun _ _ _ h => h) (Or.inl ⟨by rfl, ?_⟩) ?_ ?_
        rotate_left
        · intro w'
          go_simp
          with_reducible rfl
        rotate_left
        · simp only [Act.put, List.setIfInBounds_toArray, List.set_cons_zero, List.set_cons_succ, i64_w, i32_w]
          rfl
        refine pure_ (i := 1) (N := some 56) (v := ?_) (a' := ?_) #[true, true, false, false, false, false, false, false, false, false, false, false, false, false, false, false, false, false, false, false, false, false] rfl rfl (any_of HT_.out (by kernel_rfl)) (fun _ _ _ h => h) (Or.inl ⟨by rfl, ?_⟩) ?_ ?_
        rotate_left
        · intro w'
          go_simp
          with_reducible rfl
        rotate_left
        · simp only [Act.put, List.setIfInBounds_toArray, List.set_cons_zero, List.set_cons_succ, i64_w, i32_w]
          rfl
        refine pure_ (i := 2) (N := some 57) (v := ?_) (a' := ?_) #[true, true, true, false, false, false, false, false, false, false, false, false, false, false, false, false, false, false, false, false, false, false] rfl rfl (any_of HT_.out (by kernel_rfl)) (fun _ _ _ h => h) (Or.inl ⟨by rfl, ?_⟩) ?_ ?_
        rotate_left
        · intro w'
          go_simp
          with_reducible rfl
        rotate_left
        · simp only [Act.put, List.setIfInBounds_toArray, List.set_cons_zero, List.set_cons_succ, i64_w, i32_w]
          rfl
        refine pure_ (i := 3) (N := some 58) (v := ?_) (a' := ?_) #[true, true, true, true, false, false, false, false, false, false, false, false, false, false, false, false, false, false, false, false, false, false] rfl rfl (any_of HT_.out (by kernel_rfl)) (fun _ _ _ h => h) (Or.inl ⟨by rfl, ?_⟩) ?_ ?_
        rotate_left
        · intro w'
          go_simp
          with_reducible rfl
        rotate_left
        · simp only [Act.put, List.setIfInBounds_toArray, List.set_cons_zero, List.set_cons_succ, i64_w, i32_w]
          rfl
        refine pure_ (i := 4) (N := some 59) (v := ?_) (a' := ?_) #[true, true, true, true, true, false, false, false, false, false, false, false, false, false, false, false, false, false, false, false, false, false] rfl rfl (any_of HT_.out (by kernel_rfl)) (fun _ _ _ h => h) (Or.inl ⟨by rfl, ?_⟩) ?_ ?_
        rotate_left
        · intro w'
          go_simp
          with_reducible rfl
        rotate_left
        · simp only [Act.put, List.setIfInBounds_toArray, List.set_cons_zero, List.set_cons_succ, i64_w, i32_w]
          rfl
        refine pure_ (i := 7) (N := some 62) (v := ?_) (a' := ?_) #[true, true, true, true, true, false, false, true, false, false, false, false, false, false, false, false, false, false, false, false, false, false] rfl rfl (any_of HT_.out (by kernel_rfl)) (fun _ _ _ h => h) (Or.inl ⟨by rfl, ?_⟩) ?_ ?_
        rotate_left
        · intro w'
          go_simp
          with_reducible rfl
        rotate_left
        · simp only [Act.put, List.setIfInBounds_toArray, List.set_cons_zero, List.set_cons_succ, i64_w, i32_w]
          rfl
        refine pure_ (i := 8) (N := some 63) (v := ?_) (a' := ?_) #[true, true, true, true, true, false, false, true, true, false, false, false, false, false, false, false, false, false, false, false, false, false] rfl rfl (any_of HT_.out (by kernel_rfl)) (fun _ _ _ h => h) (Or.inl ⟨by rfl, ?_⟩) ?_ ?_
        rotate_left
        · intro w'
          go_simp
          with_reducible rfl
        rotate_left
        · simp only [Act.put, List.setIfInBounds_toArray, List.set_cons_zero, List.set_cons_succ, i64_w, i32_w]
          rfl
        refine pure_ (i := 11) (N := some 66) (v := ?_) (a' := ?_) #[true, true, true, true, true, false, false, true, true, false, false, true, false, false, false, false, false, false, false, false, false, false] rfl rfl (any_of HT_.out (by kernel_rfl)) (fun _ _ _ h => h) (Or.inl ⟨by rfl, ?_⟩) ?_ ?_
        rotate_left
        · intro w'
          go_simp
          with_reducible rfl
        rotate_left
        · simp only [Act.put, List.setIfInBounds_toArray, List.set_cons_zero, List.set_cons_succ, i64_w, i32_w]
          rfl
        refine pure_ (i := 12) (N := some 67) (v := ?_) (a' := ?_) #[true, true, true, true, true, false, false, true, true, false, false, true, true, false, false, false, false, false, false, false, false, false] rfl rfl (any_of HT_.out (by kernel_rfl)) (fun _ _ _ h => h) (Or.inl ⟨by rfl, ?_⟩) ?_ ?_
        rotate_left
        · intro w'
          go_simp
          with_reducible rfl
        rotate_left
        · simp only [Act.put, List.setIfInBounds_toArray, List.set_cons_zero, List.set_cons_succ, i64_w, i32_w]
          rfl
        refine pure_ (i := 13) (N := some 68) (v := ?_) (a' := ?_) #[true, true, true, true, true, false, false, true, true, false, false, true, true, true, false, false, false, false, false, false, false, false] rfl rfl (any_of HT_.out (by kernel_rfl)) (fun _ _ _ h => h) (Or.inl ⟨by rfl, ?_⟩) ?_ ?_
        rotate_left
        · intro w'
          go_simp
          with_reducible rfl
        rotate_left
        · simp only [Act.put, List.setIfInBounds_toArray, List.set_cons_zero, List.set_cons_succ, i64_w, i32_w]
          rfl
        refine take_ (i := 5) (N := some 60) (v := ?_) (a' := ?_) #[true, true, true, true, true, true, false, true, true, false, false, true, true, true, false, false, false, false, false, false, false, false] rfl rfl (take_ofW HT_.out HW_.out (by kernel_rfl)) (fun _ _ _ h => h) (Or.inl ⟨by rfl, ?_⟩) hHeld ?_ ?_
        rotate_left
        · rintro w' ⟨s0, s1⟩
          go_simp
          with_reducible rfl
        rotate_left
        · simp only [Act.put, List.setIfInBounds_toArray, List.set_cons_zero, List.set_cons_succ, i64_w, i32_w]
          rfl
        refine pure_ (i := 6) (N := some 61) (v := ?_) (a' := ?_) #[true, true, true, true, true, true, true, true, true, false, false, true, true, true, false, false, false, false, false, false, false, false] rfl rfl (any_of HT_.out (by kernel_rfl)) (fun _ _ _ h => h) (Or.inl ⟨by rfl, ?_⟩) ?_ ?_
        rotate_left
        · intro w'
          go_simp
          with_reducible rfl
        rotate_left
        · simp only [Act.put, List.setIfInBounds_toArray, List.set_cons_zero, List.set_cons_succ, i64_w, i32_w]
          rfl
        refine pure_ (i := 9) (N := some 64) (v := ?_) (a' := ?_) #[true, true, true, true, true, true, true, true, true, true, false, true, true, true, false, false, false, false, false, false, false, false] rfl rfl (any_of HT_.out (by kernel_rfl)) (fun _ _ _ h => h) (Or.inl ⟨by rfl, ?_⟩) ?_ ?_
        rotate_left
        · intro w'
          go_simp
          with_reducible rfl
        rotate_left
        · simp only [Act.put, List.setIfInBounds_toArray, List.set_cons_zero, List.set_cons_succ, i64_w, i32_w]
          rfl
        refine take_ (i := 10) (N := some 65) (v := ?_) (a' := ?_) #[true, true, true, true, true, true, true, true, true, true, true, true, true, true, false, false, false, false, false, false, false, false] rfl rfl (take_ofW HT_.out HW_.out (by kernel_rfl)) (fun _ _ _ h => h) (Or.inl ⟨by rfl, ?_⟩) hHeld ?_ ?_
        rotate_left
        · rintro w' ⟨s0, s1⟩
          go_simp
          with_reducible rfl
        rotate_left
        · simp only [Act.put, List.setIfInBounds_toArray, List.set_cons_zero, List.set_cons_succ, i64_w, i32_w]
          rfl
        refine take_ (i := 14) (N := some 69) (v := ?_) (a' := ?_) #[true, true, true, true, true, true, true, true, true, true, true, true, true, true, true, false, false, false, false, false, false, false] rfl rfl (take_ofW HT_.out HW_.out (by kernel_rfl)) (fun _ _ _ h => h) (Or.inl ⟨by rfl, ?_⟩) hHeld ?_ ?_
        rotate_left
        · rintro w' ⟨s0, s1⟩
          go_simp
          with_reducible rfl
        rotate_left
        · simp only [Act.put, List.setIfInBounds_toArray, List.set_cons_zero, List.set_cons_succ, i64_w, i32_w]
          rfl
        refine pure_ (i := 15) (N := some 70) (v := ?_) (a' := ?_) #[true, true, true, true, true, true, true, true, true, true, true, true, true, true, true, true, false, false, false, false, false, false] rfl rfl (any_of HT_.out (by kernel_rfl)) (fun _ _ _ h => h) (Or.inl ⟨by rfl, ?_⟩) ?_ ?_
        rotate_left
        · intro w'
          go_simp
          with_reducible rfl
        rotate_left
        · simp only [Act.put, List.setIfInBounds_toArray, List.set_cons_zero, List.set_cons_succ, i64_w, i32_w]
          rfl
        refine pure_ (i := 16) (N := some 71) (v := ?_) (a' := ?_) #[true, true, true, true, true, true, true, true, true, true, true, true, true, true, true, true, true, false, false, false, false, false] rfl rfl (any_of HT_.out (by kernel_rfl)) (fun _ _ _ h => h) (Or.inl ⟨by rfl, ?_⟩) ?_ ?_
        rotate_left
        · intro w'
          go_simp
          with_reducible rfl
        rotate_left
        · simp only [Act.put, List.setIfInBounds_toArray, List.set_cons_zero, List.set_cons_succ, i64_w, i32_w]
          rfl
        refine pure_ (i := 17) (N := some 72) (v := ?_) (a' := ?_) #[true, true, true, true, true, true, true, true, true, true, true, true, true, true, true, true, true, true, false, false, false, false] rfl rfl (any_of HT_.out (by kernel_rfl)) (fun _ _ _ h => h) (Or.inl ⟨by rfl, ?_⟩) ?_ ?_
        rotate_left
        · intro w'
          go_simp
          with_reducible rfl
        rotate_left
        · simp only [Act.put, List.setIfInBounds_toArray, List.set_cons_zero, List.set_cons_succ, i64_w, i32_w]
          rfl
        refine pure_ (i := 18) (N := some 73) (v := ?_) (a' := ?_) #[true, true, true, true, true, true, true, true, true, true, true, true, true, true, true, true, true, true, true, false, false, false] rfl rfl (any_of HT_.out (by kernel_rfl)) (fun _ _ _ h => h) (Or.inl ⟨by rfl, ?_⟩) ?_ ?_
        rotate_left
        · intro w'
          go_simp
          with_reducible rfl
        rotate_left
        · simp only [Act.put, List.setIfInBounds_toArray, List.set_cons_zero, List.set_cons_succ, i64_w, i32_w]
          rfl
        refine one_ (i := 19) (N := some 74) #[true, true, true, true, true, true, true, true, true, true, true, true, true, true, true, true, true, true, true, true, false, false] rfl rfl (one_of HT_.out (by kernel_rfl)) (by decide) (fun K hK => ?_)
        refine value_ (w1 := ?_) (v := ?_) (by rfl) rfl ?_ ?_
        rotate_left 2
        · go_simp
          constructor
          · rfl
          · rfl
        refine hK.out _ _ ⟨(pw_cell_below (below_alloc (Below.refl _ _) _) c0), (pw_cell_below (below_alloc (Below.refl _ _) _) c1)⟩ (fun hHeld => ?_)
        clear hK K
        refine norm_ (a' := ?_) ?_ ?_
        rotate_left
        · show Act.put _ (some 74) _ = _
          simp only [Act.put, List.setIfInBounds_toArray, List.set_cons_zero, List.set_cons_succ, i64_w, i32_w]
          rfl
        refine one_ (i := 20) (N := some 75) #[true, true, true, true, true, true, true, true, true, true, true, true, true, true, true, true, true, true, true, true, true, false] rfl rfl (one_of HT_.out (by kernel_rfl)) (by decide) (fun K hK => ?_)
        refine Kd.R_append_step (Kd.int .u8) (w0 := wd) w.heap.size rfl (.tmp 55) (.tmp 74) 22 5 (.int .u8 0) 1 rfl Tryd.underlying22 info5 rfl (by decide) (by decide) (.slice A5 bs.length c5) bs _ [.int .u8 (IntKind.u8.wrap (shr .u64 v (s : Int)))] (fun _ => True) (fun _ => False) rfl rfl rfl (fun _ h => h.elim) (fun _ _ => trivial) R1.out (Below.refl _ _) GW.out ?_ ?_
        · have := BL.out; omega
        intro v1 w1 ho1 hb1 hg1 hat1
        have R2 := Aside0.mk ho1
        have HB1 := Aside0.mk hb1
        have S2 := Aside0.mk (Sp.mk (S1.out.ls.far (hb1.block g GLT.out)) S1.out.len)
        have c0b := S2.out.atC
        have c1b := (hb1.cell (p := ⟨g, q, none⟩) GLT.out).trans c1
        have z1b := S2.out.ls.frozen 27
        clear ho1 hb1 hg1 hat1 c0 c1
        refine hK.out _ _ ⟨c0b, c1b⟩ (fun hHeld => ?_)
        clear hK K
        refine norm_ (a' := ?_) ?_ ?_
        rotate_left
        · show Act.put _ (some 75) _ = _
          simp only [Act.put, List.setIfInBounds_toArray, List.set_cons_zero, List.set_cons_succ, i64_w, i32_w]
          rfl
        refine pure_ (i := 21) (N := some 5) (v := ?_) (a' := ?_) #[true, true, true, true, true, true, true, true, true, true, true, true, true, true, true, true, true, true, true, true, true, true] rfl rfl (any_of HT_.out (by kernel_rfl)) (fun _ _ _ h => h) (Or.inl ⟨by rfl, ?_⟩) ?_ ?_
        rotate_left
        · intro w'
          go_simp
          with_reducible rfl
        rotate_left
        · simp only [Act.put, List.setIfInBounds_toArray, List.set_cons_zero, List.set_cons_succ, i64_w, i32_w]
          rfl
        refine done_ (done_of HT_.out (by kernel_rfl)) ?_

        go_wp2
        go_roundg k1
        case measure => omega
        case rel => exact ⟨i + 1, (by
            have hw : wrap64 ((i : Int) + 1) = ((i + 1 : Nat) : Int) := by have := HCI.out; have := HN.out; unfold wrap64; omega
            first | rfl | (rw [← hw]; rfl) | (simp [*]; done)), ⟨by have := HJ.out; omega⟩, ⟨by rw [HSQ.out]; exact S2.out.puta t1⟩, ⟨by rw [HSQ.out, HB.out]; exact R_kc R2.out (Kc.of (Kb.set g 27 _ _)) GLT.out⟩, ⟨(K1.out.low HB1.out GLT.out).trans (Kc.of (Kb.set g 27 _ _))⟩⟩
    · have z1 : decide ((i : Int) < (n : Int)) = false := decide_eq_false (by omega)
      have z1' : decide (i < n) = false := decide_eq_false ci
      obtain rfl : i = n := by have := HJ.out; omega
      obtain ⟨A5, c5, rfl⟩ := Kd.R_slice R1.out
      have R2 := R1.out
      rw [l1] at R2 ⊢
      go_wp2
      go_ret
      exact ⟨A5, c5, rfl, R2, S1.out, K1.out⟩
end

end Go.Proofs.YtkdfcgihgndnnaaDoor.PPK
end
section
namespace Go.Proofs.YtkdfcgihgndnnaaDoor.PPK
open Go.RowKit Go.Proofs.YtkdfcgihgndnnaaDoorW.PrintWords Go.Proofs.YtkdfcgihgndnnaaDoorW.PrintLast Go.Proofs.YtkdfcgihgndnnaaDoorW.PrintMore
attribute [local go_sem] max2_int min2_int max_two min_two max_three min_three max_four min_four   -- for this text's walks alone
set_option linter.unusedVariables false
set_option linter.unusedSimpArgs false

/-! ### bits_Unpack: function 16 -/
mutual
def bits_Unpack.j0 : Nat → Int → List Int → Bool → Option (List Int)
  | 0, _, _, _ => none
  | k + 1, x0, x1, x15 => if x15 = true then (some ([] : List Int)) else (bits_Unpack.l0 k x0 ([] : List Int) 0 0 x1 (x1.length : Int) 0)
def bits_Unpack.l0 : Nat → Int → List Int → Int → Int → List Int → Int → Int → Option (List Int)
  | 0, _, _, _, _, _, _, _ => none
  | k + 1, x0, x5, x6, x7, x16, x17, x18 => if x18 < x17 then (if 0 ≤ x18 then (if x18 < (x16.length : Int) then (if 0 ≤ x7 then (bits_Unpack.l1 k x0 x5 (Go.bits .or .i64 x6 (shl .i64 (wrap64 (rd x16 x18)) x7)) (wrap64 (x7 + 8)) x16 x17 x18) else (none)) else (none)) else (none)) else (some x5)
def bits_Unpack.l1 : Nat → Int → List Int → Int → Int → List Int → Int → Int → Option (List Int)
  | 0, _, _, _, _, _, _, _ => none
  | k + 1, x0, x5, x6, x7, x16, x17, x18 => if x7 ≥ x0 then ((bits_Low.f x0 x6).bind fun t102 => (if x5.length < 17592186044416 then (if 0 ≤ x0 then (bits_Unpack.l1 k x0 (x5 ++ [t102]) (shr .i64 x6 x0) (wrap64 (x7 - x0)) x16 x17 x18) else (none)) else (none))) else (bits_Unpack.l0 k x0 x5 x6 x7 x16 x17 (wrap64 (x18 + 1)))
end
def bits_Unpack.f (k : Nat) (a0 : Int) (l1 : List Int) : Option (List Int) := if a0 < 1 then (bits_Unpack.j0 k a0 l1 true) else (bits_Unpack.j0 k a0 l1 (decide (a0 > 24)))
set_option maxHeartbeats 8000000 in
set_option maxRecDepth 100000 in
theorem bits_Unpack.calls (k : Nat) (a0 : Int) (A1 : Option Addr) (c1 : Nat) (l1 : List Int) (r : List Int) (w : World) (hr1 : Kd.C (Kd.int .u8) w A1 l1.length l1) (hc1 : l1.length ≤ c1) (h : bits_Unpack.f k a0 l1 = some r) :
    Calls Tryd.prog 16 #[.int .i64 a0, .slice A1 l1.length c1] w fun e w' => ∃ v0_ : Value, e = .returned (v0_) ∧ Kd.R (Kd.int .i64) 3 w' w.heap.size (fun _ => True) v0_ r ∧ Below w.heap.size w w' := by
  have HR1 := Aside0.mk hr1
  have HC1 := Aside0.mk hc1
  clear hr1 hc1
  have HB := Aside0.mk (Below.refl w.heap.size w)
  have H : (if a0 < 1 then (bits_Unpack.j0 k a0 l1 true) else (bits_Unpack.j0 k a0 l1 (decide (a0 > 24)))) = some r := h
  clear h
  have HC3 := Aside0.mk H
  clear H
  go_enter Tryd.func16, Tryd.ntmps16
  go_upto_region 1 with (fail)
  go_cut [15] (fun v15 wc => ∃ (kq : Nat) (x15_2 : Bool), v15 = .bool x15_2 ∧ Aside0 (bits_Unpack.j0 kq a0 l1 x15_2 = some r) ∧ Aside0 (kq ≤ k) ∧ Aside0 (Below w.heap.size w wc))
  case first =>
    have H := HC3.out
    clear HC3
    by_cases c4 : a0 < 1
    · rw [if_pos c4] at H
      have c4b0 : decide (a0 < 1) = true := decide_eq_true c4
      clear c4
      (first | rw [c4b0] | (simp only [i64_w, i32_w]; rw [c4b0]) | skip)
      have H' := Aside0.mk H
      clear H
      go_wp2
      go_meet
      case rel => exact ⟨_, (true), (by first | rfl | (simp; done) | (simp [*]; done)), H', ⟨by first | omega | exact Nat.le_refl _⟩, ⟨by repeat (first | (with_reducible first | exact HB.out | apply below_alloc | apply pw_below_drewN | apply below_drew1) | exact HB.out)⟩⟩
    · rw [if_neg c4] at H
      have c4b0 : decide (a0 < 1) = false := decide_eq_false c4
      clear c4
      (first | rw [c4b0] | (simp only [i64_w, i32_w]; rw [c4b0]) | skip)
      have H' := Aside0.mk H
      clear H
      go_wp2
      go_meet
      case rel => exact ⟨_, (decide (a0 > 24)), (by first | rfl | (simp; done) | (simp [*]; done)), H', ⟨by first | omega | exact Nat.le_refl _⟩, ⟨by repeat (first | (with_reducible first | exact HB.out | apply below_alloc | apply pw_below_drewN | apply below_drew1) | exact HB.out)⟩⟩
  case rest =>
    clear HC3
    try clear c1
    try clear p2
    try clear c4
    try clear c4b0
    obtain ⟨kq, x15_2, rfl, HA, HJ2, HB⟩ := hcut
    cases kq with
    | zero => exact absurd HA.out (by simp [bits_Unpack.j0])
    | succ kj2 =>
      have H := HA.out
      clear HA
      simp only [bits_Unpack.j0] at H
      by_cases c5 : x15_2 = true
      · subst c5
        have H1 : (some ([] : List Int)) = some r := by rw [if_pos rfl] at H; exact H
        clear H
        have H := H1
        clear H1
        obtain rfl := Option.some.inj H
        go_wp2
        go_ret
        exact ⟨_, by first | rfl | (simp [errW_none, errW_some] <;> rfl) | (simp [*, errW_none, errW_some] <;> rfl), by first | exact Kd.R_nil _ _ _ _ _ | exact Kd.N_nil _ _ _ _ _ | exact Kd.V_nil _ _ _ _ _ | exact Kd.Q_nil _ _ _ _ _ | exact Kd.S_nil _ _ _ _ _, by repeat (first | (with_reducible first | exact HB.out | apply below_alloc | apply pw_below_drewN | apply below_drew1) | exact HB.out)⟩
      · replace c5 := Bool.eq_false_iff.mpr c5
        subst c5
        have H1 : (bits_Unpack.l0 kj2 a0 ([] : List Int) 0 0 l1 (l1.length : Int) 0) = some r := by rw [if_neg (show ¬ (false = true) by decide)] at H; exact H
        clear H
        have H := H1
        clear H1
        have H' := Aside0.mk H
        clear H
        go_wp2
        go_loopg [5, 6, 7, 18] kj2 (fun kq v5 v6 v7 v18 w' => ∃ (x5_2 : List Int) (x6_2 : Int) (x7_2 : Int) (x18_2 : Int), v6 = .int .i64 x6_2 ∧ v7 = .int .i64 x7_2 ∧ v18 = .int .i64 x18_2 ∧ Aside0 (bits_Unpack.l0 kq a0 x5_2 x6_2 x7_2 l1 (l1.length : Int) x18_2 = some r) ∧ Aside0 (kq ≤ kj2) ∧ Aside0 (Kd.R (Kd.int .i64) 3 w' w.heap.size (fun _ => True) v5 x5_2) ∧ Aside0 (Below w.heap.size w w'))
        case atStart => exact ⟨(([] : List Int)), (0), (0), (0), (by first | rfl | (simp; done) | (simp [*]; done)), (by first | rfl | (simp; done) | (simp [*]; done)), (by first | rfl | (simp; done) | (simp [*]; done)), H', ⟨Nat.le_refl _⟩, ⟨by first | exact Kd.R_nil _ _ _ _ _ | exact Kd.N_nil _ _ _ _ _ | exact Kd.V_nil _ _ _ _ _ | exact Kd.Q_nil _ _ _ _ _ | exact Kd.S_nil _ _ _ _ _⟩, ⟨by repeat (first | (with_reducible first | exact HB.out | apply below_alloc | apply pw_below_drewN | apply below_drew1) | exact HB.out)⟩⟩
        case round =>
          clear H'
          try clear c1
          try clear p2
          try clear c4
          try clear c4b0
          try clear c5
          try clear p2
          obtain ⟨x5_2, x6_2, x7_2, x18_2, rfl, rfl, rfl, HA, HK2, HO_5, HB⟩ := hrel
          cases gk with
          | zero => exact absurd HA.out (by simp [bits_Unpack.l0])
          | succ k2 =>
            have H := HA.out
            clear HA
            simp only [bits_Unpack.l0] at H
            by_cases c6 : x18_2 < (l1.length : Int)
            · rw [if_pos c6] at H
              have c6b0 : decide (x18_2 < (l1.length : Int)) = true := decide_eq_true c6
              clear c6
              by_cases c7 : 0 ≤ x18_2
              · rw [if_pos c7] at H
                have c7b0 : decide (0 ≤ x18_2) = true := decide_eq_true c7
                clear c7
                by_cases c8 : x18_2 < (l1.length : Int)
                · rw [if_pos c8] at H
                  have c8b0 : decide (x18_2 < (l1.length : Int)) = true := decide_eq_true c8
                  clear c8
                  by_cases c9 : 0 ≤ x7_2
                  · rw [if_pos c9] at H
                    have c9b0 := eq_true c9
                    have c9b1 : decide (0 ≤ x7_2) = true := decide_eq_true c9
                    clear c9
                    obtain ⟨ji10, hji10⟩ : ∃ j_ : Int, (shl .i64 (wrap64 (rd l1 x18_2)) x7_2) = j_ := ⟨_, rfl⟩
                    replace H : (bits_Unpack.l1 k2 a0 x5_2 (Go.bits .or .i64 x6_2 (ji10)) (wrap64 (x7_2 + 8)) l1 (l1.length : Int) x18_2) = some r := by first | (rw [hji10] at H; exact H) | (simp only [hji10] at H ⊢; exact H)
                    have hji10_ : (IntKind.i64.wrap ((wrap64 (rd l1 x18_2)) * 2 ^ min x7_2.toNat 64)) = ji10 := hji10
                    have hji10z : x7_2 ≤ 64 → (IntKind.i64.wrap ((wrap64 (rd l1 x18_2)) * 2 ^ x7_2.toNat)) = ji10 := shl_small hji10
                    have hji10y : (wrap64 ((wrap64 (rd l1 x18_2)) * 2 ^ min x7_2.toNat 64)) = ji10 := (i64_w _).symm.trans hji10_
                    have hji10x : x7_2 ≤ 64 → (wrap64 ((wrap64 (rd l1 x18_2)) * 2 ^ x7_2.toNat)) = ji10 := fun h_ => (i64_w _).symm.trans (hji10z h_)
                    have H' := Aside0.mk H
                    clear H
                    have p101 : 0 ≤ (x18_2 : Int) := of_decide_eq_true (by first | (with_reducible assumption) | assumption)
                    have q101 : x18_2 < (l1.length : Int) := of_decide_eq_true (by first | (with_reducible assumption) | assumption)
                    obtain ⟨ad101, e101, hx101_0⟩ := Kd.at_int HR1.out x18_2 p101 q101
                    cases e101
                    replace hx101_0 := (HB.out.cell (World.block_lt_of_cell? w _ hx101_0)).trans hx101_0
                    replace p101 := eq_true p101
                    replace q101 := eq_true q101
                    go_wp2
                    go_loopg [5, 6, 7] k2 (fun kq v5 v6 v7 w' => ∃ (x5_3 : List Int) (x6_3 : Int) (x7_3 : Int), v6 = .int .i64 x6_3 ∧ v7 = .int .i64 x7_3 ∧ Aside0 (bits_Unpack.l1 kq a0 x5_3 x6_3 x7_3 l1 (l1.length : Int) x18_2 = some r) ∧ Aside0 (kq ≤ k2) ∧ Aside0 (Kd.R (Kd.int .i64) 3 w' w.heap.size (fun _ => True) v5 x5_3) ∧ Aside0 (Below w.heap.size w w'))
                    case atStart => exact ⟨(x5_2), (Go.bits .or .i64 x6_2 (ji10)), (wrap64 (x7_2 + 8)), (by first | rfl | (simp; done) | (simp only [← hji10] <;> (first | rfl | simp)) | (simp [*]; done)), (by first | rfl | (simp; done) | (simp [*]; done)), H', ⟨Nat.le_refl _⟩, ⟨by (with_reducible repeat (first | apply Kd.R_alloc | apply Kd.R_drewN | apply Kd.R_drew)); exact HO_5.out⟩, ⟨by repeat (first | (with_reducible first | exact HB.out | apply below_alloc | apply pw_below_drewN | apply below_drew1) | exact HB.out)⟩⟩
                    case round =>
                      clear H'
                      try clear c1
                      try clear p1
                      try clear q1
                      try clear hx1
                      try clear p2
                      try clear c4
                      try clear c4b0
                      try clear c5
                      try clear c6
                      try clear c6b0
                      try clear p6
                      try clear c7
                      try clear c7b0
                      try clear c8
                      try clear c8b0
                      try clear c9
                      try clear c9b0
                      try clear c9b1
                      try clear p10
                      try clear q10
                      try clear hx10
                      try clear hx101_0
                      try clear p101
                      try clear p2
                      try clear q101
                      obtain ⟨x5_3, x6_3, x7_3, rfl, rfl, HA, HK3, HO_5, HB⟩ := hrel
                      cases gk with
                      | zero => exact absurd HA.out (by simp [bits_Unpack.l1])
                      | succ k3 =>
                        have H := HA.out
                        clear HA
                        simp only [bits_Unpack.l1] at H
                        by_cases c11 : x7_3 ≥ a0
                        · rw [if_pos c11] at H
                          have c11b0 : decide (a0 ≤ x7_3) = true := decide_eq_true c11
                          clear c11
                          replace H := Option.bind_eq_some_iff.mp H
                          obtain ⟨t102, A120, H⟩ := H
                          replace H : (if x5_3.length < 17592186044416 then (if 0 ≤ a0 then (bits_Unpack.l1 k3 a0 (x5_3 ++ [t102]) (shr .i64 x6_3 a0) (wrap64 (x7_3 - a0)) l1 (l1.length : Int) x18_2) else (none)) else (none)) = some r := H
                          have A12 := Aside0.mk A120
                          clear A120
                          by_cases c13 : x5_3.length < 17592186044416
                          · rw [if_pos c13] at H
                            have LMc13 := Aside0.mk c13
                            clear c13
                            obtain ⟨y103, hy103⟩ : ∃ y_ : List Int, y_ = (x5_3 ++ [t102]) := ⟨_, rfl⟩
                            replace H : (if 0 ≤ a0 then (bits_Unpack.l1 k3 a0 y103 (shr .i64 x6_3 a0) (wrap64 (x7_3 - a0)) l1 (l1.length : Int) x18_2) else (none)) = some r := by first | (rw [hy103]; with_reducible exact H) | (have H2_ := (Option.bind_some _ _).symm.trans H; rw [hy103]; with_reducible exact H2_) | (have H2_ := (Option.bind_some _ _).symm.trans H; with_reducible exact H2_) | with_reducible exact H | (rw [hy103]; exact H) | exact H
                            have Ny103 := Aside0.mk hy103
                            clear hy103
                            by_cases c14 : 0 ≤ a0
                            · rw [if_pos c14] at H
                              have c14b0 := eq_true c14
                              have c14b1 : decide (0 ≤ a0) = true := decide_eq_true c14
                              clear c14
                              obtain ⟨ji15, hji15⟩ : ∃ j_ : Int, (shr .i64 x6_3 a0) = j_ := ⟨_, rfl⟩
                              replace H : (bits_Unpack.l1 k3 a0 y103 ji15 (wrap64 (x7_3 - a0)) l1 (l1.length : Int) x18_2) = some r := by first | (rw [hji15] at H; exact H) | (simp only [hji15] at H ⊢; exact H)
                              (try rw [hji15] at A12)
                              have hji15_ : (x6_3 / 2 ^ min a0.toNat 64) = ji15 := hji15
                              have hji15z : a0 ≤ 64 → (x6_3 / 2 ^ a0.toNat) = ji15 := shr_small hji15
                              have H' := Aside0.mk H
                              clear H
                              go_wp2_with (first | ((with_reducible refine gate_callee (f := 35) rfl ?_); refine goesL_ (some 39) rfl rfl Tryd.func35 (by kernel_rfl) rfl #[.int .i64 a0, .int .i64 x6_3] rfl (by (try simp only [List.map_toArray, List.map_cons, List.map_nil]); first | done | rfl | (simp only [List.length_drop, List.length_take]; rfl)) ?_; (with_reducible refine (bits_Low.calls a0 x6_3 t102 _ A12.out).mono ?_); rintro e w' ⟨rfl, ⟨nd, rfl⟩⟩; refine ⟨_, rfl, ?_⟩) | ((with_reducible refine gate_builtin (b := .append) (xs := #[.tmp 36, .tmp 40]) rfl ?_); at_builtin; refine Kd.R_append (Kd.int .i64) (w0 := w) w.heap.size rfl (.tmp 36) (.tmp 40) 40 3 (.int .i64 0) 8 rfl Tryd.underlying40 info3 rfl (by decide) (by omega) u5 x5_3 t102 [.int .i64 t102] (fun _ => True) (fun _ => False) rfl rfl ?aP (fun _ hk => hk.elim) ?aF ?aO ?aB ?aS ?aL ?_; (case aP => exact rfl); (case aB => exact (by repeat (first | (with_reducible first | exact HB.out | apply below_alloc | apply pw_below_drewN | apply below_drew1) | exact HB.out))); (case aF => exact (fun _ _ => trivial)); (case aO => exact (by (with_reducible repeat (first | apply Kd.R_alloc | apply Kd.R_drewN | apply Kd.R_drew)); exact HO_5.out)); (case aS => exact (below_size (by repeat (first | (with_reducible first | exact HB.out | apply below_alloc | apply pw_below_drewN | apply below_drew1) | exact HB.out)))); (case aL => have := LMc13.out; omega); intro v104 w16 ho hb hg hat; rw [← Ny103.out] at ho; have n0_ := Aside0.mk (hb); have n1_ := Aside0.mk (ho); clear HB; clear HO_5; have HB := n0_; have HO105 := n1_; clear n0_ n1_; clear ho hb hg hat))
                              go_roundg k3
                              case measure => have := HJ2.out; have := HK2.out; have := HK3.out; omega
                              case rel => exact ⟨(y103), (ji15), (wrap64 (x7_3 - a0)), (by first | rfl | (simp; done) | (simp only [← hji15] <;> (first | rfl | simp)) | (simp [*]; done)), (by first | rfl | (simp; done) | (simp [*]; done)), H', ⟨by have := HJ2.out; have := HK2.out; have := HK3.out; omega⟩, ⟨by (with_reducible repeat (first | apply Kd.R_alloc | apply Kd.R_drewN | apply Kd.R_drew)); exact HO105.out⟩, ⟨by repeat (first | (with_reducible first | exact HB.out | apply below_alloc | apply pw_below_drewN | apply below_drew1) | exact HB.out)⟩⟩
                            · rw [if_neg c14] at H
                              exact absurd H (by simp)
                          · rw [if_neg c13] at H
                            exact absurd H (by simp)
                        · rw [if_neg c11] at H
                          have c11b0 : decide (a0 ≤ x7_3) = false := decide_eq_false c11
                          clear c11
                          have H' := Aside0.mk H
                          clear H
                          go_wp2
                          go_roundg k3
                          case measure => have := HJ2.out; have := HK2.out; have := HK3.out; omega
                          case rel => exact ⟨(x5_3), (x6_3), (x7_3), (wrap64 (x18_2 + 1)), (by first | rfl | (simp; done) | (simp [*]; done)), (by first | rfl | (simp; done) | (simp [*]; done)), (by first | rfl | (simp; done) | (simp [*]; done)), H', ⟨by have := HJ2.out; have := HK2.out; have := HK3.out; omega⟩, ⟨by (with_reducible repeat (first | apply Kd.R_alloc | apply Kd.R_drewN | apply Kd.R_drew)); exact HO_5.out⟩, ⟨by repeat (first | (with_reducible first | exact HB.out | apply below_alloc | apply pw_below_drewN | apply below_drew1) | exact HB.out)⟩⟩
                  · rw [if_neg c9] at H
                    exact absurd H (by simp)
                · rw [if_neg c8] at H
                  exact absurd H (by simp)
              · rw [if_neg c7] at H
                exact absurd H (by simp)
            · rw [if_neg c6] at H
              have c6b0 : decide (x18_2 < (l1.length : Int)) = false := decide_eq_false c6
              clear c6
              obtain rfl := Option.some.inj H
              go_wp2
              go_ret
              exact ⟨_, by first | rfl | (simp [errW_none, errW_some] <;> rfl) | (simp [*, errW_none, errW_some] <;> rfl), by (with_reducible repeat (first | apply Kd.R_alloc | apply Kd.R_drewN | apply Kd.R_drew)); exact HO_5.out, by repeat (first | (with_reducible first | exact HB.out | apply below_alloc | apply pw_below_drewN | apply below_drew1) | exact HB.out)⟩

end Go.Proofs.YtkdfcgihgndnnaaDoor.PPK
end
