/- Several texts in one: contracts of functions of the program, and what they lean on. In part written by a program of this session over the kit's print, in part by hand. -/
import Derived.Test.YtfcjpkkglffnmaaGreatDoorRows
import Derived.WalkKit
import Derived.ProofKit
import Derived.LaidLaws
import Derived.Deep.DeepLaidRun
import Derived.Test.YtfcjpkkglffnmaaGreatDoorProg
import Derived.LaidEql
import Derived.Stop.Asserts
import Derived.RowKitTokens
import Derived.Below
import Derived.Deep.QuietTactic
import Derived.BigQuiet
import Derived.Test.YtfcjpkkglffnmaaGreatDoorYScopes1
import Derived.LaidHandle
import Derived.JoinedCond
import Derived.Deep.Draws
import Derived.Deep.AppendLies
import Derived.Maps.AppendAt
import Derived.OwnWalk
import Derived.Laws.BytesArg
import Derived.Laws.MakeOwn
import Derived.Laws.OwnMore
import Derived.Deep.OwnRows
import Derived.Tactics
import Derived.Lib.ConvBytes
import Derived.Laws.Slices
import Derived.KernelRfl
import Derived.RowKit3
import Derived.Deep.LoopGhost
import Derived.WideLaws
import Derived.Deep.DeepCutAuto
import Derived.Deep.CutBlock
import Derived.Deep.RegionHeld3
import Derived.Laws.Rows
import Derived.Lib.AppendStr
import Derived.ArgAppend
import Derived.Laws.IdiomCopy
import Derived.OrdersHeld
import Derived.Laws.BitsLemmas
import Derived.RowKit
import Derived.Test.YtfcjpkkglffnmaaGreatDoorYScopes0
import Derived.OpenShut
import Derived.Lib.SmallJoins
import Derived.Deep.Slices
import Derived.Deep.Fields
import Derived.ChangeSame
import Derived.Shelf.Small.Strs
import Derived.Shelf.Utf8.RuneCount
import Derived.Shelf.Strings.Search1
import Derived.Shelf.Strings.Search2
import Derived.Shelf.Strings.Search3
import Derived.Shelf.Strings.Count
import Derived.Shelf.LaysM
import Derived.Shelf.Strings.Shaped
import Derived.Shelf.Strings.Split
import Derived.Shelf.Strings.SplitShaped
import Derived.Shelf.Unicode.Decode
import Derived.Shelf.Strings.RuneCount
import Derived.Shelf.Strings.Explode
import Derived.Shelf.Unicode.DecodeSlow
import Derived.Shelf.Unicode.DecodeAny
import Derived.Shelf.Slices.Turned
import Derived.Ground.Names2Prog
import Derived.Shelf.Slices.ReverseS
import Derived.Shelf.Slices.Clone
import Derived.Shelf.Slices.Cells
import Derived.Ground.SlgnProg
import Derived.Shelf.SlicesE.Clone
namespace Go.Proofs.YtfcjpkkglffnmaaGreatDoor.Laid
open Go.ChangeShapes Go.WideShapes Go.RowKit
set_option linter.unusedVariables false
theorem own : ownKnob Tryz.prog.godebug = none := by kernel_rfl
def cellsFirst : Array Value := (Pinned.utf8FirstZ.map fun z => Value.int .u8 (z : Nat)).toArray
def cellsAccept : Array Value := (([128, 191, 160, 191, 128, 159, 144, 191, 128, 143] ++ List.replicate 22 0).map fun z => Value.int .u8 ((z : Nat) : Int)).toArray
def putFirst : Obj → Obj
 | .cells _ t frozen => .cells cellsFirst t frozen
 | o => o
def putAccept : Obj → Obj
 | .cells _ t frozen => .cells cellsAccept t frozen
 | o => o
noncomputable def world (os : Os) : World :=
 { World.holding Tryz.prog os ⟨#[], #[], []⟩ with heap := ((World.holding Tryz.prog os ⟨#[], #[], []⟩).heap.modify 2 putFirst).modify 3 putAccept }
end Go.Proofs.YtfcjpkkglffnmaaGreatDoor.Laid

namespace Go.Proofs.YtfcjpkkglffnmaaGreatDoor.Err
open Go.RowKit Go.Extern.Stop Go.Stop Go.Extern
theorem as_nil (t : Value) (w : World) :
  Calls Tryz.prog 38 #[.nilIface, t] w fun e w' => e = .returned (.bool false) ∧ w' = w := by
 go_enter Tryz.func38, Tryz.ntmps38;go_wp2
 go_ret;exact ⟨rfl, rfl⟩
theorem valueOfP (t : Addr) (w : World) : (ReflectliteValue.unpack (.iface 67 (.pointer (some t)))).run Tryz.prog w
  = .ok (.agg #[.pointer (some ⟨4, 67, none⟩), .pointer (some ⟨w.heap.size, 0, none⟩), .int .u64 150]) (w.alloc (.cells #[.pointer (some t)] 67)) := by kernel_rfl
theorem typeP (a : Addr) (w : World) : (ReflectliteValue.methodAny (ReflectliteValue.valueError "reflectlite.Value.Type" 0) (fun t _ _ _ => ReflectliteType.toType t) #[.agg #[.pointer (some ⟨4, 67, none⟩), .pointer (some a), .int .u64 150]]).run Tryz.prog w
  = .ok (.iface 118 (.agg #[.pointer (some ⟨4, 67, none⟩)])) w := by kernel_rfl
theorem methodKind (h : Value) (w : World) : (Go.method 277 118 (.agg #[h]) "Kind").run Tryz.prog w = .ok (117, h) w := by kernel_rfl
theorem kindP (w : World) : ((ReflectliteType.abiMethod fun t => (fun a : Nat => Value.int IntKind.u8 (a : Int)) <$> Rtype.kind t) #[.pointer (some ⟨4, 67, none⟩)]).run Tryz.prog w = .ok (.int .u8 22) w := by kernel_rfl
theorem kindF (w : World) : ((ReflectliteType.abiMethod fun t => (fun a : Nat => Value.int IntKind.u8 (a : Int)) <$> Rtype.kind t) #[.pointer (some ⟨4, 65, none⟩)]).run Tryz.prog w = .ok (.int .u8 22) w := by kernel_rfl
theorem rlm (z : Sem Value) (f : TypeId → Addr → Nat → Nat → Sem Value) (v : Value) :
  ReflectliteValue.method z f #[v] = (do match ← ReflectliteValue.parts v with | none => z | some (t, a, fl) => f t a fl (fl % 32)) := rfl
theorem partsP (a : Addr) (w : World) : (ReflectliteValue.parts (.agg #[.pointer (some ⟨4, 67, none⟩), .pointer (some a), .int .u64 150])).run Tryz.prog w = .ok (some (67, a, 150)) w := by kernel_rfl
theorem isNilP (a p : Addr) (W : World) (ha : W.cell? a = some (.pointer (some p))) :
  (ReflectliteValue.method (ReflectliteValue.valueError "reflectlite.Value.IsNil" 0) ReflectliteValue.isNil #[.agg #[.pointer (some ⟨4, 67, none⟩), .pointer (some a), .int .u64 150]]).run Tryz.prog W = .ok (.bool false) W := by
 rw [rlm];simp only [Sem.run_bind, partsP, Result.andThen];simp [ReflectliteValue.isNil, loadVar, isAgg, underlying, Tryz.underlying67, ha, Result.andThen]
theorem methodElem (h : Value) (w : World) : (Go.method 277 118 (.agg #[h]) "Elem").run Tryz.prog w = .ok (129, .agg #[h]) w := by kernel_rfl
theorem methodImplements (h : Value) (w : World) : (Go.method 277 118 (.agg #[h]) "Implements").run Tryz.prog w = .ok (130, .agg #[h]) w := by kernel_rfl
theorem methodAssignableTo (h : Value) (w : World) : (Go.method 277 118 (.agg #[h]) "AssignableTo").run Tryz.prog w = .ok (127, .agg #[h]) w := by kernel_rfl
theorem elemP (w : World) : (ReflectliteType.method ReflectliteType.elem #[.agg #[.pointer (some ⟨4, 67, none⟩)]]).run Tryz.prog w = .ok (.iface 118 (.agg #[.pointer (some ⟨4, 65, none⟩)])) w := by kernel_rfl
theorem implementsF (w : World) : (ReflectliteType.relation "Implements" ReflectliteType.implements_ #[.agg #[.pointer (some ⟨4, 65, none⟩)], .iface 118 (.agg #[.pointer (some ⟨4, 50, none⟩)])]).run Tryz.prog w = .ok (.bool true) w := by kernel_rfl
theorem typeOfF (v : Value) (w : World) : (ReflectliteType.typeOf #[.iface 65 v]).run Tryz.prog w = .ok (.iface 118 (.agg #[.pointer (some ⟨4, 65, none⟩)])) w := by kernel_rfl
theorem assignableF (w : World) : (ReflectliteType.relation "AssignableTo" ReflectliteType.assignableTo #[.agg #[.pointer (some ⟨4, 65, none⟩)], .iface 118 (.agg #[.pointer (some ⟨4, 65, none⟩)])]).run Tryz.prog w = .ok (.bool true) w := by kernel_rfl
theorem valueOfF (e : Addr) (w : World) : (ReflectliteValue.unpack (.iface 65 (.pointer (some e)))).run Tryz.prog w
  = .ok (.agg #[.pointer (some ⟨4, 65, none⟩), .pointer (some ⟨w.heap.size, 0, none⟩), .int .u64 150]) (w.alloc (.cells #[.pointer (some e)] 65)) := by kernel_rfl
theorem elemOfP (w : World) : (Rtype.elem? 67).run Tryz.prog w = .ok (some 65) w := by kernel_rfl
theorem mkF (p : Addr) (w : World) : (ReflectliteValue.mk 65 p ReflectliteValue.flagAddr).run Tryz.prog w = .ok (.agg #[.pointer (some ⟨4, 65, none⟩), .pointer (some p), .int .u64 406]) w := by kernel_rfl
theorem elemVP (a p : Addr) (W : World) (ha : W.cell? a = some (.pointer (some p))) :
  (ReflectliteValue.method (ReflectliteValue.valueError "reflectlite.Value.Elem" 0) ReflectliteValue.elem #[.agg #[.pointer (some ⟨4, 67, none⟩), .pointer (some a), .int .u64 150]]).run Tryz.prog W
   = .ok (.agg #[.pointer (some ⟨4, 65, none⟩), .pointer (some p), .int .u64 406]) W := by
 rw [rlm];simp only [Sem.run_bind, partsP, Result.andThen];simp [ReflectliteValue.elem, loadVar, isAgg, underlying, Tryz.underlying67, ha, Result.andThen, elemOfP, mkF]
theorem rls (v x : Value) : ReflectliteValue.set #[v, x] = (do
  let (some (dst, a, fl), some (src, b, _)) := (← ReflectliteValue.parts v, ← ReflectliteValue.parts x)
   | unsupported (.noEntry "extern/(internal/reflectlite.Value).Set.zeroValue")
  if fl / ReflectliteValue.flagAddr % 2 == 0 then unsupported (.noEntry "extern/(internal/reflectlite.Value).Set.unaddressable")
  let val ← loadVar src b
  if ← Rtype.directlyAssignable dst src then storeVar dst a val
  else if ← Rtype.implements dst src then
   if (← Rtype.kind src) == 20 then
    match val with
    | .nilIface => unsupported (.noEntry "extern/reflectlite: a nil value of one interface type handed on as a value of another")
    | _ => storeVar dst a val
   else storeVar dst a (.iface src val)
  else panicString ("reflectlite.Set: value of type " ++ (← Rtype.spelt src) ++ " is not assignable to type " ++ (← Rtype.spelt dst))
  pure (.tuple #[])) := rfl
theorem partsFa (a : Addr) (w : World) : (ReflectliteValue.parts (.agg #[.pointer (some ⟨4, 65, none⟩), .pointer (some a), .int .u64 406])).run Tryz.prog w = .ok (some (65, a, 406)) w := by kernel_rfl
theorem partsF (a : Addr) (w : World) : (ReflectliteValue.parts (.agg #[.pointer (some ⟨4, 65, none⟩), .pointer (some a), .int .u64 150])).run Tryz.prog w = .ok (some (65, a, 150)) w := by kernel_rfl
theorem directF (w : World) : (Rtype.directlyAssignable 65 65).run Tryz.prog w = .ok true w := by kernel_rfl
theorem setF (ta b e : Addr) (old : Value) (W : World) (hb : W.cell? b = some (.pointer (some e))) (ht : W.cell? ta = some old) (hf : W.frozen? ta = false) :
  (ReflectliteValue.set #[.agg #[.pointer (some ⟨4, 65, none⟩), .pointer (some ta), .int .u64 406], .agg #[.pointer (some ⟨4, 65, none⟩), .pointer (some b), .int .u64 150]]).run Tryz.prog W
   = .ok (.tuple #[]) (W.setCell ta (.pointer (some e))) := by
 rw [rls];simp only [Sem.run_bind, partsFa, partsF, Result.andThen];simp [ReflectliteValue.flagAddr, loadVar, isAgg, underlying, Tryz.underlying65, hb, Result.andThen, directF, storeVar, Value.cells, storeCells, Addr.add];rw [run_store Tryz.prog W ta _ _ (by rfl)];simp [ht, hf]
theorem valueOfQ (t : Addr) (w : World) : (ReflectliteValue.unpack (.iface 68 (.pointer (some t)))).run Tryz.prog w
  = .ok (.agg #[.pointer (some ⟨4, 68, none⟩), .pointer (some ⟨w.heap.size, 0, none⟩), .int .u64 150]) (w.alloc (.cells #[.pointer (some t)] 68)) := by kernel_rfl
theorem typeQ (a : Addr) (w : World) : (ReflectliteValue.methodAny (ReflectliteValue.valueError "reflectlite.Value.Type" 0) (fun t _ _ _ => ReflectliteType.toType t) #[.agg #[.pointer (some ⟨4, 68, none⟩), .pointer (some a), .int .u64 150]]).run Tryz.prog w
  = .ok (.iface 118 (.agg #[.pointer (some ⟨4, 68, none⟩)])) w := by kernel_rfl
theorem kindQ (w : World) : ((ReflectliteType.abiMethod fun t => (fun a : Nat => Value.int IntKind.u8 (a : Int)) <$> Rtype.kind t) #[.pointer (some ⟨4, 68, none⟩)]).run Tryz.prog w = .ok (.int .u8 22) w := by kernel_rfl
theorem kindE (w : World) : ((ReflectliteType.abiMethod fun t => (fun a : Nat => Value.int IntKind.u8 (a : Int)) <$> Rtype.kind t) #[.pointer (some ⟨4, 27, none⟩)]).run Tryz.prog w = .ok (.int .u8 2) w := by kernel_rfl
theorem partsQ (a : Addr) (w : World) : (ReflectliteValue.parts (.agg #[.pointer (some ⟨4, 68, none⟩), .pointer (some a), .int .u64 150])).run Tryz.prog w = .ok (some (68, a, 150)) w := by kernel_rfl
theorem isNilQ (a p : Addr) (W : World) (ha : W.cell? a = some (.pointer (some p))) :
  (ReflectliteValue.method (ReflectliteValue.valueError "reflectlite.Value.IsNil" 0) ReflectliteValue.isNil #[.agg #[.pointer (some ⟨4, 68, none⟩), .pointer (some a), .int .u64 150]]).run Tryz.prog W = .ok (.bool false) W := by
 rw [rlm];simp only [Sem.run_bind, partsQ, Result.andThen];simp [ReflectliteValue.isNil, loadVar, isAgg, underlying, Tryz.underlying68, ha, Result.andThen]
theorem elemQ (w : World) : (ReflectliteType.method ReflectliteType.elem #[.agg #[.pointer (some ⟨4, 68, none⟩)]]).run Tryz.prog w = .ok (.iface 118 (.agg #[.pointer (some ⟨4, 27, none⟩)])) w := by kernel_rfl
theorem implementsE (w : World) : (ReflectliteType.relation "Implements" ReflectliteType.implements_ #[.agg #[.pointer (some ⟨4, 27, none⟩)], .iface 118 (.agg #[.pointer (some ⟨4, 50, none⟩)])]).run Tryz.prog w = .ok (.bool true) w := by kernel_rfl
theorem typeOfE (v : Value) (w : World) : (ReflectliteType.typeOf #[.iface 27 v]).run Tryz.prog w = .ok (.iface 118 (.agg #[.pointer (some ⟨4, 27, none⟩)])) w := by kernel_rfl
theorem assignableFE (w : World) : (ReflectliteType.relation "AssignableTo" ReflectliteType.assignableTo #[.agg #[.pointer (some ⟨4, 65, none⟩)], .iface 118 (.agg #[.pointer (some ⟨4, 27, none⟩)])]).run Tryz.prog w = .ok (.bool false) w := by kernel_rfl
theorem assignableE (w : World) : (ReflectliteType.relation "AssignableTo" ReflectliteType.assignableTo #[.agg #[.pointer (some ⟨4, 27, none⟩)], .iface 118 (.agg #[.pointer (some ⟨4, 27, none⟩)])]).run Tryz.prog w = .ok (.bool true) w := by kernel_rfl
theorem valueOfE (c : Int) (w : World) : (ReflectliteValue.unpack (.iface 27 (.int .i64 c))).run Tryz.prog w
  = .ok (.agg #[.pointer (some ⟨4, 27, none⟩), .pointer (some ⟨w.heap.size, 0, none⟩), .int .u64 130]) (w.alloc (.cells #[.int .i64 c] 27)) := by kernel_rfl
theorem elemOfQ (w : World) : (Rtype.elem? 68).run Tryz.prog w = .ok (some 27) w := by kernel_rfl
theorem mkE (p : Addr) (w : World) : (ReflectliteValue.mk 27 p ReflectliteValue.flagAddr).run Tryz.prog w = .ok (.agg #[.pointer (some ⟨4, 27, none⟩), .pointer (some p), .int .u64 386]) w := by kernel_rfl
theorem elemVQ (a p : Addr) (W : World) (ha : W.cell? a = some (.pointer (some p))) :
  (ReflectliteValue.method (ReflectliteValue.valueError "reflectlite.Value.Elem" 0) ReflectliteValue.elem #[.agg #[.pointer (some ⟨4, 68, none⟩), .pointer (some a), .int .u64 150]]).run Tryz.prog W
   = .ok (.agg #[.pointer (some ⟨4, 27, none⟩), .pointer (some p), .int .u64 386]) W := by
 rw [rlm];simp only [Sem.run_bind, partsQ, Result.andThen];simp [ReflectliteValue.elem, loadVar, isAgg, underlying, Tryz.underlying68, ha, Result.andThen, elemOfQ, mkE]
theorem partsEa (a : Addr) (w : World) : (ReflectliteValue.parts (.agg #[.pointer (some ⟨4, 27, none⟩), .pointer (some a), .int .u64 386])).run Tryz.prog w = .ok (some (27, a, 386)) w := by kernel_rfl
theorem partsE (a : Addr) (w : World) : (ReflectliteValue.parts (.agg #[.pointer (some ⟨4, 27, none⟩), .pointer (some a), .int .u64 130])).run Tryz.prog w = .ok (some (27, a, 130)) w := by kernel_rfl
theorem directE (w : World) : (Rtype.directlyAssignable 27 27).run Tryz.prog w = .ok true w := by kernel_rfl
theorem setE (ta b : Addr) (c : Int) (old : Value) (W : World) (hb : W.cell? b = some (.int .i64 c)) (ht : W.cell? ta = some old) (hf : W.frozen? ta = false) :
  (ReflectliteValue.set #[.agg #[.pointer (some ⟨4, 27, none⟩), .pointer (some ta), .int .u64 386], .agg #[.pointer (some ⟨4, 27, none⟩), .pointer (some b), .int .u64 130]]).run Tryz.prog W
   = .ok (.tuple #[]) (W.setCell ta (.int .i64 c)) := by
 rw [rls];simp only [Sem.run_bind, partsEa, partsE, Result.andThen];simp [ReflectliteValue.flagAddr, loadVar, isAgg, underlying, Tryz.underlying27, hb, Result.andThen, directE, storeVar, Value.cells, storeCells, Addr.add];rw [run_store Tryz.prog W ta _ _ (by rfl)];simp [ht, hf]
theorem noAs (v : Value) (xT : TypeId) (w : World) : (Instr.typeAssert (.iface 65 v) xT 123 true).run Tryz.prog w = .ok (.tuple #[.nilIface, .bool false]) w :=
 run_typeAssert_lacksB Tryz.underlying123 (by kernel_rfl) (by kernel_rfl) v xT w
theorem hasUnwrap (v : Value) (xT : TypeId) (w : World) : (Instr.typeAssert (.iface 65 v) xT 126 true).run Tryz.prog w = .ok (.tuple #[.iface 65 v, .bool true]) w :=
 run_typeAssert_hasB Tryz.underlying126 (by kernel_rfl) v xT w
theorem methodUnwrap (a : Addr) (w : World) : (Go.method 277 65 (.pointer (some a)) "Unwrap").run Tryz.prog w = .ok (122, .pointer (some a)) w := by kernel_rfl
set_option maxHeartbeats 8000000 in
set_option maxRecDepth 100000 in
theorem as_fault (e t : Addr) (old : Value) (w : World) (hg : w.cell? ⟨0, 0, none⟩ = some (.iface 118 (.agg #[.pointer (some ⟨4, 50, none⟩)]))) (ht0 : w.cell? t = some old) (hf0 : w.frozen? t = false) :
  Calls Tryz.prog 38 #[.iface 65 (.pointer (some e)), .iface 67 (.pointer (some t))] w fun ev w' => ev = .returned (.bool true) ∧ ∃ w1, Below w.heap.size w w1 ∧ w' = w1.setCell t (.pointer (some e)) := by
 have h6 := @run_callFunc_extern Tryz.prog 62 _ (fun args => ReflectliteValue.unpack (args.getD 0 (.tuple #[]))) Tryz.func62 (by kernel_rfl) (by kernel_rfl) (by kernel_rfl) (by kernel_rfl);have h7 := @run_callFunc_extern Tryz.prog 63 _ (ReflectliteValue.methodAny (ReflectliteValue.valueError "reflectlite.Value.Type" 0) (fun t _ _ _ => ReflectliteType.toType t)) Tryz.func63 (by kernel_rfl) (by kernel_rfl) (by kernel_rfl) (by kernel_rfl);have h8 := @run_callFunc_extern Tryz.prog 64 _ (ReflectliteValue.method (ReflectliteValue.valueError "reflectlite.Value.IsNil" 0) ReflectliteValue.isNil) Tryz.func64 (by kernel_rfl) (by kernel_rfl) (by kernel_rfl) (by kernel_rfl);have h27 := @run_callFunc_extern Tryz.prog 117 _ (ReflectliteType.abiMethod fun t => do pure (.int .u8 (← Rtype.kind t))) Tryz.func117 (by kernel_rfl) (by kernel_rfl) (by kernel_rfl) (by kernel_rfl);have h37 := @run_callFunc_extern Tryz.prog 129 _ (ReflectliteType.method ReflectliteType.elem) Tryz.func129 (by kernel_rfl) (by kernel_rfl) (by kernel_rfl) (by kernel_rfl);have h38 := @run_callFunc_extern Tryz.prog 130 _ (ReflectliteType.relation "Implements" ReflectliteType.implements_) Tryz.func130 (by kernel_rfl) (by kernel_rfl) (by kernel_rfl) (by kernel_rfl);have h10 := @run_callFunc_extern Tryz.prog 79 _ ReflectliteType.typeOf Tryz.func79 (by kernel_rfl) (by kernel_rfl) (by kernel_rfl) (by kernel_rfl);have h35 := @run_callFunc_extern Tryz.prog 127 _ (ReflectliteType.relation "AssignableTo" ReflectliteType.assignableTo) Tryz.func127 (by kernel_rfl) (by kernel_rfl) (by kernel_rfl) (by kernel_rfl);have h11 := @run_callFunc_extern Tryz.prog 80 _ (ReflectliteValue.method (ReflectliteValue.valueError "reflectlite.Value.Elem" 0) ReflectliteValue.elem) Tryz.func80 (by kernel_rfl) (by kernel_rfl) (by kernel_rfl) (by kernel_rfl);have h12 := @run_callFunc_extern Tryz.prog 81 _ ReflectliteValue.set Tryz.func81 (by kernel_rfl) (by kernel_rfl) (by kernel_rfl) (by kernel_rfl);have tO := typeOfF;have mA := methodAssignableTo;have aF := assignableF;have vF := valueOfF;have f6 := valueOfP;have f7 := typeP;have mK := methodKind;have mE := methodElem;have mI := methodImplements;have kP := kindP;have kF := kindF;have eP := elemP;have iF := implementsF;have n8 := isNilP ⟨w.heap.size, 0, none⟩ t ((w.alloc (.cells #[.pointer (some t)] 67)).alloc (.cells #[.pointer (some ⟨4, 67, none⟩), .pointer (some ⟨w.heap.size, 0, none⟩), .int .u64 150] 97)) (by simp);have hlt : 0 < w.heap.size := by
  rcases Nat.lt_or_ge 0 w.heap.size with h | h
  ·
   exact h
  ·
   simp [World.cell?, Array.getElem?_eq_none h] at hg
 have hg2 : ((w.alloc (.cells #[.pointer (some t)] 67)).alloc (.cells #[.pointer (some ⟨4, 67, none⟩), .pointer (some ⟨w.heap.size, 0, none⟩), .int .u64 150] 97)).cell? ⟨0, 0, none⟩ = some (.iface 118 (.agg #[.pointer (some ⟨4, 50, none⟩)])) := by
  rw [World.cell?_alloc_lt _ _ ⟨0, 0, none⟩ (by simp <;> omega), World.cell?_alloc_lt _ _ ⟨0, 0, none⟩ hlt]; exact hg
 have htl : t.block < w.heap.size := by
  rcases Nat.lt_or_ge t.block w.heap.size with h | h
  ·
   exact h
  ·
   simp [World.cell?, Array.getElem?_eq_none h] at ht0
 have el := elemVP ⟨w.heap.size, 0, none⟩ t (((w.alloc (.cells #[.pointer (some t)] 67)).alloc (.cells #[.pointer (some ⟨4, 67, none⟩), .pointer (some ⟨w.heap.size, 0, none⟩), .int .u64 150] 97)).alloc (.cells #[.pointer (some ⟨4, 67, none⟩), .pointer (some ⟨w.heap.size, 0, none⟩), .int .u64 150] 97)) (by rw [World.cell?_alloc_lt _ _ ⟨w.heap.size, 0, none⟩ (by simp; omega)]; simp);have st := setF t ⟨w.heap.size + 1 + 1 + 1, 0, none⟩ e old ((((w.alloc (.cells #[.pointer (some t)] 67)).alloc (.cells #[.pointer (some ⟨4, 67, none⟩), .pointer (some ⟨w.heap.size, 0, none⟩), .int .u64 150] 97)).alloc (.cells #[.pointer (some ⟨4, 67, none⟩), .pointer (some ⟨w.heap.size, 0, none⟩), .int .u64 150] 97)).alloc (.cells #[.pointer (some e)] 65))
  (by rw [World.cell?_alloc_at _ _ _ _ (by simp)]; rfl)
  (by rw [World.cell?_alloc_lt _ _ t (by simp; omega), World.cell?_alloc_lt _ _ t (by simp; omega), World.cell?_alloc_lt _ _ t (by simp; omega), World.cell?_alloc_lt _ _ t htl]; exact ht0)
  (by rw [World.frozen?_alloc_old _ _ t (by simp; omega), World.frozen?_alloc_old _ _ t (by simp; omega), World.frozen?_alloc_old _ _ t (by simp; omega), World.frozen?_alloc_old _ _ t (Nat.ne_of_lt htl)]; exact hf0)
 go_enter Tryz.func38, Tryz.ntmps38;go_wp2
 refine wp_loop_rounds 1 ?_;rw [rounds_succ];go_wp2
 go_ret;refine ⟨rfl, _, ?_, rfl⟩;exact (((((Below.refl _ _).alloc (Nat.le_refl _) _).alloc (by simp) _).alloc (by simp; omega) _).alloc (by simp; omega) _)
set_option maxHeartbeats 8000000 in
set_option maxRecDepth 100000 in
theorem as_errno (g : Nat) (c : Int) (t : Addr) (old : Value) (w : World) (hg : w.cell? ⟨0, 0, none⟩ = some (.iface 118 (.agg #[.pointer (some ⟨4, 50, none⟩)]))) (ht0 : w.cell? t = some old) (hf0 : w.frozen? t = false) (hc : w.cell? ⟨g, 1, none⟩ = some (.iface 27 (.int .i64 c))) :
  Calls Tryz.prog 38 #[.iface 65 (.pointer (some ⟨g, 0, none⟩)), .iface 68 (.pointer (some t))] w fun ev w' => ev = .returned (.bool true) ∧ ∃ w1, Below w.heap.size w w1 ∧ w' = w1.setCell t (.int .i64 c) := by
 have h6 := @run_callFunc_extern Tryz.prog 62 _ (fun args => ReflectliteValue.unpack (args.getD 0 (.tuple #[]))) Tryz.func62 (by kernel_rfl) (by kernel_rfl) (by kernel_rfl) (by kernel_rfl);have h7 := @run_callFunc_extern Tryz.prog 63 _ (ReflectliteValue.methodAny (ReflectliteValue.valueError "reflectlite.Value.Type" 0) (fun t _ _ _ => ReflectliteType.toType t)) Tryz.func63 (by kernel_rfl) (by kernel_rfl) (by kernel_rfl) (by kernel_rfl);have h8 := @run_callFunc_extern Tryz.prog 64 _ (ReflectliteValue.method (ReflectliteValue.valueError "reflectlite.Value.IsNil" 0) ReflectliteValue.isNil) Tryz.func64 (by kernel_rfl) (by kernel_rfl) (by kernel_rfl) (by kernel_rfl);have h27 := @run_callFunc_extern Tryz.prog 117 _ (ReflectliteType.abiMethod fun t => do pure (.int .u8 (← Rtype.kind t))) Tryz.func117 (by kernel_rfl) (by kernel_rfl) (by kernel_rfl) (by kernel_rfl);have h37 := @run_callFunc_extern Tryz.prog 129 _ (ReflectliteType.method ReflectliteType.elem) Tryz.func129 (by kernel_rfl) (by kernel_rfl) (by kernel_rfl) (by kernel_rfl);have h38 := @run_callFunc_extern Tryz.prog 130 _ (ReflectliteType.relation "Implements" ReflectliteType.implements_) Tryz.func130 (by kernel_rfl) (by kernel_rfl) (by kernel_rfl) (by kernel_rfl);have h10 := @run_callFunc_extern Tryz.prog 79 _ ReflectliteType.typeOf Tryz.func79 (by kernel_rfl) (by kernel_rfl) (by kernel_rfl) (by kernel_rfl);have h35 := @run_callFunc_extern Tryz.prog 127 _ (ReflectliteType.relation "AssignableTo" ReflectliteType.assignableTo) Tryz.func127 (by kernel_rfl) (by kernel_rfl) (by kernel_rfl) (by kernel_rfl);have h11 := @run_callFunc_extern Tryz.prog 80 _ (ReflectliteValue.method (ReflectliteValue.valueError "reflectlite.Value.Elem" 0) ReflectliteValue.elem) Tryz.func80 (by kernel_rfl) (by kernel_rfl) (by kernel_rfl) (by kernel_rfl);have h12 := @run_callFunc_extern Tryz.prog 81 _ ReflectliteValue.set Tryz.func81 (by kernel_rfl) (by kernel_rfl) (by kernel_rfl) (by kernel_rfl);have tO := typeOfF;have tE := typeOfE;have mA := methodAssignableTo;have aF := assignableFE;have aE := assignableE;have nA := noAs;have hU := hasUnwrap;have mU := methodUnwrap;have vF := valueOfE;have f6 := valueOfQ;have f7 := typeQ;have mK := methodKind;have mE := methodElem;have mI := methodImplements;have kP := kindQ;have kF := kindE;have eP := elemQ;have iF := implementsE;have n8 := isNilQ ⟨w.heap.size, 0, none⟩ t ((w.alloc (.cells #[.pointer (some t)] 68)).alloc (.cells #[.pointer (some ⟨4, 68, none⟩), .pointer (some ⟨w.heap.size, 0, none⟩), .int .u64 150] 97)) (by simp);have hlt : 0 < w.heap.size := by
  rcases Nat.lt_or_ge 0 w.heap.size with h | h
  ·
   exact h
  ·
   simp [World.cell?, Array.getElem?_eq_none h] at hg
 have hg2 : ((w.alloc (.cells #[.pointer (some t)] 68)).alloc (.cells #[.pointer (some ⟨4, 68, none⟩), .pointer (some ⟨w.heap.size, 0, none⟩), .int .u64 150] 97)).cell? ⟨0, 0, none⟩ = some (.iface 118 (.agg #[.pointer (some ⟨4, 50, none⟩)])) := by
  rw [World.cell?_alloc_lt _ _ ⟨0, 0, none⟩ (by simp <;> omega), World.cell?_alloc_lt _ _ ⟨0, 0, none⟩ hlt]; exact hg
 have htl : t.block < w.heap.size := by
  rcases Nat.lt_or_ge t.block w.heap.size with h | h
  ·
   exact h
  ·
   simp [World.cell?, Array.getElem?_eq_none h] at ht0
 have hgl : g < w.heap.size := by
  rcases Nat.lt_or_ge g w.heap.size with h | h
  ·
   exact h
  ·
   simp [World.cell?, Array.getElem?_eq_none h] at hc
 have hc3 : (((w.alloc (.cells #[.pointer (some t)] 68)).alloc (.cells #[.pointer (some ⟨4, 68, none⟩), .pointer (some ⟨w.heap.size, 0, none⟩), .int .u64 150] 97)).alloc (.cells #[.pointer (some ⟨4, 68, none⟩), .pointer (some ⟨w.heap.size, 0, none⟩), .int .u64 150] 97)).cell? ⟨g, 1, none⟩ = some (.iface 27 (.int .i64 c)) := by
  rw [World.cell?_alloc_lt _ _ ⟨g, 1, none⟩ (by simp; omega), World.cell?_alloc_lt _ _ ⟨g, 1, none⟩ (by simp; omega), World.cell?_alloc_lt _ _ ⟨g, 1, none⟩ hgl]; exact hc
 have el := elemVQ ⟨w.heap.size, 0, none⟩ t (((w.alloc (.cells #[.pointer (some t)] 68)).alloc (.cells #[.pointer (some ⟨4, 68, none⟩), .pointer (some ⟨w.heap.size, 0, none⟩), .int .u64 150] 97)).alloc (.cells #[.pointer (some ⟨4, 68, none⟩), .pointer (some ⟨w.heap.size, 0, none⟩), .int .u64 150] 97)) (by rw [World.cell?_alloc_lt _ _ ⟨w.heap.size, 0, none⟩ (by simp; omega)]; simp);have st := setE t ⟨w.heap.size + 1 + 1 + 1, 0, none⟩ c old ((((w.alloc (.cells #[.pointer (some t)] 68)).alloc (.cells #[.pointer (some ⟨4, 68, none⟩), .pointer (some ⟨w.heap.size, 0, none⟩), .int .u64 150] 97)).alloc (.cells #[.pointer (some ⟨4, 68, none⟩), .pointer (some ⟨w.heap.size, 0, none⟩), .int .u64 150] 97)).alloc (.cells #[.int .i64 c] 27))
  (by rw [World.cell?_alloc_at _ _ _ _ (by simp)]; rfl)
  (by rw [World.cell?_alloc_lt _ _ t (by simp; omega), World.cell?_alloc_lt _ _ t (by simp; omega), World.cell?_alloc_lt _ _ t (by simp; omega), World.cell?_alloc_lt _ _ t htl]; exact ht0)
  (by rw [World.frozen?_alloc_old _ _ t (by simp; omega), World.frozen?_alloc_old _ _ t (by simp; omega), World.frozen?_alloc_old _ _ t (by simp; omega), World.frozen?_alloc_old _ _ t (Nat.ne_of_lt htl)]; exact hf0)
 go_enter Tryz.func38, Tryz.ntmps38;go_wp2
 refine wp_loop_rounds 2 ?_;rw [rounds_succ];go_wp2
 rw [rounds_succ];go_wp2
 go_ret;refine ⟨rfl, _, ?_, rfl⟩;exact (((((Below.refl _ _).alloc (Nat.le_refl _) _).alloc (by simp) _).alloc (by simp; omega) _).alloc (by simp; omega) _)
open Go.RowKit Go.Proofs.YtfcjpkkglffnmaaGreatDoorW.PrintWords Go.Proofs.YtfcjpkkglffnmaaGreatDoorW.PrintLast Go.Proofs.YtfcjpkkglffnmaaGreatDoorW.PrintMore
def ErrTy (w : World) : Prop := w.cell? ⟨0, 0, none⟩ = some (.iface 118 (.agg #[.pointer (some ⟨4, 50, none⟩)]))
theorem cell_lt {w : World} {b o : Nat} {v : Value} (h : w.cell? ⟨b, o, none⟩ = some v) : b < w.heap.size := by
 rcases Nat.lt_or_ge b w.heap.size with h' | h'
 ·
  exact h'
 ·
  simp [World.cell?, Array.getElem?_eq_none h'] at h
theorem ErrTy.lt {w : World} (h : ErrTy w) : 0 < w.heap.size := cell_lt h
theorem ErrTy.below {w w' : World} {n : Nat} (h : ErrTy w) (hn : 0 < n) (hb : Below n w w') : ErrTy w' := by
 unfold ErrTy at *;rw [hb.cell (p := ⟨0, 0, none⟩) hn];exact h
set_option maxHeartbeats 8000000 in
set_option maxRecDepth 100000 in
theorem told_nil (w : World) : Calls Tryz.prog 20 #[.nilIface] w fun e w' => e = .returned (.tuple #[.int .i64 0, .int .i64 0]) ∧ Below w.heap.size w w' := by
 go_enter Tryz.func20, Tryz.ntmps20;go_wp2_with (go_at_call 38; (refine (as_nil _ _).mono ?_); rintro e w' ⟨rfl, rfl⟩)
 go_ret2
 exact ⟨rfl, ((Below.refl _ _).alloc (Nat.le_refl _) _).alloc (by simp) _⟩
set_option maxHeartbeats 8000000 in
set_option maxRecDepth 100000 in
theorem zrl (g : Nat) (a c : Int) (w : World) (hg : ErrTy w) (h0 : w.cell? ⟨g, 0, none⟩ = some (.int .i64 a)) (h1 : w.cell? ⟨g, 1, none⟩ = some (.iface 27 (.int .i64 c))) :
  Calls Tryz.prog 20 #[.iface 65 (.pointer (some ⟨g, 0, none⟩))] w fun e w' => e = .returned (.tuple #[.int .i64 a, .int .i64 c]) ∧ Below w.heap.size w w' := by
 have hgl := cell_lt h0;have HG := zf.mk hg;have H0 := zf.mk h0;have H1 := zf.mk h1;clear hg h0 h1;go_enter Tryz.func20, Tryz.ntmps20;go_wp2_with fail
 refine (as_fault ⟨g, 0, none⟩ ⟨w.heap.size, 0, none⟩ (.pointer none) _ ?_ ?_ ?_).mono ?_
 ·
  exact HG.out.below HG.out.lt (((Below.refl _ _).alloc (Nat.le_refl _) _).alloc (by simp) _)
 ·
  simp
 ·
  simp
 rintro e w1 ⟨rfl, w2, hb2, rfl⟩;have bf0 : ((w.alloc (.cells #[.pointer none] 65)).alloc (.cells #[.int .i64 0] 27)).heap[w.heap.size]? = some (.cells #[.pointer none] 65 (0, 0)) := zo (Y8 w _) _;have be0 : ((w.alloc (.cells #[.pointer none] 65)).alloc (.cells #[.int .i64 0] 27)).heap[w.heap.size + 1]? = some (.cells #[.int .i64 0] 27 (0, 0)) := by
  have := Y8 (w.alloc (.cells #[.pointer none] 65)) (.cells #[.int .i64 0] 27);simpa using this
 have BF := zf.mk (Xz (zy bf0 hb2) 0 (.pointer (some ⟨g, 0, none⟩)));have BE := zf.mk (Zx (zy be0 hb2) (p := ⟨w.heap.size, 0, none⟩) (by show w.heap.size + 1 ≠ w.heap.size; omega) (.pointer (some ⟨g, 0, none⟩)));have HB := zf.mk (show Below w.heap.size w (w2.setCell ⟨w.heap.size, 0, none⟩ (.pointer (some ⟨g, 0, none⟩))) from
  ((((Below.refl _ _).alloc (Nat.le_refl _) _).alloc (by simp) _).trans (hb2.mono (by simp; omega))).setCell (Nat.le_refl _) _)
 clear hb2 bf0 be0;generalize w2.setCell ⟨w.heap.size, 0, none⟩ (.pointer (some ⟨g, 0, none⟩)) = w3 at *;go_wp2_with fail
 refine (as_errno g c ⟨w.heap.size + 1, 0, none⟩ (.int .i64 0) w3 ?_ ?_ ?_ ?_).mono ?_
 ·
  exact HG.out.below HG.out.lt HB.out
 ·
  exact yc BE.out 0
 ·
  exact zx BE.out 0
 ·
  rw [HB.out.cell (p := ⟨g, 1, none⟩) hgl]; exact H1.out
 rintro e w4 ⟨rfl, w5, hb5, rfl⟩;have cf : (w5.setCell ⟨w.heap.size + 1, 0, none⟩ (.int .i64 c)).cell? ⟨w.heap.size, 0, none⟩ = some (.pointer (some ⟨g, 0, none⟩)) :=
  (yc (Zx (zy BF.out hb5) (p := ⟨w.heap.size + 1, 0, none⟩) (by show w.heap.size ≠ w.heap.size + 1; omega) (.int .i64 c)) 0)
 have ce : (w5.setCell ⟨w.heap.size + 1, 0, none⟩ (.int .i64 c)).cell? ⟨w.heap.size + 1, 0, none⟩ = some (.int .i64 c) :=
  (yc (Xz (zy BE.out hb5) 0 (.int .i64 c)) 0)
 have hB : Below w.heap.size w (w5.setCell ⟨w.heap.size + 1, 0, none⟩ (.int .i64 c)) :=
  (HB.out.trans (hb5.mono (by have := HB.out.size; omega))).setCell (by show w.heap.size ≤ w.heap.size + 1; omega) _
 have ca : (w5.setCell ⟨w.heap.size + 1, 0, none⟩ (.int .i64 c)).cell? ⟨g, 0, none⟩ = some (.int .i64 a) := by
  rw [hB.cell (p := ⟨g, 0, none⟩) hgl]; exact H0.out
 have HB2 := zf.mk hB;clear hb5 hB HB;generalize w5.setCell ⟨w.heap.size + 1, 0, none⟩ (.int .i64 c) = w6 at *;go_wp2_with fail
 go_quiet (fail)
 go_wp2_with fail
 go_ret2
 exact ⟨rfl, zg HB2.out _⟩
end Go.Proofs.YtfcjpkkglffnmaaGreatDoor.Err

namespace Go.Proofs.YtfcjpkkglffnmaaGreatDoor.Laid
open Go.ChangeShapes Go.WideShapes Go.RowKit
set_option linter.unusedVariables false
theorem et : Tryz.prog.globalNamed "errors.errorType" = some 0 := by kernel_rfl
theorem rt : (Tryz.prog.cutTypes.find? (·.1 == "internal/reflectlite.rtype")).map (·.2) = some 118 := by kernel_rfl
theorem oneRow : ((List.range 177).filter fun t => Tryz.prog.rowNamed t [101, 114, 114, 111, 114]) = [50] := by kernel_rfl
theorem size : Tryz.prog.types.size = 177 := by kernel_rfl
abbrev listed : List (String × DataW Unit) := [("unicode/utf8.acceptRanges", Rows.laid_unicode_utf8_acceptRanges), ("errors.errorType", Rows.laid_errors_errorType), ("unicode/utf8.first", Rows.laid_unicode_utf8_first)]
theorem zof : (listed.filter fun x => x.2.handleName?.isNone) = [("unicode/utf8.acceptRanges", Rows.laid_unicode_utf8_acceptRanges), ("unicode/utf8.first", Rows.laid_unicode_utf8_first)] := rfl
theorem zgv : (listed.filter fun x => x.2.handleName?.isSome) = [("errors.errorType", Rows.laid_errors_errorType)] := rfl
theorem zmo {W : World} (h : laidMetH Tryz.prog listed W) : Err.ErrTy W := by
 have h' : laidMet Tryz.prog (listed.filter fun x => x.2.handleName?.isNone) W ∧ handlesMet Tryz.prog [("errors.errorType", Rows.laid_errors_errorType)] W := by
  unfold laidMetH at h;rw [zgv] at h;exact h
 obtain ⟨name, u, ty, e1, e2, e3, e4, e5⟩ := h'.2 _ (List.mem_singleton.2 rfl);have en : name = [101, 114, 114, 111, 114] := (Option.some.inj e1).symm;subst en;obtain rfl := Option.some.inj (rt.symm.trans e2);have hm : ty ∈ (List.range 177).filter fun t => Tryz.prog.rowNamed t [101, 114, 114, 111, 114] := List.mem_filter.2 ⟨List.mem_range.2 (by rw [← size]; exact e3), e4⟩
 rw [oneRow] at hm;obtain rfl := List.mem_singleton.1 hm;have hh : typeHandle Tryz.prog 50 = .pointer (some ⟨4, 50, none⟩) := by kernel_rfl
 rw [hh] at e5;have := World.var?_cell et e5 0;unfold Err.ErrTy;simpa using this
def putError : Obj → Obj
 | .cells _ t frozen => .cells #[.iface 118 (.agg #[.pointer (some ⟨4, 50, none⟩)])] t frozen
 | o => o
noncomputable def worldE (os : Os) : World := { world os with heap := (world os).heap.modify 0 putError }
set_option maxRecDepth 100000 in
theorem metE (os : Os) (args : Array Value) : laidMetH Tryz.prog listed ((worldE os).forCall (fun _ _ => 0) ⟨#[], args, []⟩).memory := by
 refine laidMetH_of_parts ?_ ?_
 ·
  rw [zof];exact laidMet_of_run3 300 (by kernel_rfl) (by kernel_rfl) (by kernel_rfl)
 ·
  rw [zgv];kernel_rfl
end Go.Proofs.YtfcjpkkglffnmaaGreatDoor.Laid

namespace Go.Proofs.YtfcjpkkglffnmaaGreatDoor.Joined
open Go
set_option linter.unusedVariables false
theorem three : (Tryz.prog.mayEnter && (Rows.scopesRow.lifted == Tryz.prog.liftsFinal) && (Tryz.prog.make == some Rows.scopesRow.make)) = true := by kernel_rfl
theorem mayEnter : Tryz.prog.mayEnter = true := (Bool.and_eq_true _ _ ▸ (Bool.and_eq_true _ _ ▸ three).1).1
theorem lifted : (Rows.scopesRow.lifted == Tryz.prog.liftsFinal) = true := (Bool.and_eq_true _ _ ▸ (Bool.and_eq_true _ _ ▸ three).1).2
theorem make : (Tryz.prog.make == some Rows.scopesRow.make) = true := (Bool.and_eq_true _ _ ▸ three).2
theorem laidOut : laidOutB Tryz.prog = true := by kernel_rfl
theorem mapsRowed : mapsRowed Tryz.prog = true := by kernel_rfl
theorem stops : (Tryz.prog.stops == []) = true := by kernel_rfl
theorem stopKnobs : (Tryz.prog.stopKnobs == []) = true := by kernel_rfl
theorem stopsHeard : Tryz.prog.stopsHeard = true := by kernel_rfl
end Go.Proofs.YtfcjpkkglffnmaaGreatDoor.Joined

namespace Go.Proofs.YtfcjpkkglffnmaaGreatDoor.H
open Go.RowKit Go.Proofs.YtfcjpkkglffnmaaGreatDoorW.PrintWords Go.Proofs.YtfcjpkkglffnmaaGreatDoorW.PrintLast Go.Proofs.YtfcjpkkglffnmaaGreatDoorW.PrintMore
attribute [local go_sem] Vz V3 za0 za1 Vd Ve V4 V5
set_option linter.unusedVariables false
set_option linter.unusedSimpArgs false
def errW : Option Int → Value
 | none => .nilIface
 | some c => .iface 0 (.int .i64 c)
theorem Zd : errW none = .nilIface := rfl
theorem Ze (c : Int) : errW (some c) = .iface 0 (.int .i64 c) := rfl
theorem info9 : (Tryz.prog.info? 9).map (fun i => (i.zero, i.size, i.bytes)) = some (some (.string ⟨#[]⟩), 1, 16) := by kernel_rfl
theorem zjj : (Tryz.prog.info? 42).map (fun i => (i.zero, i.size, i.bytes)) = some (some (.agg #[(.string ⟨#[]⟩), (.int .i64 0), (.int .i64 0)]), 3, 32) := by kernel_rfl
theorem zjk : (Tryz.prog.info? 44).map (fun i => (i.zero, i.size, i.bytes)) = some (some (.agg #[(.int .i64 0), (.int .i64 0), (.int .i64 0), (.int .i64 0), (.int .i64 0), (.string ⟨#[]⟩), (.string ⟨#[]⟩), (.string ⟨#[]⟩), (.string ⟨#[]⟩), (.int .i64 0)]), 10, 112) := by kernel_rfl
structure S42 where
 f0 : ByteArray
 f1 : Int
 f2 : Int
def z42 : S42 := ⟨(⟨#[]⟩ : ByteArray), (0 : Int), (0 : Int)⟩
def k42 : Kd S42 := Kd.iso (Kd.pair Kd.string (Kd.pair (Kd.int .i64) (Kd.int .i64))) (fun x : S42 => (x.f0, x.f1, x.f2))
theorem k42_open {w : World} {x : S42} {cs : List Value} (h : k42.K w x cs) : cs = [.string x.f0, .int .i64 x.f1, .int .i64 x.f2] := by
 obtain ⟨_, _, rfl, rfl, ⟨_, _, rfl, rfl, rfl⟩⟩ := h;exact rfl
theorem znc {w : World} {base : Nat} {ok : Nat → Prop} {x : S42} {cs : List Value} (h : k42.M w base ok x cs) : cs = [.string x.f0, .int .i64 x.f1, .int .i64 x.f2] := by
 obtain ⟨_, _, rfl, rfl, ⟨_, _, rfl, rfl, rfl⟩⟩ := h;exact rfl
theorem k42_mk (w : World) (x : S42)  : k42.K w x [.string x.f0, .int .i64 x.f1, .int .i64 x.f2] := ⟨[.string x.f0], [.int .i64 x.f1, .int .i64 x.f2], rfl, rfl, ⟨[.int .i64 x.f1], [.int .i64 x.f2], rfl, rfl, rfl⟩⟩
theorem zk4 (w : World) (base : Nat) (ok : Nat → Prop) (x : S42)  : k42.M w base ok x [.string x.f0, .int .i64 x.f1, .int .i64 x.f2] := ⟨[.string x.f0], [.int .i64 x.f1, .int .i64 x.f2], rfl, rfl, ⟨[.int .i64 x.f1], [.int .i64 x.f2], rfl, rfl, rfl⟩⟩
def Zp (xs : List S42) (i : Int) : S42 := xs.getD i.toNat z42
theorem za5 {w : World} {A : Option Addr} {n : Nat} {xs : List S42} (h : Kd.C k42 w A n xs) (i : Int) (h0 : 0 ≤ i) (h1 : i < n) : ∃ ad , A = some ad ∧ w.cell? (ad.add (i.toNat * 3)) = some (.string (Zp xs i).f0) ∧ w.cell? ⟨(ad.add (i.toNat * 3)).block, (ad.add (i.toNat * 3)).off + 1, none⟩ = some (.int .i64 (Zp xs i).f1) ∧ w.cell? ⟨(ad.add (i.toNat * 3)).block, (ad.add (i.toNat * 3)).off + 2, none⟩ = some (.int .i64 (Zp xs i).f2) := by
 obtain ⟨ad, c, e, _, hK, hc0⟩ := Kd.C_get h z42 i h0 h1;have hc : ∀ j u, c[j]? = some u → w.cell? (ad.add (i.toNat * 3 + j)) = some u := hc0;obtain rfl := k42_open hK;exact ⟨ad, e, hc 0 _ rfl, by rw [← zbx _ _ 1 (by omega)]; exact hc 1 _ rfl, by rw [← zbx _ _ 2 (by omega)]; exact hc 2 _ rfl⟩
structure S44 where
 f0 : Int
 f1 : Int
 f2 : Int
 f3 : Int
 f4 : Int
 f5 : ByteArray
 f6 : ByteArray
 f7 : ByteArray
 f8 : ByteArray
 f9 : Int
def z44 : S44 := ⟨(0 : Int), (0 : Int), (0 : Int), (0 : Int), (0 : Int), (⟨#[]⟩ : ByteArray), (⟨#[]⟩ : ByteArray), (⟨#[]⟩ : ByteArray), (⟨#[]⟩ : ByteArray), (0 : Int)⟩
def k44 : Kd S44 := Kd.iso (Kd.pair (Kd.int .i64) (Kd.pair (Kd.int .i64) (Kd.pair (Kd.int .i64) (Kd.pair (Kd.int .i64) (Kd.pair (Kd.int .i64) (Kd.pair Kd.string (Kd.pair Kd.string (Kd.pair Kd.string (Kd.pair Kd.string (Kd.int .i64)))))))))) (fun x : S44 => (x.f0, x.f1, x.f2, x.f3, x.f4, x.f5, x.f6, x.f7, x.f8, x.f9))
theorem k44_open {w : World} {x : S44} {cs : List Value} (h : k44.K w x cs) : cs = [.int .i64 x.f0, .int .i64 x.f1, .int .i64 x.f2, .int .i64 x.f3, .int .i64 x.f4, .string x.f5, .string x.f6, .string x.f7, .string x.f8, .int .i64 x.f9] := by
 obtain ⟨_, _, rfl, rfl, ⟨_, _, rfl, rfl, ⟨_, _, rfl, rfl, ⟨_, _, rfl, rfl, ⟨_, _, rfl, rfl, ⟨_, _, rfl, rfl, ⟨_, _, rfl, rfl, ⟨_, _, rfl, rfl, ⟨_, _, rfl, rfl, rfl⟩⟩⟩⟩⟩⟩⟩⟩⟩ := h;exact rfl
theorem zg9 {w : World} {base : Nat} {ok : Nat → Prop} {x : S44} {cs : List Value} (h : k44.M w base ok x cs) : cs = [.int .i64 x.f0, .int .i64 x.f1, .int .i64 x.f2, .int .i64 x.f3, .int .i64 x.f4, .string x.f5, .string x.f6, .string x.f7, .string x.f8, .int .i64 x.f9] := by
 obtain ⟨_, _, rfl, rfl, ⟨_, _, rfl, rfl, ⟨_, _, rfl, rfl, ⟨_, _, rfl, rfl, ⟨_, _, rfl, rfl, ⟨_, _, rfl, rfl, ⟨_, _, rfl, rfl, ⟨_, _, rfl, rfl, ⟨_, _, rfl, rfl, rfl⟩⟩⟩⟩⟩⟩⟩⟩⟩ := h;exact rfl
theorem k44_mk (w : World) (x : S44)  : k44.K w x [.int .i64 x.f0, .int .i64 x.f1, .int .i64 x.f2, .int .i64 x.f3, .int .i64 x.f4, .string x.f5, .string x.f6, .string x.f7, .string x.f8, .int .i64 x.f9] := ⟨[.int .i64 x.f0], [.int .i64 x.f1, .int .i64 x.f2, .int .i64 x.f3, .int .i64 x.f4, .string x.f5, .string x.f6, .string x.f7, .string x.f8, .int .i64 x.f9], rfl, rfl, ⟨[.int .i64 x.f1], [.int .i64 x.f2, .int .i64 x.f3, .int .i64 x.f4, .string x.f5, .string x.f6, .string x.f7, .string x.f8, .int .i64 x.f9], rfl, rfl, ⟨[.int .i64 x.f2], [.int .i64 x.f3, .int .i64 x.f4, .string x.f5, .string x.f6, .string x.f7, .string x.f8, .int .i64 x.f9], rfl, rfl, ⟨[.int .i64 x.f3], [.int .i64 x.f4, .string x.f5, .string x.f6, .string x.f7, .string x.f8, .int .i64 x.f9], rfl, rfl, ⟨[.int .i64 x.f4], [.string x.f5, .string x.f6, .string x.f7, .string x.f8, .int .i64 x.f9], rfl, rfl, ⟨[.string x.f5], [.string x.f6, .string x.f7, .string x.f8, .int .i64 x.f9], rfl, rfl, ⟨[.string x.f6], [.string x.f7, .string x.f8, .int .i64 x.f9], rfl, rfl, ⟨[.string x.f7], [.string x.f8, .int .i64 x.f9], rfl, rfl, ⟨[.string x.f8], [.int .i64 x.f9], rfl, rfl, rfl⟩⟩⟩⟩⟩⟩⟩⟩⟩
theorem zc2 (w : World) (base : Nat) (ok : Nat → Prop) (x : S44)  : k44.M w base ok x [.int .i64 x.f0, .int .i64 x.f1, .int .i64 x.f2, .int .i64 x.f3, .int .i64 x.f4, .string x.f5, .string x.f6, .string x.f7, .string x.f8, .int .i64 x.f9] := ⟨[.int .i64 x.f0], [.int .i64 x.f1, .int .i64 x.f2, .int .i64 x.f3, .int .i64 x.f4, .string x.f5, .string x.f6, .string x.f7, .string x.f8, .int .i64 x.f9], rfl, rfl, ⟨[.int .i64 x.f1], [.int .i64 x.f2, .int .i64 x.f3, .int .i64 x.f4, .string x.f5, .string x.f6, .string x.f7, .string x.f8, .int .i64 x.f9], rfl, rfl, ⟨[.int .i64 x.f2], [.int .i64 x.f3, .int .i64 x.f4, .string x.f5, .string x.f6, .string x.f7, .string x.f8, .int .i64 x.f9], rfl, rfl, ⟨[.int .i64 x.f3], [.int .i64 x.f4, .string x.f5, .string x.f6, .string x.f7, .string x.f8, .int .i64 x.f9], rfl, rfl, ⟨[.int .i64 x.f4], [.string x.f5, .string x.f6, .string x.f7, .string x.f8, .int .i64 x.f9], rfl, rfl, ⟨[.string x.f5], [.string x.f6, .string x.f7, .string x.f8, .int .i64 x.f9], rfl, rfl, ⟨[.string x.f6], [.string x.f7, .string x.f8, .int .i64 x.f9], rfl, rfl, ⟨[.string x.f7], [.string x.f8, .int .i64 x.f9], rfl, rfl, ⟨[.string x.f8], [.int .i64 x.f9], rfl, rfl, rfl⟩⟩⟩⟩⟩⟩⟩⟩⟩
def zl (xs : List S44) (i : Int) : S44 := xs.getD i.toNat z44
theorem zbr {w : World} {A : Option Addr} {n : Nat} {xs : List S44} (h : Kd.C k44 w A n xs) (i : Int) (h0 : 0 ≤ i) (h1 : i < n) : ∃ ad , A = some ad ∧ w.cell? (ad.add (i.toNat * 10)) = some (.int .i64 (zl xs i).f0) ∧ w.cell? ⟨(ad.add (i.toNat * 10)).block, (ad.add (i.toNat * 10)).off + 1, none⟩ = some (.int .i64 (zl xs i).f1) ∧ w.cell? ⟨(ad.add (i.toNat * 10)).block, (ad.add (i.toNat * 10)).off + 2, none⟩ = some (.int .i64 (zl xs i).f2) ∧ w.cell? ⟨(ad.add (i.toNat * 10)).block, (ad.add (i.toNat * 10)).off + 3, none⟩ = some (.int .i64 (zl xs i).f3) ∧ w.cell? ⟨(ad.add (i.toNat * 10)).block, (ad.add (i.toNat * 10)).off + 4, none⟩ = some (.int .i64 (zl xs i).f4) ∧ w.cell? ⟨(ad.add (i.toNat * 10)).block, (ad.add (i.toNat * 10)).off + 5, none⟩ = some (.string (zl xs i).f5) ∧ w.cell? ⟨(ad.add (i.toNat * 10)).block, (ad.add (i.toNat * 10)).off + 6, none⟩ = some (.string (zl xs i).f6) ∧ w.cell? ⟨(ad.add (i.toNat * 10)).block, (ad.add (i.toNat * 10)).off + 7, none⟩ = some (.string (zl xs i).f7) ∧ w.cell? ⟨(ad.add (i.toNat * 10)).block, (ad.add (i.toNat * 10)).off + 8, none⟩ = some (.string (zl xs i).f8) ∧ w.cell? ⟨(ad.add (i.toNat * 10)).block, (ad.add (i.toNat * 10)).off + 9, none⟩ = some (.int .i64 (zl xs i).f9) := by
 obtain ⟨ad, c, e, _, hK, hc0⟩ := Kd.C_get h z44 i h0 h1;have hc : ∀ j u, c[j]? = some u → w.cell? (ad.add (i.toNat * 10 + j)) = some u := hc0;obtain rfl := k44_open hK;exact ⟨ad, e, hc 0 _ rfl, by rw [← zbx _ _ 1 (by omega)]; exact hc 1 _ rfl, by rw [← zbx _ _ 2 (by omega)]; exact hc 2 _ rfl, by rw [← zbx _ _ 3 (by omega)]; exact hc 3 _ rfl, by rw [← zbx _ _ 4 (by omega)]; exact hc 4 _ rfl, by rw [← zbx _ _ 5 (by omega)]; exact hc 5 _ rfl, by rw [← zbx _ _ 6 (by omega)]; exact hc 6 _ rfl, by rw [← zbx _ _ 7 (by omega)]; exact hc 7 _ rfl, by rw [← zbx _ _ 8 (by omega)]; exact hc 8 _ rfl, by rw [← zbx _ _ 9 (by omega)]; exact hc 9 _ rfl⟩
end Go.Proofs.YtfcjpkkglffnmaaGreatDoor.H

set_option linter.unusedVariables false
set_option linter.unusedSimpArgs false
namespace Go.Proofs.YtfcjpkkglffnmaaGreatDoor.Open
open Go.RowKit Go.ChangeShapes Go.WideShapes Go.Deep Go.Joins Go.Proofs.YtfcjpkkglffnmaaGreatDoorW.PrintWords Go.Proofs.YtfcjpkkglffnmaaGreatDoorW.PrintLast Go.Proofs.YtfcjpkkglffnmaaGreatDoorW.PrintMore Go.Proofs.YtfcjpkkglffnmaaGreatDoor.H
variable {H : Type} {enc : TypeId × Value → H} {w : World} {base : Nat} {spare : Nat → Bool} {held : Bool}
theorem zdn {P : Program} {t e : TypeId} {fs : Array Field} {fuel : Nat} {cs : List Value} {x : DataW H × List MemPlace} (ht : P.underlying t = some (.slice e)) (he : P.underlying e = some (.struct fs))
  (hone : oneCellFields P fs = true) (hC : P.cellsOf e = fs.size) (h : DataW.trod enc P w base spare held fuel t cs = some x) :
  (cs = [.slice none 0 0] ∧ x = (.nil, [])) ∨
  ∃ (a : Addr) (len cap m : Nat) (D : Nat → DataW H) (Pl : Nat → List MemPlace), cs = [.slice (some a) len cap] ∧ base ≤ a.block ∧ len ≤ cap ∧ cap ≤ maxLen ∧ m = (if spare a.block then cap else len) ∧
   x = (.slice ((List.range len).map D) ((List.range (m - len)).map fun j => D (len + j)), MemPlace.row a (m * fs.size) ++ (List.range m).flatMap Pl) ∧
   ∀ i, i < m → ∃ (ys : List (DataW H × List MemPlace)) (n : Nat), D i = .agg (ys.map (·.1)) ∧ Pl i = ys.flatMap (·.2) ∧ ys.length = fs.size ∧
    ∀ (j : Nat) (f : Field), fs[j]? = some f → ∃ (v : Value) (y : DataW H × List MemPlace), w.cell? (a.add (i * fs.size + j)) = some v ∧ ys[j]? = some y ∧ DataW.trod enc P w base spare held n f.type [v] = some y := by
 rcases open_slice ht h with h0 | ⟨a, len, cap, m, n, D, Pl, hcs, hb, hl, hm, hmm, hx, hi⟩
 ·
  exact .inl h0
 ·
  refine .inr ⟨a, len, cap, m, D, Pl, hcs, hb, hl, hm, hmm, by rw [hC] at hx; exact hx, fun i him => ?_⟩;obtain ⟨cs', hc, ht'⟩ := hi i him;rw [hC] at hc;obtain ⟨ys, n', hn', hy, hlen, hyl, hf⟩ := DataW.trod_struct he ht';obtain ⟨_, hcl, hat⟩ := World.cells?_some hc;simp only [Prod.mk.injEq] at hy;refine ⟨ys, n', hy.1, hy.2, hyl, fun j f hj => ?_⟩;obtain ⟨ho, hk⟩ := hone_of hone j f hj;have hjl : j < fs.size := (Array.getElem?_eq_some_iff.1 hj).1;have hcell := hat j hjl;have hv : cs'[j]? = some (cs'[j]'(by omega)) := List.getElem?_eq_getElem (by omega);have h1 := hf j f hj;rw [ho, hk] at h1;have hone' : (cs'.drop j).take 1 = [cs'[j]'(by omega)] := by
   rw [List.drop_eq_getElem_cons (by omega)];rfl
  rw [hone'] at h1;have hys : ys[j]? = some (ys[j]'(by omega)) := List.getElem?_eq_getElem (by omega);refine ⟨_, _, ?_, hys, h1.trans hys⟩;rw [← Go.Deep.add_add, hcell, hv]
theorem row_of {α : Type} (d : Kd α) {a : Addr} {len : Nat} (hl : len ≤ 9223372036854775807) (h : ∀ i, ∃ x, i < len → ∃ c : List Value, c.length = d.sz ∧ d.K w x c ∧ ∀ j u, c[j]? = some u → w.cell? (a.add (i * d.sz + j)) = some u) :
  ∃ xs : List α, xs.length = len ∧ Kd.C d w (some a) len xs := by
 obtain ⟨f, hf⟩ := Classical.axiomOfChoice h;refine ⟨(List.range len).map f, by simp, by simp, hl, fun _ => ⟨a, rfl, fun j p hp => ?_⟩⟩;have hj : j < len := by
  have := (List.getElem?_eq_some_iff.1 hp).1;simpa using this
 obtain rfl : f j = p := by simpa [hj] using hp
 exact hf j hj
theorem open_ops {fuel : Nat} {c : Value} {x : DataW H × List MemPlace} (h : DataW.trod enc Tryz.prog w 0 (fun _ => true) held fuel 22 [c] = some x) :
  ∃ (A : Option Addr) (cap : Nat) (xs : List S42), c = .slice A xs.length cap ∧ xs.length ≤ cap ∧ Kd.C k42 w A xs.length xs := by
 rcases zdn Tryz.underlying22 Tryz.underlying42 (by kernel_rfl) (by kernel_rfl) h with ⟨hc, _⟩ | ⟨a, len, cap, m, D, Pl, hc, _, hl, hm, hmm, _, hi⟩
 ·
  simp only [List.cons.injEq, and_true] at hc;exact ⟨none, 0, [], hc, Nat.le_refl _, rfl, by simp, fun h => absurd h (by simp)⟩
 ·
  simp only [List.cons.injEq, and_true] at hc;simp only [if_true] at hmm;subst hmm;have hm' : m ≤ 9223372036854775807 := by have := hm; simp only [maxLen] at this; omega
  obtain ⟨xs, hx, hk⟩ := row_of (w := w) k42 (a := a) (len := len) (by omega) (fun i => by
   by_cases g : i < len
   ·
    obtain ⟨ys, n, _, _, _, hf⟩ := hi i (by omega);obtain ⟨v0, y0, c0, _, t0⟩ := hf 0 _ rfl;obtain ⟨v1, y1, c1, _, t1⟩ := hf 1 _ rfl;obtain ⟨v2, y2, c2, _, t2⟩ := hf 2 _ rfl;obtain ⟨s0, e0, _⟩ := DataW.trod_string Tryz.underlying9 t0;obtain ⟨s1, e1, _⟩ := DataW.trod_int Tryz.underlying3 t1;obtain ⟨s2, e2, _⟩ := DataW.trod_int Tryz.underlying3 t2;simp only [List.cons.injEq, and_true] at e0 e1 e2;subst e0 e1 e2;refine ⟨⟨s0, s1, s2⟩, fun _ => ⟨_, rfl, k42_mk w ⟨s0, s1, s2⟩, fun j u hu => ?_⟩⟩;have hj : j < 3 := (List.getElem?_eq_some_iff.1 hu).1;rcases (show j = 0 ∨ j = 1 ∨ j = 2 by omega) with rfl | rfl | rfl
    ·
     obtain rfl := Option.some.inj hu; exact c0
    ·
     obtain rfl := Option.some.inj hu; exact c1
    ·
     obtain rfl := Option.some.inj hu; exact c2
   ·
    exact ⟨z42, fun h => absurd h g⟩)
  exact ⟨some a, m, xs, by rw [hx]; exact hc, by omega, by rw [hx]; exact hk⟩
theorem zrm {fuel : Nat} {c : Value} {x : DataW H × List MemPlace} (h : DataW.trod enc Tryz.prog w 0 (fun _ => true) held fuel 23 [c] = some x) :
  ∃ (A : Option Addr) (cap : Nat) (xs : List S44), c = .slice A xs.length cap ∧ xs.length ≤ cap ∧ Kd.C k44 w A xs.length xs := by
 rcases zdn Tryz.underlying23 Tryz.underlying44 (by kernel_rfl) (by kernel_rfl) h with ⟨hc, _⟩ | ⟨a, len, cap, m, D, Pl, hc, _, hl, hm, hmm, _, hi⟩
 ·
  simp only [List.cons.injEq, and_true] at hc;exact ⟨none, 0, [], hc, Nat.le_refl _, rfl, by simp, fun h => absurd h (by simp)⟩
 ·
  simp only [List.cons.injEq, and_true] at hc;simp only [if_true] at hmm;subst hmm;have hm' : m ≤ 9223372036854775807 := by have := hm; simp only [maxLen] at this; omega
  obtain ⟨xs, hx, hk⟩ := row_of (w := w) k44 (a := a) (len := len) (by omega) (fun i => by
   by_cases g : i < len
   ·
    obtain ⟨ys, n, _, _, _, hf⟩ := hi i (by omega);obtain ⟨v0, y0, c0, _, t0⟩ := hf 0 _ rfl;obtain ⟨v1, y1, c1, _, t1⟩ := hf 1 _ rfl;obtain ⟨v2, y2, c2, _, t2⟩ := hf 2 _ rfl;obtain ⟨v3, y3, c3, _, t3⟩ := hf 3 _ rfl;obtain ⟨v4, y4, c4, _, t4⟩ := hf 4 _ rfl;obtain ⟨v5, y5, c5, _, t5⟩ := hf 5 _ rfl;obtain ⟨v6, y6, c6, _, t6⟩ := hf 6 _ rfl;obtain ⟨v7, y7, c7, _, t7⟩ := hf 7 _ rfl;obtain ⟨v8, y8, c8, _, t8⟩ := hf 8 _ rfl;obtain ⟨v9, y9, c9, _, t9⟩ := hf 9 _ rfl;obtain ⟨s0, e0, _⟩ := DataW.trod_int Tryz.underlying3 t0;obtain ⟨s1, e1, _⟩ := DataW.trod_int Tryz.underlying3 t1;obtain ⟨s2, e2, _⟩ := DataW.trod_int Tryz.underlying3 t2;obtain ⟨s3, e3, _⟩ := DataW.trod_int Tryz.underlying3 t3;obtain ⟨s4, e4, _⟩ := DataW.trod_int Tryz.underlying3 t4;obtain ⟨s5, e5, _⟩ := DataW.trod_string Tryz.underlying9 t5;obtain ⟨s6, e6, _⟩ := DataW.trod_string Tryz.underlying9 t6;obtain ⟨s7, e7, _⟩ := DataW.trod_string Tryz.underlying9 t7;obtain ⟨s8, e8, _⟩ := DataW.trod_string Tryz.underlying9 t8;obtain ⟨s9, e9, _⟩ := DataW.trod_int Tryz.underlying3 t9;simp only [List.cons.injEq, and_true] at e0 e1 e2 e3 e4 e5 e6 e7 e8 e9;subst e0 e1 e2 e3 e4 e5 e6 e7 e8 e9;refine ⟨⟨s0, s1, s2, s3, s4, s5, s6, s7, s8, s9⟩, fun _ => ⟨_, rfl, k44_mk w ⟨s0, s1, s2, s3, s4, s5, s6, s7, s8, s9⟩, fun j u hu => ?_⟩⟩;have hj : j < 10 := (List.getElem?_eq_some_iff.1 hu).1;rcases (show j = 0 ∨ j = 1 ∨ j = 2 ∨ j = 3 ∨ j = 4 ∨ j = 5 ∨ j = 6 ∨ j = 7 ∨ j = 8 ∨ j = 9 by omega) with rfl | rfl | rfl | rfl | rfl | rfl | rfl | rfl | rfl | rfl
    ·
     obtain rfl := Option.some.inj hu; exact c0
    ·
     obtain rfl := Option.some.inj hu; exact c1
    ·
     obtain rfl := Option.some.inj hu; exact c2
    ·
     obtain rfl := Option.some.inj hu; exact c3
    ·
     obtain rfl := Option.some.inj hu; exact c4
    ·
     obtain rfl := Option.some.inj hu; exact c5
    ·
     obtain rfl := Option.some.inj hu; exact c6
    ·
     obtain rfl := Option.some.inj hu; exact c7
    ·
     obtain rfl := Option.some.inj hu; exact c8
    ·
     obtain rfl := Option.some.inj hu; exact c9
   ·
    exact ⟨z44, fun h => absurd h g⟩)
  exact ⟨some a, m, xs, by rw [hx]; exact hc, by omega, by rw [hx]; exact hk⟩
theorem zlh {P : Program} {t e : TypeId} {fs : Array Field} {fuel : Nat} {A : Option Addr} {n cap : Nat} {x : DataW H × List MemPlace} (ht : P.underlying t = some (.slice e)) (he : P.underlying e = some (.struct fs))
  (hone : oneCellFields P fs = true) (hC : P.cellsOf e = fs.size) (h : DataW.trod enc P w base spare held fuel t [.slice A n cap] = some x) (hz : ∀ m ∈ DataW.weights P t x.1, m ≤ reachBytes) : n * P.bytesOf e ≤ reachBytes := by
 rcases zdn ht he hone hC h with ⟨hc, _⟩ | ⟨a, len, cap', m, D, Pl, hc, _, _, _, _, hx, _⟩
 ·
  simp only [List.cons.injEq, and_true, Value.slice.injEq] at hc;obtain ⟨_, rfl, _⟩ := hc;simp
 ·
  simp only [List.cons.injEq, and_true, Value.slice.injEq] at hc;obtain ⟨_, rfl, _⟩ := hc;subst hx;have h1 := hz (((List.range n).map D).length + ((List.range (m - n)).map fun j => D (n + j)).length |> (· * P.bytesOf e)) (by simp [DataW.weights, ht]);simp only [List.length_map, List.length_range] at h1;exact Nat.le_trans (Nat.mul_le_mul_right _ (Nat.le_add_right _ _)) h1
set_option maxRecDepth 100000 in
theorem zhn {r : Reach} {b0 : Nat} {v : Value} {d : DataW H} {p : List MemPlace} (hv : Value.okWide Tryz.prog w r b0 25 v) (h : DataW.Trod enc Tryz.prog w 0 (fun _ => true) held 25 v d p) (hz : ∀ m ∈ DataW.weights Tryz.prog 25 d, m ≤ reachBytes) :
  ∃ (A0 : Option Addr) (c0 : Nat) (os : List S42) (A1 : Option Addr) (c1 : Nat) (ns : List S44), v = .agg #[.slice A0 os.length c0, .slice A1 ns.length c1] ∧ os.length ≤ c0 ∧ ns.length ≤ c1 ∧ Kd.C k42 w A0 os.length os ∧ Kd.C k44 w A1 ns.length ns ∧ os.length * 32 ≤ 140737488351232 ∧ ns.length * 112 ≤ 140737488351232 := by
 obtain ⟨u0, u1, y0, y1, n, rfl, rfl, _, h0, h1⟩ := open_agg2 Tryz.underlying25 (by kernel_rfl) (by kernel_rfl) hv h;obtain ⟨A0, c0, os, rfl, l0, k0⟩ := open_ops h0;obtain ⟨A1, c1, ns, rfl, l1, k1⟩ := zrm h1;have hw : DataW.weights Tryz.prog 25 (.agg [y0.1, y1.1]) = DataW.weights Tryz.prog 22 y0.1 ++ (DataW.weights Tryz.prog 23 y1.1 ++ []) := by
  simp only [DataW.weights, Tryz.underlying25];rfl
 rw [hw] at hz;have z0 := zlh Tryz.underlying22 Tryz.underlying42 (by kernel_rfl) (by kernel_rfl) h0 (fun m hm => hz m (List.mem_append_left _ hm));have z1 := zlh Tryz.underlying23 Tryz.underlying44 (by kernel_rfl) (by kernel_rfl) h1 (fun m hm => hz m (List.mem_append_right _ (List.mem_append_left _ hm)));rw [show Tryz.prog.bytesOf 42 = 32 by kernel_rfl] at z0;rw [show Tryz.prog.bytesOf 44 = 112 by kernel_rfl] at z1;rw [show reachBytes = 140737488351232 by kernel_rfl] at z0 z1;exact ⟨A0, c0, os, A1, c1, ns, rfl, l0, l1, k0, k1, z0, z1⟩
end Go.Proofs.YtfcjpkkglffnmaaGreatDoor.Open

namespace Go.Proofs
open Go.Shelf
def Tryz.zpw : Go.Shelf.Ren := ⟨fun | 137 => 82 | 217 => 87 | 266 => 90 | n => n, fun | 9 => 9 | 5 => 5 | 3 => 3 | n => n, fun | n => n⟩
theorem Tryz.lays137 : Go.Proofs.Lays.n137 Tryz.prog Tryz.zpw := {
 mixed := by kernel_rfl
 f137 := Tryz.func82.trans (congrArg some (by kernel_rfl))
 f217 := Tryz.func87.trans (congrArg some (by kernel_rfl))
 f266 := Tryz.func90.trans (congrArg some (by kernel_rfl))
 t3 := Tryz.underlying3
 a3 := Tryz.isAgg3
 z3 := Tryz.sizeOf3
 v3 := Tryz.zeroValue3
 t5 := Tryz.underlying5
 a5 := Tryz.isAgg5
 z5 := Tryz.sizeOf5
 v5 := Tryz.zeroValue5
 t9 := Tryz.underlying9
 a9 := Tryz.isAgg9
 z9 := Tryz.sizeOf9
 v9 := Tryz.zeroValue9 }
open Go.RowKit in
theorem Tryz.strings_IndexByte (s : ByteArray) (c : Int) (w : World) :
  Calls Tryz.prog 82 #[.string s, .int .u8 c] w fun e w' => e = .returned (.int .i64 (Lib.indexByte s.data.toList c.toNat.toUInt8)) ∧ w' = w := Any.strings_IndexByte Tryz.lays137 s c w
def Tryz.zpx : Go.Shelf.Ren := ⟨fun | 143 => 93 | 219 => 97 | 217 => 87 | 225 => 99 | 224 => 100 | 267 => 101 | 266 => 90 | 314 => 102 | n => n, fun | 9 => 9 | 3 => 3 | 4 => 4 | 5 => 5 | 46 => 140 | 146 => 146 | 51 => 145 | n => n, fun | 1 => 1 | n => n⟩
theorem Tryz.lays143 : Go.Proofs.Lays.n143 Tryz.prog Tryz.zpx := {
 mixed := by kernel_rfl
 f143 := Tryz.func93.trans (congrArg some (by kernel_rfl))
 f217 := Tryz.func87.trans (congrArg some (by kernel_rfl))
 f219 := Tryz.func97.trans (congrArg some (by kernel_rfl))
 f224 := Tryz.func100.trans (congrArg some (by kernel_rfl))
 f225 := Tryz.func99.trans (congrArg some (by kernel_rfl))
 f266 := Tryz.func90.trans (congrArg some (by kernel_rfl))
 f267 := Tryz.func101.trans (congrArg some (by kernel_rfl))
 f314 := Tryz.func102.trans (congrArg some (by kernel_rfl))
 t3 := Tryz.underlying3
 a3 := Tryz.isAgg3
 z3 := Tryz.sizeOf3
 v3 := Tryz.zeroValue3
 t4 := Tryz.underlying4
 a4 := Tryz.isAgg4
 z4 := Tryz.sizeOf4
 v4 := Tryz.zeroValue4
 t5 := Tryz.underlying5
 a5 := Tryz.isAgg5
 z5 := Tryz.sizeOf5
 v5 := Tryz.zeroValue5
 t9 := Tryz.underlying9
 a9 := Tryz.isAgg9
 z9 := Tryz.sizeOf9
 v9 := Tryz.zeroValue9
 t46 := Tryz.underlying140
 a46 := Tryz.isAgg140
 z46 := Tryz.sizeOf140
 v46 := Tryz.zeroValue140
 t51 := Tryz.underlying145
 a51 := Tryz.isAgg145
 z51 := Tryz.sizeOf145
 v51 := Tryz.zeroValue145
 t146 := Tryz.underlying146
 a146 := Tryz.isAgg146
 z146 := Tryz.sizeOf146
 v146 := Tryz.zeroValue146
 g1 := by kernel_rfl }
open Go.RowKit Go.Lib in
theorem Tryz.strings_Index_one (s : ByteArray) (c : UInt8) (w : World) :
  Calls Tryz.prog 93 #[.string s, .string ⟨#[c]⟩] w fun e w' => e = .returned (.int .i64 (Lib.indexByte s.data.toList c)) ∧ w' = w := Any.strings_Index_one Tryz.lays143 s c w
def Tryz.zpy : Go.Shelf.Ren := ⟨fun | 138 => 92 | 195 => 94 | 218 => 96 | 143 => 93 | 219 => 97 | 217 => 87 | 225 => 99 | 224 => 100 | 267 => 101 | 266 => 90 | 314 => 102 | n => n, fun | 9 => 9 | 3 => 3 | 4 => 4 | 5 => 5 | 0 => 0 | 46 => 140 | 146 => 146 | 51 => 145 | n => n, fun | 1 => 1 | n => n⟩
theorem Tryz.lays138 : Go.Proofs.Lays.n138 Tryz.prog Tryz.zpy := {
 mixed := by kernel_rfl
 f138 := Tryz.func92.trans (congrArg some (by kernel_rfl))
 f143 := Tryz.func93.trans (congrArg some (by kernel_rfl))
 f195 := Tryz.func94.trans (congrArg some (by kernel_rfl))
 f217 := Tryz.func87.trans (congrArg some (by kernel_rfl))
 f218 := Tryz.func96.trans (congrArg some (by kernel_rfl))
 f219 := Tryz.func97.trans (congrArg some (by kernel_rfl))
 f224 := Tryz.func100.trans (congrArg some (by kernel_rfl))
 f225 := Tryz.func99.trans (congrArg some (by kernel_rfl))
 f266 := Tryz.func90.trans (congrArg some (by kernel_rfl))
 f267 := Tryz.func101.trans (congrArg some (by kernel_rfl))
 f314 := Tryz.func102.trans (congrArg some (by kernel_rfl))
 t0 := Tryz.underlying0
 a0 := Tryz.isAgg0
 z0 := Tryz.sizeOf0
 v0 := Tryz.zeroValue0
 t3 := Tryz.underlying3
 a3 := Tryz.isAgg3
 z3 := Tryz.sizeOf3
 v3 := Tryz.zeroValue3
 t4 := Tryz.underlying4
 a4 := Tryz.isAgg4
 z4 := Tryz.sizeOf4
 v4 := Tryz.zeroValue4
 t5 := Tryz.underlying5
 a5 := Tryz.isAgg5
 z5 := Tryz.sizeOf5
 v5 := Tryz.zeroValue5
 t9 := Tryz.underlying9
 a9 := Tryz.isAgg9
 z9 := Tryz.sizeOf9
 v9 := Tryz.zeroValue9
 t46 := Tryz.underlying140
 a46 := Tryz.isAgg140
 z46 := Tryz.sizeOf140
 v46 := Tryz.zeroValue140
 t51 := Tryz.underlying145
 a51 := Tryz.isAgg145
 z51 := Tryz.sizeOf145
 v51 := Tryz.zeroValue145
 t146 := Tryz.underlying146
 a146 := Tryz.isAgg146
 z146 := Tryz.sizeOf146
 v146 := Tryz.zeroValue146
 g1 := by kernel_rfl }
open Go.RowKit Go.Lib in
theorem Tryz.strings_Count_one (s : ByteArray) (c : UInt8) (w : World) :
  Calls Tryz.prog 92 #[.string s, .string ⟨#[c]⟩] w fun e w' => e = .returned (.int .i64 (Lib.countByte s.data.toList c)) ∧ w' = w := Any.strings_Count_one Tryz.lays138 s c w
def Tryz.lays146_ren : Go.Shelf.Ren := ⟨fun | 146 => 84 | 221 => 88 | 268 => 91 | 138 => 92 | 143 => 93 | 195 => 94 | 197 => 95 | 218 => 96 | 219 => 97 | 260 => 98 | 217 => 87 | 225 => 99 | 224 => 100 | 267 => 101 | 266 => 90 | 314 => 102 | n => n, fun | 9 => 9 | 31 => 71 | 3 => 3 | 4 => 4 | 0 => 0 | 105 => 138 | 21 => 21 | 5 => 5 | 46 => 140 | 119 => 141 | 139 => 144 | 138 => 143 | 146 => 146 | 51 => 145 | n => n, fun | 1 => 1 | 3 => 2 | 4 => 3 | n => n⟩
theorem Tryz.lays146 : Go.Proofs.Lays.n146 Tryz.prog Tryz.lays146_ren := {
 mixed := by kernel_rfl
 f138 := Tryz.func92.trans (congrArg some (by kernel_rfl))
 f143 := Tryz.func93.trans (congrArg some (by kernel_rfl))
 f146 := Tryz.func84.trans (congrArg some (by kernel_rfl))
 f195 := Tryz.func94.trans (congrArg some (by kernel_rfl))
 f197 := Tryz.func95.trans (congrArg some (by kernel_rfl))
 f217 := Tryz.func87.trans (congrArg some (by kernel_rfl))
 f218 := Tryz.func96.trans (congrArg some (by kernel_rfl))
 f219 := Tryz.func97.trans (congrArg some (by kernel_rfl))
 f221 := Tryz.func88.trans (congrArg some (by kernel_rfl))
 f224 := Tryz.func100.trans (congrArg some (by kernel_rfl))
 f225 := Tryz.func99.trans (congrArg some (by kernel_rfl))
 f260 := Tryz.func98.trans (congrArg some (by kernel_rfl))
 f266 := Tryz.func90.trans (congrArg some (by kernel_rfl))
 f267 := Tryz.func101.trans (congrArg some (by kernel_rfl))
 f268 := Tryz.func91.trans (congrArg some (by kernel_rfl))
 f314 := Tryz.func102.trans (congrArg some (by kernel_rfl))
 t0 := Tryz.underlying0
 a0 := Tryz.isAgg0
 z0 := Tryz.sizeOf0
 v0 := Tryz.zeroValue0
 t3 := Tryz.underlying3
 a3 := Tryz.isAgg3
 z3 := Tryz.sizeOf3
 v3 := Tryz.zeroValue3
 t4 := Tryz.underlying4
 a4 := Tryz.isAgg4
 z4 := Tryz.sizeOf4
 v4 := Tryz.zeroValue4
 t5 := Tryz.underlying5
 a5 := Tryz.isAgg5
 z5 := Tryz.sizeOf5
 v5 := Tryz.zeroValue5
 t9 := Tryz.underlying9
 a9 := Tryz.isAgg9
 z9 := Tryz.sizeOf9
 v9 := Tryz.zeroValue9
 t21 := Tryz.underlying21
 a21 := Tryz.isAgg21
 z21 := Tryz.sizeOf21
 v21 := Tryz.zeroValue21
 t31 := Tryz.underlying71
 a31 := Tryz.isAgg71
 z31 := Tryz.sizeOf71
 v31 := Tryz.zeroValue71
 t46 := Tryz.underlying140
 a46 := Tryz.isAgg140
 z46 := Tryz.sizeOf140
 v46 := Tryz.zeroValue140
 t51 := Tryz.underlying145
 a51 := Tryz.isAgg145
 z51 := Tryz.sizeOf145
 v51 := Tryz.zeroValue145
 t105 := Tryz.underlying138
 a105 := Tryz.isAgg138
 z105 := Tryz.sizeOf138
 v105 := Tryz.zeroValue138
 t119 := Tryz.underlying141
 a119 := Tryz.isAgg141
 z119 := Tryz.sizeOf141
 t138 := Tryz.underlying143
 a138 := Tryz.isAgg143
 z138 := Tryz.sizeOf143
 v138 := Tryz.zeroValue143
 t139 := Tryz.underlying144
 a139 := Tryz.isAgg144
 z139 := Tryz.sizeOf144
 v139 := Tryz.zeroValue144
 t146 := Tryz.underlying146
 a146 := Tryz.isAgg146
 z146 := Tryz.sizeOf146
 v146 := Tryz.zeroValue146
 g1 := by kernel_rfl
 g3 := by kernel_rfl
 g4 := by kernel_rfl }
open Go.RowKit Go.Lib in
theorem Tryz.strings_Split (s sep : ByteArray) (m : Int) (w : World) (hs : s.size < 4294967281) (hm : w.cell? ⟨1, 0, none⟩ = some (.int .i64 m)) (h1 : 1 ≤ sep.size) :
  Calls Tryz.prog 84 #[.string s, .string sep] w fun e w' =>
   e = .returned (.slice (some ⟨w.heap.size, 0, none⟩) (Lib.countB s sep + 1) (Lib.countB s sep + 1)) ∧ w' = w.alloc (.cells ((Lib.splitB sep 0 (Lib.countB s sep) s).map Value.string).toArray 9) := Any.strings_Split Tryz.lays146 (by kernel_rfl) s sep m w hs hm h1
end Go.Proofs

namespace Go.Proofs.YtfcjpkkglffnmaaGreatDoor.H
open Go.RowKit Go.Proofs.YtfcjpkkglffnmaaGreatDoorW.PrintWords Go.Proofs.YtfcjpkkglffnmaaGreatDoorW.PrintLast Go.Proofs.YtfcjpkkglffnmaaGreatDoorW.PrintMore
attribute [local go_sem] Vz V3 za0 za1 Vd Ve V4 V5
set_option linter.unusedVariables false
set_option linter.unusedSimpArgs false
def strings_IndexByte.f (a0 : ByteArray) (a1 : Int) : Option (Int) := some (Lib.indexByte a0.data.toList a1.toNat.toUInt8)
theorem strings_IndexByte.calls (a0 : ByteArray) (a1 : Int) (r : Int) (w : World) (h : strings_IndexByte.f a0 a1 = some r) :
  Calls Tryz.prog 82 #[.string a0, .int .u8 a1] w fun e w' => e = .returned (.int .i64 r) ∧ xm w w' := by
 obtain rfl := Option.some.inj h;exact (Tryz.strings_IndexByte a0 a1 w).mono fun e w' ⟨he, hw⟩ => ⟨he, hw ▸ xm.refl _⟩
def zeq.f (a0 : Int) (a1 : ByteArray) : Option (Bool) := (strings_IndexByte.f a1 a0).bind fun t101 => (some (decide (t101 ≥ 0)))
set_option maxHeartbeats 8000000 in
set_option maxRecDepth 100000 in
theorem zeq.calls (a0 : Int) (a1 : ByteArray) (r : Bool) (w : World) (h : zeq.f a0 a1 = some r) :
  Calls Tryz.prog 69 #[.int .u8 a0, .string a1] w fun e w' => e = .returned (.bool r) ∧ xm w w' := by
 have H : ((strings_IndexByte.f a1 a0).bind fun t101 => (some (decide (t101 ≥ 0)))) = some r := h;clear h;replace H := Option.bind_eq_some_iff.mp H;obtain ⟨t101, A30, H⟩ := H;replace H : (some (decide (t101 ≥ 0))) = some r := H;have A3 := zf.mk A30;clear A30;obtain rfl := Option.some.inj H;go_enter Tryz.func69, Tryz.ntmps69;go_wp2_with (first | ((with_reducible refine Zw (f := 82) rfl ?_); refine Xc (some 7) rfl rfl Tryz.func82 (by kernel_rfl) rfl #[.string a1, .int .u8 a0] rfl (by (try simp only [List.map_toArray, List.map_cons, List.map_nil]); first | done | rfl | (simp only [List.length_drop, List.length_take]; rfl)) ?_; (with_reducible refine (strings_IndexByte.calls a1 a0 t101 _ A3.out).mono ?_); rintro e w' ⟨rfl, ⟨nd, rfl⟩⟩; refine ⟨_, rfl, ?_⟩))
 go_ret;exact ⟨by first | rfl | (simp; done) | (simp [*]; done), by repeat (first | exact xm.refl _ | apply xm.step)⟩
def Xu.l0 : Nat → ByteArray → ByteArray → Int → Option (ByteArray)
 | 0, _, _, _ => none
 | k + 1, x0, x1, x5 => if x5 < (x0.size : Int) then (if 0 ≤ x5 then ((zeq.f (bt x0 x5) x1).bind fun t102 => (if t102 = true then (Xu.l0 k x0 x1 (wrap64 (x5 + 1))) else (if x5 ≤ (x0.size : Int) then (some (x0.extract 0 (x5 : Int).toNat)) else (none)))) else (none)) else (if 0 ≤ x5 then (if x5 ≤ (x0.size : Int) then (some (x0.extract 0 (x5 : Int).toNat)) else (none)) else (none))
def Xu.f (k : Nat) (a0 : ByteArray) (a1 : ByteArray) : Option (ByteArray) := Xu.l0 k a0 a1 0
theorem Xu.zci : ∀ k, (∀ y0 y1 y2, LeO (Xu.l0 k y0 y1 y2) (Xu.l0 (k + 1) y0 y1 y2))
 | 0 => fun _ _ _ r h => by simp [Xu.l0] at h
 | k + 1 => by
  have ih0 := Xu.zci k
  ·
   intro y0 y1 y2;unfold Xu.l0;repeat' first
   | (with_reducible exact ih0 _ _ _)
   | (with_reducible exact LeO.refl _)
   | (with_reducible exact LeO.none _)
   | (with_reducible refine LeO.ite ?_ ?_)
   | (with_reducible refine LeO.bind ?_ (fun _ => ?_))
   | exact ih0 _ _ _
   | exact LeO.none _
   | refine LeO.ite ?_ ?_
   | refine LeO.bind ?_ (fun _ => ?_)
theorem Xu.mono : ∀ a0 a1 k, LeO (Xu.f k a0 a1) (Xu.f (k + 1) a0 a1) := by
 intro a0 a1 k;have ih0 := Xu.zci k;unfold Xu.f;repeat' first
   | (with_reducible exact ih0 _ _ _)
   | (with_reducible exact LeO.refl _)
   | (with_reducible exact LeO.none _)
   | (with_reducible refine LeO.ite ?_ ?_)
   | (with_reducible refine LeO.bind ?_ (fun _ => ?_))
   | exact ih0 _ _ _
   | exact LeO.none _
   | refine LeO.ite ?_ ?_
   | refine LeO.bind ?_ (fun _ => ?_)
set_option maxHeartbeats 8000000 in
set_option maxRecDepth 100000 in
theorem Xu.calls (k : Nat) (a0 : ByteArray) (a1 : ByteArray) (r : ByteArray) (w : World) (h : Xu.f k a0 a1 = some r) :
  Calls Tryz.prog 70 #[.string a0, .string a1] w fun e w' => e = .returned (.string r) ∧ xm w w' := by
 have H : (Xu.l0 k a0 a1 0) = some r := h;clear h;have H' := zf.mk H;clear H;go_enter Tryz.func70, Tryz.ntmps70;go_wp2
 go_loopg [5] k (fun kq v5 w' => ∃ (x5_1 : Int), v5 = .int .i64 x5_1 ∧ zf (Xu.l0 kq a0 a1 x5_1 = some r) ∧ zf (kq ≤ k) ∧ xm w w')
 case atStart => exact ⟨(0), (by first | rfl | (simp; done) | (simp [*]; done)), H', ⟨Nat.le_refl _⟩, by repeat (first | exact xm.refl _ | apply xm.step)⟩
 case round =>
  clear H';try clear p2
  obtain ⟨x5_1, rfl, HA, HK1, ⟨m1, rfl⟩⟩ := hrel;cases gk with
  | zero => exact absurd HA.out (by simp [Xu.l0])
  | succ k1 =>
   have H := HA.out;clear HA;simp only [Xu.l0] at H;by_cases c3 : x5_1 < (a0.size : Int)
   ·
    rw [if_pos c3] at H;have zbm : decide (x5_1 < (a0.size : Int)) = true := decide_eq_true c3;clear c3;by_cases c4 : 0 ≤ x5_1
    ·
     rw [if_pos c4] at H;have zbn : decide (0 ≤ x5_1) = true := decide_eq_true c4;clear c4;replace H := Option.bind_eq_some_iff.mp H;obtain ⟨t102, A60, H⟩ := H;replace H : (if t102 = true then (Xu.l0 k1 a0 a1 (wrap64 (x5_1 + 1))) else (if x5_1 ≤ (a0.size : Int) then (some (a0.extract 0 (x5_1 : Int).toNat)) else (none))) = some r := H;have A6 := zf.mk A60;clear A60;by_cases c7 : t102 = true
     ·
      subst c7;have H1 : (Xu.l0 k1 a0 a1 (wrap64 (x5_1 + 1))) = some r := by rw [if_pos rfl] at H; exact H
      clear H;have H := H1;clear H1;have H' := zf.mk H;clear H;have p5 : 0 ≤ (x5_1 : Int) := of_decide_eq_true (by first | (with_reducible assumption) | assumption);have q5 : x5_1 < (a0.size : Int) := of_decide_eq_true (by first | (with_reducible assumption) | assumption);have hx5 := zkh a0 x5_1;replace p5 := eq_true p5;replace q5 := eq_true q5;go_wp2_with (first | (go_at_call 69; (with_reducible refine (zeq.calls (bt a0 x5_1) a1 true _ A6.out).mono ?_); rintro e w' ⟨rfl, ⟨nd, rfl⟩⟩))
      go_roundg k1
      case measure => have := HK1.out; omega
      case rel => exact ⟨(wrap64 (x5_1 + 1)), (by first | rfl | (simp; done) | (simp [*]; done)), H', ⟨by have := HK1.out; omega⟩, by repeat (first | exact xm.refl _ | apply xm.step)⟩
     ·
      replace c7 := Bool.eq_false_iff.mpr c7;subst c7;have H1 : (if x5_1 ≤ (a0.size : Int) then (some (a0.extract 0 (x5_1 : Int).toNat)) else (none)) = some r := by rw [if_neg (show ¬ (false = true) by decide)] at H; exact H
      clear H;have H := H1;clear H1;have zjl := eq_true (of_decide_eq_true (by first | (with_reducible assumption) | assumption) : 0 ≤ x5_1);by_cases c9 : x5_1 ≤ (a0.size : Int)
      ·
       rw [if_pos c9] at H;have c9b0 := eq_true c9;have c9b1 : decide (x5_1 ≤ (a0.size : Int)) = true := decide_eq_true c9;clear c9;obtain rfl := Option.some.inj H;have p5 : 0 ≤ (x5_1 : Int) := of_decide_eq_true (by first | (with_reducible assumption) | assumption);have q5 : x5_1 < (a0.size : Int) := of_decide_eq_true (by first | (with_reducible assumption) | assumption);have hx5 := zkh a0 x5_1;replace p5 := eq_true p5;replace q5 := eq_true q5;go_wp2_with (first | (go_at_call 69; (with_reducible refine (zeq.calls (bt a0 x5_1) a1 false _ A6.out).mono ?_); rintro e w' ⟨rfl, ⟨nd, rfl⟩⟩))
       go_ret;exact ⟨by first | rfl | (simp; done) | (simp [*]; done), by repeat (first | exact xm.refl _ | apply xm.step)⟩
      ·
       rw [if_neg c9] at H;exact absurd H (by simp)
    ·
     rw [if_neg c4] at H;exact absurd H (by simp)
   ·
    rw [if_neg c3] at H;have zbm : decide (x5_1 < (a0.size : Int)) = false := decide_eq_false c3;clear c3;by_cases c10 : 0 ≤ x5_1
    ·
     rw [if_pos c10] at H;have zbo := eq_true c10;have zf9 : decide (0 ≤ x5_1) = true := decide_eq_true c10;clear c10;by_cases c11 : x5_1 ≤ (a0.size : Int)
     ·
      rw [if_pos c11] at H;have zgt := eq_true c11;have zib : decide (x5_1 ≤ (a0.size : Int)) = true := decide_eq_true c11;clear c11;obtain rfl := Option.some.inj H;go_wp2
      go_ret;exact ⟨by first | rfl | (simp; done) | (simp [*]; done), by repeat (first | exact xm.refl _ | apply xm.step)⟩
     ·
      rw [if_neg c11] at H;exact absurd H (by simp)
    ·
     rw [if_neg c10] at H;exact absurd H (by simp)
def xq.l0 : Nat → List ByteArray → ByteArray → Int → Int → Option (Int)
 | 0, _, _, _, _ => none
 | k + 1, x0, x1, x7, x8 => if x8 < x7 then (if 0 ≤ x8 then (if x8 < (x0.length : Int) then (if x1.toList = (rdOf ByteArray.empty x0 x8).toList then (some x8) else (xq.l0 k x0 x1 x7 (wrap64 (x8 + 1)))) else (none)) else (none)) else (some (-1))
def xq.f (k : Nat) (l0 : List ByteArray) (a1 : ByteArray) : Option (Int) := xq.l0 k l0 a1 (l0.length : Int) 0
theorem xq.zci : ∀ k, (∀ y0 y1 y2 y3, LeO (xq.l0 k y0 y1 y2 y3) (xq.l0 (k + 1) y0 y1 y2 y3))
 | 0 => fun _ _ _ _ r h => by simp [xq.l0] at h
 | k + 1 => by
  have ih0 := xq.zci k
  ·
   intro y0 y1 y2 y3;unfold xq.l0;repeat' first
   | (with_reducible exact ih0 _ _ _ _)
   | (with_reducible exact LeO.refl _)
   | (with_reducible exact LeO.none _)
   | (with_reducible refine LeO.ite ?_ ?_)
   | (with_reducible refine LeO.bind ?_ (fun _ => ?_))
   | exact ih0 _ _ _ _
   | exact LeO.none _
   | refine LeO.ite ?_ ?_
   | refine LeO.bind ?_ (fun _ => ?_)
theorem xq.mono : ∀ a0 a1 k, LeO (xq.f k a0 a1) (xq.f (k + 1) a0 a1) := by
 intro a0 a1 k;have ih0 := xq.zci k;unfold xq.f;repeat' first
   | (with_reducible exact ih0 _ _ _ _)
   | (with_reducible exact LeO.refl _)
   | (with_reducible exact LeO.none _)
   | (with_reducible refine LeO.ite ?_ ?_)
   | (with_reducible refine LeO.bind ?_ (fun _ => ?_))
   | exact ih0 _ _ _ _
   | exact LeO.none _
   | refine LeO.ite ?_ ?_
   | refine LeO.bind ?_ (fun _ => ?_)
set_option maxHeartbeats 8000000 in
set_option maxRecDepth 100000 in
theorem xq.calls (k : Nat) (A0 : Option Addr) (c0 : Nat) (l0 : List ByteArray) (a1 : ByteArray) (r : Int) (w : World) (hr0 : Kd.C Kd.string w A0 l0.length l0) (hc0 : l0.length ≤ c0) (h : xq.f k l0 a1 = some r) :
  Calls Tryz.prog 41 #[.slice A0 l0.length c0, .string a1] w fun e w' => e = .returned (.int .i64 r) ∧ xm w w' := by
 have HR0 := zf.mk hr0;have HC0 := zf.mk hc0;clear hr0 hc0;have H : (xq.l0 k l0 a1 (l0.length : Int) 0) = some r := h;clear h;have H' := zf.mk H;clear H;go_enter Tryz.func41, Tryz.ntmps41;go_wp2
 go_loopg [8] k (fun kq v8 w' => ∃ (x8_1 : Int), v8 = .int .i64 x8_1 ∧ zf (xq.l0 kq l0 a1 (l0.length : Int) x8_1 = some r) ∧ zf (kq ≤ k) ∧ xm w w')
 case atStart => exact ⟨(0), (by first | rfl | (simp; done) | (simp [*]; done)), H', ⟨Nat.le_refl _⟩, by repeat (first | exact xm.refl _ | apply xm.step)⟩
 case round =>
  clear H';try clear p2
  obtain ⟨x8_1, rfl, HA, HK1, ⟨m1, rfl⟩⟩ := hrel;cases gk with
  | zero => exact absurd HA.out (by simp [xq.l0])
  | succ k1 =>
   have H := HA.out;clear HA;simp only [xq.l0] at H;by_cases c3 : x8_1 < (l0.length : Int)
   ·
    rw [if_pos c3] at H;have zbm : decide (x8_1 < (l0.length : Int)) = true := decide_eq_true c3;clear c3;by_cases c4 : 0 ≤ x8_1
    ·
     rw [if_pos c4] at H;have zbn : decide (0 ≤ x8_1) = true := decide_eq_true c4;clear c4;by_cases c5 : x8_1 < (l0.length : Int)
     ·
      rw [if_pos c5] at H;have c5b0 : decide (x8_1 < (l0.length : Int)) = true := decide_eq_true c5;clear c5;by_cases c6 : a1.toList = (rdOf ByteArray.empty l0 x8_1).toList
      ·
       rw [if_pos c6] at H;have zic : (a1.toList == (rdOf ByteArray.empty l0 x8_1).toList) = true := beq_iff_eq.mpr c6;have c6b1 : (a1.toList != (rdOf ByteArray.empty l0 x8_1).toList) = false := bne_eq_false_iff_eq.mpr c6;clear c6;obtain rfl := Option.some.inj H;have p103 : 0 ≤ (x8_1 : Int) := of_decide_eq_true (by first | (with_reducible assumption) | assumption);have q103 : x8_1 < (l0.length : Int) := of_decide_eq_true (by first | (with_reducible assumption) | assumption);obtain ⟨ad103, e103, hx103_0⟩ := Kd.zf6 HR0.out x8_1 p103 q103;cases e103;replace p103 := eq_true p103;replace q103 := eq_true q103;go_wp2
       go_ret;exact ⟨by first | rfl | (simp; done) | (simp [*]; done), by repeat (first | exact xm.refl _ | apply xm.step)⟩
      ·
       rw [if_neg c6] at H;have zic : (a1.toList == (rdOf ByteArray.empty l0 x8_1).toList) = false := beq_eq_false_iff_ne.mpr c6;have c6b1 : (a1.toList != (rdOf ByteArray.empty l0 x8_1).toList) = true := bne_iff_ne.mpr c6;have H' := zf.mk H;clear H;have p103 : 0 ≤ (x8_1 : Int) := of_decide_eq_true (by first | (with_reducible assumption) | assumption);have q103 : x8_1 < (l0.length : Int) := of_decide_eq_true (by first | (with_reducible assumption) | assumption);obtain ⟨ad103, e103, hx103_0⟩ := Kd.zf6 HR0.out x8_1 p103 q103;cases e103;replace p103 := eq_true p103;replace q103 := eq_true q103;go_wp2
       go_roundg k1
       case measure => have := HK1.out; omega
       case rel => exact ⟨(wrap64 (x8_1 + 1)), (by first | rfl | (simp; done) | (simp [*]; done)), H', ⟨by have := HK1.out; omega⟩, by repeat (first | exact xm.refl _ | apply xm.step)⟩
     ·
      rw [if_neg c5] at H;exact absurd H (by simp)
    ·
     rw [if_neg c4] at H;exact absurd H (by simp)
   ·
    rw [if_neg c3] at H;have zbm : decide (x8_1 < (l0.length : Int)) = false := decide_eq_false c3;clear c3;obtain rfl := Option.some.inj H;go_wp2
    go_ret;exact ⟨by first | rfl | (simp; done) | (simp [*]; done), by repeat (first | exact xm.refl _ | apply xm.step)⟩
def Yh.f (k : Nat) (l0 : List ByteArray) (a1 : ByteArray) : Option (Bool) := (xq.f k l0 a1).bind fun t104 => (some (decide (t104 ≥ 0)))
theorem Yh.mono : ∀ a0 a1 k, LeO (Yh.f k a0 a1) (Yh.f (k + 1) a0 a1) := by
 intro a0 a1 k;unfold Yh.f;repeat' first
   | (with_reducible exact xq.mono _ _ _)
   | (with_reducible exact LeO.refl _)
   | (with_reducible exact LeO.none _)
   | (with_reducible refine LeO.ite ?_ ?_)
   | (with_reducible refine LeO.bind ?_ (fun _ => ?_))
   | exact xq.mono _ _ _
   | exact LeO.none _
   | refine LeO.ite ?_ ?_
   | refine LeO.bind ?_ (fun _ => ?_)
set_option maxHeartbeats 8000000 in
set_option maxRecDepth 100000 in
theorem Yh.calls (k : Nat) (A0 : Option Addr) (c0 : Nat) (l0 : List ByteArray) (a1 : ByteArray) (r : Bool) (w : World) (hr0 : Kd.C Kd.string w A0 l0.length l0) (hc0 : l0.length ≤ c0) (h : Yh.f k l0 a1 = some r) :
  Calls Tryz.prog 83 #[.slice A0 l0.length c0, .string a1] w fun e w' => e = .returned (.bool r) ∧ xm w w' := by
 have HR0 := zf.mk hr0;have HC0 := zf.mk hc0;clear hr0 hc0;have H : ((xq.f k l0 a1).bind fun t104 => (some (decide (t104 ≥ 0)))) = some r := h;clear h;replace H := Option.bind_eq_some_iff.mp H;obtain ⟨t104, A30, H⟩ := H;replace H : (some (decide (t104 ≥ 0))) = some r := H;have A3 := zf.mk A30;clear A30;obtain rfl := Option.some.inj H;go_enter Tryz.func83, Tryz.ntmps83;go_wp2_with (first | ((with_reducible refine Zw (f := 41) rfl ?_); refine Xc (some 7) rfl rfl Tryz.func41 (by kernel_rfl) rfl #[.slice A0 l0.length c0, .string a1] rfl (by (try simp only [List.map_toArray, List.map_cons, List.map_nil]); first | done | rfl | (simp only [List.length_drop, List.length_take]; rfl)) ?_; (with_reducible refine (xq.calls k _ _ l0 a1 t104 _ ?side1 ?side2 A3.out).mono ?_); (case side1 => repeat (first | exact HR0.out | (with_reducible refine Kd.Yg ?_ _) | (with_reducible refine Kd.Ym ?_ _) | (with_reducible refine Kd.Yv ?_))); (case side2 => exact HC0.out); rintro e w' ⟨rfl, ⟨nd, rfl⟩⟩; refine ⟨_, rfl, ?_⟩))
 go_ret;exact ⟨by first | rfl | (simp; done) | (simp [*]; done), by repeat (first | exact xm.refl _ | apply xm.step)⟩
def strings_Split.f (a0 : ByteArray) (a1 : ByteArray) : Option (List ByteArray) := match a1.data.toList with
 | [c] => if a0.size < 4294967281 then some (Lib.splitB ⟨#[c]⟩ 0 (Lib.countB a0 ⟨#[c]⟩) a0) else none
 | _ => none
theorem strings_Split.calls (a0 : ByteArray) (a1 : ByteArray) (r : List ByteArray) (w : World) (h : strings_Split.f a0 a1 = some r) :
  Calls Tryz.prog 84 #[.string a0, .string a1] w fun e w' => ∃ v0_ : Value, e = .returned (v0_) ∧ Kd.R Kd.string 9 w' w.heap.size (fun _ => True) v0_ r ∧ Below w.heap.size w w' := by
 unfold strings_Split.f at h;split at h
 ·
  rename_i c hc
  split at h
  ·
   rename_i hs
   obtain rfl := Option.some.inj h;obtain rfl : a1 = ⟨#[c]⟩ := by
    have : a1.data = #[c] := by rw [← Array.toList_inj]; exact hc
    cases a1; subst this; rfl
   have h1 : 1 ≤ (⟨#[c]⟩ : ByteArray).size := Nat.le_refl _;have hi9 : (Tryz.prog.info? 9).map (fun i => (i.zero, i.size, i.bytes)) = some (some (.string ByteArray.empty), 1, 16) := by kernel_rfl
   have hlen := Lib.splitB_all (⟨#[c]⟩ : ByteArray) h1 0 _ a0 rfl;have hle := Lib.countB_le (⟨#[c]⟩ : ByteArray) h1 a0.size a0 (Nat.le_refl _);have g := Any.strings_genSplit_core { Tryz.lays146 with } hi9 a0 ⟨#[c]⟩ 0 (-1) (Lib.countB a0 ⟨#[c]⟩ + 1) w hs h1 (Nat.zero_le _)
    (fun x c' _ => by
     refine (Tryz.strings_Index_one x c _).mono fun e w' ⟨he, hw⟩ => ⟨?_, hw⟩
     rw [he];show _ = Ending.returned (Value.int .i64 (Lib.index x.data.toList [c]));rw [Lib.index_one])
    (by
     refine (Tryz.strings_Count_one a0 c w).mono fun e w' ⟨he, hw⟩ => ⟨?_, hw⟩
     rw [he];show _ = Ending.returned (Value.int .i64 ((Lib.count a0.data.toList [c] : Nat) : Int));rw [Lib.count_one];rfl) (by decide) (by decide) (by rw [if_pos (by decide)]; omega)
   rw [Nat.add_sub_cancel, hlen] at g;have e2 : Lib.cellsOf (Lib.splitB ⟨#[c]⟩ 0 (Lib.countB a0 ⟨#[c]⟩) a0) (Lib.countB a0 ⟨#[c]⟩ + 1) = ((Lib.splitB ⟨#[c]⟩ 0 (Lib.countB a0 ⟨#[c]⟩) a0).map Value.string).toArray := by rw [← hlen]; exact Lib.cellsOf_full _
   rw [e2] at g;have hm : Lib.countB a0 ⟨#[c]⟩ + 1 ≤ 4294967290 := by omega
   generalize Lib.splitB ⟨#[c]⟩ 0 (Lib.countB a0 ⟨#[c]⟩) a0 = ps at *;generalize Lib.countB a0 ⟨#[c]⟩ + 1 = m at *;have G := zf.mk g;clear g hle hs h;go_enter Tryz.func84, Tryz.ntmps84;go_wp2_with (go_at_call 88; refine G.out.mono ?_; rintro e w' ⟨rfl, rfl⟩)
   go_ret;refine ⟨_, rfl, ?_, (Below.refl _ _).alloc (Nat.le_refl _) _⟩;subst hlen;exact Kd.zpq (zrg w w.heap.size 9 ps (Nat.le_refl _) (by omega)) (fun _ _ => trivial)
  ·
   cases h
 ·
  cases h
def Vt.f (k : Nat) (a0 : ByteArray) : Option (Bool) := (strings_Split.f (⟨#[102, 117, 110, 32, 108, 101, 116, 32, 114, 101, 99, 32, 105, 110, 32, 105, 102, 32, 116, 104, 101, 110, 32, 101, 108, 115, 101, 32, 104, 97, 110, 100, 108, 101, 32, 119, 105, 116, 104, 32, 114, 101, 116, 117, 114, 110, 32, 101, 110, 100, 32, 100, 111, 32, 111, 112, 32, 116, 114, 117, 101, 32, 102, 97, 108, 115, 101, 32, 105, 110, 116, 32, 98, 111, 111, 108]⟩ : ByteArray) (⟨#[32]⟩ : ByteArray)).bind fun t124 => ((Yh.f k t124 a0).bind fun t127 => (some t127))
theorem Vt.mono : ∀ a0 k, LeO (Vt.f k a0) (Vt.f (k + 1) a0) := by
 intro a0 k;unfold Vt.f;repeat' first
   | (with_reducible exact Yh.mono _ _ _)
   | (with_reducible exact LeO.refl _)
   | (with_reducible exact LeO.none _)
   | (with_reducible refine LeO.ite ?_ ?_)
   | (with_reducible refine LeO.bind ?_ (fun _ => ?_))
   | exact Yh.mono _ _ _
   | exact LeO.none _
   | refine LeO.ite ?_ ?_
   | refine LeO.bind ?_ (fun _ => ?_)
set_option maxHeartbeats 8000000 in
set_option maxRecDepth 100000 in
theorem Vt.calls (k : Nat) (a0 : ByteArray) (r : Bool) (w : World) (h : Vt.f k a0 = some r) :
  Calls Tryz.prog 71 #[.string a0] w fun e w' => e = .returned (.bool r) ∧ Below w.heap.size w w' := by
 have HB := zf.mk (Below.refl w.heap.size w);have H : ((strings_Split.f (⟨#[102, 117, 110, 32, 108, 101, 116, 32, 114, 101, 99, 32, 105, 110, 32, 105, 102, 32, 116, 104, 101, 110, 32, 101, 108, 115, 101, 32, 104, 97, 110, 100, 108, 101, 32, 119, 105, 116, 104, 32, 114, 101, 116, 117, 114, 110, 32, 101, 110, 100, 32, 100, 111, 32, 111, 112, 32, 116, 114, 117, 101, 32, 102, 97, 108, 115, 101, 32, 105, 110, 116, 32, 98, 111, 111, 108]⟩ : ByteArray) (⟨#[32]⟩ : ByteArray)).bind fun t124 => ((Yh.f k t124 a0).bind fun t127 => (some t127))) = some r := h;clear h;replace H := Option.bind_eq_some_iff.mp H;obtain ⟨t124, A20, H⟩ := H;replace H : ((Yh.f k t124 a0).bind fun t127 => (some t127)) = some r := H;have A2 := zf.mk A20;clear A20;replace H := Option.bind_eq_some_iff.mp H;obtain ⟨t127, A30, H⟩ := H;replace H : (some t127) = some r := H;have A3 := zf.mk A30;clear A30;obtain rfl := Option.some.inj H;go_enter Tryz.func71, Tryz.ntmps71;go_wp2_with (first | ((with_reducible refine Zw (f := 84) rfl ?_); refine Xc (some 3) rfl rfl Tryz.func84 (by kernel_rfl) rfl #[.string (⟨#[102, 117, 110, 32, 108, 101, 116, 32, 114, 101, 99, 32, 105, 110, 32, 105, 102, 32, 116, 104, 101, 110, 32, 101, 108, 115, 101, 32, 104, 97, 110, 100, 108, 101, 32, 119, 105, 116, 104, 32, 114, 101, 116, 117, 114, 110, 32, 101, 110, 100, 32, 100, 111, 32, 111, 112, 32, 116, 114, 117, 101, 32, 102, 97, 108, 115, 101, 32, 105, 110, 116, 32, 98, 111, 111, 108]⟩ : ByteArray), .string (⟨#[32]⟩ : ByteArray)] rfl (by (try simp only [List.map_toArray, List.map_cons, List.map_nil]); first | done | rfl | (simp only [List.length_drop, List.length_take]; rfl)) ?_; (with_reducible refine (strings_Split.calls (⟨#[102, 117, 110, 32, 108, 101, 116, 32, 114, 101, 99, 32, 105, 110, 32, 105, 102, 32, 116, 104, 101, 110, 32, 101, 108, 115, 101, 32, 104, 97, 110, 100, 108, 101, 32, 119, 105, 116, 104, 32, 114, 101, 116, 117, 114, 110, 32, 101, 110, 100, 32, 100, 111, 32, 111, 112, 32, 116, 114, 117, 101, 32, 102, 97, 108, 115, 101, 32, 105, 110, 116, 32, 98, 111, 111, 108]⟩ : ByteArray) (⟨#[32]⟩ : ByteArray) t124 _ A2.out).mono ?_); rintro e w4 ⟨v125, rfl, ho0, hb⟩; refine ⟨_, rfl, ?_⟩; have n0_ := zf.mk (Kd.X0 ho0 (xn (by repeat (first | (with_reducible first | exact HB.out | apply zh | apply zg | apply zk) | exact HB.out)))); have n1_ := zf.mk (Zc (by repeat (first | (with_reducible first | exact HB.out | apply zh | apply zg | apply zk) | exact HB.out)) hb); clear HB; have HO126 := n0_; have HB := n1_; clear n0_ n1_; (try clear hb); (try clear hb2); (try clear hk); (try clear hi); (try clear ho0); obtain ⟨Ao5, co5, eo5⟩ := Kd.Vl HO126.out; subst eo5) | ((with_reducible refine Zw (f := 83) rfl ?_); refine Xc (some 5) rfl rfl Tryz.func83 (by kernel_rfl) rfl #[.slice Ao5 t124.length co5, .string a0] rfl (by (try simp only [List.map_toArray, List.map_cons, List.map_nil]); first | done | rfl | (simp only [List.length_drop, List.length_take]; rfl)) ?_; (with_reducible refine (Yh.calls k _ _ t124 a0 t127 _ ?side1 ?side2 A3.out).mono ?_); (case side1 => repeat (first | exact (Kd.Yn HO126.out).2.2 | (with_reducible refine Kd.Yg ?_ _) | (with_reducible refine Kd.Ym ?_ _) | (with_reducible refine Kd.Yv ?_))); (case side2 => exact (Kd.Yn HO126.out).2.1); rintro e w' ⟨rfl, ⟨nd, rfl⟩⟩; refine ⟨_, rfl, ?_⟩))
 go_ret;exact ⟨by first | rfl | (simp [Zd, Ze] <;> rfl) | (simp [*, Zd, Ze] <;> rfl), by repeat (first | (with_reducible first | exact HB.out | apply zh | apply zg | apply zk) | exact HB.out)⟩
def Xv.f (k : Nat) (a0 : ByteArray) : Option (Bool) := if a0.toList = ([] : List UInt8) then (some false) else (if (a0.size : Int) ≤ 16 then (if 0 < (a0.size : Int) then ((zeq.f (bt a0 0) (⟨#[97, 98, 99, 100, 101, 102, 103, 104, 105, 106, 107, 108, 109, 110, 111, 112, 113, 114, 115, 116, 117, 118, 119, 120, 121, 122]⟩ : ByteArray)).bind fun t128 => (if t128 = true then ((Xu.f k a0 (⟨#[97, 98, 99, 100, 101, 102, 103, 104, 105, 106, 107, 108, 109, 110, 111, 112, 113, 114, 115, 116, 117, 118, 119, 120, 121, 122, 48, 49, 50, 51, 52, 53, 54, 55, 56, 57, 95]⟩ : ByteArray)).bind fun t129 => (if t129.toList = a0.toList then ((Vt.f k a0).bind fun t130 => (some (!t130))) else (some false))) else (some false))) else (none)) else (some false))
theorem Xv.mono : ∀ a0 k, LeO (Xv.f k a0) (Xv.f (k + 1) a0) := by
 intro a0 k;unfold Xv.f;repeat' first
   | (with_reducible exact Vt.mono _ _)
   | (with_reducible exact Xu.mono _ _ _)
   | (with_reducible exact LeO.refl _)
   | (with_reducible exact LeO.none _)
   | (with_reducible refine LeO.ite ?_ ?_)
   | (with_reducible refine LeO.bind ?_ (fun _ => ?_))
   | exact Vt.mono _ _
   | exact Xu.mono _ _ _
   | exact LeO.none _
   | refine LeO.ite ?_ ?_
   | refine LeO.bind ?_ (fun _ => ?_)
set_option maxHeartbeats 8000000 in
set_option maxRecDepth 100000 in
theorem Xv.calls (k : Nat) (a0 : ByteArray) (r : Bool) (w : World) (h : Xv.f k a0 = some r) :
  Calls Tryz.prog 50 #[.string a0] w fun e w' => e = .returned (.bool r) ∧ Below w.heap.size w w' := by
 have HB := zf.mk (Below.refl w.heap.size w);have H : (if a0.toList = ([] : List UInt8) then (some false) else (if (a0.size : Int) ≤ 16 then (if 0 < (a0.size : Int) then ((zeq.f (bt a0 0) (⟨#[97, 98, 99, 100, 101, 102, 103, 104, 105, 106, 107, 108, 109, 110, 111, 112, 113, 114, 115, 116, 117, 118, 119, 120, 121, 122]⟩ : ByteArray)).bind fun t128 => (if t128 = true then ((Xu.f k a0 (⟨#[97, 98, 99, 100, 101, 102, 103, 104, 105, 106, 107, 108, 109, 110, 111, 112, 113, 114, 115, 116, 117, 118, 119, 120, 121, 122, 48, 49, 50, 51, 52, 53, 54, 55, 56, 57, 95]⟩ : ByteArray)).bind fun t129 => (if t129.toList = a0.toList then ((Vt.f k a0).bind fun t130 => (some (!t130))) else (some false))) else (some false))) else (none)) else (some false))) = some r := h;clear h;by_cases c2 : a0.toList = ([] : List UInt8)
 ·
  rw [if_pos c2] at H;have ze7 : (a0.toList == ([] : List UInt8)) = true := beq_iff_eq.mpr c2;have zhk : (a0.toList != ([] : List UInt8)) = false := bne_eq_false_iff_eq.mpr c2;clear c2;obtain rfl := Option.some.inj H;go_enter Tryz.func50, Tryz.ntmps50;go_wp2
  go_ret;exact ⟨by first | rfl | (simp [Zd, Ze] <;> rfl) | (simp [*, Zd, Ze] <;> rfl), by repeat (first | (with_reducible first | exact HB.out | apply zh | apply zg | apply zk) | exact HB.out)⟩
 ·
  rw [if_neg c2] at H;have ze7 : (a0.toList == ([] : List UInt8)) = false := beq_eq_false_iff_ne.mpr c2;have zhk : (a0.toList != ([] : List UInt8)) = true := bne_iff_ne.mpr c2;by_cases c3 : (a0.size : Int) ≤ 16
  ·
   rw [if_pos c3] at H;have zbm : decide ((a0.size : Int) ≤ 16) = true := decide_eq_true c3;have zga : decide (a0.size ≤ 16) = true := decide_eq_true (by omega);clear c3;by_cases c4 : 0 < (a0.size : Int)
   ·
    rw [if_pos c4] at H;have zbn : decide (0 < (a0.size : Int)) = true := decide_eq_true c4;have ze8 : decide (0 < a0.size) = true := decide_eq_true (by omega);clear c4;replace H := Option.bind_eq_some_iff.mp H;obtain ⟨t128, A60, H⟩ := H;replace H : (if t128 = true then ((Xu.f k a0 (⟨#[97, 98, 99, 100, 101, 102, 103, 104, 105, 106, 107, 108, 109, 110, 111, 112, 113, 114, 115, 116, 117, 118, 119, 120, 121, 122, 48, 49, 50, 51, 52, 53, 54, 55, 56, 57, 95]⟩ : ByteArray)).bind fun t129 => (if t129.toList = a0.toList then ((Vt.f k a0).bind fun t130 => (some (!t130))) else (some false))) else (some false)) = some r := H;have A6 := zf.mk A60;clear A60;by_cases c7 : t128 = true
    ·
     subst c7;have H1 : ((Xu.f k a0 (⟨#[97, 98, 99, 100, 101, 102, 103, 104, 105, 106, 107, 108, 109, 110, 111, 112, 113, 114, 115, 116, 117, 118, 119, 120, 121, 122, 48, 49, 50, 51, 52, 53, 54, 55, 56, 57, 95]⟩ : ByteArray)).bind fun t129 => (if t129.toList = a0.toList then ((Vt.f k a0).bind fun t130 => (some (!t130))) else (some false))) = some r := by rw [if_pos rfl] at H; exact H
     clear H;have H := H1;clear H1;replace H := Option.bind_eq_some_iff.mp H;obtain ⟨t129, A80, H⟩ := H;replace H : (if t129.toList = a0.toList then ((Vt.f k a0).bind fun t130 => (some (!t130))) else (some false)) = some r := H;have A8 := zf.mk A80;clear A80;by_cases c9 : t129.toList = a0.toList
     ·
      rw [if_pos c9] at H;have c9b0 : (t129.toList == a0.toList) = true := beq_iff_eq.mpr c9;have c9b1 : (t129.toList != a0.toList) = false := bne_eq_false_iff_eq.mpr c9;clear c9;replace H := Option.bind_eq_some_iff.mp H;obtain ⟨t130, A100, H⟩ := H;replace H : (some (!t130)) = some r := H;have A10 := zf.mk A100;clear A100;obtain rfl := Option.some.inj H;have p5 : 0 ≤ (0 : Int) := (by omega);have q5 : 0 < a0.size := (by have : (0 : Int) < (a0.size : Int) := of_decide_eq_true (by first | (with_reducible assumption) | assumption); omega);have hx5 : ∀ h : 0 < a0.size, ((a0[0]'h).toNat : Int) = bt a0 0 := zkh a0 0;clear p5;have qi5 : (0 < (a0.size : Int)) = True := eq_true (of_decide_eq_true (by first | (with_reducible assumption) | assumption));replace q5 := eq_true q5;go_enter Tryz.func50, Tryz.ntmps50;go_wp2_with (first | (go_at_call 69; (with_reducible refine (zeq.calls (bt a0 0) (⟨#[97, 98, 99, 100, 101, 102, 103, 104, 105, 106, 107, 108, 109, 110, 111, 112, 113, 114, 115, 116, 117, 118, 119, 120, 121, 122]⟩ : ByteArray) true _ A6.out).mono ?_); rintro e w' ⟨rfl, ⟨nd, rfl⟩⟩) | (go_at_call 70; (with_reducible refine (Xu.calls k a0 (⟨#[97, 98, 99, 100, 101, 102, 103, 104, 105, 106, 107, 108, 109, 110, 111, 112, 113, 114, 115, 116, 117, 118, 119, 120, 121, 122, 48, 49, 50, 51, 52, 53, 54, 55, 56, 57, 95]⟩ : ByteArray) t129 _ A8.out).mono ?_); rintro e w' ⟨rfl, ⟨nd, rfl⟩⟩) | (go_at_call 71; (with_reducible refine (Vt.calls k a0 t130 _ A10.out).mono ?_); rintro e w11 ⟨rfl, hb⟩; have n0_ := zf.mk (Zc (by repeat (first | (with_reducible first | exact HB.out | apply zh | apply zg | apply zk) | exact HB.out)) hb); clear HB; have HB := n0_; clear n0_; (try clear hb); (try clear hb2); (try clear hk); (try clear hi)))
      go_ret;exact ⟨by first | rfl | (simp [Zd, Ze] <;> rfl) | (simp [*, Zd, Ze] <;> rfl), by repeat (first | (with_reducible first | exact HB.out | apply zh | apply zg | apply zk) | exact HB.out)⟩
     ·
      rw [if_neg c9] at H;have c9b0 : (t129.toList == a0.toList) = false := beq_eq_false_iff_ne.mpr c9;have c9b1 : (t129.toList != a0.toList) = true := bne_iff_ne.mpr c9;obtain rfl := Option.some.inj H;have p5 : 0 ≤ (0 : Int) := (by omega);have q5 : 0 < a0.size := (by have : (0 : Int) < (a0.size : Int) := of_decide_eq_true (by first | (with_reducible assumption) | assumption); omega);have hx5 : ∀ h : 0 < a0.size, ((a0[0]'h).toNat : Int) = bt a0 0 := zkh a0 0;clear p5;have qi5 : (0 < (a0.size : Int)) = True := eq_true (of_decide_eq_true (by first | (with_reducible assumption) | assumption));replace q5 := eq_true q5;go_enter Tryz.func50, Tryz.ntmps50;go_wp2_with (first | (go_at_call 69; (with_reducible refine (zeq.calls (bt a0 0) (⟨#[97, 98, 99, 100, 101, 102, 103, 104, 105, 106, 107, 108, 109, 110, 111, 112, 113, 114, 115, 116, 117, 118, 119, 120, 121, 122]⟩ : ByteArray) true _ A6.out).mono ?_); rintro e w' ⟨rfl, ⟨nd, rfl⟩⟩) | (go_at_call 70; (with_reducible refine (Xu.calls k a0 (⟨#[97, 98, 99, 100, 101, 102, 103, 104, 105, 106, 107, 108, 109, 110, 111, 112, 113, 114, 115, 116, 117, 118, 119, 120, 121, 122, 48, 49, 50, 51, 52, 53, 54, 55, 56, 57, 95]⟩ : ByteArray) t129 _ A8.out).mono ?_); rintro e w' ⟨rfl, ⟨nd, rfl⟩⟩))
      go_ret;exact ⟨by first | rfl | (simp [Zd, Ze] <;> rfl) | (simp [*, Zd, Ze] <;> rfl), by repeat (first | (with_reducible first | exact HB.out | apply zh | apply zg | apply zk) | exact HB.out)⟩
    ·
     replace c7 := Bool.eq_false_iff.mpr c7;subst c7;have H1 : (some false) = some r := by rw [if_neg (show ¬ (false = true) by decide)] at H; exact H
     clear H;have H := H1;clear H1;obtain rfl := Option.some.inj H;have p5 : 0 ≤ (0 : Int) := (by omega);have q5 : 0 < a0.size := (by have : (0 : Int) < (a0.size : Int) := of_decide_eq_true (by first | (with_reducible assumption) | assumption); omega);have hx5 : ∀ h : 0 < a0.size, ((a0[0]'h).toNat : Int) = bt a0 0 := zkh a0 0;clear p5;have qi5 : (0 < (a0.size : Int)) = True := eq_true (of_decide_eq_true (by first | (with_reducible assumption) | assumption));replace q5 := eq_true q5;go_enter Tryz.func50, Tryz.ntmps50;go_wp2_with (first | (go_at_call 69; (with_reducible refine (zeq.calls (bt a0 0) (⟨#[97, 98, 99, 100, 101, 102, 103, 104, 105, 106, 107, 108, 109, 110, 111, 112, 113, 114, 115, 116, 117, 118, 119, 120, 121, 122]⟩ : ByteArray) false _ A6.out).mono ?_); rintro e w' ⟨rfl, ⟨nd, rfl⟩⟩))
     go_ret;exact ⟨by first | rfl | (simp [Zd, Ze] <;> rfl) | (simp [*, Zd, Ze] <;> rfl), by repeat (first | (with_reducible first | exact HB.out | apply zh | apply zg | apply zk) | exact HB.out)⟩
   ·
    rw [if_neg c4] at H;exact absurd H (by simp)
  ·
   rw [if_neg c3] at H;have zbm : decide ((a0.size : Int) ≤ 16) = false := decide_eq_false c3;have zga : decide (a0.size ≤ 16) = false := decide_eq_false (by omega);clear c3;obtain rfl := Option.some.inj H;go_enter Tryz.func50, Tryz.ntmps50;go_wp2
   go_ret;exact ⟨by first | rfl | (simp [Zd, Ze] <;> rfl) | (simp [*, Zd, Ze] <;> rfl), by repeat (first | (with_reducible first | exact HB.out | apply zh | apply zg | apply zk) | exact HB.out)⟩
def isLet (b : UInt8) : Bool := decide (97 ≤ b.toNat) && decide (b.toNat ≤ 122)
def isDig (b : UInt8) : Bool := decide (48 ≤ b.toNat) && decide (b.toNat ≤ 57)
def isMore (b : UInt8) : Bool := isLet b || (isDig b || b == 95)
def lettersB : ByteArray := ⟨#[97, 98, 99, 100, 101, 102, 103, 104, 105, 106, 107, 108, 109, 110, 111, 112, 113, 114, 115, 116, 117, 118, 119, 120, 121, 122]⟩
def moreB : ByteArray := ⟨#[97, 98, 99, 100, 101, 102, 103, 104, 105, 106, 107, 108, 109, 110, 111, 112, 113, 114, 115, 116, 117, 118, 119, 120, 121, 122, 48, 49, 50, 51, 52, 53, 54, 55, 56, 57, 95]⟩
def kwL : List (List UInt8) := [[102, 117, 110], [108, 101, 116], [114, 101, 99], [105, 110], [105, 102], [116, 104, 101, 110], [101, 108, 115, 101], [104, 97, 110, 100, 108, 101], [119, 105, 116, 104], [114, 101, 116, 117, 114, 110], [101, 110, 100], [100, 111], [111, 112], [116, 114, 117, 101], [102, 97, 108, 115, 101], [105, 110, 116], [98, 111, 111, 108]]
def kw (l : List UInt8) : Bool := kwL.contains l
def nm (l : List UInt8) : Bool := match l with
 | [] => false
 | c :: r => decide (r.length < 16) && (isLet c && (r.all isMore && !kw (c :: r)))
theorem zpz {P : UInt8 → Prop} (h : ∀ n : Fin 256, P (UInt8.ofNat n)) (c : UInt8) : P c := by
 have := h ⟨c.toNat, c.toNat_lt⟩;simpa using this
theorem zp0 (c : UInt8) : decide (c ∈ lettersB.data.toList) = isLet c := zpz (P := fun c => decide (c ∈ lettersB.data.toList) = isLet c) (by decide +kernel) c
theorem mem_more (c : UInt8) : decide (c ∈ moreB.data.toList) = isMore c := zpz (P := fun c => decide (c ∈ moreB.data.toList) = isMore c) (by decide +kernel) c
theorem zho (l : List UInt8) (c : UInt8) : 0 ≤ Lib.indexByte l c ↔ c ∈ l := by
 induction l with
 | nil => simp [Lib.indexByte]
 | cons b l ih =>
  have hge := Lib.indexByte_ge l c;unfold Lib.indexByte;by_cases h : b = c
  ·
   subst h;simp
  ·
   have hb : (b == c) = false := by simpa using h
   simp only [hb, Bool.false_eq_true, if_false, List.mem_cons];by_cases h1 : Lib.indexByte l c = -1
   ·
    have hn : c ∉ l := fun hm => by have := ih.2 hm; omega
    simp [h1, hn, Ne.symm h]
   ·
    have hm : c ∈ l := ih.1 (by omega);have h2 : (Lib.indexByte l c == -1) = false := by simpa using h1
    simp only [h2, Bool.false_eq_true, if_false, hm, or_true, iff_true];omega
theorem of_is (c : UInt8) (some_ : ByteArray) : zeq.f (c.toNat : Int) some_ = some (decide (c ∈ some_.data.toList)) := by
 unfold zeq.f strings_IndexByte.f;have hc : ((c.toNat : Int)).toNat.toUInt8 = c := by simp
 rw [hc];simp only [Option.bind_some, Option.some.injEq];by_cases h : c ∈ some_.data.toList
 ·
  have := (zho some_.data.toList c).2 h;simp [h];omega
 ·
  have : ¬ 0 ≤ Lib.indexByte some_.data.toList c := fun hh => h ((zho _ _).1 hh)
  simp [h];omega
theorem wrapS {x : Int} (h0 : 0 ≤ x) (h1 : x ≤ 1152921504606846976) : wrap64 x = x := by
 unfold wrap64;omega
theorem list_size (s : ByteArray) : s.data.toList.length = s.size := by rw [Array.length_toList]; rfl
theorem zk5 (s : ByteArray) (i : Nat) (c : UInt8) (h : s.data.toList[i]? = some c) : bt s (i : Int) = (c.toNat : Int) := by
 obtain ⟨hi, rfl⟩ := List.getElem?_eq_some_iff.1 h;have hs : i < s.size := by rw [← list_size]; exact hi
 unfold bt;rw [dif_pos (by omega)];simp;rfl
def runN (p : UInt8 → Bool) (l : List UInt8) : Nat := (l.takeWhile p).length
theorem run_loop (s x : ByteArray) (p : UInt8 → Bool) (hp : ∀ c, decide (c ∈ x.data.toList) = p c) (hs : s.size ≤ 1152921504606846976) : ∀ (d i k : Nat), s.size - i = d → i ≤ s.size → d < k →
  Xu.l0 k s x (i : Int) = some (s.extract 0 (i + runN p (s.data.toList.drop i))) := by
 intro d;induction d with
 | zero =>
  intro i k hd hi hk;obtain ⟨k, rfl⟩ : ∃ m, k = m + 1 := ⟨k - 1, by omega⟩;have : i = s.size := by omega
  subst this;simp only [Xu.l0];rw [if_neg (by omega), if_pos (by omega), if_pos (by omega), List.drop_eq_nil_of_le (by rw [list_size]; exact Nat.le_refl _)];simp [runN]
 | succ d ih =>
  intro i k hd hi hk;obtain ⟨k, rfl⟩ : ∃ m, k = m + 1 := ⟨k - 1, by omega⟩;have hlt : i < s.data.toList.length := by rw [list_size]; omega
  have hg : s.data.toList[i]? = some s.data.toList[i] := List.getElem?_eq_getElem hlt;simp only [Xu.l0];rw [if_pos (by omega), if_pos (by omega), zk5 s i _ hg, of_is, hp];rw [List.drop_eq_getElem_cons hlt];simp only [Option.bind_some];by_cases hc : p s.data.toList[i] = true
  ·
   rw [if_pos hc, wrapS (by omega) (by omega), show ((i : Int) + 1) = ((i + 1 : Nat) : Int) from by omega, ih (i + 1) k (by omega) (by omega) (by omega)];simp only [runN, List.takeWhile_cons, hc, if_true, List.length_cons];congr 2
   omega
  ·
   rw [if_neg hc, if_pos (by omega), Int.toNat_natCast];have h0 : runN p (s.data.toList[i] :: s.data.toList.drop (i + 1)) = 0 := by
    unfold runN;rw [List.takeWhile_cons_of_neg hc];rfl
   rw [h0, Nat.add_zero]
theorem run_is (s x : ByteArray) (p : UInt8 → Bool) (hp : ∀ c, decide (c ∈ x.data.toList) = p c) (hs : s.size ≤ 1152921504606846976) (k : Nat) (hk : s.size < k) : Xu.f k s x = some (s.extract 0 (runN p s.data.toList)) := by
 unfold Xu.f;have := run_loop s x p hp hs s.size 0 k rfl (Nat.zero_le _) hk;simpa using this
theorem zrn (p : UInt8 → Bool) : ∀ l : List UInt8, l.all p = true ↔ l.takeWhile p = l
 | [] => by simp
 | c :: l => by
  have ih := zrn p l;by_cases h : p c = true
  ·
   rw [List.takeWhile_cons_of_pos h, List.all_cons, h, Bool.true_and, ih];simp
  ·
   rw [List.takeWhile_cons_of_neg h, List.all_cons];simp [h]
theorem zt6 {a b : ByteArray} (h : a.data.toList = b.data.toList) : a = b := by
 cases a; cases b;simp only at h;rw [Array.toList_inj] at h;rw [h]
theorem toList_data (s : ByteArray) : s.toList = s.data.toList := ByteArray.toList_eq s
theorem zog (s : ByteArray) (n : Nat) : (s.extract 0 n).data.toList = s.data.toList.take n := by
 simp
theorem zro (ps : List ByteArray) (x : ByteArray) (hl : ps.length ≤ 1000000) : ∀ (d i k : Nat), ps.length - i = d → i ≤ ps.length → d < k →
  ∃ r, xq.l0 k ps x (ps.length : Int) (i : Int) = some r ∧ (0 ≤ r ↔ x.data.toList ∈ (ps.drop i).map (·.data.toList)) := by
 intro d;induction d with
 | zero =>
  intro i k hd hi hk;obtain ⟨k, rfl⟩ : ∃ m, k = m + 1 := ⟨k - 1, by omega⟩;refine ⟨-1, ?_, ?_⟩
  ·
   simp only [xq.l0];rw [if_neg (by omega)]
  ·
   rw [List.drop_eq_nil_of_le (by omega)];simp
 | succ d ih =>
  intro i k hd hi hk;obtain ⟨k, rfl⟩ : ∃ m, k = m + 1 := ⟨k - 1, by omega⟩;have hlt : i < ps.length := by omega
  have hrd : rdOf ByteArray.empty ps (i : Int) = ps[i] := by
   unfold rdOf;rw [Int.toNat_natCast, List.getD_eq_getElem?_getD, List.getElem?_eq_getElem hlt];rfl
  simp only [xq.l0];rw [if_pos (by omega), if_pos (by omega), if_pos (by omega), hrd, toList_data, toList_data, List.drop_eq_getElem_cons hlt];by_cases h : x.data.toList = ps[i].data.toList
  ·
   refine ⟨i, by rw [if_pos h], ?_⟩;rw [List.map_cons, List.mem_cons];exact ⟨fun _ => .inl h, fun _ => by omega⟩
  ·
   rw [if_neg h, wrapS (by omega) (by omega), show ((i : Int) + 1) = ((i + 1 : Nat) : Int) from by omega];obtain ⟨r, hr, hiff⟩ := ih (i + 1) k (by omega) (by omega) (by omega);refine ⟨r, hr, ?_⟩;rw [hiff, List.map_cons, List.mem_cons];simp [h]
theorem zp1 (ps : List ByteArray) (x : ByteArray) (hl : ps.length ≤ 1000000) (k : Nat) (hk : ps.length < k) : Yh.f k ps x = some (decide (x.data.toList ∈ ps.map (·.data.toList))) := by
 unfold Yh.f xq.f;obtain ⟨r, hr, hiff⟩ := zro ps x hl ps.length 0 k rfl (Nat.zero_le _) hk;rw [show ((0 : Nat) : Int) = 0 from rfl] at hr;rw [hr];simp only [Option.bind_some, Option.some.injEq];rw [List.drop_zero] at hiff;by_cases h : x.data.toList ∈ ps.map (·.data.toList)
 ·
  have := hiff.2 h;rw [decide_eq_true h];simp;omega
 ·
  have : ¬ 0 ≤ r := fun hh => h (hiff.1 hh)
  rw [decide_eq_false h];simp;omega
def keywordsB : ByteArray := ⟨#[102, 117, 110, 32, 108, 101, 116, 32, 114, 101, 99, 32, 105, 110, 32, 105, 102, 32, 116, 104, 101, 110, 32, 101, 108, 115, 101, 32, 104, 97, 110, 100, 108, 101, 32, 119, 105, 116, 104, 32, 114, 101, 116, 117, 114, 110, 32, 101, 110, 100, 32, 100, 111, 32, 111, 112, 32, 116, 114, 117, 101, 32, 102, 97, 108, 115, 101, 32, 105, 110, 116, 32, 98, 111, 111, 108]⟩
theorem zli : (strings_Split.f keywordsB ⟨#[32]⟩).map (fun ps => ps.map (·.data.toList)) = some kwL := by decide +kernel
theorem zrp (s : ByteArray) (k : Nat) (hk : 20 ≤ k) : Vt.f k s = some (kw s.data.toList) := by
 have h := zli;show (strings_Split.f keywordsB ⟨#[32]⟩).bind _ = _;cases hp : strings_Split.f keywordsB ⟨#[32]⟩ with
 | none => rw [hp] at h; cases h
 | some ps =>
  rw [hp] at h;have hps : ps.map (·.data.toList) = kwL := Option.some.inj h;have hlen : ps.length = 17 := by
   have := congrArg List.length hps;simpa [kwL] using this
  simp only [Option.bind_some];rw [zp1 ps s (by omega) k (by omega), hps];simp only [Option.bind_some, kw, List.contains_eq_mem]
theorem zlj (s : ByteArray) (k : Nat) (hk : 40 ≤ k) : Xv.f k s = some (nm s.data.toList) := by
 unfold Xv.f;have hsz := list_size s;rw [toList_data];by_cases h0 : s.data.toList = []
 ·
  rw [if_pos h0, h0];rfl
 ·
  rw [if_neg h0];obtain ⟨c, r, hcr⟩ := List.exists_cons_of_ne_nil h0;have hlen : r.length + 1 = s.size := by rw [← hsz, hcr]; rfl
  by_cases h1 : (s.size : Int) ≤ 16
  ·
   rw [if_pos h1, if_pos (by omega)];have hb : bt s 0 = (c.toNat : Int) := zk5 s 0 c (by rw [hcr]; rfl);rw [hb];rw [show (⟨#[97, 98, 99, 100, 101, 102, 103, 104, 105, 106, 107, 108, 109, 110, 111, 112, 113, 114, 115, 116, 117, 118, 119, 120, 121, 122]⟩ : ByteArray) = lettersB from rfl, of_is, zp0];simp only [Option.bind_some];by_cases h2 : isLet c = true
   ·
    rw [if_pos h2];rw [show (⟨#[97, 98, 99, 100, 101, 102, 103, 104, 105, 106, 107, 108, 109, 110, 111, 112, 113, 114, 115, 116, 117, 118, 119, 120, 121, 122, 48, 49, 50, 51, 52, 53, 54, 55, 56, 57, 95]⟩ : ByteArray) = moreB from rfl, run_is s moreB isMore mem_more (by omega) k (by omega)];simp only [Option.bind_some];rw [toList_data, zog, zrp s k (by omega)];have hm : isMore c = true := by simp [isMore, h2]
    by_cases h3 : r.all isMore = true
    ·
     have ht : s.data.toList.take (runN isMore s.data.toList) = s.data.toList := by
      have : (c :: r).all isMore = true := by simp only [List.all_cons, hm, h3, Bool.and_self]
      rw [hcr, runN, (zrn isMore _).1 this, List.take_length]
     rw [if_pos ht];simp only [Option.bind_some];rw [hcr];simp [nm, h2, h3, show r.length < 16 by omega]
    ·
     have ht : ¬ s.data.toList.take (runN isMore s.data.toList) = s.data.toList := by
      intro he;apply h3;have hl := congrArg List.length he;rw [List.length_take, hcr] at hl;have hle : runN isMore (c :: r) ≤ (c :: r).length := (List.takeWhile_prefix isMore).length_le;have hfull : runN isMore (c :: r) = (c :: r).length := by omega
      have : (c :: r).takeWhile isMore = c :: r := (List.takeWhile_prefix isMore).eq_of_length hfull;have h4 := (zrn isMore _).2 this;rw [List.all_cons, hm, Bool.true_and] at h4;exact h4
     rw [if_neg ht, hcr];simp [nm, h3]
   ·
    rw [if_neg h2, hcr];simp [nm, h2]
  ·
   rw [if_neg h1, hcr];simp [nm, show ¬ r.length < 16 by omega]
def zaw.f (a0 : Int) : Option (Bool) := if a0 = 0 then (some true) else (some (a0 == 1))
set_option maxHeartbeats 8000000 in
set_option maxRecDepth 100000 in
theorem zaw.calls (a0 : Int) (r : Bool) (w : World) (h : zaw.f a0 = some r) :
  Calls Tryz.prog 51 #[.int .i64 a0] w fun e w' => e = .returned (.bool r) ∧ xm w w' := by
 have H : (if a0 = 0 then (some true) else (some (a0 == 1))) = some r := h;clear h;by_cases c2 : a0 = 0
 ·
  rw [if_pos c2] at H;have ze7 : (a0 == 0) = true := beq_iff_eq.mpr c2;have zhk : (a0 != 0) = false := bne_eq_false_iff_eq.mpr c2;clear c2;obtain rfl := Option.some.inj H;go_enter Tryz.func51, Tryz.ntmps51;go_wp2
  go_ret;exact ⟨by first | rfl | (simp; done) | (simp [*]; done), by repeat (first | exact xm.refl _ | apply xm.step)⟩
 ·
  rw [if_neg c2] at H;have ze7 : (a0 == 0) = false := beq_eq_false_iff_ne.mpr c2;have zhk : (a0 != 0) = true := bne_iff_ne.mpr c2;obtain rfl := Option.some.inj H;go_enter Tryz.func51, Tryz.ntmps51;go_wp2
  go_ret;exact ⟨by first | rfl | (simp; done) | (simp [*]; done), by repeat (first | exact xm.refl _ | apply xm.step)⟩
end Go.Proofs.YtfcjpkkglffnmaaGreatDoor.H
