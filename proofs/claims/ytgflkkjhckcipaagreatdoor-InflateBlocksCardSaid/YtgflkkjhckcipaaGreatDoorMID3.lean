-- Texts by hand and by programs of this session, joined (wip/tool/merge.py).
import Derived.Test.YtgflkkjhckcipaaGreatDoorProg
import Derived.Below
import Derived.Deep.Draws
import Derived.Deep.AppendLies
import Derived.Maps.AppendAt
import Derived.OwnWalk
import Derived.Laws.BytesArg
import Derived.Laws.MakeOwn
import Derived.Laws.OwnMore
import Derived.Deep.OwnRows
import Derived.Tactics
import Derived.Lib.ConvBytes
import Derived.Laws.Slices
import Derived.WalkKit
import Derived.KernelRfl
import Derived.RowKit3
import Derived.Deep.LoopGhost
import Derived.Deep.QuietTactic
import Derived.BigQuiet
import Derived.WideLaws
import Derived.Deep.DeepCutAuto
import Derived.Deep.CutBlock
import Derived.Deep.RegionHeld3
import Derived.Laws.Rows
import Derived.Lib.AppendStr
import Derived.ArgAppend
import Derived.Laws.IdiomCopy
import Derived.OrdersHeld
import Derived.Laws.BitsLemmas
import Derived.RowKit
import Derived.Test.YtgflkkjhckcipaaGreatDoorMID1
import Derived.Test.YtgflkkjhckcipaaGreatDoorMID2
import Derived.Shelf.Abstract
import Derived.Shelf.RegionOpen
import Derived.OwnWalkIn
import Derived.TacticsInMore
import Derived.LoopNIn
import Derived.LoopIn
import Derived.LaidEql
import Derived.Stop.Asserts
-- YtgflkkjhckcipaaGreatDoorHu0
set_option maxHeartbeats 16000000
set_option maxRecDepth 1000000
namespace Go.Proofs.YtgflkkjhckcipaaGreatDoor.Hu
open Go.RowKit Go.Proofs.YtgflkkjhckcipaaGreatDoorW.PrintWords Go.Proofs.YtgflkkjhckcipaaGreatDoorW.PrintLast Go.Proofs.YtgflkkjhckcipaaGreatDoorW.PrintMore
attribute [local go_sem] max2_int min2_int max_two min_two max_three min_three max_four min_four   -- for this text's walks alone
set_option linter.unusedVariables false
set_option linter.unusedSimpArgs false

theorem u8_w (n : Int) : IntKind.u8.wrap n = n % 256 := IntKind.wrap_u8 n



def errW : Option Int → Value
  | none => .nilIface
  | some c => .iface 0 (.int .i64 c)
theorem errW_none : errW none = .nilIface := rfl
theorem errW_some (c : Int) : errW (some c) = .iface 0 (.int .i64 c) := rfl

theorem info3 : (Tryz.prog.info? 3).map (fun i => (i.zero, i.size, i.bytes)) = some (some (.int .i64 0), 1, 8) := by kernel_rfl
theorem info5 : (Tryz.prog.info? 5).map (fun i => (i.zero, i.size, i.bytes)) = some (some (.int .u8 0), 1, 1) := by kernel_rfl
-- the values' own types

end Go.Proofs.YtgflkkjhckcipaaGreatDoor.Hu

-- YtgflkkjhckcipaaGreatDoorIf24
namespace Go.Proofs.YtgflkkjhckcipaaGreatDoor.Pr
open Go.RowKit Go.Shelf Go.Proofs.YtgflkkjhckcipaaGreatDoorW.PrintWords Go.Proofs.YtgflkkjhckcipaaGreatDoorW.PrintLast Go.Proofs.YtgflkkjhckcipaaGreatDoorW.PrintMore
set_option linter.unusedVariables false
set_option linter.unusedSimpArgs false
section
open Go.Extern.Stop Go.Stop Go.Extern
theorem Fa.valueOfPP (t : Addr) (w : World) : (ReflectliteValue.unpack (.iface 38 (.pointer (some t)))).run Tryz.prog w
    = .ok (.agg #[.pointer (some ⟨1, 38, none⟩), .pointer (some ⟨w.heap.size, 0, none⟩), .int .u64 150]) (w.alloc (.cells #[.pointer (some t)] 38)) := by kernel_rfl
theorem Fa.typePP (a : Addr) (w : World) : (ReflectliteValue.methodAny (ReflectliteValue.valueError "reflectlite.Value.Type" 0) (fun t _ _ _ => ReflectliteType.toType t) #[.agg #[.pointer (some ⟨1, 38, none⟩), .pointer (some a), .int .u64 150]]).run Tryz.prog w
    = .ok (.iface 75 (.agg #[.pointer (some ⟨1, 38, none⟩)])) w := by kernel_rfl
theorem Fa.methodKind (h : Value) (w : World) : (Go.method 289 75 (.agg #[h]) "Kind").run Tryz.prog w = .ok (112, h) w := by kernel_rfl
theorem Fa.kindPP (w : World) : ((ReflectliteType.abiMethod fun t => (fun a : Nat => Value.int IntKind.u8 (a : Int)) <$> Rtype.kind t) #[.pointer (some ⟨1, 38, none⟩)]).run Tryz.prog w = .ok (.int .u8 22) w := by kernel_rfl
theorem Fa.kindP (w : World) : ((ReflectliteType.abiMethod fun t => (fun a : Nat => Value.int IntKind.u8 (a : Int)) <$> Rtype.kind t) #[.pointer (some ⟨1, 33, none⟩)]).run Tryz.prog w = .ok (.int .u8 22) w := by kernel_rfl
theorem Fa.rlm (z : Sem Value) (f : TypeId → Addr → Nat → Nat → Sem Value) (v : Value) :
    ReflectliteValue.method z f #[v] = (do match ← ReflectliteValue.parts v with | none => z | some (t, a, fl) => f t a fl (fl % 32)) := rfl
theorem Fa.partsPP (a : Addr) (w : World) : (ReflectliteValue.parts (.agg #[.pointer (some ⟨1, 38, none⟩), .pointer (some a), .int .u64 150])).run Tryz.prog w = .ok (some (38, a, 150)) w := by kernel_rfl
theorem Fa.isNilPP (a p : Addr) (W : World) (ha : W.cell? a = some (.pointer (some p))) :
    (ReflectliteValue.method (ReflectliteValue.valueError "reflectlite.Value.IsNil" 0) ReflectliteValue.isNil #[.agg #[.pointer (some ⟨1, 38, none⟩), .pointer (some a), .int .u64 150]]).run Tryz.prog W = .ok (.bool false) W := by
  rw [Fa.rlm]; simp only [Sem.run_bind, Fa.partsPP, Result.andThen]
  simp [ReflectliteValue.isNil, loadVar, isAgg, underlying, Tryz.underlying38, ha, Result.andThen]
theorem Fa.methodElem (h : Value) (w : World) : (Go.method 289 75 (.agg #[h]) "Elem").run Tryz.prog w = .ok (122, .agg #[h]) w := by kernel_rfl
theorem Fa.methodImplements (h : Value) (w : World) : (Go.method 289 75 (.agg #[h]) "Implements").run Tryz.prog w = .ok (123, .agg #[h]) w := by kernel_rfl
theorem Fa.methodAssignableTo (h : Value) (w : World) : (Go.method 289 75 (.agg #[h]) "AssignableTo").run Tryz.prog w = .ok (120, .agg #[h]) w := by kernel_rfl
theorem Fa.elemPP (w : World) : (ReflectliteType.method ReflectliteType.elem #[.agg #[.pointer (some ⟨1, 38, none⟩)]]).run Tryz.prog w = .ok (.iface 75 (.agg #[.pointer (some ⟨1, 33, none⟩)])) w := by kernel_rfl
theorem Fa.implementsP (w : World) : (ReflectliteType.relation "Implements" ReflectliteType.implements_ #[.agg #[.pointer (some ⟨1, 33, none⟩)], .iface 75 (.agg #[.pointer (some ⟨1, 35, none⟩)])]).run Tryz.prog w = .ok (.bool true) w := by kernel_rfl
theorem Fa.typeOfP (v : Value) (w : World) : (ReflectliteType.typeOf #[.iface 33 v]).run Tryz.prog w = .ok (.iface 75 (.agg #[.pointer (some ⟨1, 33, none⟩)])) w := by kernel_rfl
theorem Fa.typeOfW (v : Value) (w : World) : (ReflectliteType.typeOf #[.iface 96 v]).run Tryz.prog w = .ok (.iface 75 (.agg #[.pointer (some ⟨1, 96, none⟩)])) w := by kernel_rfl
theorem Fa.assignableP (w : World) : (ReflectliteType.relation "AssignableTo" ReflectliteType.assignableTo #[.agg #[.pointer (some ⟨1, 33, none⟩)], .iface 75 (.agg #[.pointer (some ⟨1, 33, none⟩)])]).run Tryz.prog w = .ok (.bool true) w := by kernel_rfl
theorem Fa.assignableW (w : World) : (ReflectliteType.relation "AssignableTo" ReflectliteType.assignableTo #[.agg #[.pointer (some ⟨1, 96, none⟩)], .iface 75 (.agg #[.pointer (some ⟨1, 33, none⟩)])]).run Tryz.prog w = .ok (.bool false) w := by kernel_rfl
theorem Fa.valueOfP (e : Addr) (w : World) : (ReflectliteValue.unpack (.iface 33 (.pointer (some e)))).run Tryz.prog w
    = .ok (.agg #[.pointer (some ⟨1, 33, none⟩), .pointer (some ⟨w.heap.size, 0, none⟩), .int .u64 150]) (w.alloc (.cells #[.pointer (some e)] 33)) := by kernel_rfl
theorem Fa.elemOfPP (w : World) : (Rtype.elem? 38).run Tryz.prog w = .ok (some 33) w := by kernel_rfl
theorem Fa.mkP (p : Addr) (w : World) : (ReflectliteValue.mk 33 p ReflectliteValue.flagAddr).run Tryz.prog w = .ok (.agg #[.pointer (some ⟨1, 33, none⟩), .pointer (some p), .int .u64 406]) w := by kernel_rfl
theorem Fa.elemVPP (a p : Addr) (W : World) (ha : W.cell? a = some (.pointer (some p))) :
    (ReflectliteValue.method (ReflectliteValue.valueError "reflectlite.Value.Elem" 0) ReflectliteValue.elem #[.agg #[.pointer (some ⟨1, 38, none⟩), .pointer (some a), .int .u64 150]]).run Tryz.prog W
      = .ok (.agg #[.pointer (some ⟨1, 33, none⟩), .pointer (some p), .int .u64 406]) W := by
  rw [Fa.rlm]; simp only [Sem.run_bind, Fa.partsPP, Result.andThen]
  simp [ReflectliteValue.elem, loadVar, isAgg, underlying, Tryz.underlying38, ha, Result.andThen, Fa.elemOfPP, Fa.mkP]
theorem Fa.rls (v x : Value) : ReflectliteValue.set #[v, x] = (do
    let (some (dst, a, fl), some (src, b, _)) := (← ReflectliteValue.parts v, ← ReflectliteValue.parts x)
      | unsupported (.noEntry "extern/(internal/reflectlite.Value).Set.zeroValue")
    if fl / ReflectliteValue.flagAddr % 2 == 0 then unsupported (.noEntry "extern/(internal/reflectlite.Value).Set.unaddressable")
    let val ← loadVar src b
    if ← Rtype.directlyAssignable dst src then storeVar dst a val
    else if ← Rtype.implements dst src then
      if (← Rtype.kind src) == 20 then
        match val with
        | .nilIface => unsupported (.noEntry "extern/reflectlite: a nil value of one interface type handed on as a value of another")
        | _ => storeVar dst a val
      else storeVar dst a (.iface src val)
    else panicString ("reflectlite.Set: value of type " ++ (← Rtype.spelt src) ++ " is not assignable to type " ++ (← Rtype.spelt dst))
    pure (.tuple #[])) := rfl
theorem Fa.partsPa (a : Addr) (w : World) : (ReflectliteValue.parts (.agg #[.pointer (some ⟨1, 33, none⟩), .pointer (some a), .int .u64 406])).run Tryz.prog w = .ok (some (33, a, 406)) w := by kernel_rfl
theorem Fa.partsP (a : Addr) (w : World) : (ReflectliteValue.parts (.agg #[.pointer (some ⟨1, 33, none⟩), .pointer (some a), .int .u64 150])).run Tryz.prog w = .ok (some (33, a, 150)) w := by kernel_rfl
theorem Fa.directP (w : World) : (Rtype.directlyAssignable 33 33).run Tryz.prog w = .ok true w := by kernel_rfl
theorem Fa.setP (ta b e : Addr) (old : Value) (W : World) (hb : W.cell? b = some (.pointer (some e))) (ht : W.cell? ta = some old) (hf : W.frozen? ta = false) :
    (ReflectliteValue.set #[.agg #[.pointer (some ⟨1, 33, none⟩), .pointer (some ta), .int .u64 406], .agg #[.pointer (some ⟨1, 33, none⟩), .pointer (some b), .int .u64 150]]).run Tryz.prog W
      = .ok (.tuple #[]) (W.setCell ta (.pointer (some e))) := by
  rw [Fa.rls]; simp only [Sem.run_bind, Fa.partsPa, Fa.partsP, Result.andThen]
  simp [ReflectliteValue.flagAddr, loadVar, isAgg, underlying, Tryz.underlying33, hb, Result.andThen, Fa.directP, storeVar, Value.cells, storeCells, Addr.add]
  rw [run_store Tryz.prog W ta _ _ (by rfl)]
  simp [ht, hf]
theorem Fa.noAs (v : Value) (w : World) : (Instr.typeAssert (.iface 96 v) 35 80 true).run Tryz.prog w = .ok (.tuple #[.nilIface, .bool false]) w := run_typeAssert_lacksB Tryz.underlying80 (by kernel_rfl) (by kernel_rfl) v 35 w
theorem Fa.isUn (v : Value) (w : World) : (Instr.typeAssert (.iface 96 v) 35 83 true).run Tryz.prog w = .ok (.tuple #[.iface 96 v, .bool true]) w := by kernel_rfl
theorem Fa.methodUn (p : Addr) (w : World) : (Go.method 289 96 (.pointer (some p)) "Unwrap").run Tryz.prog w = .ok (131, .pointer (some p)) w := by kernel_rfl
theorem unwrap_calls (p : Addr) (v : Value) (w : World) (hp : w.cell? p = some v) (hv : p.add 0 = p) : Calls Tryz.prog 131 #[.pointer (some p)] w fun e w' => e = .returned v ∧ w' = w := by
  have hu := Tryz.underlying98; go_enter Tryz.func131, Tryz.ntmps131; go_wp2; go_ret; exact ⟨rfl, rfl⟩
theorem as_within (p e t : Addr) (old : Value) (w : World) (hg : w.cell? ⟨0, 0, none⟩ = some (.iface 75 (.agg #[.pointer (some ⟨1, 35, none⟩)]))) (hp : w.cell? p = some (.iface 33 (.pointer (some e)))) (hpa : p.add 0 = p) (ht0 : w.cell? t = some old) (hf0 : w.frozen? t = false) :
    Calls Tryz.prog 10 #[.iface 96 (.pointer (some p)), .iface 38 (.pointer (some t))] w fun ev w' => ev = .returned (.bool true) ∧ w' = ((((w.alloc (.cells #[.pointer (some t)] 38)).alloc (.cells #[.pointer (some ⟨1, 38, none⟩), .pointer (some ⟨w.heap.size, 0, none⟩), .int .u64 150] 54)).alloc (.cells #[.pointer (some ⟨1, 38, none⟩), .pointer (some ⟨w.heap.size, 0, none⟩), .int .u64 150] 54)).alloc (.cells #[.pointer (some e)] 33)).setCell t (.pointer (some e)) := by
  have x0 := @run_callFunc_extern Tryz.prog 13 _ (fun args => ReflectliteValue.unpack (args.getD 0 (.tuple #[]))) Tryz.func13 (by kernel_rfl) (by kernel_rfl) (by kernel_rfl) (by kernel_rfl); have x1 := @run_callFunc_extern Tryz.prog 14 _ (ReflectliteValue.methodAny (ReflectliteValue.valueError "reflectlite.Value.Type" 0) (fun t _ _ _ => ReflectliteType.toType t)) Tryz.func14 (by kernel_rfl) (by kernel_rfl) (by kernel_rfl) (by kernel_rfl); have x2 := @run_callFunc_extern Tryz.prog 15 _ (ReflectliteValue.method (ReflectliteValue.valueError "reflectlite.Value.IsNil" 0) ReflectliteValue.isNil) Tryz.func15 (by kernel_rfl) (by kernel_rfl) (by kernel_rfl) (by kernel_rfl); have x3 := @run_callFunc_extern Tryz.prog 112 _ (ReflectliteType.abiMethod fun t => do pure (.int .u8 (← Rtype.kind t))) Tryz.func112 (by kernel_rfl) (by kernel_rfl) (by kernel_rfl) (by kernel_rfl); have x4 := @run_callFunc_extern Tryz.prog 122 _ (ReflectliteType.method ReflectliteType.elem) Tryz.func122 (by kernel_rfl) (by kernel_rfl) (by kernel_rfl) (by kernel_rfl); have x5 := @run_callFunc_extern Tryz.prog 123 _ (ReflectliteType.relation "Implements" ReflectliteType.implements_) Tryz.func123 (by kernel_rfl) (by kernel_rfl) (by kernel_rfl) (by kernel_rfl); have x6 := @run_callFunc_extern Tryz.prog 27 _ (ReflectliteType.typeOf) Tryz.func27 (by kernel_rfl) (by kernel_rfl) (by kernel_rfl) (by kernel_rfl); have x7 := @run_callFunc_extern Tryz.prog 120 _ (ReflectliteType.relation "AssignableTo" ReflectliteType.assignableTo) Tryz.func120 (by kernel_rfl) (by kernel_rfl) (by kernel_rfl) (by kernel_rfl); have x8 := @run_callFunc_extern Tryz.prog 28 _ (ReflectliteValue.method (ReflectliteValue.valueError "reflectlite.Value.Elem" 0) ReflectliteValue.elem) Tryz.func28 (by kernel_rfl) (by kernel_rfl) (by kernel_rfl) (by kernel_rfl); have x9 := @run_callFunc_extern Tryz.prog 29 _ (ReflectliteValue.set) Tryz.func29 (by kernel_rfl) (by kernel_rfl) (by kernel_rfl) (by kernel_rfl); have z0 := Fa.typeOfP; have z1 := Fa.typeOfW; have z2 := Fa.methodAssignableTo; have z3 := Fa.assignableP; have z4 := Fa.assignableW; have z5 := Fa.valueOfP; have z6 := Fa.valueOfPP; have z7 := Fa.typePP; have z8 := Fa.methodKind; have z9 := Fa.methodElem; have z10 := Fa.methodImplements; have z11 := Fa.kindPP; have z12 := Fa.kindP; have z13 := Fa.elemPP; have z14 := Fa.implementsP; have z15 := Fa.noAs; have z16 := Fa.isUn; have z17 := Fa.methodUn; have n8 := Fa.isNilPP ⟨w.heap.size, 0, none⟩ t ((w.alloc (.cells #[.pointer (some t)] 38)).alloc (.cells #[.pointer (some ⟨1, 38, none⟩), .pointer (some ⟨w.heap.size, 0, none⟩), .int .u64 150] 54)) (by simp)
  have hlt : 0 < w.heap.size := by
    rcases Nat.lt_or_ge 0 w.heap.size with h | h
    · exact h
    simp [World.cell?, Array.getElem?_eq_none h] at hg
  have htl : t.block < w.heap.size := by
    rcases Nat.lt_or_ge t.block w.heap.size with h | h
    · exact h
    simp [World.cell?, Array.getElem?_eq_none h] at ht0
  have hpl : p.block < w.heap.size := by
    rcases Nat.lt_or_ge p.block w.heap.size with h | h
    · exact h
    simp [World.cell?, Array.getElem?_eq_none h] at hp
  have hg2 : ((w.alloc (.cells #[.pointer (some t)] 38)).alloc (.cells #[.pointer (some ⟨1, 38, none⟩), .pointer (some ⟨w.heap.size, 0, none⟩), .int .u64 150] 54)).cell? ⟨0, 0, none⟩ = some (.iface 75 (.agg #[.pointer (some ⟨1, 35, none⟩)])) := by rw [World.cell?_alloc_lt _ _ ⟨0, 0, none⟩ (by simp), World.cell?_alloc_lt _ _ ⟨0, 0, none⟩ hlt]; exact hg
  have hp3 : (((w.alloc (.cells #[.pointer (some t)] 38)).alloc (.cells #[.pointer (some ⟨1, 38, none⟩), .pointer (some ⟨w.heap.size, 0, none⟩), .int .u64 150] 54)).alloc (.cells #[.pointer (some ⟨1, 38, none⟩), .pointer (some ⟨w.heap.size, 0, none⟩), .int .u64 150] 54)).cell? p = some (.iface 33 (.pointer (some e))) := by rw [World.cell?_alloc_lt _ _ p (by simp; omega), World.cell?_alloc_lt _ _ p (by simp; omega), World.cell?_alloc_lt _ _ p hpl]; exact hp
  have el := Fa.elemVPP ⟨w.heap.size, 0, none⟩ t (((w.alloc (.cells #[.pointer (some t)] 38)).alloc (.cells #[.pointer (some ⟨1, 38, none⟩), .pointer (some ⟨w.heap.size, 0, none⟩), .int .u64 150] 54)).alloc (.cells #[.pointer (some ⟨1, 38, none⟩), .pointer (some ⟨w.heap.size, 0, none⟩), .int .u64 150] 54)) (by rw [World.cell?_alloc_lt _ _ ⟨w.heap.size, 0, none⟩ (by simp; omega)]; simp); have st := Fa.setP t ⟨w.heap.size + 1 + 1 + 1, 0, none⟩ e old ((((w.alloc (.cells #[.pointer (some t)] 38)).alloc (.cells #[.pointer (some ⟨1, 38, none⟩), .pointer (some ⟨w.heap.size, 0, none⟩), .int .u64 150] 54)).alloc (.cells #[.pointer (some ⟨1, 38, none⟩), .pointer (some ⟨w.heap.size, 0, none⟩), .int .u64 150] 54)).alloc (.cells #[.pointer (some e)] 33)) (by rw [World.cell?_alloc_at _ _ _ _ (by simp)]; rfl) (by rw [World.cell?_alloc_lt _ _ t (by simp; omega), World.cell?_alloc_lt _ _ t (by simp; omega), World.cell?_alloc_lt _ _ t (by simp; omega), World.cell?_alloc_lt _ _ t htl]; exact ht0) (by rw [World.frozen?_alloc_old _ _ t (by simp; omega), World.frozen?_alloc_old _ _ t (by simp; omega), World.frozen?_alloc_old _ _ t (by simp; omega), World.frozen?_alloc_old _ _ t (Nat.ne_of_lt htl)]; exact hf0); go_enter Tryz.func10, Tryz.ntmps10; go_wp2; refine wp_loop_rounds 2 ?_; rw [rounds_succ]
  go_wp2_with (go_at_call 131; refine (unwrap_calls p _ _ hp3 hpa).mono ?_; rintro e_ w_ ⟨rfl, rfl⟩)
  rw [rounds_succ]; go_wp2; go_ret; exact ⟨rfl, rfl⟩
end
-- YtgflkkjhckcipaaGreatDoorPs0
attribute [local go_sem] max2_int min2_int max_two min_two max_three min_three max_four min_four   -- for this text's walks alone
set_option linter.unusedVariables false
set_option linter.unusedSimpArgs false

theorem u8_w (n : Int) : IntKind.u8.wrap n = n % 256 := IntKind.wrap_u8 n



def errW : Option Int → Value
  | none => .nilIface
  | some c => .iface 0 (.int .i64 c)
theorem errW_none : errW none = .nilIface := rfl
theorem errW_some (c : Int) : errW (some c) = .iface 0 (.int .i64 c) := rfl

theorem info3 : (Tryz.prog.info? 3).map (fun i => (i.zero, i.size, i.bytes)) = some (some (.int .i64 0), 1, 8) := by kernel_rfl
-- the values' own types

-- YtgflkkjhckcipaaGreatDoorPs1
attribute [local go_sem] max2_int min2_int max_two min_two max_three min_three max_four min_four   -- for this text's walks alone
set_option linter.unusedVariables false
set_option linter.unusedSimpArgs false

theorem eqA148 (d : Nat) (w : World) (x0 y0 : Int) (x1 y1 : Int) (x2 y2 : Int) (x3 y3 : Int) (x4 y4 : Int) :
    (Op.equalIn (d + 2) 148 (.agg #[.int .i64 x0, .int .i64 x1, .int .i64 x2, .int .i64 x3, .int .i64 x4]) (.agg #[.int .i64 y0, .int .i64 y1, .int .i64 y2, .int .i64 y3, .int .i64 y4])).run Tryz.prog w = .ok (x0 == y0 && (x1 == y1 && (x2 == y2 && (x3 == y3 && (x4 == y4))))) w := by
  refine eqA_of Tryz.underlying148 (by kernel_rfl) ?_; refine eqf_cons (by rfl) (by go_simp; rfl) (by go_simp; rfl) (by go_simp) ?_; refine eqf_cons (by rfl) (by go_simp; rfl) (by go_simp; rfl) (by go_simp) ?_; refine eqf_cons (by rfl) (by go_simp; rfl) (by go_simp; rfl) (by go_simp) ?_; refine eqf_cons (by rfl) (by go_simp; rfl) (by go_simp; rfl) (by go_simp) ?_; exact eqf_last (by rfl) (by go_simp; rfl) (by go_simp; rfl) (by go_simp)
-- YtgflkkjhckcipaaGreatDoorPs2
attribute [local go_sem] max2_int min2_int max_two min_two max_three min_three max_four min_four   -- for this text's walks alone
set_option linter.unusedVariables false
set_option linter.unusedSimpArgs false

attribute [local go_sem high] eqA148
def symbol_lens.f  : Option (Int × Int × Int × Int × Int) := some (257, 8, 4, 5, 3)
theorem symbol_lens.calls  (r1 : Int) (r2 : Int) (r3 : Int) (r4 : Int) (r5 : Int) (w : World) (h : symbol_lens.f  = some (r1, r2, r3, r4, r5)) :
    Calls Tryz.prog 83 #[] w fun e w' => e = .returned (.agg #[.int .i64 r1, .int .i64 r2, .int .i64 r3, .int .i64 r4, .int .i64 r5]) ∧ Below w.heap.size w w' := by
  have hu148 := Tryz.underlying148; have HB := Ak (Below.refl w.heap.size w); have H : (some (257, 8, 4, 5, 3)) = some (r1, r2, r3, r4, r5) := h; clear h; simp only [Option.some.injEq, Prod.mk.injEq] at H; obtain ⟨rfl, rfl, rfl, rfl, rfl⟩ := H; go_enter Tryz.func83, Tryz.ntmps83
  go_wp2_with (((with_reducible refine gate_dst (N := 0) rfl ?_); refine box_event ?hg (N := 0) ?hd (cs := #[.int .i64 0, .int .i64 0, .int .i64 0, .int .i64 0, .int .i64 0]) (t := 148) ?hr ?_; (case hd => rfl); (case hg => rfl); (case hr => (go_simp; done)); intro gb101 hg w1 hbox hb; replace BK101 := Ak (hbox); replace GW101 := Ak ((by rw [hg]; exact (below_size bl_) : w.heap.size ≤ gb101)); replace GE101 := Ak ((by rw [hg]; exact (below_size bl_) : w.heap.size ≤ gb101)); replace HB := Ak (below_step bl_ hb); clear hb hbox hg; have hcz2_0 : w1.cell? ⟨gb101, 0, none⟩ = some (.int .i64 0) := (blk_cell BK101.out 0).trans rfl; have hcz2_1 : w1.cell? ⟨gb101, 1, none⟩ = some (.int .i64 0) := (blk_cell BK101.out 1).trans rfl; have hcz2_2 : w1.cell? ⟨gb101, 2, none⟩ = some (.int .i64 0) := (blk_cell BK101.out 2).trans rfl; have hcz2_3 : w1.cell? ⟨gb101, 3, none⟩ = some (.int .i64 0) := (blk_cell BK101.out 3).trans rfl; have hcz2_4 : w1.cell? ⟨gb101, 4, none⟩ = some (.int .i64 0) := (blk_cell BK101.out 4).trans rfl; have hfz2_0 := blk_frozen BK101.out 0; have hfz2_1 := blk_frozen BK101.out 1; have hfz2_2 := blk_frozen BK101.out 2; have hfz2_3 := blk_frozen BK101.out 3; have hfz2_4 := blk_frozen BK101.out 4))
  refine bodyPost_ret (results_cell_row rfl _ _ gb101 148 #[.int .i64 257, .int .i64 8, .int .i64 4, .int .i64 5, .int .i64 3] (0, 0) _ rfl (by (with_reducible repeat (fail)); refine blk_put (cs := #[.int .i64 257, .int .i64 8, .int .i64 4, .int .i64 5, .int .i64 0]) ?_ 4 _ rfl; (with_reducible repeat (fail)); refine blk_put (cs := #[.int .i64 257, .int .i64 8, .int .i64 4, .int .i64 0, .int .i64 0]) ?_ 3 _ rfl; (with_reducible repeat (fail)); refine blk_put (cs := #[.int .i64 257, .int .i64 8, .int .i64 0, .int .i64 0, .int .i64 0]) ?_ 2 _ rfl; (with_reducible repeat (fail)); refine blk_put (cs := #[.int .i64 257, .int .i64 0, .int .i64 0, .int .i64 0, .int .i64 0]) ?_ 1 _ rfl; (with_reducible repeat (fail)); refine blk_put (cs := #[.int .i64 0, .int .i64 0, .int .i64 0, .int .i64 0, .int .i64 0]) ?_ 0 _ rfl; (with_reducible repeat (fail)); exact BK101.out) Tryz.underlying148 rfl (by kernel_rfl)) rfl ?_; exact ⟨by rfl, by repeat ((with_reducible first | exact HB.out | refine below_set ?_ GE101.out))⟩

def symbol_kind_top.f (a0_0 : Int) (a0_1 : Int) (a0_2 : Int) (a0_3 : Int) (a0_4 : Int) (a1 : Int) : Option (Bool) := (symbol_lens.f).bind fun bt103 => (if (a0_0 == bt103.1 && (a0_1 == bt103.2.1 && (a0_2 == bt103.2.2.1 && (a0_3 == bt103.2.2.2.1 && (a0_4 == bt103.2.2.2.2))))) = true then (some (a1 == 285)) else (some false))
def symbol_kind_top.T1 : Bool × List (List Nat × List Nat) := (true, [([], []), ([], []), ([0, 1], [0, 1]), ([2, 1], [2]), ([3], [3]), ([4, 3], [3, 4]), ([3, 5], [3, 5]), ([6, 3, 0, 1, 2, 3, 4, 5, 6], [6])])
def symbol_kind_top.B1 : List Nat := [0, 0, 3, 7, 15, 31, 63, 127]
theorem symbol_kind_top.tab1 : rtab .any (opsOf Tryz.f91 1) = symbol_kind_top.T1 := by kernel_rfl
theorem symbol_kind_top.bits1 : waitsOk symbol_kind_top.T1.2 symbol_kind_top.B1 = true := by kernel_rfl
theorem symbol_kind_top.calls (a0_0 : Int) (a0_1 : Int) (a0_2 : Int) (a0_3 : Int) (a0_4 : Int) (a1 : Int) (r : Bool) (w : World) (h : symbol_kind_top.f a0_0 a0_1 a0_2 a0_3 a0_4 a1 = some r) :
    Calls Tryz.prog 91 #[.agg #[.int .i64 a0_0, .int .i64 a0_1, .int .i64 a0_2, .int .i64 a0_3, .int .i64 a0_4], .int .i64 a1] w fun e w' => e = .returned (.bool r) ∧ Below w.heap.size w w' := by
  have hu148 := Tryz.underlying148; have HB := Ak (Below.refl w.heap.size w); have H : ((symbol_lens.f).bind fun bt103 => (if (a0_0 == bt103.1 && (a0_1 == bt103.2.1 && (a0_2 == bt103.2.2.1 && (a0_3 == bt103.2.2.2.1 && (a0_4 == bt103.2.2.2.2))))) = true then (some (a1 == 285)) else (some false))) = some r := h; clear h; replace H := Option.bind_eq_some_iff.mp H; obtain ⟨⟨t103, t104, t105, t106, t107⟩, A30, H⟩ := H; replace H : (if (a0_0 == t103 && (a0_1 == t104 && (a0_2 == t105 && (a0_3 == t106 && (a0_4 == t107))))) = true then (some (a1 == 285)) else (some false)) = some r := H; have A3 := Ak A30; clear A30
  by_cases c4 : (a0_0 == t103 && (a0_1 == t104 && (a0_2 == t105 && (a0_3 == t106 && (a0_4 == t107))))) = true
  · rw [if_pos c4] at H; have c4b0 : (a0_0 == t103 && (a0_1 == t104 && (a0_2 == t105 && (a0_3 == t106 && (a0_4 == t107))))) = true := c4
    (try (have c4b1 : decide (a0_0 = t103 && (a0_1 == t104 && (a0_2 == t105 && (a0_3 == t106 && (a0_4 == t107))))) = true := by simpa using c4))
    (try (have c4b2 : (a0_0 == t103 && (a0_1 == t104 && (a0_2 == t105 && (a0_3 == t106 && (a0_4 == t107))))) = true := by simpa using c4))
    clear c4; obtain rfl := Option.some.inj H; go_enter Tryz.func91, Tryz.ntmps91
    try go_wp2_with (((with_reducible refine gate_dst (N := 2) rfl ?_); refine box_event ?hg (N := 2) ?hd (cs := #[.int .i64 a0_0, .int .i64 a0_1, .int .i64 a0_2, .int .i64 a0_3, .int .i64 a0_4]) (t := 148) ?hr ?_; (case hd => rfl); (case hg => rfl); (case hr => (go_simp; done)); intro gb102 hg w5 hbox hb; replace BK102 := Ak (hbox); replace GW102 := Ak ((by rw [hg]; exact (below_size bl_) : w.heap.size ≤ gb102)); replace GE102 := Ak ((by rw [hg]; exact (below_size bl_) : w.heap.size ≤ gb102)); replace HB := Ak (below_step bl_ hb); clear hb hbox hg))
    replace BK102 := Ak (blk_drew BK102.out); replace HB := Ak (below_drew1 HB.out); refine start_ (n := 8) (S := fun w' => w'.cell? ⟨gb102, 0, none⟩ = some (.int .i64 a0_0) ∧ w'.cell? ⟨gb102, 1, none⟩ = some (.int .i64 a0_1) ∧ w'.cell? ⟨gb102, 2, none⟩ = some (.int .i64 a0_2) ∧ w'.cell? ⟨gb102, 3, none⟩ = some (.int .i64 a0_3) ∧ w'.cell? ⟨gb102, 4, none⟩ = some (.int .i64 a0_4)) (ds := []) #[false, false, false, false, false, false, false, false] (by kernel_rfl) rfl rfl ⟨(blk_cell BK102.out 0).trans rfl, (blk_cell BK102.out 1).trans rfl, (blk_cell BK102.out 2).trans rfl, (blk_cell BK102.out 3).trans rfl, (blk_cell BK102.out 4).trans rfl⟩ (fun hHeld => ?_); refine with_tabW symbol_kind_top.tab1 symbol_kind_top.bits1 (fun HT_ HW_ => ?_); generalize w5.drew = w6 at BK102 HB hHeld ⊢; refine take_ (i := 0) (N := some 5) (v := ?_) (a' := ?_) #[true, false, false, false, false, false, false, false] rfl rfl (take_ofW HT_.out HW_.out (by kernel_rfl)) (fun _ _ _ h => h) (Or.inl ⟨by rfl, ?_⟩) hHeld ?_ ?_; rotate_left
    · rintro w' ⟨s0, s1, s2, s3, s4⟩
      go_simp
      with_reducible rfl
    rotate_left
    · simp only [Act.put, List.setIfInBounds_toArray, List.set_cons_zero, List.set_cons_succ, i64_w, i32_w, u8_w]
      rfl
    refine one_ (i := 1) (N := some 6) #[true, true, false, false, false, false, false, false] rfl rfl (one_of HT_.out (by kernel_rfl)) (by decide) (fun K hK => ?_); refine goes_ Tryz.func83 (by kernel_rfl) rfl #[] (by rfl) rfl rfl (by (try simp only [List.map_toArray, List.map_cons, List.map_nil]); done) ?_
    with_reducible refine (symbol_lens.calls  t103 t104 t105 t106 t107 _ A3.out).mono ?_
    rintro e w7 ⟨rfl, hb⟩; refine ⟨_, rfl, ?_⟩; replace BK102 := Ak (blk_below (g := gb102) (o := .cells #[.int .i64 a0_0, .int .i64 a0_1, .int .i64 a0_2, .int .i64 a0_3, .int .i64 a0_4] 148 (0, 0)) (by (with_reducible repeat (fail)); exact BK102.out) hb); replace HB := Ak (below_step (by repeat ((with_reducible exact HB.out))) hb)
    clear hb
    refine hK.out _ _ ⟨(blk_cell BK102.out 0).trans rfl, (blk_cell BK102.out 1).trans rfl, (blk_cell BK102.out 2).trans rfl, (blk_cell BK102.out 3).trans rfl, (blk_cell BK102.out 4).trans rfl⟩ (fun hHeld => ?_); clear hK K; refine nq 6 ?_; refine pure_ (i := 2) (N := some 7) (v := ?_) (a' := ?_) #[true, true, true, false, false, false, false, false] rfl rfl (any_of HT_.out (by kernel_rfl)) (fun _ _ _ h => h) (Or.inl ⟨by rfl, ?_⟩) ?_ ?_; rotate_left
    · intro w'
      go_simp
      with_reducible rfl
    rotate_left
    · simp only [Act.put, List.setIfInBounds_toArray, List.set_cons_zero, List.set_cons_succ, i64_w, i32_w, u8_w]
      rfl
    refine pure_ (i := 3) (N := some 8) (v := ?_) (a' := ?_) #[true, true, true, true, false, false, false, false] rfl rfl (any_of HT_.out (by kernel_rfl)) (fun _ _ _ h => h) (Or.inl ⟨by rfl, ?_⟩) ?_ ?_; rotate_left
    · intro w'
      go_simp
      with_reducible rfl
    rotate_left
    · simp only [Act.put, List.setIfInBounds_toArray, List.set_cons_zero, List.set_cons_succ, i64_w, i32_w, u8_w]
      rfl
    refine pure_ (i := 4) (N := some 9) (v := ?_) (a' := ?_) #[true, true, true, true, true, false, false, false] rfl rfl (any_of HT_.out (by kernel_rfl)) (fun _ _ _ h => h) (Or.inl ⟨by rfl, ?_⟩) ?_ ?_; rotate_left
    · intro w'
      go_simp
      with_reducible rfl
    rotate_left
    · simp only [Act.put, List.setIfInBounds_toArray, List.set_cons_zero, List.set_cons_succ, i64_w, i32_w, u8_w]
      rfl
    refine pure_ (i := 5) (N := some 10) (v := ?_) (a' := ?_) #[true, true, true, true, true, true, false, false] rfl rfl (any_of HT_.out (by kernel_rfl)) (fun _ _ _ h => h) (Or.inl ⟨by rfl, ?_⟩) ?_ ?_; rotate_left
    · intro w'
      go_simp
      with_reducible rfl
    rotate_left
    · simp only [Act.put, List.setIfInBounds_toArray, List.set_cons_zero, List.set_cons_succ, i64_w, i32_w, u8_w]
      rfl
    refine pure_ (i := 6) (N := some 11) (v := ?_) (a' := ?_) #[true, true, true, true, true, true, true, false] rfl rfl (any_of HT_.out (by kernel_rfl)) (fun _ _ _ h => h) (Or.inl ⟨by rfl, ?_⟩) ?_ ?_; rotate_left
    · intro w'
      go_simp
      with_reducible rfl
    rotate_left
    · simp only [Act.put, List.setIfInBounds_toArray, List.set_cons_zero, List.set_cons_succ, i64_w, i32_w, u8_w]
      rfl
    refine pure_ (i := 7) (N := some 4) (v := ?_) (a' := ?_) #[true, true, true, true, true, true, true, true] rfl rfl (any_of HT_.out (by kernel_rfl)) (fun _ _ _ h => h) (Or.inl ⟨by rfl, ?_⟩) ?_ ?_; rotate_left
    · intro w'
      go_simp
      with_reducible rfl
    rotate_left
    · simp only [Act.put, List.setIfInBounds_toArray, List.set_cons_zero, List.set_cons_succ, i64_w, i32_w, u8_w]
      rfl
    refine done_ (done_of HT_.out (by kernel_rfl)) ?_
    try go_wp2
    go_ret; exact ⟨by rfl, by repeat ((with_reducible exact HB.out))⟩
  rw [if_neg c4] at H
  have c4b0 : (a0_0 == t103 && (a0_1 == t104 && (a0_2 == t105 && (a0_3 == t106 && (a0_4 == t107))))) = false := by simpa using c4
  (try (have c4b1 : decide (a0_0 = t103 && (a0_1 == t104 && (a0_2 == t105 && (a0_3 == t106 && (a0_4 == t107))))) = false := by simpa using c4))
  (try (have c4b2 : (a0_0 == t103 && (a0_1 == t104 && (a0_2 == t105 && (a0_3 == t106 && (a0_4 == t107))))) = false := by simpa using c4))
  (try (have c4b3 : ¬ (a0_0 = t103 && (a0_1 == t104 && (a0_2 == t105 && (a0_3 == t106 && (a0_4 == t107))))) := by simpa using c4))
  clear c4; obtain rfl := Option.some.inj H; go_enter Tryz.func91, Tryz.ntmps91
  try go_wp2_with (((with_reducible refine gate_dst (N := 2) rfl ?_); refine box_event ?hg (N := 2) ?hd (cs := #[.int .i64 a0_0, .int .i64 a0_1, .int .i64 a0_2, .int .i64 a0_3, .int .i64 a0_4]) (t := 148) ?hr ?_; (case hd => rfl); (case hg => rfl); (case hr => (go_simp; done)); intro gb102 hg w8 hbox hb; replace BK102 := Ak (hbox); replace GW102 := Ak ((by rw [hg]; exact (below_size bl_) : w.heap.size ≤ gb102)); replace GE102 := Ak ((by rw [hg]; exact (below_size bl_) : w.heap.size ≤ gb102)); replace HB := Ak (below_step bl_ hb); clear hb hbox hg))
  replace BK102 := Ak (blk_drew BK102.out); replace HB := Ak (below_drew1 HB.out); refine start_ (n := 8) (S := fun w' => w'.cell? ⟨gb102, 0, none⟩ = some (.int .i64 a0_0) ∧ w'.cell? ⟨gb102, 1, none⟩ = some (.int .i64 a0_1) ∧ w'.cell? ⟨gb102, 2, none⟩ = some (.int .i64 a0_2) ∧ w'.cell? ⟨gb102, 3, none⟩ = some (.int .i64 a0_3) ∧ w'.cell? ⟨gb102, 4, none⟩ = some (.int .i64 a0_4)) (ds := []) #[false, false, false, false, false, false, false, false] (by kernel_rfl) rfl rfl ⟨(blk_cell BK102.out 0).trans rfl, (blk_cell BK102.out 1).trans rfl, (blk_cell BK102.out 2).trans rfl, (blk_cell BK102.out 3).trans rfl, (blk_cell BK102.out 4).trans rfl⟩ (fun hHeld => ?_); refine with_tabW symbol_kind_top.tab1 symbol_kind_top.bits1 (fun HT_ HW_ => ?_); generalize w8.drew = w9 at BK102 HB hHeld ⊢; refine take_ (i := 0) (N := some 5) (v := ?_) (a' := ?_) #[true, false, false, false, false, false, false, false] rfl rfl (take_ofW HT_.out HW_.out (by kernel_rfl)) (fun _ _ _ h => h) (Or.inl ⟨by rfl, ?_⟩) hHeld ?_ ?_; rotate_left
  · rintro w' ⟨s0, s1, s2, s3, s4⟩
    go_simp
    with_reducible rfl
  rotate_left
  · simp only [Act.put, List.setIfInBounds_toArray, List.set_cons_zero, List.set_cons_succ, i64_w, i32_w, u8_w]
    rfl
  refine one_ (i := 1) (N := some 6) #[true, true, false, false, false, false, false, false] rfl rfl (one_of HT_.out (by kernel_rfl)) (by decide) (fun K hK => ?_); refine goes_ Tryz.func83 (by kernel_rfl) rfl #[] (by rfl) rfl rfl (by (try simp only [List.map_toArray, List.map_cons, List.map_nil]); done) ?_
  with_reducible refine (symbol_lens.calls  t103 t104 t105 t106 t107 _ A3.out).mono ?_
  rintro e w10 ⟨rfl, hb⟩; refine ⟨_, rfl, ?_⟩; replace BK102 := Ak (blk_below (g := gb102) (o := .cells #[.int .i64 a0_0, .int .i64 a0_1, .int .i64 a0_2, .int .i64 a0_3, .int .i64 a0_4] 148 (0, 0)) (by (with_reducible repeat (fail)); exact BK102.out) hb); replace HB := Ak (below_step (by repeat ((with_reducible exact HB.out))) hb)
  clear hb
  refine hK.out _ _ ⟨(blk_cell BK102.out 0).trans rfl, (blk_cell BK102.out 1).trans rfl, (blk_cell BK102.out 2).trans rfl, (blk_cell BK102.out 3).trans rfl, (blk_cell BK102.out 4).trans rfl⟩ (fun hHeld => ?_); clear hK K; refine nq 6 ?_; refine pure_ (i := 2) (N := some 7) (v := ?_) (a' := ?_) #[true, true, true, false, false, false, false, false] rfl rfl (any_of HT_.out (by kernel_rfl)) (fun _ _ _ h => h) (Or.inl ⟨by rfl, ?_⟩) ?_ ?_; rotate_left
  · intro w'
    go_simp
    with_reducible rfl
  rotate_left
  · simp only [Act.put, List.setIfInBounds_toArray, List.set_cons_zero, List.set_cons_succ, i64_w, i32_w, u8_w]
    rfl
  refine pure_ (i := 3) (N := some 8) (v := ?_) (a' := ?_) #[true, true, true, true, false, false, false, false] rfl rfl (any_of HT_.out (by kernel_rfl)) (fun _ _ _ h => h) (Or.inl ⟨by rfl, ?_⟩) ?_ ?_; rotate_left
  · intro w'
    go_simp
    with_reducible rfl
  rotate_left
  · simp only [Act.put, List.setIfInBounds_toArray, List.set_cons_zero, List.set_cons_succ, i64_w, i32_w, u8_w]
    rfl
  refine pure_ (i := 4) (N := some 9) (v := undef) (a' := ?_) #[true, true, true, true, true, false, false, false] rfl rfl (any_of HT_.out (by kernel_rfl)) (fun _ _ _ h => h) (Or.inr ⟨by rfl, rfl⟩) ?_ ?_; rotate_left
  · simp only [Act.put, List.setIfInBounds_toArray, List.set_cons_zero, List.set_cons_succ, i64_w, i32_w, u8_w]
    rfl
  refine pure_ (i := 5) (N := some 10) (v := undef) (a' := ?_) #[true, true, true, true, true, true, false, false] rfl rfl (any_of HT_.out (by kernel_rfl)) (fun _ _ _ h => h) (Or.inr ⟨by rfl, rfl⟩) ?_ ?_; rotate_left
  · simp only [Act.put, List.setIfInBounds_toArray, List.set_cons_zero, List.set_cons_succ, i64_w, i32_w, u8_w]
    rfl
  refine pure_ (i := 6) (N := some 11) (v := ?_) (a' := ?_) #[true, true, true, true, true, true, true, false] rfl rfl (any_of HT_.out (by kernel_rfl)) (fun _ _ _ h => h) (Or.inl ⟨by rfl, ?_⟩) ?_ ?_; rotate_left
  · intro w'
    go_simp
    with_reducible rfl
  rotate_left
  · simp only [Act.put, List.setIfInBounds_toArray, List.set_cons_zero, List.set_cons_succ, i64_w, i32_w, u8_w]
    rfl
  refine pure_ (i := 7) (N := some 4) (v := ?_) (a' := ?_) #[true, true, true, true, true, true, true, true] rfl rfl (any_of HT_.out (by kernel_rfl)) (fun _ _ _ h => h) (Or.inl ⟨by rfl, ?_⟩) ?_ ?_; rotate_left
  · intro w'
    go_simp
    with_reducible rfl
  rotate_left
  · simp only [Act.put, List.setIfInBounds_toArray, List.set_cons_zero, List.set_cons_succ, i64_w, i32_w, u8_w]
    rfl
  refine done_ (done_of HT_.out (by kernel_rfl)) ?_
  try go_wp2
  go_ret; exact ⟨by rfl, by repeat ((with_reducible exact HB.out))⟩

mutual
def symbol_kind_place.j0 : Nat → Int → Bool → Int → Int → Int → Int → Int → Option (Int × Int × Bool)
  | 0, _, _, _, _, _, _, _ => none
  | k + 1, x7, x30, x109000, x109001, x109002, x109003, x109004 => if x30 = true then (some (0, 0, false)) else (if x7 < x109001 then (some (0, wrap64 (x109004 + x7), true)) else (if x109002 = 0 then (none) else (symbol_kind_place.l0 k (wrap64 (x7 - x109001)) (wrap64 (1 + (wrap64 (Int.tdiv (wrap64 (x7 - x109001)) x109002)))) (wrap64 (x109004 + x109001)) (wrap64 ((wrap64 (1 + (wrap64 (Int.tdiv (wrap64 (x7 - x109001)) x109002)))) - 1)) 0 x109000 x109001 x109002 x109003 x109004)))
def symbol_kind_place.l0 : Nat → Int → Int → Int → Int → Int → Int → Int → Int → Int → Int → Option (Int × Int × Bool)
  | 0, _, _, _, _, _, _, _, _, _, _ => none
  | k + 1, x7, x8, x9, x54, x55, x109000, x109001, x109002, x109003, x109004 => if x55 < x54 then (if 0 ≤ (wrap64 (x55 + 1)) then (symbol_kind_place.l0 k x7 x8 (wrap64 (x9 + (shl .i64 x109002 (wrap64 (x55 + 1))))) x54 (wrap64 (x55 + 1)) x109000 x109001 x109002 x109003 x109004) else (none)) else (if x109002 = 0 then (none) else (if 0 ≤ x8 then (some (x8, wrap64 (x9 + (shl .i64 (Int.tmod x7 x109002) x8)), true)) else (none)))
end
def symbol_kind_place.f (k : Nat) (a0_0 : Int) (a0_1 : Int) (a0_2 : Int) (a0_3 : Int) (a0_4 : Int) (a1 : Int) : Option (Int × Int × Bool) := if a1 < a0_0 then (symbol_kind_place.j0 k (wrap64 (a1 - a0_0)) true a0_0 a0_1 a0_2 a0_3 a0_4) else (symbol_kind_place.j0 k (wrap64 (a1 - a0_0)) (decide ((wrap64 (a1 - a0_0)) ≥ (wrap64 (a0_1 + (wrap64 (a0_2 * a0_3)))))) a0_0 a0_1 a0_2 a0_3 a0_4)
theorem symbol_kind_place.calls (k : Nat) (a0_0 : Int) (a0_1 : Int) (a0_2 : Int) (a0_3 : Int) (a0_4 : Int) (a1 : Int) (r1 : Int) (r2 : Int) (r3 : Bool) (w : World) (h : symbol_kind_place.f k a0_0 a0_1 a0_2 a0_3 a0_4 a1 = some (r1, r2, r3)) :
    Calls Tryz.prog 92 #[.agg #[.int .i64 a0_0, .int .i64 a0_1, .int .i64 a0_2, .int .i64 a0_3, .int .i64 a0_4], .int .i64 a1] w fun e w' => e = .returned (.tuple #[.int .i64 r1, .int .i64 r2, .bool r3]) ∧ Below w.heap.size w w' := by
  have hu148 := Tryz.underlying148; have HB := Ak (Below.refl w.heap.size w); have H : (if a1 < a0_0 then (symbol_kind_place.j0 k (wrap64 (a1 - a0_0)) true a0_0 a0_1 a0_2 a0_3 a0_4) else (symbol_kind_place.j0 k (wrap64 (a1 - a0_0)) (decide ((wrap64 (a1 - a0_0)) ≥ (wrap64 (a0_1 + (wrap64 (a0_2 * a0_3)))))) a0_0 a0_1 a0_2 a0_3 a0_4)) = some (r1, r2, r3) := h; clear h; have HC3 := Ak H; clear H; go_enter Tryz.func92, Tryz.ntmps92
  go_upto_region 2 with (((with_reducible refine gate_dst (N := 2) rfl ?_); refine box_event ?hg (N := 2) ?hd (cs := #[.int .i64 a0_0, .int .i64 a0_1, .int .i64 a0_2, .int .i64 a0_3, .int .i64 a0_4]) (t := 148) ?hr ?_; (case hd => rfl); (case hg => rfl); (case hr => (go_simp; done)); intro gb108 hg w4 hbox hb; replace BK108 := Ak (hbox); replace GW108 := Ak ((by rw [hg]; exact (below_size bl_) : w.heap.size ≤ gb108)); replace GE108 := Ak ((by rw [hg]; exact (below_size bl_) : w.heap.size ≤ gb108)); replace HB := Ak (below_step bl_ hb); clear hb hbox hg; have hcz5_0 : w4.cell? ⟨gb108, 0, none⟩ = some (.int .i64 a0_0) := (blk_cell BK108.out 0).trans rfl; have hcz5_1 : w4.cell? ⟨gb108, 1, none⟩ = some (.int .i64 a0_1) := (blk_cell BK108.out 1).trans rfl; have hcz5_2 : w4.cell? ⟨gb108, 2, none⟩ = some (.int .i64 a0_2) := (blk_cell BK108.out 2).trans rfl; have hcz5_3 : w4.cell? ⟨gb108, 3, none⟩ = some (.int .i64 a0_3) := (blk_cell BK108.out 3).trans rfl; have hcz5_4 : w4.cell? ⟨gb108, 4, none⟩ = some (.int .i64 a0_4) := (blk_cell BK108.out 4).trans rfl; have hfz5_0 := blk_frozen BK108.out 0; have hfz5_1 := blk_frozen BK108.out 1; have hfz5_2 := blk_frozen BK108.out 2; have hfz5_3 := blk_frozen BK108.out 3; have hfz5_4 := blk_frozen BK108.out 4))
  repeat (go_quiet (fail); go_upto_region 2 with (fail))
  go_cut [30] (fun v30 wc => ∃ (kq : Nat) (x30_2 : Bool), v30 = .bool x30_2 ∧ Aside0 (symbol_kind_place.j0 kq (wrap64 (a1 - a0_0)) x30_2 a0_0 a0_1 a0_2 a0_3 a0_4 = some (r1, r2, r3)) ∧ Aside0 (kq ≤ k) ∧ Aside0 (wc.heap[gb108]? = some (.cells #[.int .i64 a0_0, .int .i64 a0_1, .int .i64 a0_2, .int .i64 a0_3, .int .i64 a0_4] 148 (0, 0))) ∧ Aside0 (Below w.heap.size w wc))
  case first =>
    have H := HC3.out; clear HC3
    by_cases c6 : a1 < a0_0
    · rw [if_pos c6] at H; have c6b0 : decide (a1 < a0_0) = true := decide_eq_true c6; clear c6
      have H' := Ak H; clear H; have hcz7_0 : w4.cell? ⟨gb108, 0, none⟩ = some (.int .i64 a0_0) := (blk_cell BK108.out 0).trans rfl; have hcz7_1 : w4.cell? ⟨gb108, 1, none⟩ = some (.int .i64 a0_1) := (blk_cell BK108.out 1).trans rfl; have hcz7_2 : w4.cell? ⟨gb108, 2, none⟩ = some (.int .i64 a0_2) := (blk_cell BK108.out 2).trans rfl; have hcz7_3 : w4.cell? ⟨gb108, 3, none⟩ = some (.int .i64 a0_3) := (blk_cell BK108.out 3).trans rfl; have hcz7_4 : w4.cell? ⟨gb108, 4, none⟩ = some (.int .i64 a0_4) := (blk_cell BK108.out 4).trans rfl; have hfz7_0 := blk_frozen BK108.out 0; have hfz7_1 := blk_frozen BK108.out 1; have hfz7_2 := blk_frozen BK108.out 2; have hfz7_3 := blk_frozen BK108.out 3; have hfz7_4 := blk_frozen BK108.out 4; go_wp2
      repeat (go_quiet (fail); try go_wp2)
      go_meet
      case rel => exact ⟨_, (true), (by rfl), H', ⟨by omega⟩, ⟨by (with_reducible repeat (fail)); exact BK108.out⟩, ⟨by repeat ((with_reducible exact HB.out))⟩⟩
    rw [if_neg c6] at H; have c6b0 : decide (a1 < a0_0) = false := decide_eq_false c6; clear c6
    have H' := Ak H; clear H; have hcz8_0 : w4.cell? ⟨gb108, 0, none⟩ = some (.int .i64 a0_0) := (blk_cell BK108.out 0).trans rfl; have hcz8_1 : w4.cell? ⟨gb108, 1, none⟩ = some (.int .i64 a0_1) := (blk_cell BK108.out 1).trans rfl; have hcz8_2 : w4.cell? ⟨gb108, 2, none⟩ = some (.int .i64 a0_2) := (blk_cell BK108.out 2).trans rfl; have hcz8_3 : w4.cell? ⟨gb108, 3, none⟩ = some (.int .i64 a0_3) := (blk_cell BK108.out 3).trans rfl; have hcz8_4 : w4.cell? ⟨gb108, 4, none⟩ = some (.int .i64 a0_4) := (blk_cell BK108.out 4).trans rfl; have hfz8_0 := blk_frozen BK108.out 0; have hfz8_1 := blk_frozen BK108.out 1; have hfz8_2 := blk_frozen BK108.out 2; have hfz8_3 := blk_frozen BK108.out 3; have hfz8_4 := blk_frozen BK108.out 4; go_wp2
    repeat (go_quiet (fail); try go_wp2)
    go_meet
    case rel => exact ⟨_, (decide ((wrap64 (a1 - a0_0)) ≥ (wrap64 (a0_1 + (wrap64 (a0_2 * a0_3)))))), (by rfl), H', ⟨by omega⟩, ⟨by (with_reducible repeat (fail)); exact BK108.out⟩, ⟨by repeat ((with_reducible exact HB.out))⟩⟩
  case rest =>
    clear HC3
    clear hcz5_0 hcz5_1 hcz5_2 hcz5_3 hcz5_4 hfz5_0 hfz5_1 hfz5_2 hfz5_3 hfz5_4
    obtain ⟨kq, x30_2, rfl, HA, HJ2, BK108, HB⟩ := hcut
    cases kq with
    | zero => exact absurd HA.out (by simp [symbol_kind_place.j0])
    | succ kj2 => ?_
    have H := HA.out; clear HA; simp only [symbol_kind_place.j0] at H
    by_cases c9 : x30_2 = true
    · subst c9
      have H1 : (some (0, 0, false)) = some (r1, r2, r3) := by rw [if_pos rfl] at H; exact H
      clear H; have H := H1; clear H1; simp only [Option.some.injEq, Prod.mk.injEq] at H; obtain ⟨rfl, rfl, rfl⟩ := H; go_wp2
      repeat (go_quiet (fail); try go_wp2)
      go_ret3; exact ⟨by rfl, by repeat ((with_reducible exact HB.out))⟩
    replace c9 := Bool.eq_false_iff.mpr c9; subst c9
    have H1 : (if (wrap64 (a1 - a0_0)) < a0_1 then (some (0, wrap64 (a0_4 + (wrap64 (a1 - a0_0))), true)) else (if a0_2 = 0 then (none) else (symbol_kind_place.l0 kj2 (wrap64 ((wrap64 (a1 - a0_0)) - a0_1)) (wrap64 (1 + (wrap64 (Int.tdiv (wrap64 ((wrap64 (a1 - a0_0)) - a0_1)) a0_2)))) (wrap64 (a0_4 + a0_1)) (wrap64 ((wrap64 (1 + (wrap64 (Int.tdiv (wrap64 ((wrap64 (a1 - a0_0)) - a0_1)) a0_2)))) - 1)) 0 a0_0 a0_1 a0_2 a0_3 a0_4))) = some (r1, r2, r3) := by rw [if_neg (show ¬ (false = true) by decide)] at H; exact H
    clear H; have H := H1; clear H1
    by_cases c10 : (wrap64 (a1 - a0_0)) < a0_1
    · rw [if_pos c10] at H; have c10b0 : decide ((wrap64 (a1 - a0_0)) < a0_1) = true := decide_eq_true c10; clear c10; simp only [Option.some.injEq, Prod.mk.injEq] at H; obtain ⟨rfl, rfl, rfl⟩ := H; have hcz11_0 : wc.cell? ⟨gb108, 0, none⟩ = some (.int .i64 a0_0) := (blk_cell BK108.out 0).trans rfl; have hcz11_1 : wc.cell? ⟨gb108, 1, none⟩ = some (.int .i64 a0_1) := (blk_cell BK108.out 1).trans rfl; have hcz11_2 : wc.cell? ⟨gb108, 2, none⟩ = some (.int .i64 a0_2) := (blk_cell BK108.out 2).trans rfl; have hcz11_3 : wc.cell? ⟨gb108, 3, none⟩ = some (.int .i64 a0_3) := (blk_cell BK108.out 3).trans rfl; have hcz11_4 : wc.cell? ⟨gb108, 4, none⟩ = some (.int .i64 a0_4) := (blk_cell BK108.out 4).trans rfl; have hfz11_0 := blk_frozen BK108.out 0; have hfz11_1 := blk_frozen BK108.out 1; have hfz11_2 := blk_frozen BK108.out 2; have hfz11_3 := blk_frozen BK108.out 3; have hfz11_4 := blk_frozen BK108.out 4; go_wp2
      repeat (go_quiet (fail); try go_wp2)
      go_ret3; exact ⟨by rfl, by repeat ((with_reducible first | exact HB.out | apply pw_below_drewN))⟩
    rw [if_neg c10] at H; have c10b0 : decide ((wrap64 (a1 - a0_0)) < a0_1) = false := decide_eq_false c10; clear c10
    by_cases c12 : a0_2 = 0
    · rw [if_pos c12] at H; exact absurd H (by simp)
    rw [if_neg c12] at H; have c12b0 : (a0_2 == 0) = false := beq_eq_false_iff_ne.mpr c12; have c12b1 : (a0_2 != 0) = true := bne_iff_ne.mpr c12; have H' := Ak H; clear H; have hcz13_0 : wc.cell? ⟨gb108, 0, none⟩ = some (.int .i64 a0_0) := (blk_cell BK108.out 0).trans rfl; have hcz13_1 : wc.cell? ⟨gb108, 1, none⟩ = some (.int .i64 a0_1) := (blk_cell BK108.out 1).trans rfl; have hcz13_2 : wc.cell? ⟨gb108, 2, none⟩ = some (.int .i64 a0_2) := (blk_cell BK108.out 2).trans rfl; have hcz13_3 : wc.cell? ⟨gb108, 3, none⟩ = some (.int .i64 a0_3) := (blk_cell BK108.out 3).trans rfl; have hcz13_4 : wc.cell? ⟨gb108, 4, none⟩ = some (.int .i64 a0_4) := (blk_cell BK108.out 4).trans rfl; have hfz13_0 := blk_frozen BK108.out 0; have hfz13_1 := blk_frozen BK108.out 1; have hfz13_2 := blk_frozen BK108.out 2; have hfz13_3 := blk_frozen BK108.out 3; have hfz13_4 := blk_frozen BK108.out 4; go_wp2
    repeat (go_quiet (fail); try go_wp2)
    go_loopg [9, 55] kj2 (fun kq v9 v55 w' => ∃ (x9_2 : Int) (x55_2 : Int), v9 = .int .i64 x9_2 ∧ v55 = .int .i64 x55_2 ∧ Aside0 (symbol_kind_place.l0 kq (wrap64 ((wrap64 (a1 - a0_0)) - a0_1)) (wrap64 (1 + (wrap64 (Int.tdiv (wrap64 ((wrap64 (a1 - a0_0)) - a0_1)) a0_2)))) x9_2 (wrap64 ((wrap64 (1 + (wrap64 (Int.tdiv (wrap64 ((wrap64 (a1 - a0_0)) - a0_1)) a0_2)))) - 1)) x55_2 a0_0 a0_1 a0_2 a0_3 a0_4 = some (r1, r2, r3)) ∧ Aside0 (kq ≤ kj2) ∧ Aside0 (w'.heap[gb108]? = some (.cells #[.int .i64 a0_0, .int .i64 a0_1, .int .i64 a0_2, .int .i64 a0_3, .int .i64 a0_4] 148 (0, 0))) ∧ Aside0 (Below w.heap.size w w'))
    case atStart => exact ⟨(wrap64 (a0_4 + a0_1)), (0), (by rfl), (by rfl), H', ⟨Nat.le_refl _⟩, ⟨by (with_reducible repeat (refine blk_drewN ?_ _)); exact BK108.out⟩, ⟨by repeat ((with_reducible first | exact HB.out | apply pw_below_drewN))⟩⟩
    case round =>
      clear H'
      clear c10b0 c12 c12b0 c12b1 hcz13_0 hcz13_1 hcz13_2 hcz13_3 hcz13_4 hfz13_0 hfz13_1 hfz13_2 hfz13_3 hfz13_4
      obtain ⟨x9_2, x55_2, rfl, rfl, HA, HK2, BK108, HB⟩ := hrel
      cases gk with
      | zero => exact absurd HA.out (by simp [symbol_kind_place.l0])
      | succ k2 => ?_
      have H := HA.out; clear HA; simp only [symbol_kind_place.l0] at H
      by_cases c14 : x55_2 < (wrap64 ((wrap64 (1 + (wrap64 (Int.tdiv (wrap64 ((wrap64 (a1 - a0_0)) - a0_1)) a0_2)))) - 1))
      · rw [if_pos c14] at H; have c14b0 : decide (x55_2 < (wrap64 ((wrap64 (1 + (wrap64 (Int.tdiv (wrap64 ((wrap64 (a1 - a0_0)) - a0_1)) a0_2)))) - 1))) = true := decide_eq_true c14; clear c14; obtain ⟨ji15, hji15⟩ : ∃ j_ : Int, (wrap64 (x55_2 + 1)) = j_ := ⟨_, rfl⟩
        replace H : (if 0 ≤ (ji15) then (symbol_kind_place.l0 k2 (wrap64 ((wrap64 (a1 - a0_0)) - a0_1)) (wrap64 (1 + (wrap64 (Int.tdiv (wrap64 ((wrap64 (a1 - a0_0)) - a0_1)) a0_2)))) (wrap64 (x9_2 + (shl .i64 a0_2 (ji15)))) (wrap64 ((wrap64 (1 + (wrap64 (Int.tdiv (wrap64 ((wrap64 (a1 - a0_0)) - a0_1)) a0_2)))) - 1)) ji15 a0_0 a0_1 a0_2 a0_3 a0_4) else (none)) = some (r1, r2, r3) := by (rw [hji15] at H; exact H)
        have hji15w : (IntKind.i64.wrap (x55_2 + 1)) = ji15 := (i64_w _).trans hji15
        by_cases c16 : 0 ≤ (ji15)
        rotate_left
        · rw [if_neg c16] at H; exact absurd H (by simp)
        rw [if_pos c16] at H; have c16b0 := eq_true c16; have c16b1 : decide (0 ≤ (ji15)) = true := decide_eq_true c16; clear c16; obtain ⟨ji17, hji17⟩ : ∃ j_ : Int, (shl .i64 a0_2 (ji15)) = j_ := ⟨_, rfl⟩
        replace H : (symbol_kind_place.l0 k2 (wrap64 ((wrap64 (a1 - a0_0)) - a0_1)) (wrap64 (1 + (wrap64 (Int.tdiv (wrap64 ((wrap64 (a1 - a0_0)) - a0_1)) a0_2)))) (wrap64 (x9_2 + (ji17))) (wrap64 ((wrap64 (1 + (wrap64 (Int.tdiv (wrap64 ((wrap64 (a1 - a0_0)) - a0_1)) a0_2)))) - 1)) ji15 a0_0 a0_1 a0_2 a0_3 a0_4) = some (r1, r2, r3) := by (rw [hji17] at H; exact H)
        have hji17_ : (IntKind.i64.wrap (a0_2 * 2 ^ min (ji15).toNat 64)) = ji17 := hji17; have hji17z : (ji15) ≤ 64 → (IntKind.i64.wrap (a0_2 * 2 ^ (ji15).toNat)) = ji17 := shl_small hji17; have hji17y : (wrap64 (a0_2 * 2 ^ min (ji15).toNat 64)) = ji17 := (i64_w _).symm.trans hji17_; have hji17x : (ji15) ≤ 64 → (wrap64 (a0_2 * 2 ^ (ji15).toNat)) = ji17 := fun h_ => (i64_w _).symm.trans (hji17z h_); have H' := Ak H; clear H; have hcz18_0 : wr.cell? ⟨gb108, 0, none⟩ = some (.int .i64 a0_0) := (blk_cell BK108.out 0).trans rfl; have hcz18_1 : wr.cell? ⟨gb108, 1, none⟩ = some (.int .i64 a0_1) := (blk_cell BK108.out 1).trans rfl; have hcz18_2 : wr.cell? ⟨gb108, 2, none⟩ = some (.int .i64 a0_2) := (blk_cell BK108.out 2).trans rfl; have hcz18_3 : wr.cell? ⟨gb108, 3, none⟩ = some (.int .i64 a0_3) := (blk_cell BK108.out 3).trans rfl; have hcz18_4 : wr.cell? ⟨gb108, 4, none⟩ = some (.int .i64 a0_4) := (blk_cell BK108.out 4).trans rfl; have hfz18_0 := blk_frozen BK108.out 0; have hfz18_1 := blk_frozen BK108.out 1; have hfz18_2 := blk_frozen BK108.out 2; have hfz18_3 := blk_frozen BK108.out 3; have hfz18_4 := blk_frozen BK108.out 4; go_wp2
        repeat (go_quiet (fail); try go_wp2)
        go_roundg k2
        case measure => have := HJ2.out; have := HK2.out; omega
        case rel => exact ⟨(wrap64 (x9_2 + (ji17))), (ji15), (by rfl), (by rfl), H', ⟨by have := HJ2.out; have := HK2.out; omega⟩, ⟨by (with_reducible repeat (fail)); exact BK108.out⟩, ⟨by repeat ((with_reducible exact HB.out))⟩⟩
      rw [if_neg c14] at H; have c14b0 : decide (x55_2 < (wrap64 ((wrap64 (1 + (wrap64 (Int.tdiv (wrap64 ((wrap64 (a1 - a0_0)) - a0_1)) a0_2)))) - 1))) = false := decide_eq_false c14; clear c14
      by_cases c19 : a0_2 = 0
      · rw [if_pos c19] at H; exact absurd H (by simp)
      rw [if_neg c19] at H; have c19b0 : (a0_2 == 0) = false := beq_eq_false_iff_ne.mpr c19; have c19b1 : (a0_2 != 0) = true := bne_iff_ne.mpr c19; obtain ⟨ji20, hji20⟩ : ∃ j_ : Int, (wrap64 (1 + (wrap64 (Int.tdiv (wrap64 ((wrap64 (a1 - a0_0)) - a0_1)) a0_2)))) = j_ := ⟨_, rfl⟩
      replace H : (if 0 ≤ (ji20) then (some ((ji20), wrap64 (x9_2 + (shl .i64 (Int.tmod (wrap64 ((wrap64 (a1 - a0_0)) - a0_1)) a0_2) (ji20))), true)) else (none)) = some (r1, r2, r3) := by (rw [hji20] at H; exact H)
      (try rw [hji20] at c14b0)
      have hji20w : (IntKind.i64.wrap (1 + (wrap64 (Int.tdiv (wrap64 ((wrap64 (a1 - a0_0)) - a0_1)) a0_2)))) = ji20 := (i64_w _).trans hji20
      by_cases c21 : 0 ≤ (ji20)
      rotate_left
      · rw [if_neg c21] at H; exact absurd H (by simp)
      rw [if_pos c21] at H; have c21b0 := eq_true c21; have c21b1 : decide (0 ≤ (ji20)) = true := decide_eq_true c21; clear c21; obtain ⟨ji22, hji22⟩ : ∃ j_ : Int, (shl .i64 (Int.tmod (wrap64 ((wrap64 (a1 - a0_0)) - a0_1)) a0_2) (ji20)) = j_ := ⟨_, rfl⟩
      replace H : (some ((ji20), wrap64 (x9_2 + (ji22)), true)) = some (r1, r2, r3) := by (rw [hji22] at H; exact H)
      have hji22_ : (IntKind.i64.wrap ((Int.tmod (wrap64 ((wrap64 (a1 - a0_0)) - a0_1)) a0_2) * 2 ^ min (ji20).toNat 64)) = ji22 := hji22; have hji22z : (ji20) ≤ 64 → (IntKind.i64.wrap ((Int.tmod (wrap64 ((wrap64 (a1 - a0_0)) - a0_1)) a0_2) * 2 ^ (ji20).toNat)) = ji22 := shl_small hji22; have hji22y : (wrap64 ((Int.tmod (wrap64 ((wrap64 (a1 - a0_0)) - a0_1)) a0_2) * 2 ^ min (ji20).toNat 64)) = ji22 := (i64_w _).symm.trans hji22_; have hji22x : (ji20) ≤ 64 → (wrap64 ((Int.tmod (wrap64 ((wrap64 (a1 - a0_0)) - a0_1)) a0_2) * 2 ^ (ji20).toNat)) = ji22 := fun h_ => (i64_w _).symm.trans (hji22z h_); simp only [Option.some.injEq, Prod.mk.injEq] at H; obtain ⟨rfl, rfl, rfl⟩ := H; have hcz23_0 : wr.cell? ⟨gb108, 0, none⟩ = some (.int .i64 a0_0) := (blk_cell BK108.out 0).trans rfl; have hcz23_1 : wr.cell? ⟨gb108, 1, none⟩ = some (.int .i64 a0_1) := (blk_cell BK108.out 1).trans rfl; have hcz23_2 : wr.cell? ⟨gb108, 2, none⟩ = some (.int .i64 a0_2) := (blk_cell BK108.out 2).trans rfl; have hcz23_3 : wr.cell? ⟨gb108, 3, none⟩ = some (.int .i64 a0_3) := (blk_cell BK108.out 3).trans rfl; have hcz23_4 : wr.cell? ⟨gb108, 4, none⟩ = some (.int .i64 a0_4) := (blk_cell BK108.out 4).trans rfl; have hfz23_0 := blk_frozen BK108.out 0; have hfz23_1 := blk_frozen BK108.out 1; have hfz23_2 := blk_frozen BK108.out 2; have hfz23_3 := blk_frozen BK108.out 3; have hfz23_4 := blk_frozen BK108.out 4; go_wp2
      repeat (go_quiet (fail); try go_wp2)
      go_ret3; exact ⟨by (simp only [← hji20, ← hji22]; rfl), by repeat ((with_reducible first | exact HB.out | apply pw_below_drewN))⟩

def symbol_kind_bits.f (k : Nat) (a0_0 : Int) (a0_1 : Int) (a0_2 : Int) (a0_3 : Int) (a0_4 : Int) (a1 : Int) : Option (Int × Int) := (symbol_kind_top.f a0_0 a0_1 a0_2 a0_3 a0_4 a1).bind fun t110 => (if t110 = true then (some (0, 0)) else ((symbol_kind_place.f k a0_0 a0_1 a0_2 a0_3 a0_4 a1).bind fun bt111 => (if bt111.2.2 = true then (some (bt111.1, 0)) else (some (0, 13)))))
theorem symbol_kind_bits.calls (k : Nat) (a0_0 : Int) (a0_1 : Int) (a0_2 : Int) (a0_3 : Int) (a0_4 : Int) (a1 : Int) (r1 : Int) (r2 : Int) (w : World) (h : symbol_kind_bits.f k a0_0 a0_1 a0_2 a0_3 a0_4 a1 = some (r1, r2)) :
    Calls Tryz.prog 84 #[.agg #[.int .i64 a0_0, .int .i64 a0_1, .int .i64 a0_2, .int .i64 a0_3, .int .i64 a0_4], .int .i64 a1] w fun e w' => e = .returned (.tuple #[.int .i64 r1, .int .i64 r2]) ∧ Below w.heap.size w w' := by
  have hu148 := Tryz.underlying148; have HB := Ak (Below.refl w.heap.size w); have H : ((symbol_kind_top.f a0_0 a0_1 a0_2 a0_3 a0_4 a1).bind fun t110 => (if t110 = true then (some (0, 0)) else ((symbol_kind_place.f k a0_0 a0_1 a0_2 a0_3 a0_4 a1).bind fun bt111 => (if bt111.2.2 = true then (some (bt111.1, 0)) else (some (0, 13)))))) = some (r1, r2) := h; clear h; replace H := Option.bind_eq_some_iff.mp H; obtain ⟨t110, A30, H⟩ := H; replace H : (if t110 = true then (some (0, 0)) else ((symbol_kind_place.f k a0_0 a0_1 a0_2 a0_3 a0_4 a1).bind fun bt111 => (if bt111.2.2 = true then (some (bt111.1, 0)) else (some (0, 13))))) = some (r1, r2) := H; have A3 := Ak A30; clear A30
  by_cases c4 : t110 = true
  · subst c4
    have H1 : (some (0, 0)) = some (r1, r2) := by rw [if_pos rfl] at H; exact H
    clear H; have H := H1; clear H1; simp only [Option.some.injEq, Prod.mk.injEq] at H; obtain ⟨rfl, rfl⟩ := H; go_enter Tryz.func84, Tryz.ntmps84
    go_wp2_with (first | ((with_reducible refine gate_dst (N := 2) rfl ?_); refine box_event ?hg (N := 2) ?hd (cs := #[.int .i64 a0_0, .int .i64 a0_1, .int .i64 a0_2, .int .i64 a0_3, .int .i64 a0_4]) (t := 148) ?hr ?_; (case hd => rfl); (case hg => rfl); (case hr => (go_simp; done)); intro gb109 hg w5 hbox hb; replace BK109 := Ak (hbox); replace GW109 := Ak ((by rw [hg]; exact (below_size bl_) : w.heap.size ≤ gb109)); replace GE109 := Ak ((by rw [hg]; exact (below_size bl_) : w.heap.size ≤ gb109)); replace HB := Ak (below_step bl_ hb); clear hb hbox hg; have hcz6_0 : w5.cell? ⟨gb109, 0, none⟩ = some (.int .i64 a0_0) := (blk_cell BK109.out 0).trans rfl; have hcz6_1 : w5.cell? ⟨gb109, 1, none⟩ = some (.int .i64 a0_1) := (blk_cell BK109.out 1).trans rfl; have hcz6_2 : w5.cell? ⟨gb109, 2, none⟩ = some (.int .i64 a0_2) := (blk_cell BK109.out 2).trans rfl; have hcz6_3 : w5.cell? ⟨gb109, 3, none⟩ = some (.int .i64 a0_3) := (blk_cell BK109.out 3).trans rfl; have hcz6_4 : w5.cell? ⟨gb109, 4, none⟩ = some (.int .i64 a0_4) := (blk_cell BK109.out 4).trans rfl; have hfz6_0 := blk_frozen BK109.out 0; have hfz6_1 := blk_frozen BK109.out 1; have hfz6_2 := blk_frozen BK109.out 2; have hfz6_3 := blk_frozen BK109.out 3; have hfz6_4 := blk_frozen BK109.out 4) | ((with_reducible refine gate_callee (f := 91) rfl ?_); refine gl (some 11) Tryz.func91 #[.agg #[.int .i64 a0_0, .int .i64 a0_1, .int .i64 a0_2, .int .i64 a0_3, .int .i64 a0_4], .int .i64 a1] ?_; (with_reducible refine (symbol_kind_top.calls a0_0 a0_1 a0_2 a0_3 a0_4 a1 true _ A3.out).mono ?_); rintro e w7 ⟨rfl, hb⟩; refine ⟨_, rfl, ?_⟩; replace BK109 := Ak (blk_below (g := gb109) (o := .cells #[.int .i64 a0_0, .int .i64 a0_1, .int .i64 a0_2, .int .i64 a0_3, .int .i64 a0_4] 148 (0, 0)) (by (with_reducible repeat (fail)); exact BK109.out) hb); replace HB := Ak (below_step (by repeat ((with_reducible exact HB.out))) hb); (try clear hb)))
    go_ret2; exact ⟨by rfl, by repeat ((with_reducible exact HB.out))⟩
  replace c4 := Bool.eq_false_iff.mpr c4; subst c4
  have H1 : ((symbol_kind_place.f k a0_0 a0_1 a0_2 a0_3 a0_4 a1).bind fun bt111 => (if bt111.2.2 = true then (some (bt111.1, 0)) else (some (0, 13)))) = some (r1, r2) := by rw [if_neg (show ¬ (false = true) by decide)] at H; exact H
  clear H; have H := H1; clear H1; replace H := Option.bind_eq_some_iff.mp H; obtain ⟨⟨t111, t112, t113⟩, A80, H⟩ := H; replace H : (if t113 = true then (some (t111, 0)) else (some (0, 13))) = some (r1, r2) := H; have A8 := Ak A80; clear A80
  by_cases c9 : t113 = true
  · subst c9
    have H1 : (some (t111, 0)) = some (r1, r2) := by rw [if_pos rfl] at H; exact H
    clear H; have H := H1; clear H1; simp only [Option.some.injEq, Prod.mk.injEq] at H; obtain ⟨rfl, rfl⟩ := H; go_enter Tryz.func84, Tryz.ntmps84
    go_wp2_with (first | ((with_reducible refine gate_dst (N := 2) rfl ?_); refine box_event ?hg (N := 2) ?hd (cs := #[.int .i64 a0_0, .int .i64 a0_1, .int .i64 a0_2, .int .i64 a0_3, .int .i64 a0_4]) (t := 148) ?hr ?_; (case hd => rfl); (case hg => rfl); (case hr => (go_simp; done)); intro gb109 hg w10 hbox hb; replace BK109 := Ak (hbox); replace GW109 := Ak ((by rw [hg]; exact (below_size bl_) : w.heap.size ≤ gb109)); replace GE109 := Ak ((by rw [hg]; exact (below_size bl_) : w.heap.size ≤ gb109)); replace HB := Ak (below_step bl_ hb); clear hb hbox hg; have hcz11_0 : w10.cell? ⟨gb109, 0, none⟩ = some (.int .i64 a0_0) := (blk_cell BK109.out 0).trans rfl; have hcz11_1 : w10.cell? ⟨gb109, 1, none⟩ = some (.int .i64 a0_1) := (blk_cell BK109.out 1).trans rfl; have hcz11_2 : w10.cell? ⟨gb109, 2, none⟩ = some (.int .i64 a0_2) := (blk_cell BK109.out 2).trans rfl; have hcz11_3 : w10.cell? ⟨gb109, 3, none⟩ = some (.int .i64 a0_3) := (blk_cell BK109.out 3).trans rfl; have hcz11_4 : w10.cell? ⟨gb109, 4, none⟩ = some (.int .i64 a0_4) := (blk_cell BK109.out 4).trans rfl; have hfz11_0 := blk_frozen BK109.out 0; have hfz11_1 := blk_frozen BK109.out 1; have hfz11_2 := blk_frozen BK109.out 2; have hfz11_3 := blk_frozen BK109.out 3; have hfz11_4 := blk_frozen BK109.out 4) | ((with_reducible refine gate_callee (f := 91) rfl ?_); refine gl (some 11) Tryz.func91 #[.agg #[.int .i64 a0_0, .int .i64 a0_1, .int .i64 a0_2, .int .i64 a0_3, .int .i64 a0_4], .int .i64 a1] ?_; (with_reducible refine (symbol_kind_top.calls a0_0 a0_1 a0_2 a0_3 a0_4 a1 false _ A3.out).mono ?_); rintro e w12 ⟨rfl, hb⟩; refine ⟨_, rfl, ?_⟩; replace BK109 := Ak (blk_below (g := gb109) (o := .cells #[.int .i64 a0_0, .int .i64 a0_1, .int .i64 a0_2, .int .i64 a0_3, .int .i64 a0_4] 148 (0, 0)) (by (with_reducible repeat (fail)); exact BK109.out) hb); replace HB := Ak (below_step (by repeat ((with_reducible exact HB.out))) hb); (try clear hb); have hcz13_0 : w12.cell? ⟨gb109, 0, none⟩ = some (.int .i64 a0_0) := (blk_cell BK109.out 0).trans rfl; have hcz13_1 : w12.cell? ⟨gb109, 1, none⟩ = some (.int .i64 a0_1) := (blk_cell BK109.out 1).trans rfl; have hcz13_2 : w12.cell? ⟨gb109, 2, none⟩ = some (.int .i64 a0_2) := (blk_cell BK109.out 2).trans rfl; have hcz13_3 : w12.cell? ⟨gb109, 3, none⟩ = some (.int .i64 a0_3) := (blk_cell BK109.out 3).trans rfl; have hcz13_4 : w12.cell? ⟨gb109, 4, none⟩ = some (.int .i64 a0_4) := (blk_cell BK109.out 4).trans rfl; have hfz13_0 := blk_frozen BK109.out 0; have hfz13_1 := blk_frozen BK109.out 1; have hfz13_2 := blk_frozen BK109.out 2; have hfz13_3 := blk_frozen BK109.out 3; have hfz13_4 := blk_frozen BK109.out 4) | ((with_reducible refine gate_callee (f := 92) rfl ?_); refine gl (some 15) Tryz.func92 #[.agg #[.int .i64 a0_0, .int .i64 a0_1, .int .i64 a0_2, .int .i64 a0_3, .int .i64 a0_4], .int .i64 a1] ?_; (with_reducible refine (symbol_kind_place.calls k a0_0 a0_1 a0_2 a0_3 a0_4 a1 t111 t112 true _ A8.out).mono ?_); rintro e w14 ⟨rfl, hb⟩; refine ⟨_, rfl, ?_⟩; replace BK109 := Ak (blk_below (g := gb109) (o := .cells #[.int .i64 a0_0, .int .i64 a0_1, .int .i64 a0_2, .int .i64 a0_3, .int .i64 a0_4] 148 (0, 0)) (by (with_reducible repeat (fail)); exact BK109.out) hb); replace HB := Ak (below_step (by repeat ((with_reducible exact HB.out))) hb); (try clear hb)))
    go_ret2; exact ⟨by rfl, by repeat ((with_reducible exact HB.out))⟩
  replace c9 := Bool.eq_false_iff.mpr c9; subst c9
  have H1 : (some (0, 13)) = some (r1, r2) := by rw [if_neg (show ¬ (false = true) by decide)] at H; exact H
  clear H; have H := H1; clear H1; simp only [Option.some.injEq, Prod.mk.injEq] at H; obtain ⟨rfl, rfl⟩ := H; go_enter Tryz.func84, Tryz.ntmps84
  go_wp2_with (first | ((with_reducible refine gate_dst (N := 2) rfl ?_); refine box_event ?hg (N := 2) ?hd (cs := #[.int .i64 a0_0, .int .i64 a0_1, .int .i64 a0_2, .int .i64 a0_3, .int .i64 a0_4]) (t := 148) ?hr ?_; (case hd => rfl); (case hg => rfl); (case hr => (go_simp; done)); intro gb109 hg w15 hbox hb; replace BK109 := Ak (hbox); replace GW109 := Ak ((by rw [hg]; exact (below_size bl_) : w.heap.size ≤ gb109)); replace GE109 := Ak ((by rw [hg]; exact (below_size bl_) : w.heap.size ≤ gb109)); replace HB := Ak (below_step bl_ hb); clear hb hbox hg; have hcz16_0 : w15.cell? ⟨gb109, 0, none⟩ = some (.int .i64 a0_0) := (blk_cell BK109.out 0).trans rfl; have hcz16_1 : w15.cell? ⟨gb109, 1, none⟩ = some (.int .i64 a0_1) := (blk_cell BK109.out 1).trans rfl; have hcz16_2 : w15.cell? ⟨gb109, 2, none⟩ = some (.int .i64 a0_2) := (blk_cell BK109.out 2).trans rfl; have hcz16_3 : w15.cell? ⟨gb109, 3, none⟩ = some (.int .i64 a0_3) := (blk_cell BK109.out 3).trans rfl; have hcz16_4 : w15.cell? ⟨gb109, 4, none⟩ = some (.int .i64 a0_4) := (blk_cell BK109.out 4).trans rfl; have hfz16_0 := blk_frozen BK109.out 0; have hfz16_1 := blk_frozen BK109.out 1; have hfz16_2 := blk_frozen BK109.out 2; have hfz16_3 := blk_frozen BK109.out 3; have hfz16_4 := blk_frozen BK109.out 4) | ((with_reducible refine gate_callee (f := 91) rfl ?_); refine gl (some 11) Tryz.func91 #[.agg #[.int .i64 a0_0, .int .i64 a0_1, .int .i64 a0_2, .int .i64 a0_3, .int .i64 a0_4], .int .i64 a1] ?_; (with_reducible refine (symbol_kind_top.calls a0_0 a0_1 a0_2 a0_3 a0_4 a1 false _ A3.out).mono ?_); rintro e w17 ⟨rfl, hb⟩; refine ⟨_, rfl, ?_⟩; replace BK109 := Ak (blk_below (g := gb109) (o := .cells #[.int .i64 a0_0, .int .i64 a0_1, .int .i64 a0_2, .int .i64 a0_3, .int .i64 a0_4] 148 (0, 0)) (by (with_reducible repeat (fail)); exact BK109.out) hb); replace HB := Ak (below_step (by repeat ((with_reducible exact HB.out))) hb); (try clear hb); have hcz18_0 : w17.cell? ⟨gb109, 0, none⟩ = some (.int .i64 a0_0) := (blk_cell BK109.out 0).trans rfl; have hcz18_1 : w17.cell? ⟨gb109, 1, none⟩ = some (.int .i64 a0_1) := (blk_cell BK109.out 1).trans rfl; have hcz18_2 : w17.cell? ⟨gb109, 2, none⟩ = some (.int .i64 a0_2) := (blk_cell BK109.out 2).trans rfl; have hcz18_3 : w17.cell? ⟨gb109, 3, none⟩ = some (.int .i64 a0_3) := (blk_cell BK109.out 3).trans rfl; have hcz18_4 : w17.cell? ⟨gb109, 4, none⟩ = some (.int .i64 a0_4) := (blk_cell BK109.out 4).trans rfl; have hfz18_0 := blk_frozen BK109.out 0; have hfz18_1 := blk_frozen BK109.out 1; have hfz18_2 := blk_frozen BK109.out 2; have hfz18_3 := blk_frozen BK109.out 3; have hfz18_4 := blk_frozen BK109.out 4) | ((with_reducible refine gate_callee (f := 92) rfl ?_); refine gl (some 15) Tryz.func92 #[.agg #[.int .i64 a0_0, .int .i64 a0_1, .int .i64 a0_2, .int .i64 a0_3, .int .i64 a0_4], .int .i64 a1] ?_; (with_reducible refine (symbol_kind_place.calls k a0_0 a0_1 a0_2 a0_3 a0_4 a1 t111 t112 false _ A8.out).mono ?_); rintro e w19 ⟨rfl, hb⟩; refine ⟨_, rfl, ?_⟩; replace BK109 := Ak (blk_below (g := gb109) (o := .cells #[.int .i64 a0_0, .int .i64 a0_1, .int .i64 a0_2, .int .i64 a0_3, .int .i64 a0_4] 148 (0, 0)) (by (with_reducible repeat (fail)); exact BK109.out) hb); replace HB := Ak (below_step (by repeat ((with_reducible exact HB.out))) hb); (try clear hb)))
  go_ret2; exact ⟨by rfl, by repeat ((with_reducible exact HB.out))⟩

def symbol_LenBits.f (k : Nat) (a0 : Int) : Option (Int × Int) := (symbol_lens.f).bind fun bt114 => ((symbol_kind_bits.f k bt114.1 bt114.2.1 bt114.2.2.1 bt114.2.2.2.1 bt114.2.2.2.2 a0).bind fun bt119 => (some (bt119.1, bt119.2)))
theorem symbol_LenBits.calls (k : Nat) (a0 : Int) (r1 : Int) (r2 : Int) (w : World) (h : symbol_LenBits.f k a0 = some (r1, r2)) :
    Calls Tryz.prog 64 #[.int .i64 a0] w fun e w' => e = .returned (.tuple #[.int .i64 r1, .int .i64 r2]) ∧ Below w.heap.size w w' := by
  have HB := Ak (Below.refl w.heap.size w); have H : ((symbol_lens.f).bind fun bt114 => ((symbol_kind_bits.f k bt114.1 bt114.2.1 bt114.2.2.1 bt114.2.2.2.1 bt114.2.2.2.2 a0).bind fun bt119 => (some (bt119.1, bt119.2)))) = some (r1, r2) := h; clear h; replace H := Option.bind_eq_some_iff.mp H; obtain ⟨⟨t114, t115, t116, t117, t118⟩, A20, H⟩ := H; replace H : ((symbol_kind_bits.f k t114 t115 t116 t117 t118 a0).bind fun bt119 => (some (bt119.1, bt119.2))) = some (r1, r2) := H; have A2 := Ak A20; clear A20; replace H := Option.bind_eq_some_iff.mp H; obtain ⟨⟨t119, t120⟩, A30, H⟩ := H; replace H : (some (t119, t120)) = some (r1, r2) := H; have A3 := Ak A30; clear A30; simp only [Option.some.injEq, Prod.mk.injEq] at H; obtain ⟨rfl, rfl⟩ := H; go_enter Tryz.func64, Tryz.ntmps64
  go_wp2_with (first | ((with_reducible refine gate_callee (f := 83) rfl ?_); refine gl (some 4) Tryz.func83 #[] ?_; (with_reducible refine (symbol_lens.calls  t114 t115 t116 t117 t118 _ A2.out).mono ?_); rintro e w4 ⟨rfl, hb⟩; refine ⟨_, rfl, ?_⟩; replace HB := Ak (below_step bl_ hb); (try clear hb)) | ((with_reducible refine gate_callee (f := 84) rfl ?_); refine gl (some 6) Tryz.func84 #[.agg #[.int .i64 t114, .int .i64 t115, .int .i64 t116, .int .i64 t117, .int .i64 t118], .int .i64 a0] ?_; (with_reducible refine (symbol_kind_bits.calls k t114 t115 t116 t117 t118 a0 t119 t120 _ A3.out).mono ?_); rintro e w5 ⟨rfl, hb⟩; refine ⟨_, rfl, ?_⟩; replace HB := Ak (below_step bl_ hb); (try clear hb)))
  go_ret2; exact ⟨by rfl, by repeat ((with_reducible exact HB.out))⟩

def symbol_kind_of.j0 : Nat → Int → Int → Int → Bool → Option (Int × Int)
  | 0, _, _, _, _ => none
  | k + 1, x2, x8, x9, x10 => if x10 = true then (if x2 < 0 then (some (0, 2)) else (if 0 ≤ x8 then (if (shr .i64 x2 x8) = 0 then (some (wrap64 (x9 + x2), 0)) else (some (0, 2))) else (none))) else (some (0, 13))
def symbol_kind_of.f (k : Nat) (a0_0 : Int) (a0_1 : Int) (a0_2 : Int) (a0_3 : Int) (a0_4 : Int) (a1 : Int) (a2 : Int) : Option (Int × Int) := (symbol_kind_place.f k a0_0 a0_1 a0_2 a0_3 a0_4 a1).bind fun bt122 => ((symbol_kind_top.f a0_0 a0_1 a0_2 a0_3 a0_4 a1).bind fun t125 => (if t125 = true then (symbol_kind_of.j0 k a2 0 258 true) else (symbol_kind_of.j0 k a2 bt122.1 bt122.2.1 bt122.2.2)))
theorem symbol_kind_of.calls (k : Nat) (a0_0 : Int) (a0_1 : Int) (a0_2 : Int) (a0_3 : Int) (a0_4 : Int) (a1 : Int) (a2 : Int) (r1 : Int) (r2 : Int) (w : World) (h : symbol_kind_of.f k a0_0 a0_1 a0_2 a0_3 a0_4 a1 a2 = some (r1, r2)) :
    Calls Tryz.prog 85 #[.agg #[.int .i64 a0_0, .int .i64 a0_1, .int .i64 a0_2, .int .i64 a0_3, .int .i64 a0_4], .int .i64 a1, .int .i64 a2] w fun e w' => e = .returned (.tuple #[.int .i64 r1, .int .i64 r2]) ∧ Below w.heap.size w w' := by
  have hu148 := Tryz.underlying148; have HB := Ak (Below.refl w.heap.size w); have H : ((symbol_kind_place.f k a0_0 a0_1 a0_2 a0_3 a0_4 a1).bind fun bt122 => ((symbol_kind_top.f a0_0 a0_1 a0_2 a0_3 a0_4 a1).bind fun t125 => (if t125 = true then (symbol_kind_of.j0 k a2 0 258 true) else (symbol_kind_of.j0 k a2 bt122.1 bt122.2.1 bt122.2.2)))) = some (r1, r2) := h; clear h; replace H := Option.bind_eq_some_iff.mp H; obtain ⟨⟨t122, t123, t124⟩, A40, H⟩ := H; replace H : ((symbol_kind_top.f a0_0 a0_1 a0_2 a0_3 a0_4 a1).bind fun t125 => (if t125 = true then (symbol_kind_of.j0 k a2 0 258 true) else (symbol_kind_of.j0 k a2 t122 t123 t124))) = some (r1, r2) := H; have A4 := Ak A40; clear A40; replace H := Option.bind_eq_some_iff.mp H; obtain ⟨t125, A50, H⟩ := H; replace H : (if t125 = true then (symbol_kind_of.j0 k a2 0 258 true) else (symbol_kind_of.j0 k a2 t122 t123 t124)) = some (r1, r2) := H; have A5 := Ak A50; clear A50; have HC6 := Ak H; clear H; go_enter Tryz.func85, Tryz.ntmps85
  go_upto_if 20 with (first | ((with_reducible refine gate_dst (N := 3) rfl ?_); refine box_event ?hg (N := 3) ?hd (cs := #[.int .i64 a0_0, .int .i64 a0_1, .int .i64 a0_2, .int .i64 a0_3, .int .i64 a0_4]) (t := 148) ?hr ?_; (case hd => rfl); (case hg => rfl); (case hr => (go_simp; done)); intro gb121 hg w7 hbox hb; replace BK121 := Ak (hbox); replace GW121 := Ak ((by rw [hg]; exact (below_size bl_) : w.heap.size ≤ gb121)); replace GE121 := Ak ((by rw [hg]; exact (below_size bl_) : w.heap.size ≤ gb121)); replace HB := Ak (below_step bl_ hb); clear hb hbox hg; have hcz8_0 : w7.cell? ⟨gb121, 0, none⟩ = some (.int .i64 a0_0) := (blk_cell BK121.out 0).trans rfl; have hcz8_1 : w7.cell? ⟨gb121, 1, none⟩ = some (.int .i64 a0_1) := (blk_cell BK121.out 1).trans rfl; have hcz8_2 : w7.cell? ⟨gb121, 2, none⟩ = some (.int .i64 a0_2) := (blk_cell BK121.out 2).trans rfl; have hcz8_3 : w7.cell? ⟨gb121, 3, none⟩ = some (.int .i64 a0_3) := (blk_cell BK121.out 3).trans rfl; have hcz8_4 : w7.cell? ⟨gb121, 4, none⟩ = some (.int .i64 a0_4) := (blk_cell BK121.out 4).trans rfl; have hfz8_0 := blk_frozen BK121.out 0; have hfz8_1 := blk_frozen BK121.out 1; have hfz8_2 := blk_frozen BK121.out 2; have hfz8_3 := blk_frozen BK121.out 3; have hfz8_4 := blk_frozen BK121.out 4) | ((with_reducible refine gate_callee (f := 92) rfl ?_); refine gl (some 14) Tryz.func92 #[.agg #[.int .i64 a0_0, .int .i64 a0_1, .int .i64 a0_2, .int .i64 a0_3, .int .i64 a0_4], .int .i64 a1] ?_; (with_reducible refine (symbol_kind_place.calls k a0_0 a0_1 a0_2 a0_3 a0_4 a1 t122 t123 t124 _ A4.out).mono ?_); rintro e w9 ⟨rfl, hb⟩; refine ⟨_, rfl, ?_⟩; replace BK121 := Ak (blk_below (g := gb121) (o := .cells #[.int .i64 a0_0, .int .i64 a0_1, .int .i64 a0_2, .int .i64 a0_3, .int .i64 a0_4] 148 (0, 0)) (by (with_reducible repeat (fail)); exact BK121.out) hb); replace HB := Ak (below_step (by repeat ((with_reducible exact HB.out))) hb); (try clear hb); have hcz10_0 : w9.cell? ⟨gb121, 0, none⟩ = some (.int .i64 a0_0) := (blk_cell BK121.out 0).trans rfl; have hcz10_1 : w9.cell? ⟨gb121, 1, none⟩ = some (.int .i64 a0_1) := (blk_cell BK121.out 1).trans rfl; have hcz10_2 : w9.cell? ⟨gb121, 2, none⟩ = some (.int .i64 a0_2) := (blk_cell BK121.out 2).trans rfl; have hcz10_3 : w9.cell? ⟨gb121, 3, none⟩ = some (.int .i64 a0_3) := (blk_cell BK121.out 3).trans rfl; have hcz10_4 : w9.cell? ⟨gb121, 4, none⟩ = some (.int .i64 a0_4) := (blk_cell BK121.out 4).trans rfl; have hfz10_0 := blk_frozen BK121.out 0; have hfz10_1 := blk_frozen BK121.out 1; have hfz10_2 := blk_frozen BK121.out 2; have hfz10_3 := blk_frozen BK121.out 3; have hfz10_4 := blk_frozen BK121.out 4) | ((with_reducible refine gate_callee (f := 91) rfl ?_); refine gl (some 20) Tryz.func91 #[.agg #[.int .i64 a0_0, .int .i64 a0_1, .int .i64 a0_2, .int .i64 a0_3, .int .i64 a0_4], .int .i64 a1] ?_; (with_reducible refine (symbol_kind_top.calls a0_0 a0_1 a0_2 a0_3 a0_4 a1 t125 _ A5.out).mono ?_); rintro e w11 ⟨rfl, hb⟩; refine ⟨_, rfl, ?_⟩; replace BK121 := Ak (blk_below (g := gb121) (o := .cells #[.int .i64 a0_0, .int .i64 a0_1, .int .i64 a0_2, .int .i64 a0_3, .int .i64 a0_4] 148 (0, 0)) (by (with_reducible repeat (fail)); exact BK121.out) hb); replace HB := Ak (below_step (by repeat ((with_reducible exact HB.out))) hb); (try clear hb)))
  (try simp only [Act.put, List.setIfInBounds_toArray, List.set_cons_zero, List.set_cons_succ])
  go_cut [8, 9, 10] (fun v8 v9 v10 wc => ∃ (kq : Nat) (x8_5 : Int) (x9_5 : Int) (x10_5 : Bool), v8 = .int .i64 x8_5 ∧ v9 = .int .i64 x9_5 ∧ v10 = .bool x10_5 ∧ Aside0 (symbol_kind_of.j0 kq a2 x8_5 x9_5 x10_5 = some (r1, r2)) ∧ Aside0 (kq ≤ k) ∧ Aside0 (wc.heap[gb121]? = some (.cells #[.int .i64 a0_0, .int .i64 a0_1, .int .i64 a0_2, .int .i64 a0_3, .int .i64 a0_4] 148 (0, 0))) ∧ Aside0 (Below w.heap.size w wc))
  case first =>
    have H := HC6.out; clear HC6
    by_cases c12 : t125 = true
    · subst c12
      have H1 : (symbol_kind_of.j0 k a2 0 258 true) = some (r1, r2) := by rw [if_pos rfl] at H; exact H
      clear H; have H := H1; clear H1; have H' := Ak H; clear H; go_wp2
      go_meet
      case rel => exact ⟨_, (0), (258), (true), (by rfl), (by rfl), (by rfl), H', ⟨by omega⟩, ⟨by (with_reducible repeat (fail)); exact BK121.out⟩, ⟨by repeat ((with_reducible exact HB.out))⟩⟩
    replace c12 := Bool.eq_false_iff.mpr c12; subst c12
    have H1 : (symbol_kind_of.j0 k a2 t122 t123 t124) = some (r1, r2) := by rw [if_neg (show ¬ (false = true) by decide)] at H; exact H
    clear H; have H := H1; clear H1; have H' := Ak H; clear H; go_wp2
    go_meet
    case rel => exact ⟨_, (t122), (t123), (t124), (by rfl), (by rfl), (by rfl), H', ⟨by omega⟩, ⟨by (with_reducible repeat (fail)); exact BK121.out⟩, ⟨by repeat ((with_reducible exact HB.out))⟩⟩
  case rest =>
    clear HC6
    clear hcz10_0 hcz10_1 hcz10_2 hcz10_3 hcz10_4 hcz8_0 hcz8_1 hcz8_2 hcz8_3 hcz8_4 hfz10_0 hfz10_1 hfz10_2 hfz10_3 hfz10_4 hfz8_0 hfz8_1 hfz8_2 hfz8_3 hfz8_4
    obtain ⟨kq, x8_5, x9_5, x10_5, rfl, rfl, rfl, HA, HJ5, BK121, HB⟩ := hcut
    cases kq with
    | zero => exact absurd HA.out (by simp [symbol_kind_of.j0])
    | succ kj5 => ?_
    have H := HA.out; clear HA; simp only [symbol_kind_of.j0] at H
    by_cases c13 : x10_5 = true
    rotate_left
    · replace c13 := Bool.eq_false_iff.mpr c13; subst c13
      have H1 : (some (0, 13)) = some (r1, r2) := by rw [if_neg (show ¬ (false = true) by decide)] at H; exact H
      clear H; have H := H1; clear H1; simp only [Option.some.injEq, Prod.mk.injEq] at H; obtain ⟨rfl, rfl⟩ := H; go_wp2; go_ret2; exact ⟨by rfl, by repeat ((with_reducible exact HB.out))⟩
    subst c13
    have H1 : (if a2 < 0 then (some (0, 2)) else (if 0 ≤ x8_5 then (if (shr .i64 a2 x8_5) = 0 then (some (wrap64 (x9_5 + a2), 0)) else (some (0, 2))) else (none))) = some (r1, r2) := by rw [if_pos rfl] at H; exact H
    clear H; have H := H1; clear H1
    by_cases c14 : a2 < 0
    · rw [if_pos c14] at H; have c14b0 : decide (a2 < 0) = true := decide_eq_true c14; clear c14; simp only [Option.some.injEq, Prod.mk.injEq] at H; obtain ⟨rfl, rfl⟩ := H; go_wp2; go_ret2; exact ⟨by rfl, by repeat ((with_reducible exact HB.out))⟩
    rw [if_neg c14] at H; have c14b0 : decide (a2 < 0) = false := decide_eq_false c14; clear c14
    by_cases c15 : 0 ≤ x8_5
    rotate_left
    · rw [if_neg c15] at H; exact absurd H (by simp)
    rw [if_pos c15] at H; have c15b0 := eq_true c15; have c15b1 : decide (0 ≤ x8_5) = true := decide_eq_true c15; clear c15; obtain ⟨ji16, hji16⟩ : ∃ j_ : Int, (shr .i64 a2 x8_5) = j_ := ⟨_, rfl⟩
    replace H : (if (ji16) = 0 then (some (wrap64 (x9_5 + a2), 0)) else (some (0, 2))) = some (r1, r2) := by (rw [hji16] at H; exact H)
    have hji16_ : (a2 / 2 ^ min x8_5.toNat 64) = ji16 := hji16; have hji16z : x8_5 ≤ 64 → (a2 / 2 ^ x8_5.toNat) = ji16 := shr_small hji16
    by_cases c17 : (ji16) = 0
    · rw [if_pos c17] at H; have c17b0 : ((ji16) == 0) = true := beq_iff_eq.mpr c17; have c17b1 : ((ji16) != 0) = false := bne_eq_false_iff_eq.mpr c17; clear c17; simp only [Option.some.injEq, Prod.mk.injEq] at H; obtain ⟨rfl, rfl⟩ := H; go_wp2; go_ret2; exact ⟨by rfl, by repeat ((with_reducible exact HB.out))⟩
    rw [if_neg c17] at H; have c17b0 : ((ji16) == 0) = false := beq_eq_false_iff_ne.mpr c17; have c17b1 : ((ji16) != 0) = true := bne_iff_ne.mpr c17; simp only [Option.some.injEq, Prod.mk.injEq] at H; obtain ⟨rfl, rfl⟩ := H; go_wp2; go_ret2; exact ⟨by rfl, by repeat ((with_reducible exact HB.out))⟩

end Go.Proofs.YtgflkkjhckcipaaGreatDoor.Pr

