/- For api.Tell: errors.As at an Errno, and at an error that bears a place. The model's entries for internal/reflectlite at this translation's types: closed facts, in the manner of the kit's worked toy. -/
import Derived.Test.YtegbacpenolehaaGreatDoorAskParse
import Derived.LaidEql
import Derived.Stop.Asserts
import Derived.RowKitTokens
namespace Go.Proofs.YtegbacpenolehaaGreatDoor
open Go.RowKit Go.Extern.Stop Go.Stop Go.Extern

/-- the block of the handles -/
noncomputable def hB : Nat := Tryz.prog.globals.size
theorem tl_valueOfP (t : Addr) (w : World) : (ReflectliteValue.unpack (.iface 104 (.pointer (some t)))).run Tryz.prog w
    = .ok (.agg #[.pointer (some ⟨hB, 104, none⟩), .pointer (some ⟨w.heap.size, 0, none⟩), .int .u64 150]) (w.alloc (.cells #[.pointer (some t)] 104)) := by kernel_rfl
theorem tl_typeP (a : Addr) (w : World) : (ReflectliteValue.methodAny (ReflectliteValue.valueError "reflectlite.Value.Type" 0) (fun t _ _ _ => ReflectliteType.toType t) #[.agg #[.pointer (some ⟨hB, 104, none⟩), .pointer (some a), .int .u64 150]]).run Tryz.prog w
    = .ok (.iface 185 (.agg #[.pointer (some ⟨hB, 104, none⟩)])) w := by kernel_rfl
theorem tl_kindP (w : World) : ((ReflectliteType.abiMethod fun t => (fun a : Nat => Value.int IntKind.u8 (a : Int)) <$> Rtype.kind t) #[.pointer (some ⟨hB, 104, none⟩)]).run Tryz.prog w = .ok (.int .u8 22) w := by kernel_rfl
theorem tl_kindE (w : World) : ((ReflectliteType.abiMethod fun t => (fun a : Nat => Value.int IntKind.u8 (a : Int)) <$> Rtype.kind t) #[.pointer (some ⟨hB, 30, none⟩)]).run Tryz.prog w = .ok (.int .u8 2) w := by kernel_rfl
theorem tl_rlm (z : Sem Value) (f : TypeId → Addr → Nat → Nat → Sem Value) (v : Value) :
    ReflectliteValue.method z f #[v] = (do match ← ReflectliteValue.parts v with | none => z | some (t, a, fl) => f t a fl (fl % 32)) := rfl
theorem tl_partsP (a : Addr) (w : World) : (ReflectliteValue.parts (.agg #[.pointer (some ⟨hB, 104, none⟩), .pointer (some a), .int .u64 150])).run Tryz.prog w = .ok (some (104, a, 150)) w := by kernel_rfl
theorem tl_isNilP (a p : Addr) (W : World) (ha : W.cell? a = some (.pointer (some p))) :
    (ReflectliteValue.method (ReflectliteValue.valueError "reflectlite.Value.IsNil" 0) ReflectliteValue.isNil #[.agg #[.pointer (some ⟨hB, 104, none⟩), .pointer (some a), .int .u64 150]]).run Tryz.prog W = .ok (.bool false) W := by
  rw [tl_rlm]
  simp only [Sem.run_bind, tl_partsP, Result.andThen]
  simp [ReflectliteValue.isNil, loadVar, isAgg, underlying, Tryz.underlying104, ha, Result.andThen]
theorem tl_methodKind (h : Value) (w : World) : (Go.method 380 185 (.agg #[h]) "Kind").run Tryz.prog w = .ok (218, h) w := by kernel_rfl
theorem tl_methodElem (h : Value) (w : World) : (Go.method 380 185 (.agg #[h]) "Elem").run Tryz.prog w = .ok (231, .agg #[h]) w := by kernel_rfl
theorem tl_methodImplements (h : Value) (w : World) : (Go.method 380 185 (.agg #[h]) "Implements").run Tryz.prog w = .ok (232, .agg #[h]) w := by kernel_rfl
theorem tl_methodAssignableTo (h : Value) (w : World) : (Go.method 380 185 (.agg #[h]) "AssignableTo").run Tryz.prog w = .ok (229, .agg #[h]) w := by kernel_rfl
theorem tl_elemP (w : World) : (ReflectliteType.method ReflectliteType.elem #[.agg #[.pointer (some ⟨hB, 104, none⟩)]]).run Tryz.prog w = .ok (.iface 185 (.agg #[.pointer (some ⟨hB, 30, none⟩)])) w := by kernel_rfl
theorem tl_implementsE (w : World) : (ReflectliteType.relation "Implements" ReflectliteType.implements_ #[.agg #[.pointer (some ⟨hB, 30, none⟩)], .iface 185 (.agg #[.pointer (some ⟨hB, 25, none⟩)])]).run Tryz.prog w = .ok (.bool true) w := by kernel_rfl
theorem tl_typeOfE (v : Value) (w : World) : (ReflectliteType.typeOf #[.iface 30 v]).run Tryz.prog w = .ok (.iface 185 (.agg #[.pointer (some ⟨hB, 30, none⟩)])) w := by kernel_rfl
theorem tl_typeOfA (v : Value) (w : World) : (ReflectliteType.typeOf #[.iface 137 v]).run Tryz.prog w = .ok (.iface 185 (.agg #[.pointer (some ⟨hB, 137, none⟩)])) w := by kernel_rfl
theorem tl_assignableE (w : World) : (ReflectliteType.relation "AssignableTo" ReflectliteType.assignableTo #[.agg #[.pointer (some ⟨hB, 30, none⟩)], .iface 185 (.agg #[.pointer (some ⟨hB, 30, none⟩)])]).run Tryz.prog w = .ok (.bool true) w := by kernel_rfl
theorem tl_assignableA (w : World) : (ReflectliteType.relation "AssignableTo" ReflectliteType.assignableTo #[.agg #[.pointer (some ⟨hB, 137, none⟩)], .iface 185 (.agg #[.pointer (some ⟨hB, 30, none⟩)])]).run Tryz.prog w = .ok (.bool false) w := by kernel_rfl
theorem tl_valueOfE (n : Int) (w : World) : (ReflectliteValue.unpack (.iface 30 (.int .i64 n))).run Tryz.prog w
    = .ok (.agg #[.pointer (some ⟨hB, 30, none⟩), .pointer (some ⟨w.heap.size, 0, none⟩), .int .u64 130]) (w.alloc (.cells #[.int .i64 n] 30)) := by kernel_rfl
theorem tl_elemOfP (w : World) : (Rtype.elem? 104).run Tryz.prog w = .ok (some 30) w := by kernel_rfl
theorem tl_mkE (p : Addr) (w : World) : (ReflectliteValue.mk 30 p ReflectliteValue.flagAddr).run Tryz.prog w = .ok (.agg #[.pointer (some ⟨hB, 30, none⟩), .pointer (some p), .int .u64 386]) w := by kernel_rfl
theorem tl_elemVP (a p : Addr) (W : World) (ha : W.cell? a = some (.pointer (some p))) :
    (ReflectliteValue.method (ReflectliteValue.valueError "reflectlite.Value.Elem" 0) ReflectliteValue.elem #[.agg #[.pointer (some ⟨hB, 104, none⟩), .pointer (some a), .int .u64 150]]).run Tryz.prog W
      = .ok (.agg #[.pointer (some ⟨hB, 30, none⟩), .pointer (some p), .int .u64 386]) W := by
  rw [tl_rlm]
  simp only [Sem.run_bind, tl_partsP, Result.andThen]
  simp [ReflectliteValue.elem, loadVar, isAgg, underlying, Tryz.underlying104, ha, Result.andThen, tl_elemOfP, tl_mkE]
theorem tl_rls (v x : Value) : ReflectliteValue.set #[v, x] = (do
    let (some (dst, a, fl), some (src, b, _)) := (← ReflectliteValue.parts v, ← ReflectliteValue.parts x)
      | unsupported (.noEntry "extern/(internal/reflectlite.Value).Set.zeroValue")
    if fl / ReflectliteValue.flagAddr % 2 == 0 then unsupported (.noEntry "extern/(internal/reflectlite.Value).Set.unaddressable")
    let val ← loadVar src b
    if ← Rtype.directlyAssignable dst src then storeVar dst a val
    else if ← Rtype.implements dst src then
      if (← Rtype.kind src) == 20 then
        match val with
        | .nilIface => unsupported (.noEntry "extern/reflectlite: a nil value of one interface type handed on as a value of another")
        | _ => storeVar dst a val
      else storeVar dst a (.iface src val)
    else panicString ("reflectlite.Set: value of type " ++ (← Rtype.spelt src) ++ " is not assignable to type " ++ (← Rtype.spelt dst))
    pure (.tuple #[])) := rfl
theorem tl_partsEa (a : Addr) (w : World) : (ReflectliteValue.parts (.agg #[.pointer (some ⟨hB, 30, none⟩), .pointer (some a), .int .u64 386])).run Tryz.prog w = .ok (some (30, a, 386)) w := by kernel_rfl
theorem tl_partsE (a : Addr) (w : World) : (ReflectliteValue.parts (.agg #[.pointer (some ⟨hB, 30, none⟩), .pointer (some a), .int .u64 130])).run Tryz.prog w = .ok (some (30, a, 130)) w := by kernel_rfl
theorem tl_directE (w : World) : (Rtype.directlyAssignable 30 30).run Tryz.prog w = .ok true w := by kernel_rfl
theorem tl_setE (ta b : Addr) (n : Int) (old : Value) (W : World) (hb : W.cell? b = some (.int .i64 n)) (ht : W.cell? ta = some old) (hf : W.frozen? ta = false) :
    (ReflectliteValue.set #[.agg #[.pointer (some ⟨hB, 30, none⟩), .pointer (some ta), .int .u64 386], .agg #[.pointer (some ⟨hB, 30, none⟩), .pointer (some b), .int .u64 130]]).run Tryz.prog W
      = .ok (.tuple #[]) (W.setCell ta (.int .i64 n)) := by
  rw [tl_rls]
  simp only [Sem.run_bind, tl_partsEa, tl_partsE, Result.andThen]
  simp [ReflectliteValue.flagAddr, loadVar, isAgg, underlying, Tryz.underlying30, hb, Result.andThen, tl_directE, storeVar, Value.cells, storeCells, Addr.add]
  rw [run_store Tryz.prog W ta _ _ (by rfl)]
  simp [ht, hf]
theorem tl_noAs (v : Value) (xT : TypeId) (w : World) : (Instr.typeAssert (.iface 137 v) xT 190 true).run Tryz.prog w = .ok (.tuple #[.nilIface, .bool false]) w := run_typeAssert_lacksB Tryz.underlying190 (by kernel_rfl) (by kernel_rfl) v xT w
theorem tl_hasUn (v : Value) (xT : TypeId) (w : World) : (Instr.typeAssert (.iface 137 v) xT 193 true).run Tryz.prog w = .ok (.tuple #[.iface 137 v, .bool true]) w := run_typeAssert_hasB Tryz.underlying193 (by kernel_rfl) v xT w
theorem tl_methodUnwrap (v : Value) (w : World) : (Go.method 380 137 v "Unwrap").run Tryz.prog w = .ok (224, v) w := by kernel_rfl
/-- the variable errors.errorType, as it is laid -/
def ErrTy (w : World) : Prop := w.cell? ⟨0, 0, none⟩ = some (.iface 185 (.agg #[.pointer (some ⟨hB, 25, none⟩)]))
theorem ErrTy.fr {w w' : World} {S : Nat → Prop} (h : ErrTy w) (hf : Fr S w w') (hS : ¬ S 0) : ErrTy w' :=
  (hf.cell (p := ⟨0, 0, none⟩) (World.block_lt_of_cell? _ _ h) hS).trans h
end Go.Proofs.YtegbacpenolehaaGreatDoor
