/- For api.Tell: errors.As at an Errno, alone. The model's entries for internal/reflectlite at this translation's types: closed facts, in the manner of the kit's worked toy. -/
import Derived.Test.YtkoobhgedoanhaaDoorTypes
import Derived.Test.YtkoobhgedoanhaaDoorRowS
import Derived.LaidEql
import Derived.Stop.Asserts
import Derived.RowKitTokens
namespace Go.Proofs.YtkoobhgedoanhaaDoor
open Go.RowKit Go.Extern.Stop Go.Stop Go.Extern

/-- the block of the handles -/
noncomputable def hB : Nat := Tryd.prog.globals.size
theorem tl_valueOfP (t : Addr) (w : World) : (ReflectliteValue.unpack (.iface 98 (.pointer (some t)))).run Tryd.prog w
    = .ok (.agg #[.pointer (some ⟨hB, 98, none⟩), .pointer (some ⟨w.heap.size, 0, none⟩), .int .u64 150]) (w.alloc (.cells #[.pointer (some t)] 98)) := by kernel_rfl
theorem tl_typeP (a : Addr) (w : World) : (ReflectliteValue.methodAny (ReflectliteValue.valueError "reflectlite.Value.Type" 0) (fun t _ _ _ => ReflectliteType.toType t) #[.agg #[.pointer (some ⟨hB, 98, none⟩), .pointer (some a), .int .u64 150]]).run Tryd.prog w
    = .ok (.iface 140 (.agg #[.pointer (some ⟨hB, 98, none⟩)])) w := by kernel_rfl
theorem tl_kindP (w : World) : ((ReflectliteType.abiMethod fun t => (fun a : Nat => Value.int IntKind.u8 (a : Int)) <$> Rtype.kind t) #[.pointer (some ⟨hB, 98, none⟩)]).run Tryd.prog w = .ok (.int .u8 22) w := by kernel_rfl
theorem tl_kindE (w : World) : ((ReflectliteType.abiMethod fun t => (fun a : Nat => Value.int IntKind.u8 (a : Int)) <$> Rtype.kind t) #[.pointer (some ⟨hB, 46, none⟩)]).run Tryd.prog w = .ok (.int .u8 2) w := by kernel_rfl
theorem tl_rlm (z : Sem Value) (f : TypeId → Addr → Nat → Nat → Sem Value) (v : Value) :
    ReflectliteValue.method z f #[v] = (do match ← ReflectliteValue.parts v with | none => z | some (t, a, fl) => f t a fl (fl % 32)) := rfl
theorem tl_partsP (a : Addr) (w : World) : (ReflectliteValue.parts (.agg #[.pointer (some ⟨hB, 98, none⟩), .pointer (some a), .int .u64 150])).run Tryd.prog w = .ok (some (98, a, 150)) w := by kernel_rfl
theorem tl_isNilP (a p : Addr) (W : World) (ha : W.cell? a = some (.pointer (some p))) :
    (ReflectliteValue.method (ReflectliteValue.valueError "reflectlite.Value.IsNil" 0) ReflectliteValue.isNil #[.agg #[.pointer (some ⟨hB, 98, none⟩), .pointer (some a), .int .u64 150]]).run Tryd.prog W = .ok (.bool false) W := by
  rw [tl_rlm]
  simp only [Sem.run_bind, tl_partsP, Result.andThen]
  simp [ReflectliteValue.isNil, loadVar, isAgg, underlying, Tryd.underlying98, ha, Result.andThen]
theorem tl_methodKind (h : Value) (w : World) : (Go.method 330 140 (.agg #[h]) "Kind").run Tryd.prog w = .ok (162, h) w := by kernel_rfl
theorem tl_methodElem (h : Value) (w : World) : (Go.method 330 140 (.agg #[h]) "Elem").run Tryd.prog w = .ok (174, .agg #[h]) w := by kernel_rfl
theorem tl_methodImplements (h : Value) (w : World) : (Go.method 330 140 (.agg #[h]) "Implements").run Tryd.prog w = .ok (175, .agg #[h]) w := by kernel_rfl
theorem tl_methodAssignableTo (h : Value) (w : World) : (Go.method 330 140 (.agg #[h]) "AssignableTo").run Tryd.prog w = .ok (172, .agg #[h]) w := by kernel_rfl
theorem tl_elemP (w : World) : (ReflectliteType.method ReflectliteType.elem #[.agg #[.pointer (some ⟨hB, 98, none⟩)]]).run Tryd.prog w = .ok (.iface 140 (.agg #[.pointer (some ⟨hB, 46, none⟩)])) w := by kernel_rfl
theorem tl_implementsE (w : World) : (ReflectliteType.relation "Implements" ReflectliteType.implements_ #[.agg #[.pointer (some ⟨hB, 46, none⟩)], .iface 140 (.agg #[.pointer (some ⟨hB, 43, none⟩)])]).run Tryd.prog w = .ok (.bool true) w := by kernel_rfl
theorem tl_typeOfE (v : Value) (w : World) : (ReflectliteType.typeOf #[.iface 46 v]).run Tryd.prog w = .ok (.iface 140 (.agg #[.pointer (some ⟨hB, 46, none⟩)])) w := by kernel_rfl
theorem tl_assignableE (w : World) : (ReflectliteType.relation "AssignableTo" ReflectliteType.assignableTo #[.agg #[.pointer (some ⟨hB, 46, none⟩)], .iface 140 (.agg #[.pointer (some ⟨hB, 46, none⟩)])]).run Tryd.prog w = .ok (.bool true) w := by kernel_rfl
theorem tl_valueOfE (n : Int) (w : World) : (ReflectliteValue.unpack (.iface 46 (.int .i64 n))).run Tryd.prog w
    = .ok (.agg #[.pointer (some ⟨hB, 46, none⟩), .pointer (some ⟨w.heap.size, 0, none⟩), .int .u64 130]) (w.alloc (.cells #[.int .i64 n] 46)) := by kernel_rfl
theorem tl_elemOfP (w : World) : (Rtype.elem? 98).run Tryd.prog w = .ok (some 46) w := by kernel_rfl
theorem tl_mkE (p : Addr) (w : World) : (ReflectliteValue.mk 46 p ReflectliteValue.flagAddr).run Tryd.prog w = .ok (.agg #[.pointer (some ⟨hB, 46, none⟩), .pointer (some p), .int .u64 386]) w := by kernel_rfl
theorem tl_elemVP (a p : Addr) (W : World) (ha : W.cell? a = some (.pointer (some p))) :
    (ReflectliteValue.method (ReflectliteValue.valueError "reflectlite.Value.Elem" 0) ReflectliteValue.elem #[.agg #[.pointer (some ⟨hB, 98, none⟩), .pointer (some a), .int .u64 150]]).run Tryd.prog W
      = .ok (.agg #[.pointer (some ⟨hB, 46, none⟩), .pointer (some p), .int .u64 386]) W := by
  rw [tl_rlm]
  simp only [Sem.run_bind, tl_partsP, Result.andThen]
  simp [ReflectliteValue.elem, loadVar, isAgg, underlying, Tryd.underlying98, ha, Result.andThen, tl_elemOfP, tl_mkE]
theorem tl_rls (v x : Value) : ReflectliteValue.set #[v, x] = (do
    let (some (dst, a, fl), some (src, b, _)) := (← ReflectliteValue.parts v, ← ReflectliteValue.parts x)
      | unsupported (.noEntry "extern/(internal/reflectlite.Value).Set.zeroValue")
    if fl / ReflectliteValue.flagAddr % 2 == 0 then unsupported (.noEntry "extern/(internal/reflectlite.Value).Set.unaddressable")
    let val ← loadVar src b
    if ← Rtype.directlyAssignable dst src then storeVar dst a val
    else if ← Rtype.implements dst src then
      if (← Rtype.kind src) == 20 then
        match val with
        | .nilIface => unsupported (.noEntry "extern/reflectlite: a nil value of one interface type handed on as a value of another")
        | _ => storeVar dst a val
      else storeVar dst a (.iface src val)
    else panicString ("reflectlite.Set: value of type " ++ (← Rtype.spelt src) ++ " is not assignable to type " ++ (← Rtype.spelt dst))
    pure (.tuple #[])) := rfl
theorem tl_partsEa (a : Addr) (w : World) : (ReflectliteValue.parts (.agg #[.pointer (some ⟨hB, 46, none⟩), .pointer (some a), .int .u64 386])).run Tryd.prog w = .ok (some (46, a, 386)) w := by kernel_rfl
theorem tl_partsE (a : Addr) (w : World) : (ReflectliteValue.parts (.agg #[.pointer (some ⟨hB, 46, none⟩), .pointer (some a), .int .u64 130])).run Tryd.prog w = .ok (some (46, a, 130)) w := by kernel_rfl
theorem tl_directE (w : World) : (Rtype.directlyAssignable 46 46).run Tryd.prog w = .ok true w := by kernel_rfl
theorem tl_setE (ta b : Addr) (n : Int) (old : Value) (W : World) (hb : W.cell? b = some (.int .i64 n)) (ht : W.cell? ta = some old) (hf : W.frozen? ta = false) :
    (ReflectliteValue.set #[.agg #[.pointer (some ⟨hB, 46, none⟩), .pointer (some ta), .int .u64 386], .agg #[.pointer (some ⟨hB, 46, none⟩), .pointer (some b), .int .u64 130]]).run Tryd.prog W
      = .ok (.tuple #[]) (W.setCell ta (.int .i64 n)) := by
  rw [tl_rls]
  simp only [Sem.run_bind, tl_partsEa, tl_partsE, Result.andThen]
  simp [ReflectliteValue.flagAddr, loadVar, isAgg, underlying, Tryd.underlying46, hb, Result.andThen, tl_directE, storeVar, Value.cells, storeCells, Addr.add]
  rw [run_store Tryd.prog W ta _ _ (by rfl)]
  simp [ht, hf]
/-- the variable errors.errorType, as it is laid -/
def ErrTy (w : World) : Prop := w.cell? ⟨0, 0, none⟩ = some (.iface 140 (.agg #[.pointer (some ⟨hB, 43, none⟩)]))
theorem ErrTy.fr {w w' : World} {S : Nat → Prop} (h : ErrTy w) (hf : Fr S w w') (hS : ¬ S 0) : ErrTy w' :=
  (hf.cell (p := ⟨0, 0, none⟩) (World.block_lt_of_cell? _ _ h) hS).trans h
set_option maxRecDepth 100000 in
set_option maxHeartbeats 4000000 in
theorem As_hit (t : Addr) (n : Int) (old : Value) (w : World) (hg : ErrTy w) (ht0 : w.cell? t = some old) (hf0 : w.frozen? t = false) :
    Calls Tryd.prog 56 #[.iface 46 (.int .i64 n), .iface 98 (.pointer (some t))] w fun ev w' => ev = .returned (.bool true) ∧ w' = ((((w.alloc (.cells #[.pointer (some t)] 98)).alloc (.cells #[.pointer (some ⟨hB, 98, none⟩), .pointer (some ⟨w.heap.size, 0, none⟩), .int .u64 150] 120)).alloc (.cells #[.pointer (some ⟨hB, 98, none⟩), .pointer (some ⟨w.heap.size, 0, none⟩), .int .u64 150] 120)).alloc (.cells #[.int .i64 n] 46)).setCell t (.int .i64 n) := by
  have h6 := @run_callFunc_extern Tryd.prog 80 _ (fun args => ReflectliteValue.unpack (args.getD 0 (.tuple #[]))) Tryd.func80 (by kernel_rfl) (by kernel_rfl) (by kernel_rfl) (by kernel_rfl)
  have h7 := @run_callFunc_extern Tryd.prog 81 _ (ReflectliteValue.methodAny (ReflectliteValue.valueError "reflectlite.Value.Type" 0) (fun t _ _ _ => ReflectliteType.toType t)) Tryd.func81 (by kernel_rfl) (by kernel_rfl) (by kernel_rfl) (by kernel_rfl)
  have h8 := @run_callFunc_extern Tryd.prog 82 _ (ReflectliteValue.method (ReflectliteValue.valueError "reflectlite.Value.IsNil" 0) ReflectliteValue.isNil) Tryd.func82 (by kernel_rfl) (by kernel_rfl) (by kernel_rfl) (by kernel_rfl)
  have h27 := @run_callFunc_extern Tryd.prog 162 _ (ReflectliteType.abiMethod fun t => do pure (.int .u8 (← Rtype.kind t))) Tryd.func162 (by kernel_rfl) (by kernel_rfl) (by kernel_rfl) (by kernel_rfl)
  have h37 := @run_callFunc_extern Tryd.prog 174 _ (ReflectliteType.method ReflectliteType.elem) Tryd.func174 (by kernel_rfl) (by kernel_rfl) (by kernel_rfl) (by kernel_rfl)
  have h38 := @run_callFunc_extern Tryd.prog 175 _ (ReflectliteType.relation "Implements" ReflectliteType.implements_) Tryd.func175 (by kernel_rfl) (by kernel_rfl) (by kernel_rfl) (by kernel_rfl)
  have h10 := @run_callFunc_extern Tryd.prog 99 _ ReflectliteType.typeOf Tryd.func99 (by kernel_rfl) (by kernel_rfl) (by kernel_rfl) (by kernel_rfl)
  have h35 := @run_callFunc_extern Tryd.prog 172 _ (ReflectliteType.relation "AssignableTo" ReflectliteType.assignableTo) Tryd.func172 (by kernel_rfl) (by kernel_rfl) (by kernel_rfl) (by kernel_rfl)
  have h11 := @run_callFunc_extern Tryd.prog 100 _ (ReflectliteValue.method (ReflectliteValue.valueError "reflectlite.Value.Elem" 0) ReflectliteValue.elem) Tryd.func100 (by kernel_rfl) (by kernel_rfl) (by kernel_rfl) (by kernel_rfl)
  have h12 := @run_callFunc_extern Tryd.prog 101 _ ReflectliteValue.set Tryd.func101 (by kernel_rfl) (by kernel_rfl) (by kernel_rfl) (by kernel_rfl)
  have tO := tl_typeOfE
  have mA := tl_methodAssignableTo
  have a25 := tl_assignableE
  have v25 := tl_valueOfE
  have f6 := tl_valueOfP
  have f7 := tl_typeP
  have mK := tl_methodKind
  have mE := tl_methodElem
  have mI := tl_methodImplements
  have k27 := tl_kindP
  have k25 := tl_kindE
  have e27 := tl_elemP
  have i25 := tl_implementsE
  have n8 := tl_isNilP ⟨w.heap.size, 0, none⟩ t ((w.alloc (.cells #[.pointer (some t)] 98)).alloc (.cells #[.pointer (some ⟨hB, 98, none⟩), .pointer (some ⟨w.heap.size, 0, none⟩), .int .u64 150] 120)) (by simp)
  have hlt : 0 < w.heap.size := World.block_lt_of_cell? _ _ hg
  have hg2 : ((w.alloc (.cells #[.pointer (some t)] 98)).alloc (.cells #[.pointer (some ⟨hB, 98, none⟩), .pointer (some ⟨w.heap.size, 0, none⟩), .int .u64 150] 120)).cell? ⟨0, 0, none⟩ = some (.iface 140 (.agg #[.pointer (some ⟨hB, 43, none⟩)])) := by
    rw [World.cell?_alloc_lt _ _ ⟨0, 0, none⟩ (by simp <;> omega), World.cell?_alloc_lt _ _ ⟨0, 0, none⟩ hlt]; exact hg
  have htl : t.block < w.heap.size := World.block_lt_of_cell? _ _ ht0
  have el := tl_elemVP ⟨w.heap.size, 0, none⟩ t (((w.alloc (.cells #[.pointer (some t)] 98)).alloc (.cells #[.pointer (some ⟨hB, 98, none⟩), .pointer (some ⟨w.heap.size, 0, none⟩), .int .u64 150] 120)).alloc (.cells #[.pointer (some ⟨hB, 98, none⟩), .pointer (some ⟨w.heap.size, 0, none⟩), .int .u64 150] 120)) (by rw [World.cell?_alloc_lt _ _ ⟨w.heap.size, 0, none⟩ (by simp; omega)]; simp)
  have st := tl_setE t ⟨w.heap.size + 1 + 1 + 1, 0, none⟩ n old ((((w.alloc (.cells #[.pointer (some t)] 98)).alloc (.cells #[.pointer (some ⟨hB, 98, none⟩), .pointer (some ⟨w.heap.size, 0, none⟩), .int .u64 150] 120)).alloc (.cells #[.pointer (some ⟨hB, 98, none⟩), .pointer (some ⟨w.heap.size, 0, none⟩), .int .u64 150] 120)).alloc (.cells #[.int .i64 n] 46))
    (by rw [World.cell?_alloc_at _ _ _ _ (by simp)]; rfl)
    (by rw [World.cell?_alloc_lt _ _ t (by simp; omega), World.cell?_alloc_lt _ _ t (by simp; omega), World.cell?_alloc_lt _ _ t (by simp; omega), World.cell?_alloc_lt _ _ t htl]; exact ht0)
    (by rw [World.frozen?_alloc_old _ _ t (by simp; omega), World.frozen?_alloc_old _ _ t (by simp; omega), World.frozen?_alloc_old _ _ t (by simp; omega), World.frozen?_alloc_old _ _ t (Nat.ne_of_lt htl)]; exact hf0)
  unfold ErrTy at hg
  go_enter Tryd.func56, Tryd.ntmps56
  go_wp2
  refine wp_loop_rounds 1 ?_
  rw [rounds_succ]
  go_wp2
  go_ret
  exact ⟨rfl, rfl⟩
/-- errors.As at an Errno: the variable holds it -/
theorem As_errno {n : Int} {b : Nat} {w : World} (hg : ErrTy w) (hb : w.heap[b]? = some (.cells #[.int .i64 0] 46 (0, 0))) :
    Calls Tryd.prog 56 #[.iface 46 (.int .i64 n), .iface 98 (.pointer (some ⟨b, 0, none⟩))] w fun e w' => e = .returned (.bool true) ∧ w'.cell? ⟨b, 0, none⟩ = some (.int .i64 n) ∧ Fr (one b) w w' := by
  have c0 : w.cell? ⟨b, 0, none⟩ = some (.int .i64 0) := by simp [World.cell?, hb]
  have f0 : w.frozen? ⟨b, 0, none⟩ = false := by simp [World.frozen?, hb]
  have key : ∀ (W : World), Fr noB w W → (W.setCell ⟨b, 0, none⟩ (.int .i64 n)).cell? ⟨b, 0, none⟩ = some (.int .i64 n) ∧ Fr (one b) w (W.setCell ⟨b, 0, none⟩ (.int .i64 n)) := fun W hW => by
    have h1 := setCell_heap (hW.keep hb (fun h => h)) 0 (.int .i64 n)
    refine ⟨?_, (show Fr (one b) w W from Fr.mono hW (fun _ _ h => absurd h (fun h => h))).setCell (p := ⟨b, 0, none⟩) (fun _ => rfl) _⟩
    simp only [World.cell?, h1]; rfl
  have hF : ∀ (o1 o2 o3 o4 : Obj), Fr noB w ((((w.alloc o1).alloc o2).alloc o3).alloc o4) := fun _ _ _ _ => ((((Fr.refl noB w).alloc _).alloc _).alloc _).alloc _
  refine (As_hit ⟨b, 0, none⟩ n _ w hg c0 f0).mono ?_
  rintro e w' ⟨rfl, rfl⟩
  exact ⟨rfl, key _ (hF _ _ _ _)⟩
theorem Tell_errno {n : Int} {w : World} (hg : ErrTy w) :
    Calls Tryd.prog 17 #[.iface 46 (.int .i64 n)] w fun e w' => e = .returned (.int .i64 n) ∧ Fr noB w w' := by
  obtain ⟨w1, hw1⟩ : ∃ w1, w1 = w.alloc (.cells #[.int .i64 0] 46) := ⟨_, rfl⟩
  have hf1 : Fr noB w w1 := by rw [hw1]; exact (Fr.refl noB w).alloc _
  have hb1 : w1.heap[w.heap.size]? = some (.cells #[.int .i64 0] 46 (0, 0)) := by rw [hw1]; exact new_block _ _
  have AS := Lib.hid (As_errno (n := n) (hg.fr hf1 (fun h => h)) hb1)
  have HW1 := Lib.hid hw1
  clear hw1 hb1
  go_enter Tryd.func17, Tryd.ntmps17
  go_wp2_with fail
  rw [← HW1.out]
  refine AS.out.mono ?_
  rintro e w2 ⟨rfl, hc, hf2⟩
  go_wp2
  go_ret
  exact ⟨rfl, hf1.step hf2 (fun k hk e => by have e' : k = w.heap.size := e; omega)⟩
end Go.Proofs.YtkoobhgedoanhaaDoor
