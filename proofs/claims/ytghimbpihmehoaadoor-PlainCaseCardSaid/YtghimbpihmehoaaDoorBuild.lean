/- strings.Builder: WriteByte and String, laid by hand at this translation (the panic of the copy check lies as a refusal here, so that the laying's tool finds no use of two types). -/
import Derived.Test.YtghimbpihmehoaaDoorBytes
import Derived.Test.YtghimbpihmehoaaDoorShelf
import Derived.Shelf.Strings.Builder1
import Derived.Shelf.Strings.Builder2
import Derived.Shelf.Lays
namespace Go.Proofs.YtghimbpihmehoaaDoor
open Go.RowKit

def wbRen : Go.Shelf.Ren := ⟨fun | 167 => 72 | 240 => 112 | 276 => 133 | n => n, fun | 70 => 82 | 9 => 9 | 72 => 85 | 37 => 83 | 164 => 146 | 20 => 20 | 75 => 24 | 80 => 87 | 5 => 5 | 79 => 99 | n => n, fun | n => n⟩
theorem wbLays : Go.Proofs.Lays.n167 Tryd.prog wbRen := {
  mixed := by kernel_rfl
  f167 := Tryd.func72.trans (congrArg some (by kernel_rfl))
  f240 := Tryd.func112.trans (congrArg some (by kernel_rfl))
  f276 := Tryd.func133.trans (congrArg some (by kernel_rfl))
  t0 := Tryd.underlying0
  a0 := Tryd.isAgg0
  z0 := Tryd.sizeOf0
  v0 := Tryd.zeroValue0
  t4 := Tryd.underlying4
  a4 := Tryd.isAgg4
  z4 := Tryd.sizeOf4
  v4 := Tryd.zeroValue4
  t5 := Tryd.underlying5
  a5 := Tryd.isAgg5
  z5 := Tryd.sizeOf5
  v5 := Tryd.zeroValue5
  t9 := Tryd.underlying9
  a9 := Tryd.isAgg9
  z9 := Tryd.sizeOf9
  v9 := Tryd.zeroValue9
  t20 := Tryd.underlying20
  a20 := Tryd.isAgg20
  z20 := Tryd.sizeOf20
  v20 := Tryd.zeroValue20
  t37 := Tryd.underlying83
  a37 := Tryd.isAgg83
  z37 := Tryd.sizeOf83
  v37 := Tryd.zeroValue83
  t70 := Tryd.underlying82
  a70 := Tryd.isAgg82
  z70 := Tryd.sizeOf82
  v70 := Tryd.zeroValue82
  t72 := Tryd.underlying85
  a72 := Tryd.isAgg85
  z72 := Tryd.sizeOf85
  v72 := Tryd.zeroValue85
  t75 := Tryd.underlying24
  a75 := Tryd.isAgg24
  z75 := Tryd.sizeOf24
  v75 := Tryd.zeroValue24
  t164 := Tryd.underlying146
  a164 := Tryd.isAgg146
  z164 := Tryd.sizeOf146
  v164 := Tryd.zeroValue146 }
theorem wbExtra : Builder.Extra Tryd.prog wbRen := {
  sizeBuilder := by kernel_rfl
  liesBuilder := by kernel_rfl
  t5 := Tryd.underlying5
  a5 := Tryd.isAgg5
  z5 := Tryd.sizeOf5
  v5 := Tryd.zeroValue5
  infoByte := by kernel_rfl
  cellsByte := by kernel_rfl
  sizeByte := by kernel_rfl
  neB5 := by decide }

/-- a builder that holds the bytes l -/
def Bld (B b : Nat) (l : List UInt8) (w : World) : Prop := Lib.IsBuilder 85 5 B b (u8s l) w

/-- (*strings.Builder).WriteByte, under Go's own limit -/
theorem WriteByte_any (B b : Nat) (l : List UInt8) (c : UInt8) (w : World) (h : Bld B b l w) (hlen : l.length + 1 ≤ 140737488355328) (hBw : B ≤ w.heap.size) :
    Calls Tryd.prog 72 #[.pointer (some ⟨b, 0, none⟩), .int .u8 c.toNat] w fun e w' => e = .returned .nilIface ∧ Bld B b (l ++ [c]) w' ∧ Below B w w' :=
  (Any.Builder_WriteByte wbLays wbExtra B b (u8s l) c.toNat w h (by rw [u8s_length]; exact hlen) hBw).mono fun e w' ⟨he, hb, hw⟩ => ⟨he, by unfold Bld; rw [u8s_snoc]; exact Or.inr hb, hw⟩

/-- (*strings.Builder).String -/
theorem BString_any (B b : Nat) (l : List UInt8) (w : World) (h : Bld B b l w) (hBw : B ≤ w.heap.size) :
    Calls Tryd.prog 64 #[.pointer (some ⟨b, 0, none⟩)] w fun e w' => e = .returned (.string ⟨l.toArray⟩) ∧ Below B w w' :=
  Tryd.Builder_String_any B b l w h hBw

theorem Fr.thenBelow {S : Nat → Prop} {a w w' : World} (h : Fr S a w) (g : Below a.heap.size w w') : Fr S a w' :=
  h.step (Fr.ofBelow (S := fun k => a.heap.size ≤ k) g (fun _ _ h => h)) (fun k hk hT => absurd hT (by omega))
theorem Bld.new (w : World) : Bld w.heap.size w.heap.size [] (w.alloc (.cells #[.pointer none, .slice none 0 0] 85)) :=
  Or.inl ⟨Nat.le_refl _, _, new_block w _, World.ownsRow_nil _ _ _ _, by simp [Value.ownBlock]⟩
end Go.Proofs.YtghimbpihmehoaaDoor
