/- strings.Builder: WriteByte and String, laid by hand at this translation (the panic of the copy check lies as a refusal here, so that the laying's tool finds no use of two types). -/
import Derived.Test.YtegbacpenolehaaDoorBytes
import Derived.Test.YtegbacpenolehaaDoorShelf
import Derived.Shelf.Strings.Builder1
import Derived.Shelf.Strings.Builder2
import Derived.Shelf.Lays
namespace Go.Proofs.YtegbacpenolehaaDoor
open Go.RowKit

def wbRen : Go.Shelf.Ren := ⟨fun | 167 => 165 | 240 => 176 | 276 => 198 | n => n, fun | 70 => 183 | 9 => 9 | 72 => 185 | 37 => 157 | 164 => 165 | 20 => 20 | 75 => 43 | 80 => 179 | 5 => 5 | 79 => 201 | n => n, fun | n => n⟩
theorem wbLays : Go.Proofs.Lays.n167 Tryd.prog wbRen := {
  mixed := by kernel_rfl
  f167 := Tryd.func165.trans (congrArg some (by kernel_rfl))
  f240 := Tryd.func176.trans (congrArg some (by kernel_rfl))
  f276 := Tryd.func198.trans (congrArg some (by kernel_rfl))
  t0 := Tryd.underlying0
  a0 := Tryd.isAgg0
  z0 := Tryd.sizeOf0
  v0 := Tryd.zeroValue0
  t4 := Tryd.underlying4
  a4 := Tryd.isAgg4
  z4 := Tryd.sizeOf4
  v4 := Tryd.zeroValue4
  t5 := Tryd.underlying5
  a5 := Tryd.isAgg5
  z5 := Tryd.sizeOf5
  v5 := Tryd.zeroValue5
  t9 := Tryd.underlying9
  a9 := Tryd.isAgg9
  z9 := Tryd.sizeOf9
  v9 := Tryd.zeroValue9
  t20 := Tryd.underlying20
  a20 := Tryd.isAgg20
  z20 := Tryd.sizeOf20
  v20 := Tryd.zeroValue20
  t37 := Tryd.underlying157
  a37 := Tryd.isAgg157
  z37 := Tryd.sizeOf157
  v37 := Tryd.zeroValue157
  t70 := Tryd.underlying183
  a70 := Tryd.isAgg183
  z70 := Tryd.sizeOf183
  v70 := Tryd.zeroValue183
  t72 := Tryd.underlying185
  a72 := Tryd.isAgg185
  z72 := Tryd.sizeOf185
  v72 := Tryd.zeroValue185
  t75 := Tryd.underlying43
  a75 := Tryd.isAgg43
  z75 := Tryd.sizeOf43
  v75 := Tryd.zeroValue43
  t164 := Tryd.underlying165
  a164 := Tryd.isAgg165
  z164 := Tryd.sizeOf165
  v164 := Tryd.zeroValue165 }
theorem wbExtra : Builder.Extra Tryd.prog wbRen := {
  sizeBuilder := by kernel_rfl
  liesBuilder := by kernel_rfl
  t5 := Tryd.underlying5
  a5 := Tryd.isAgg5
  z5 := Tryd.sizeOf5
  v5 := Tryd.zeroValue5
  infoByte := by kernel_rfl
  cellsByte := by kernel_rfl
  sizeByte := by kernel_rfl
  neB5 := by decide }

/-- a builder that holds the bytes l -/
def Bld (B b : Nat) (l : List UInt8) (w : World) : Prop := Lib.IsBuilder 185 5 B b (u8s l) w

/-- (*strings.Builder).WriteByte, under Go's own limit -/
theorem WriteByte_any (B b : Nat) (l : List UInt8) (c : UInt8) (w : World) (h : Bld B b l w) (hlen : l.length + 1 ≤ 140737488355328) (hBw : B ≤ w.heap.size) :
    Calls Tryd.prog 165 #[.pointer (some ⟨b, 0, none⟩), .int .u8 c.toNat] w fun e w' => e = .returned .nilIface ∧ Bld B b (l ++ [c]) w' ∧ Below B w w' :=
  (Any.Builder_WriteByte wbLays wbExtra B b (u8s l) c.toNat w h (by rw [u8s_length]; exact hlen) hBw).mono fun e w' ⟨he, hb, hw⟩ => ⟨he, by unfold Bld; rw [u8s_snoc]; exact Or.inr hb, hw⟩

/-- (*strings.Builder).String -/
theorem BString_any (B b : Nat) (l : List UInt8) (w : World) (h : Bld B b l w) (hBw : B ≤ w.heap.size) :
    Calls Tryd.prog 146 #[.pointer (some ⟨b, 0, none⟩)] w fun e w' => e = .returned (.string ⟨l.toArray⟩) ∧ Below B w w' :=
  Tryd.Builder_String_any B b l w h hBw

theorem Fr.thenBelow {S : Nat → Prop} {a w w' : World} (h : Fr S a w) (g : Below a.heap.size w w') : Fr S a w' :=
  h.step (Fr.ofBelow (S := fun k => a.heap.size ≤ k) g (fun _ _ h => h)) (fun k hk hT => absurd hT (by omega))
theorem Bld.new (w : World) : Bld w.heap.size w.heap.size [] (w.alloc (.cells #[.pointer none, .slice none 0 0] 185)) :=
  Or.inl ⟨Nat.le_refl _, _, new_block w _, World.ownsRow_nil _ _ _ _, by simp [Value.ownBlock]⟩
end Go.Proofs.YtegbacpenolehaaDoor
