/- Package proof: hash. -/
import Derived.Test.YtghimbpihmehoaaDoorSha1
import Derived.Test.YtghimbpihmehoaaDoorTypes
namespace Go.Proofs.YtghimbpihmehoaaDoor
open Go.RowKit

theorem strsAt_new (w : World) (t : TypeId) (ss : List ByteArray) (hl : ss.length ≤ maxLen) : StrsAt (w.alloc (.cells (ss.map Value.string).toArray t)) (.slice (some ⟨w.heap.size, 0, none⟩) ss.length ss.length) ss := by
  refine Or.inr ⟨w.heap.size, 0, ss.length, rfl, Nat.le_refl _, hl, by simp, fun j x hj => ?_⟩
  rw [Nat.zero_add]
  simp only [World.cell?, new_block]
  simp [hj]
/-- texts, with colons between -/
def textsL (ss : List ByteArray) : List UInt8 := Lib.join (ss.map (·.data.toList)) [58]
/-- proof.hash -/
def hashB (sha : Bool) (ss : List ByteArray) : ByteArray := if sha then ⟨(shaL (textsL ss)).toArray⟩ else ⟨(md5L (textsL ss)).toArray⟩
theorem md5_len (l : List UInt8) : (md5L l).length = 32 := by unfold md5L sumTextL; rw [hexL_len, wordsBy_len]; rfl
theorem sha_len (l : List UInt8) : (shaL l).length = 64 := by unfold shaL sumTextL; rw [hexL_len, wordsBy_len]; rfl
theorem hashB_size (sha : Bool) (ss : List ByteArray) : (hashB sha ss).size ≤ 64 := by
  unfold hashB
  cases sha
  · show (md5L _).toArray.size ≤ 64; simp [md5_len]
  · show (shaL _).toArray.size ≤ 64; simp [sha_len]
/-- hash's contract at a scheme, behind w -/
def HashOk (sch : Int) (w : World) : Prop := ∀ (v : Value) (ss : List ByteArray) (W : World), Fr noB w W → StrsAt W v ss → ss.length ≤ 100000 → (textsL ss).length ≤ 100000 →
    Calls Tryd.prog 74 #[.int .i64 sch, v] W fun e w' => e = .returned (.string (hashB (decide (sch = 3)) ss)) ∧ Fr noB W w'
theorem HashOk.fr {sch : Int} {w w' : World} (h : HashOk sch w) (hf : Fr noB w w') : HashOk sch w' := fun v ss W hW => h v ss W (hf.trans hW)
theorem join_any (v : Value) (ss : List ByteArray) (w : World) (hv : StrsAt w v ss) (hn : ss.length ≤ 100000) (hlen : (textsL ss).length ≤ 100000) :
    Calls Tryd.prog 90 #[v, .string ⟨#[58]⟩] w fun e w' => e = .returned (.string ⟨(textsL ss).toArray⟩) ∧ Fr noB w w' := by
  rcases hv with ⟨a, c, rfl, rfl, _⟩ | ⟨bk, o, c, rfl, h1, h2, h3, h4⟩
  · exact (Tryd.strings_Join_none _ _ _ _).mono (by rintro e w1 ⟨rfl, rfl⟩; exact ⟨rfl, Fr.refl _ _⟩)
  · exact (Tryd.strings_Join bk o c ss ⟨#[58]⟩ w h4 h3 (by omega) h1 (by unfold textsL at hlen; show (Lib.join _ [58]).length ≤ _; omega)).mono (by rintro e w1 ⟨rfl, hb⟩; exact ⟨rfl, Fr.of_below hb⟩)
set_option maxHeartbeats 1000000 in
theorem hash_md (sch : Int) (h3 : sch ≠ 3) (w : World) (ht : MdTabs w) : HashOk sch w := by
  intro v ss W hW hv hn hlen
  have hT := Lib.hid (ht.fr hW)
  clear ht
  have HJ := Lib.hid (join_any v ss W hv hn hlen)
  clear hv
  have hz : (⟨(textsL ss).toArray⟩ : ByteArray).size < 4398046511104 := by show (textsL ss).toArray.size < _; simp; omega
  have HB := Lib.hid (show hashB (decide (sch = 3)) ss = ⟨(md5L (textsL ss)).toArray⟩ from by rw [decide_eq_false h3]; rfl)
  generalize textsL ss = tx at *
  clear hW
  go_enter Tryd.func74, Tryd.ntmps74
  go_wp2_with fail
  refine HJ.out.mono ?_
  rintro e u1 ⟨rfl, hf1⟩
  go_wp2_with fail
  refine (MD5_any ⟨tx.toArray⟩ u1 hz (hT.out.fr hf1)).mono ?_
  rintro e u2 ⟨rfl, hf2⟩
  go_wp2
  go_ret
  exact ⟨(congrArg (fun b => Ending.returned (.string b)) HB.out).symm, hf1.trans hf2⟩
end Go.Proofs.YtghimbpihmehoaaDoor
