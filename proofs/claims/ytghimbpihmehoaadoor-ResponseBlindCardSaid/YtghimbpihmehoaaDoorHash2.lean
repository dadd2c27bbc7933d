/- Package proof: hash by SHA256. -/
import Derived.Test.YtghimbpihmehoaaDoorSha2
import Derived.Test.YtghimbpihmehoaaDoorHash
namespace Go.Proofs.YtghimbpihmehoaaDoor
open Go.RowKit

set_option maxHeartbeats 1000000 in
theorem hash_sha (w : World) (hs : ShTabs w) : HashOk 3 w := by
  intro v ss W hW hv hn hlen
  have hT := Lib.hid (hs.fr hW)
  clear hs
  have HJ := Lib.hid (join_any v ss W hv hn hlen)
  clear hv
  have hz : (⟨(textsL ss).toArray⟩ : ByteArray).size < 4398046511104 := by show (textsL ss).toArray.size < _; simp; omega
  have HB := Lib.hid (show hashB (decide ((3 : Int) = 3)) ss = ⟨(shaL (textsL ss)).toArray⟩ from rfl)
  generalize textsL ss = tx at *
  clear hW
  go_enter Tryd.func74, Tryd.ntmps74
  go_wp2_with fail
  refine HJ.out.mono ?_
  rintro e u1 ⟨rfl, hf1⟩
  go_wp2_with fail
  refine (SHA256_any ⟨tx.toArray⟩ u1 hz (hT.out.fr hf1)).mono ?_
  rintro e u2 ⟨rfl, hf2⟩
  go_wp2
  go_ret
  exact ⟨(congrArg (fun b => Ending.returned (.string b)) HB.out).symm, hf1.trans hf2⟩
theorem hash_any (sch : Int) (w : World) (ht : MdTabs w) (hs : ShTabs w) : HashOk sch w := by
  by_cases h : sch = 3
  · subst h; exact hash_sha w hs
  · exact hash_md sch h w ht
end Go.Proofs.YtghimbpihmehoaaDoor
