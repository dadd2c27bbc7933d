/- The fact summed; the law SumShape: its walk. -/
import Derived.Test.YtghimbpihmehoaaDoorHash2
import Derived.Test.YtghimbpihmehoaaDoorMdFacts
import Derived.Test.YtghimbpihmehoaaDoorShaFacts
import Derived.Test.YtghimbpihmehoaaDoorHexPure
namespace Go.Proofs.YtghimbpihmehoaaDoor
open Go.RowKit

theorem md5_unhex (l : List UInt8) : ∃ r, unhexL (md5L l) = some r := ⟨_, unhex_hex _⟩
theorem sha_unhex (l : List UInt8) : ∃ r, unhexL (shaL l) = some r := ⟨_, unhex_hex _⟩

set_option maxRecDepth 100000 in
set_option maxHeartbeats 4000000 in
theorem summed_any (w : World) (ht : MdTabs w) (hs : ShTabs w) :
    Calls Tryd.prog 19 #[] w fun e w' => e = .returned (.bool true) ∧ Fr noB w w' := by
  have HS := Lib.hid hs
  have HMD := Lib.hid (MD5_any ⟨#[97, 98, 99]⟩ w (by decide) ht)
  go_enter Tryd.func19, Tryd.ntmps19
  go_wp2_with fail
  refine HMD.out.mono ?_
  rintro e u1 ⟨rfl, hf1⟩
  rw [show md5L (⟨#[97, 98, 99]⟩ : ByteArray).data.toList = _ from md5_abc]
  have HSH := Lib.hid (SHA256_any ⟨#[97, 98, 99]⟩ u1 (by decide) (HS.out.fr hf1))
  go_wp2_with fail
  refine HSH.out.mono ?_
  rintro e u2 ⟨rfl, hf2⟩
  rw [show shaL (⟨#[97, 98, 99]⟩ : ByteArray).data.toList = _ from sha_abc]
  go_wp2
  go_ret
  exact ⟨rfl, hf1.trans hf2⟩

set_option maxRecDepth 100000 in
set_option maxHeartbeats 4000000 in
theorem SumShape_walk (a0 : ByteArray) (z0 : a0.size ≤ 140737488351232) (w : World) (ht : MdTabs w) (hs : ShTabs w) :
    Calls Tryd.prog 4 #[.string a0] w fun e w' => e = .returned (.bool true) ∧ Below w.heap.size w w' := by
  have HT := Lib.hid (And.intro ht hs)
  clear ht hs
  go_enter Tryd.func4, Tryd.ntmps4
  go_wp2_with fail
  refine (summed_any w HT.out.1 HT.out.2).mono ?_
  rintro e u1 ⟨rfl, hf1⟩
  go_wp2_with fail
  refine (coded_any u1).mono ?_
  rintro e u2 ⟨rfl, hf2⟩
  have HF2 := Lib.hid (hf1.trans hf2)
  clear hf1 hf2
  by_cases hlen : 400 < a0.size
  · have hlen' : (400 : Int) < (a0.size : Int) := by omega
    go_wp2
    go_ret
    exact ⟨rfl, HF2.out.none_below⟩
  · have hlen' : ¬ (400 : Int) < (a0.size : Int) := by omega
    have HM := Lib.hid (MD5_any a0 u2 (by omega) (HT.out.1.fr HF2.out))
    go_wp2_with fail
    refine HM.out.mono ?_
    rintro e u3 ⟨rfl, hf3⟩
    have HF3 := Lib.hid (HF2.out.trans hf3)
    obtain ⟨r1, hr1⟩ := md5_unhex a0.data.toList
    have hl1 := md5_len a0.data.toList
    generalize md5L a0.data.toList = m at *
    have HH := Lib.hid (SHA256_any a0 u3 (by omega) (HT.out.2.fr HF3.out))
    go_wp2_with fail
    refine HH.out.mono ?_
    rintro e u4 ⟨rfl, hf4⟩
    have HF4 := Lib.hid (HF3.out.trans hf4)
    obtain ⟨r2, hr2⟩ := sha_unhex a0.data.toList
    have hl2 := sha_len a0.data.toList
    generalize shaL a0.data.toList = n at *
    clear hf3 hf4 HM HH
    have hz1 : (⟨m.toArray⟩ : ByteArray).size = 32 := by show m.toArray.size = _; simp [hl1]
    have hz2 : (⟨n.toArray⟩ : ByteArray).size = 64 := by show n.toArray.size = _; simp [hl2]
    go_wp2_with fail
    refine (Unhex_any ⟨m.toArray⟩ u4 (by omega)).mono ?_
    intro e u5 hp
    obtain ⟨rfl, hf5⟩ := hp.ok (by simpa using hr1)
    clear hp
    go_wp2_with fail
    refine (Unhex_any ⟨n.toArray⟩ u5 (by omega)).mono ?_
    intro e u6 hp
    obtain ⟨rfl, hf6⟩ := hp.ok (by simpa using hr2)
    clear hp
    go_wp2
    go_ret
    exact ⟨rfl, ((HF4.out.trans hf5).trans hf6).none_below⟩
end Go.Proofs.YtghimbpihmehoaaDoor
