/- Package url: Print, Target. -/
import Derived.Test.YtghimbpihmehoaaDoorUrl1
import Derived.Deep.RegionWith
namespace Go.Proofs.YtghimbpihmehoaaDoor
open Go.RowKit

/-- url.Target -/
def targetB (path query : ByteArray) : ByteArray := if query.size = 0 then path else (path ++ ⟨#[63]⟩) ++ query
/-- url.Print -/
def printB (o : Ori) (path query : ByteArray) : ByteArray := if query.size = 0 then oriB o ++ path else (oriB o ++ path) ++ (⟨#[63]⟩ ++ query)
theorem print_target (o : Ori) (path query : ByteArray) : printB o path query = oriB o ++ targetB path query := by
  unfold printB targetB
  split
  · rfl
  · apply Go.WideShapes.bytes_inj
    simp
theorem Target_any (o : Ori) (path query : ByteArray) (w : World) (h1 : path.size < 100000) (h2 : query.size < 100000) :
    Calls Tryd.prog 49 #[.agg #[.bool o.secure, .string o.host, .int .i64 o.port, .string path, .string query]] w fun e w' => e = .returned (.string (targetB path query)) ∧ Fr noB w w' := by
  by_cases h0 : query.size = 0
  · have HT := Lib.hid (show targetB path query = path by unfold targetB; rw [if_pos h0])
    have t1 : query.toList = [] := by rw [ByteArray.toList_eq]; exact byteArray_nil.2 h0
    have t2 : query.toList.isEmpty = true := by rw [t1]; rfl
    go_enter Tryd.func49, Tryd.ntmps49
    go_wp2
    go_ret
    exact ⟨by rw [HT.out]; rfl, (Fr.refl noB w).alloc _⟩
  · have HT := Lib.hid (show targetB path query = (path ++ ⟨#[63]⟩) ++ query by unfold targetB; rw [if_neg h0])
    have t1 : ¬ query.toList = [] := by rw [ByteArray.toList_eq]; exact fun h => h0 (byteArray_nil.1 h)
    have t2 : query.toList.isEmpty = false := by simpa using t1
    go_enter Tryd.func49, Tryd.ntmps49
    go_wp2
    go_ret
    exact ⟨by rw [HT.out]; rfl, (Fr.refl noB w).alloc _⟩
theorem oriB_size (o : Ori) (h0 : -9223372036854775808 ≤ o.port) (h1 : o.port ≤ 9223372036854775807) : (oriB o).size ≤ o.host.size + 40 := by
  have hi := Lib.itoa_length_le o.port h0 h1
  show (textO o.toL).toArray.size ≤ _
  unfold textO Ori.toL headL httpL httpsL
  have hz : o.host.data.toList.length = o.host.size := by simp
  simp only [List.size_toArray, List.length_append]
  split <;> split <;> simp <;> omega
set_option maxRecDepth 100000 in
set_option maxHeartbeats 4000000 in
theorem Print_any (o : Ori) (path query : ByteArray) (w : World) (ht : PwTab w) (h0 : -9223372036854775808 ≤ o.port) (h1 : o.port ≤ 9223372036854775807) (hs : o.host.size < 100000) (h2 : path.size < 100000) (h3 : query.size < 100000) :
    Calls Tryd.prog 48 #[.agg #[.bool o.secure, .string o.host, .int .i64 o.port, .string path, .string query]] w fun e w' => e = .returned (.string (printB o path query)) ∧ Fr noB w w' := by
  obtain ⟨wb, hwb⟩ : ∃ wb, wb = w.alloc (.cells #[.bool o.secure, .string o.host, .int .i64 o.port, .string path, .string query] 65) := ⟨_, rfl⟩
  have hfb : Fr noB w wb := by rw [hwb]; exact (Fr.refl noB w).alloc _
  have hk1 : wb.heap[w.heap.size]? = some (.cells #[.bool o.secure, .string o.host, .int .i64 o.port, .string path, .string query] 65 (0, 0)) := by rw [hwb]; exact new_block _ _
  have HS := Lib.hid (show ∀ U, Fr noB wb U → U.cell? ⟨w.heap.size, 0, none⟩ = some (.bool o.secure) ∧ U.cell? ⟨w.heap.size, 1, none⟩ = some (.string o.host) ∧ U.cell? ⟨w.heap.size, 2, none⟩ = some (.int .i64 o.port) ∧ U.cell? ⟨w.heap.size, 3, none⟩ = some (.string path) ∧ U.cell? ⟨w.heap.size, 4, none⟩ = some (.string query) from fun U hU => by
    have j1 := hU.keep hk1 (fun h => h)
    simp [World.cell?, j1])
  have HTX := Lib.hid (show ∀ U, Fr noB wb U → Calls Tryd.prog 43 #[.agg #[.bool o.secure, .string o.host, .int .i64 o.port]] U fun e w' => e = .returned (.string (oriB o)) ∧ Fr noB U w' from fun U hU => Text_any o U ((ht.fr hfb).fr hU) h0 h1 hs)
  have hoz := oriB_size o h0 h1
  have HP := Lib.hid (show printB o path query = if query.size = 0 then oriB o ++ path else (oriB o ++ path) ++ (⟨#[63]⟩ ++ query) from rfl)
  generalize oriB o = ob at *
  have HWB := Lib.hid hwb
  have HFB := Lib.hid hfb
  clear hwb hk1 hfb ht
  obtain ⟨c0, c1, c2, c3, c4⟩ := HS.out wb (Fr.refl _ _)
  by_cases hq : query.size = 0
  · have HT := Lib.hid (show printB o path query = ob ++ path by rw [HP.out, if_pos hq])
    have t1 : query.toList = [] := by rw [ByteArray.toList_eq]; exact byteArray_nil.2 hq
    have t2 : query.toList.isEmpty = true := by rw [t1]; rfl
    go_enter Tryd.func48, Tryd.ntmps48
    go_wp2_with fail
    rw [← HWB.out]
    first | go_region_with (go_at_call 43; refine (HTX.out _ (by repeat (first | exact Fr.refl _ _ | apply Fr.drew))).mono ?_; rintro e v ⟨rfl, hv⟩; obtain ⟨k0, k1, k2, k3, k4⟩ := HS.out v (by repeat (first | exact Fr.refl _ _ | apply Fr.drew | refine Fr.trans ?_ (by assumption)))) | fail
    all_goals
      go_wp2
      go_ret
      exact ⟨by rw [HT.out]; rfl, HFB.out.trans (by repeat (first | exact Fr.refl _ _ | apply Fr.drew | refine Fr.trans ?_ (by assumption)))⟩
  · have HT := Lib.hid (show printB o path query = (ob ++ path) ++ (⟨#[63]⟩ ++ query) by rw [HP.out, if_neg hq])
    have t1 : ¬ query.toList = [] := by rw [ByteArray.toList_eq]; exact fun h => hq (byteArray_nil.1 h)
    have t2 : query.toList.isEmpty = false := by simpa using t1
    go_enter Tryd.func48, Tryd.ntmps48
    go_wp2_with fail
    rw [← HWB.out]
    first | go_region_with (go_at_call 43; refine (HTX.out _ (by repeat (first | exact Fr.refl _ _ | apply Fr.drew))).mono ?_; rintro e v ⟨rfl, hv⟩; obtain ⟨k0, k1, k2, k3, k4⟩ := HS.out v (by repeat (first | exact Fr.refl _ _ | apply Fr.drew | refine Fr.trans ?_ (by assumption)))) | fail
    all_goals
      go_wp2
      go_ret
      exact ⟨by rw [HT.out]; rfl, HFB.out.trans (by repeat (first | exact Fr.refl _ _ | apply Fr.drew | refine Fr.trans ?_ (by assumption)))⟩
end Go.Proofs.YtghimbpihmehoaaDoor
