/- The fact banked of the laws on the bank. -/
import Derived.Test.YtkoobhgedoanhaaDoorBankNew
import Derived.Test.YtkoobhgedoanhaaDoorBankFind
import Derived.Test.YtkoobhgedoanhaaDoorHome
namespace Go.Proofs.YtkoobhgedoanhaaDoor
open Go.RowKit

/-- banked's own grant -/
def bankedG (D : Type) (d p : D) : GrantOf D := ⟨homeO, false, ⟨#[]⟩, ⟨#[]⟩, ⟨1, ⟨#[114]⟩, ⟨#[]⟩, ⟨#[]⟩, false, ⟨#[]⟩, false, d⟩, 0, p⟩
theorem banked_put : putL [] (bankedG Texts [] [⟨#[47, 97, 47]⟩]) = [bankedG Texts [] [⟨#[47, 97, 47]⟩]] := rfl
theorem banked_use : useL [bankedG Texts [] [⟨#[47, 97, 47]⟩]] homeO false ⟨#[47, 97, 47, 98]⟩ = ([(bankedG Texts [] [⟨#[47, 97, 47]⟩]).used], .ok (bankedG Texts [] [⟨#[47, 97, 47]⟩]).used) := by kernel_rfl
theorem banked_find : findG [(bankedG Texts [] [⟨#[47, 97, 47]⟩]).used] homeO false ⟨#[47, 99]⟩ = none := by kernel_rfl

set_option maxHeartbeats 4000000 in
set_option maxRecDepth 100000 in
theorem banked_any (w : World) : Calls Tryd.prog 8 #[] w fun e w' => e = .returned (.bool true) ∧ Fr noB w w' := by
  have h0 := BankIs.new w
  have hf0 : Fr noB w (w.alloc (.cells #[.slice none 0 0, .slice none 0 0] 88)) := (Fr.refl noB w).alloc _
  go_enter Tryd.func8, Tryd.ntmps8
  go_wp2_with fail
  generalize w.alloc (.cells #[.slice none 0 0, .slice none 0 0] 88) = W at *
  refine (home_any W).mono ?_
  rintro e u1 ⟨rfl, hf1⟩
  have h1 := h0.frN hf1
  have hF1 := hf0.trans hf1
  unfold Ori.cells homeO
  have hlit := StrsIn.lit1 w.heap.size u1 ⟨#[47, 97, 47]⟩
  have hfl : Fr noB u1 (u1.alloc (.cells #[.string ⟨#[47, 97, 47]⟩] 9)) := (Fr.refl noB u1).alloc _
  have h2 := h1.frN hfl
  have hF2 := hF1.trans hfl
  have hput := Lib.hid (Put_any w.heap.size _ w.heap.size _ _ [] [] (bankedG Value (.slice none 0 0) (.slice (some ⟨u1.heap.size, 0, none⟩) 1 1)) (bankedG Texts [] [⟨#[47, 97, 47]⟩]) h2 ⟨rfl, rfl, rfl, rfl, ⟨rfl, rfl, rfl, rfl, rfl, rfl, rfl, StrsIn.nil _ _⟩, rfl, hlit⟩ (by decide))
  clear hlit h0 h1 hf0 hf1 hF1 h2 hfl
  go_wp2_with fail
  generalize u1.alloc (.cells #[.string ⟨#[47, 97, 47]⟩] 9) = W2 at *
  refine hput.out.mono ?_
  intro e u2 hp
  obtain ⟨rfl, gv2, wv2, h3, hf3, hfo3⟩ := hp
  rw [banked_put] at h3
  have hF3 : Fr noB w u2 := hF2.step hf3 (fun k hk hb => by
    rcases hb with rfl | hb | hb
    · omega
    · simp [own, Value.ownBlock] at hb
    · simp [own, Value.ownBlock] at hb)
  clear hput hf3 hfo3 hF2
  go_wp2_with fail
  refine (home_any u2).mono ?_
  rintro e u3 ⟨rfl, hf4⟩
  have h4 := h3.frN hf4
  have hF4 := hF3.trans hf4
  have huse := Lib.hid (Use_any w.heap.size u3 w.heap.size _ _ _ [] homeO false ⟨#[47, 97, 47, 98]⟩ h4 (by decide) (by intro g hg; simp at hg; subst hg; decide))
  unfold Ori.cells homeO
  clear h3 hF3 hf4
  go_wp2_with fail
  refine huse.out.mono ?_
  intro e u4 hp
  unfold UsePost at hp
  rw [banked_use] at hp
  obtain ⟨⟨gv5, wv5, h5, hf5, hfo5⟩, r5, rfl, hr5, hone5⟩ := hp
  have hgl : gv2.ownBlock = none ∨ ∃ k, gv2.ownBlock = some k ∧ w.heap.size ≤ k := by
    cases hq : gv2.ownBlock with
    | none => exact Or.inl rfl
    | some k => exact Or.inr ⟨k, rfl, h4.glow hq⟩
  have hF5 : Fr noB w u4 := hF4.step hf5 (fun k hk hb => by
    rcases hb with rfl | hb | hb
    · omega
    · have := h4.glow hb; omega
    · have := h4.wlow hb; omega)
  clear huse hf5 hfo5 hF4 hgl h4
  obtain ⟨x, hx⟩ : ∃ x, x = r5.cells := ⟨_, rfl⟩
  have hxk : x.length = 16 := by rw [hx]; rfl
  have hst := fun W => run_storeCells_new (P := Tryd.prog) W 34 #[.bool false, .string ⟨#[]⟩, .int .i64 0, .bool false, .string ⟨#[]⟩, .string ⟨#[]⟩, .int .i64 0, .string ⟨#[]⟩, .string ⟨#[]⟩, .string ⟨#[]⟩, .bool false, .string ⟨#[]⟩, .bool false, .slice none 0 0, .int .i64 0, .slice none 0 0] x (by rw [hxk]; rfl) (by rw [hx]; exact hone5)
  have hfa : Fr noB u4 (u4.alloc (.cells x.toArray 34)) := (Fr.refl noB u4).alloc _
  have hbx : (u4.alloc (.cells x.toArray 34)).heap[u4.heap.size]? = some (.cells x.toArray 34 (0, 0)) := new_block _ _
  have HBX := Lib.hid hbx
  have h6 := h5.frN hfa
  have hF6 := hF5.trans hfa
  have HR := Lib.hid hr5
  rw [← hx]
  have HX := Lib.hid hx
  clear hx hbx hfa hr5 h5 hF5 hone5
  go_wp2_with fail
  clear hst
  generalize u4.alloc (.cells x.toArray 34) = W6 at *
  refine (home_any W6).mono ?_
  rintro e u5 ⟨rfl, hf7⟩
  have h7 := h6.frN hf7
  have hfind := Lib.hid (Find_any w.heap.size u5 w.heap.size _ _ _ [] homeO false ⟨#[47, 99]⟩ h7)
  unfold Ori.cells homeO
  go_wp2_with fail
  refine hfind.out.mono ?_
  intro e u6 hp
  unfold FindPost at hp
  rw [banked_find] at hp
  obtain ⟨hf8, rfl⟩ := hp
  have h8 := h7.frN hf8
  have hz := zGrant_one
  have hst2 := fun W => run_storeCells_new (P := Tryd.prog) W 34 zGrant zGrant.toList rfl (fun u hu => (Array.all_eq_true_iff_forall_mem.1 zGrant_one) u (by simpa using hu))
  have hfa2 : Fr noB u6 (u6.alloc (.cells zGrant 34)) := (Fr.refl noB u6).alloc _
  have h9 := h8.frN hfa2
  have hF9 := ((hF6.trans hf7).trans hf8).trans hfa2
  have hbx9 := ((hf7.trans hf8).trans hfa2).keep HBX.out (fun h => h)
  have c14 : (u6.alloc (.cells zGrant 34)).cell? ⟨u4.heap.size, 14, none⟩ = some (.int .i64 1) := by
    simp only [World.cell?, hbx9, HX.out]
    have e : r5.count = 1 := HR.out.2.2.2.2.2.1
    show some (Value.int IntKind.i64 r5.count) = _
    rw [e]
  have c7 : (u6.alloc (.cells zGrant 34)).cell? ⟨u4.heap.size, 7, none⟩ = some (.string ⟨#[114]⟩) := by
    simp only [World.cell?, hbx9, HX.out]
    have e : r5.a.realm = ⟨#[114]⟩ := HR.out.2.2.2.2.1.2.1
    show some (Value.string r5.a.realm) = _
    rw [e]
  have hgr := Lib.hid (Grants_any w.heap.size _ w.heap.size _ _ _ [] h9 (by decide))
  clear hf7 h7 h6 hF6 hf8 h8 hfa2 hbx9 hfind hz hst2
  go_wp2_with fail
  refine hgr.out.mono ?_
  intro e u7 hp
  obtain ⟨v, rfl, ⟨hgi, _⟩, hf10⟩ := hp
  obtain ⟨av, cv, hv⟩ := hgi.form
  subst hv
  have hF10 := hF9.trans hf10
  clear hgr hgi hf10 c14 c7
  go_wp2_with fail
  go_ret
  exact ⟨rfl, hF10⟩
end Go.Proofs.YtkoobhgedoanhaaDoor
