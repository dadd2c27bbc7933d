/- The law UrlCase: whatever the input, the Go function returns true, and each argument reads behind the call as before. Its conditions: none beyond the row's own. -/
import Derived.Test.YtkoobhgedoanhaaGreatDoorUrlCaseW
import Derived.ProofKit
import Derived.OpenShut
import Derived.ShutString
import Derived.SizedLaws
import Derived.ChangeOld
import Derived.Test.YtkoobhgedoanhaaGreatDoorTie
import Derived.Test.YtkoobhgedoanhaaGreatDoorCards
import Derived.LaidMore
import Derived.Lay
import Derived.SevenTiedAt
import Derived.Stop.Joined
namespace Go.Proofs.YtkoobhgedoanhaaGreatDoor.urlCase
open Go.ChangeShapes Go.WideShapes Go.ChangeAt Go.RowKit
open Go.ChangeMaps (open_string shut_string)

theorem own : ownKnob Tryz.prog.godebug = none := by kernel_rfl
theorem laidOut : laidOutB Tryz.prog = true := by kernel_rfl

set_option maxRecDepth 100000 in
theorem lifted (os : Os) (started : os.Started) (H : Type) (enc : TypeId × Value → H) :
    ReturnsInHanded {} Tryz.checked os 10 .any (fun w args => (Rows.urlCaseSpec.pre enc Tryz.prog Tryz.f10 Rows.urlCaseRow.domain false w args ∧ laidMetH Tryz.prog Rows.urlCaseRow.laid w) ∧ sizedMet enc Tryz.prog Tryz.f10 (OpenSpec.ofChange Rows.urlCaseSpec) false w args)
      (Rows.urlCaseSpec.post enc Tryz.prog Tryz.f10 false true false false) := by
  refine returnsInHanded_of_calls (C := Tryz.checked) own started (by kernel_rfl)
    (ChangeSpec.witness_shaped (enc := enc) (C := Tryz.checked) (os := os) (X := fun w _ => laidMetH Tryz.prog Rows.urlCaseRow.laid w) false (World.laidAll Tryz.prog os Rows.urlCaseRow.laid) #[.string ByteArray.empty, .string ByteArray.empty] 8 (World.laidAll_os _ _ _)
      (World.shaped_of_ZipB (by kernel_rfl) (by kernel_rfl)) (by kernel_rfl) (by kernel_rfl) (by kernel_rfl)
      (by rw [MakeChecks.laidMetH_plain _ _ _ (by kernel_rfl)]; exact laidMet_laidAll _ (by kernel_rfl) (by kernel_rfl))) ?_
  intro w tape i _ hshaped _ hin hmet _
  obtain ⟨_, _, _, fn, hfn, _, _, _, _, hval0⟩ := hin
  obtain rfl : fn = Tryz.f10 := Option.some.inj (hfn.symm.trans Tryz.func10)
  obtain ⟨⟨⟨ds, gs, before, hread, _⟩, hL0⟩, hsized⟩ := hmet
  have hW := DataW.Whole.of_heap (w' := w.forCall tape i) (by rfl) hread
  have hsz0 := hsized.weights hread
  have hL : laidMetH Tryz.prog Rows.urlCaseRow.laid (w.forCall tape i) := hL0.of_heap (by rfl)
  have hmax := MaxAt.of hshaped
  suffices told : Calls Tryz.prog 10 i.args (w.forCall tape i) fun e W' => ∃ v, e = .returned v ∧ Rows.urlCaseSpec.post enc Tryz.prog Tryz.f10 false true false false (w.forCall tape i) i.args v W' from
    told.mono fun e W' h => by obtain ⟨v, rfl, hp⟩ := h; exact ChangeSpec.post_blind hp
  clear hread hL0 hsized hshaped hfn
  generalize i.args = args at *
  generalize w.heap.size = base at *
  generalize w.forCall tape i = W at *
  have hsz : (DataW.weightsEach Tryz.prog (Tryz.f10.params.toList ++ Rows.urlCaseSpec.plain.varTypes Tryz.prog) (ds ++ gs)).all (· ≤ reachBytes) = true := hsz0
  clear hsz0
  have hval : ∀ (j : Nat) t v, Tryz.f10.params[j]? = some t → args[j]? = some v → Value.okWide Tryz.prog W .any base t v := hval0
  have hW' := hW
  obtain ⟨p, q, hA0, hV, rfl, _, _⟩ := hW
  have hA : DataW.TrodAll enc Tryz.prog W 0 (fun _ => true) true Tryz.f10.params.toList args.toList ds p := hA0
  rw [Tryz.params10] at hA hval hsz
  obtain ⟨v0, vs0, d0, ds0, p0, q0, hargs, rfl, rfl, h0, r0⟩ := trodAll_cons hA
  obtain ⟨v1, vs1, d1, ds1, p1, q1, rfl, rfl, rfl, h1, r1⟩ := trodAll_cons r0
  obtain ⟨rfl, rfl, rfl⟩ := trodAll_nil r1
  obtain rfl : args = #[v0, v1] := by cases args; simp_all
  obtain ⟨rfl, rfl⟩ := trodVars_none hV
  obtain ⟨a0, rfl, rfl, rfl, w0⟩ := open_string Tryz.underlying9 (hval 0 9 v0 rfl rfl) h0
  obtain ⟨a1, rfl, rfl, rfl, w1⟩ := open_string Tryz.underlying9 (hval 1 9 v1 rfl rfl) h1
  clear hA0 hval0
  rw [MakeChecks.laidMetH_plain _ _ _ (by kernel_rfl)] at hL
  have tb0 := PwTab_laid hL (by refine ⟨?_, ?_⟩ <;> repeat (first | exact True.intro | exact List.Mem.head _ | refine List.Mem.tail _ ?_))
  have tb1 := CaTab_laid hL (by refine ⟨?_, ?_⟩ <;> repeat (first | exact True.intro | exact List.Mem.head _ | refine List.Mem.tail _ ?_))
  have tb2 := U8Tab_laid hL (by refine ⟨?_, ?_⟩ <;> repeat (first | exact True.intro | exact List.Mem.head _ | refine List.Mem.tail _ ?_))
  have z0 : a0.size ≤ 140737488351232 := by
    have := sized_string hsz (j := 0) (t := 9) rfl rfl
    simpa [reachBytes] using this
  have z1 : a1.size ≤ 140737488351232 := by
    have := sized_string hsz (j := 1) (t := 9) rfl rfl
    simpa [reachBytes] using this
  simp only [List.append_nil] at hW'
  refine (UrlCase_walk a0 a1 z0 z1 W tb0 tb1 tb2 hmax).mono fun e W' ⟨he, bel⟩ => ?_
  subst he
  exact ⟨_, rfl, _, _, _, [], _, [], hW', trodAll_mk1 (shut_bool Tryz.underlying4 _), (trodAll_cons_mk (shut_string Tryz.underlying9 w0) (trodAll_cons_mk (shut_string Tryz.underlying9 w1) trodAll_mk0)), rfl, bel.frame _, fun h => by cases h⟩

theorem over : Rows.urlCaseRow.holds Tryz.pinned (OpenSpec.ofChange Rows.urlCaseSpec) :=
  OpenClaim.holds_of_wide 10 Tryz.f10 rfl rfl rfl rfl rfl rfl rfl ⟨rfl, rfl, rfl, rfl, rfl⟩ rfl rfl rfl rfl rfl (by kernel_rfl) Tryz.func10 (by kernel_rfl)
    (of_decide_eq_true (by kernel_rfl)) (by unfold Func.isWrapper; first | (rw [if_pos (by decide +kernel)]; kernel_rfl) | (rw [if_neg (by decide +kernel)]; exact ⟨rfl, rfl⟩))
    (fun os started H enc _ => lifted os started H enc)

theorem card : Rows.UrlCaseCardSaid :=
  Claim7.holds_tied_plain_at .later [] Rows.urlCaseCard.laidKinds true Rows.urlCaseCard.stood.harness Rows.urlCaseCard.stood.looks over (fun _ h => by cases h) (by kernel_rfl) (fun _ h => by cases h) urlCase_row_tie rfl ⟨rfl, rfl⟩ (by kernel_rfl) rfl
    (fun f fn hf hfn => by
      obtain rfl : f = 10 := Option.some.inj ((show Tryz.prog.funcNamed "gatepost/gatepostkeep.UrlCase" = some 10 by kernel_rfl).symm.trans hf) |>.symm
      obtain rfl : fn = Tryz.f10 := (Option.some.inj (Tryz.func10.symm.trans hfn)).symm
      exact ⟨by kernel_rfl, fun j t ht => by
        rw [Tryz.params10] at ht
        have hm : t ∈ [9, 9] := by simpa using Array.mem_of_getElem? ht
        have hall : ([9, 9].all fun u => !Tryz.prog.wantsStandIn u) = true := by kernel_rfl
        exact (show Tryz.prog.wantsStandIn t = false by simpa using List.all_eq_true.1 hall t hm)⟩)
    (by kernel_rfl)

/-- The statement. -/
theorem proved : Rows.UrlCaseCardSaid := card
#print axioms proved
end Go.Proofs.YtkoobhgedoanhaaGreatDoor.urlCase
