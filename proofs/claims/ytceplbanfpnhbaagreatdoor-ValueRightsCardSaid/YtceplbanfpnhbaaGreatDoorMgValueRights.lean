/- The statement ValueRights is proved by its card: for every value and number the law returns true. Conditions: none beyond the given row's own. -/
import Derived.Test.YtceplbanfpnhbaaGreatDoorMgValueRights2
import Derived.Test.YtceplbanfpnhbaaGreatDoorFrameC
import Derived.Test.YtceplbanfpnhbaaGreatDoorOpenG
import Derived.Test.YtceplbanfpnhbaaGreatDoorLaid
import Derived.Test.YtceplbanfpnhbaaGreatDoorTabs
import Derived.Test.YtceplbanfpnhbaaGreatDoorPfLaid
namespace Go.Proofs.YtceplbanfpnhbaaGreatDoor.Val
open Go.RowKit Flt Go.ChangeShapes Go.WideShapes Go.ChangeAt
theorem tabs_ofVRights {W : World} (h : laidMetH Tryz.prog Rows.valueRightsRow.laid W) : Tab.Tabs W :=
  Tab.tabs_of (l := Rows.valueRightsRow.laid) ⟨by kernel_rfl, by kernel_rfl, by kernel_rfl, by kernel_rfl, by kernel_rfl, by kernel_rfl, by kernel_rfl, by kernel_rfl, by kernel_rfl⟩ h
theorem pf_ofVRights {W : World} (h : laidMetH Tryz.prog Rows.valueRightsRow.laid W) : Pf.PfT W :=
  Pf.pf_of (l := Rows.valueRightsRow.laid) ⟨by kernel_rfl, by kernel_rfl, ⟨_, rfl⟩, ⟨_, rfl, by kernel_rfl, by kernel_rfl⟩⟩ h
set_option maxRecDepth 100000 in
theorem vrights_lifted (os : Os) (started : os.Started) (H : Type) (enc : TypeId × Value → H) :
    ReturnsInHanded {} Tryz.checked os 10 .any (fun w args => (Rows.valueRightsSpec.pre enc Tryz.prog Tryz.f10 Rows.valueRightsRow.domain false w args ∧ laidMetH Tryz.prog Rows.valueRightsRow.laid w) ∧ sizedMet enc Tryz.prog Tryz.f10 (OpenSpec.ofChange Rows.valueRightsSpec) false w args)
      (Rows.valueRightsSpec.post enc Tryz.prog Tryz.f10 false true false false) := by
  refine returnsInHanded_of_change_and (C := Tryz.checked) (X := fun w _ => laidMetH Tryz.prog Rows.valueRightsRow.laid w) (fun _ _ _ hh h => h.of_heap hh) Frame.own started (by kernel_rfl) Tryz.func10
    (ChangeSpec.witness_shaped (enc := enc) (C := Tryz.checked) (os := os) (X := fun w _ => laidMetH Tryz.prog Rows.valueRightsRow.laid w) false (World.laidAll Tryz.prog os Rows.valueRightsRow.laid) #[.agg #[.int .i64 0, .int .i64 0, .float .f64 0, .string .empty, .bool false], .int .i64 0] 8 (World.laidAll_os _ _ _)
      (World.shaped_of_ZipB (by kernel_rfl) (by kernel_rfl)) (by kernel_rfl) (by kernel_rfl) (by kernel_rfl)
      (by rw [MakeChecks.laidMetH_plain _ _ _ (by kernel_rfl)]; exact laidMet_laidAll _ (by kernel_rfl) (by kernel_rfl))) ?_
  intro W base args ds gs before hval0 hW _ hsz0 hL _
  have hsz : (DataW.weightsEach Tryz.prog (Tryz.f10.params.toList ++ Rows.valueRightsSpec.plain.varTypes Tryz.prog) (ds ++ gs)).all (· ≤ reachBytes) = true := hsz0
  have hval : ∀ (j : Nat) t v, Tryz.f10.params[j]? = some t → args[j]? = some v → Value.okWide Tryz.prog W .any base t v := hval0
  have hW' := hW
  obtain ⟨p, q, hA0, hV, rfl, hfz, hnd⟩ := hW
  have hA : DataW.TrodAll enc Tryz.prog W 0 (fun _ => true) true Tryz.f10.params.toList args.toList ds p := hA0
  rw [Tryz.params10] at hA hval hsz
  obtain ⟨v0, vs0, d0, ds0, p0, q0, hargs, rfl, rfl, h0, r0⟩ := trodAll_cons hA
  obtain ⟨v1, vs1, d1, ds1, p1, q1, rfl, rfl, rfl, h1, r1⟩ := trodAll_cons r0
  obtain ⟨rfl, rfl, rfl⟩ := trodAll_nil r1
  obtain rfl : args = #[v0, v1] := by cases args; simp_all
  obtain ⟨rfl, rfl⟩ := trodVars_none hV
  obtain ⟨ka, ia, xa, ta, ya, rfl, wa⟩ := Open.open_val (hval 0 29 v0 rfl rfl) h0 (Open.reach_of hsz (j := 0) (t := 29) rfl rfl)
  obtain ⟨b, rfl, rfl, rfl, wb⟩ := open_int Tryz.underlying3 (hval 1 3 v1 rfl rfl) h1
  clear hA0 hval0 hsz hsz0
  refine (rights_any ka ia xa ta ya b W (tabs_ofVRights hL) (pf_ofVRights hL) wa.2.2.2).mono fun e W' ⟨he, hw⟩ => ?_
  subst he
  exact ⟨_, rfl, Frame.law_post Frame.laidOut (by kernel_rfl) rfl (by kernel_rfl) Tryz.underlying4 rfl rfl rfl hW' hw⟩

set_option maxHeartbeats 40000000 in
theorem vrights_closed : joinedFacts Tryz.pinned.checked.prog 10 Tryz.f10 Rows.valueRightsSpec Rows.valueRightsRow = true := by
  unfold joinedFacts
  repeat (with_reducible refine Bool.and_eq_true_iff.2 ⟨?_, ?_⟩; rotate_left 1; (as_aux_lemma => kernel_rfl))
  as_aux_lemma => kernel_rfl
theorem vrights_said : Rows.ValueRightsSaid :=
  OpenClaim.holds_of_wide 10 Tryz.f10 rfl rfl rfl rfl rfl rfl rfl ⟨rfl, rfl, rfl, rfl, rfl⟩ rfl rfl rfl rfl rfl (by kernel_rfl) Tryz.func10 vrights_closed
    (of_decide_eq_true (by kernel_rfl)) (by unfold Func.isWrapper; first | (rw [if_pos (by decide +kernel)]; kernel_rfl) | (rw [if_neg (by decide +kernel)]; exact ⟨rfl, rfl⟩))
    (fun os started H enc _ => vrights_lifted os started H enc)
theorem vrights_plain (f : FuncId) (fn : Func) (hf : Tryz.pinned.checked.prog.funcNamed "gazette/gazettelaw02.ValueRights" = some f) (hfn : Tryz.pinned.checked.prog.funcs[f]? = some fn) :
    true = Tryz.pinned.checked.prog.looks [] ∧ ∀ (j : Nat) t, fn.params[j]? = some t → Tryz.pinned.checked.prog.wantsStandIn t = false := by
  obtain rfl : f = 10 := Option.some.inj ((show Tryz.prog.funcNamed "gazette/gazettelaw02.ValueRights" = some 10 by kernel_rfl).symm.trans hf) |>.symm
  obtain rfl : fn = Tryz.f10 := (Option.some.inj (Tryz.func10.symm.trans hfn)).symm
  refine ⟨by kernel_rfl, fun j t ht => ?_⟩
  rw [Tryz.params10] at ht
  have hm : t ∈ [29, 3] := by simpa using Array.mem_of_getElem? ht
  have hall : ([29, 3].all fun u => !Tryz.prog.wantsStandIn u) = true := by kernel_rfl
  exact (show Tryz.prog.wantsStandIn t = false by simpa using List.all_eq_true.1 hall t hm)
theorem vrights_holds : Rows.ValueRightsCardSaid :=
  Claim7.holds_tied_plain_at .later [] _ _ _ _ vrights_said (fun _ h => by cases h) (by kernel_rfl) (fun _ h => by cases h) valueRights_row_tie rfl ⟨rfl, rfl⟩ (by kernel_rfl) rfl vrights_plain (by kernel_rfl)
end Go.Proofs.YtceplbanfpnhbaaGreatDoor.Val
