/- The statement ValueThings is proved by its card: for every whole number, number and text the law returns true. Conditions: none beyond the given row's own. -/
import Derived.Test.YtceplbanfpnhbaaGreatDoorMgValueThings1
import Derived.Test.YtceplbanfpnhbaaGreatDoorFrameC
import Derived.Test.YtceplbanfpnhbaaGreatDoorOpenG
import Derived.Test.YtceplbanfpnhbaaGreatDoorLaid
import Derived.Test.YtceplbanfpnhbaaGreatDoorTabs
import Derived.Test.YtceplbanfpnhbaaGreatDoorPfLaid
namespace Go.Proofs.YtceplbanfpnhbaaGreatDoor.Val
open Go.RowKit Flt Go.ChangeShapes Go.WideShapes Go.ChangeAt
theorem tabs_ofVThings {W : World} (h : laidMetH Tryz.prog Rows.valueThingsRow.laid W) : Tab.Tabs W :=
  Tab.tabs_of (l := Rows.valueThingsRow.laid) ⟨by kernel_rfl, by kernel_rfl, by kernel_rfl, by kernel_rfl, by kernel_rfl, by kernel_rfl, by kernel_rfl, by kernel_rfl, by kernel_rfl⟩ h
theorem pf_ofVThings {W : World} (h : laidMetH Tryz.prog Rows.valueThingsRow.laid W) : Pf.PfT W :=
  Pf.pf_of (l := Rows.valueThingsRow.laid) ⟨by kernel_rfl, by kernel_rfl, ⟨_, rfl⟩, ⟨_, rfl, by kernel_rfl, by kernel_rfl⟩⟩ h
theorem flt_lt {b : Nat} (h : (Lit.float .f64 b).wf = true) : b < 18446744073709551616 := by simpa [Lit.wf] using h
set_option maxRecDepth 100000 in
theorem vthings_lifted (os : Os) (started : os.Started) (H : Type) (enc : TypeId × Value → H) :
    ReturnsInHanded {} Tryz.checked os 12 .any (fun w args => (Rows.valueThingsSpec.pre enc Tryz.prog Tryz.f12 Rows.valueThingsRow.domain false w args ∧ laidMetH Tryz.prog Rows.valueThingsRow.laid w) ∧ sizedMet enc Tryz.prog Tryz.f12 (OpenSpec.ofChange Rows.valueThingsSpec) false w args)
      (Rows.valueThingsSpec.post enc Tryz.prog Tryz.f12 false true false false) := by
  refine returnsInHanded_of_change_and (C := Tryz.checked) (X := fun w _ => laidMetH Tryz.prog Rows.valueThingsRow.laid w) (fun _ _ _ hh h => h.of_heap hh) Frame.own started (by kernel_rfl) Tryz.func12
    (ChangeSpec.witness_shaped (enc := enc) (C := Tryz.checked) (os := os) (X := fun w _ => laidMetH Tryz.prog Rows.valueThingsRow.laid w) false (World.laidAll Tryz.prog os Rows.valueThingsRow.laid) #[.int .i64 0, .float .f64 0, .string .empty] 8 (World.laidAll_os _ _ _)
      (World.shaped_of_ZipB (by kernel_rfl) (by kernel_rfl)) (by kernel_rfl) (by kernel_rfl) (by kernel_rfl)
      (by rw [MakeChecks.laidMetH_plain _ _ _ (by kernel_rfl)]; exact laidMet_laidAll _ (by kernel_rfl) (by kernel_rfl))) ?_
  intro W base args ds gs before hval0 hW _ hsz0 hL _
  have hsz : (DataW.weightsEach Tryz.prog (Tryz.f12.params.toList ++ Rows.valueThingsSpec.plain.varTypes Tryz.prog) (ds ++ gs)).all (· ≤ reachBytes) = true := hsz0
  have hval : ∀ (j : Nat) t v, Tryz.f12.params[j]? = some t → args[j]? = some v → Value.okWide Tryz.prog W .any base t v := hval0
  have hW' := hW
  obtain ⟨p, q, hA0, hV, rfl, hfz, hnd⟩ := hW
  have hA : DataW.TrodAll enc Tryz.prog W 0 (fun _ => true) true Tryz.f12.params.toList args.toList ds p := hA0
  rw [Tryz.params12] at hA hval hsz
  obtain ⟨v0, vs0, d0, ds0, p0, q0, hargs, rfl, rfl, h0, r0⟩ := trodAll_cons hA
  obtain ⟨v1, vs1, d1, ds1, p1, q1, rfl, rfl, rfl, h1, r1⟩ := trodAll_cons r0
  obtain ⟨v2, vs2, d2, ds2, p2, q2, rfl, rfl, rfl, h2, r2⟩ := trodAll_cons r1
  obtain ⟨rfl, rfl, rfl⟩ := trodAll_nil r2
  obtain rfl : args = #[v0, v1, v2] := by cases args; simp_all
  obtain ⟨rfl, rfl⟩ := trodVars_none hV
  obtain ⟨a, rfl, rfl, rfl, wa⟩ := open_int Tryz.underlying3 (hval 0 3 v0 rfl rfl) h0
  obtain ⟨b, rfl, rfl, rfl, wb⟩ := open_float Tryz.underlying27 (hval 1 27 v1 rfl rfl) h1
  obtain ⟨c, rfl, rfl, rfl, wc⟩ := Go.ChangeMaps.open_string Tryz.underlying9 (hval 2 9 v2 rfl rfl) h2
  have zc : c.data.toList.length ≤ 140737488351232 := sized_string hsz (j := 2) (t := 9) rfl rfl
  clear hA0 hval0 hsz hsz0
  refine (things_any a b c.data.toList W (tabs_ofVThings hL) (pf_ofVThings hL) (flt_lt wb) zc).mono fun e W' ⟨he, hw⟩ => ?_
  subst he
  exact ⟨_, rfl, Frame.law_post Frame.laidOut (by kernel_rfl) rfl (by kernel_rfl) Tryz.underlying4 rfl rfl rfl hW' hw⟩

set_option maxHeartbeats 40000000 in
theorem vthings_closed : joinedFacts Tryz.pinned.checked.prog 12 Tryz.f12 Rows.valueThingsSpec Rows.valueThingsRow = true := by
  unfold joinedFacts
  repeat (with_reducible refine Bool.and_eq_true_iff.2 ⟨?_, ?_⟩; rotate_left 1; (as_aux_lemma => kernel_rfl))
  as_aux_lemma => kernel_rfl
theorem vthings_said : Rows.ValueThingsSaid :=
  OpenClaim.holds_of_wide 12 Tryz.f12 rfl rfl rfl rfl rfl rfl rfl ⟨rfl, rfl, rfl, rfl, rfl⟩ rfl rfl rfl rfl rfl (by kernel_rfl) Tryz.func12 vthings_closed
    (of_decide_eq_true (by kernel_rfl)) (by unfold Func.isWrapper; first | (rw [if_pos (by decide +kernel)]; kernel_rfl) | (rw [if_neg (by decide +kernel)]; exact ⟨rfl, rfl⟩))
    (fun os started H enc _ => vthings_lifted os started H enc)
theorem vthings_plain (f : FuncId) (fn : Func) (hf : Tryz.pinned.checked.prog.funcNamed "gazette/gazettelaw02.ValueThings" = some f) (hfn : Tryz.pinned.checked.prog.funcs[f]? = some fn) :
    true = Tryz.pinned.checked.prog.looks [] ∧ ∀ (j : Nat) t, fn.params[j]? = some t → Tryz.pinned.checked.prog.wantsStandIn t = false := by
  obtain rfl : f = 12 := Option.some.inj ((show Tryz.prog.funcNamed "gazette/gazettelaw02.ValueThings" = some 12 by kernel_rfl).symm.trans hf) |>.symm
  obtain rfl : fn = Tryz.f12 := (Option.some.inj (Tryz.func12.symm.trans hfn)).symm
  refine ⟨by kernel_rfl, fun j t ht => ?_⟩
  rw [Tryz.params12] at ht
  have hm : t ∈ [3, 27, 9] := by simpa using Array.mem_of_getElem? ht
  have hall : ([3, 27, 9].all fun u => !Tryz.prog.wantsStandIn u) = true := by kernel_rfl
  exact (show Tryz.prog.wantsStandIn t = false by simpa using List.all_eq_true.1 hall t hm)
theorem vthings_holds : Rows.ValueThingsCardSaid :=
  Claim7.holds_tied_plain_at .later [] _ _ _ _ vthings_said (fun _ h => by cases h) (by kernel_rfl) (fun _ h => by cases h) valueThings_row_tie rfl ⟨rfl, rfl⟩ (by kernel_rfl) rfl vthings_plain (by kernel_rfl)
end Go.Proofs.YtceplbanfpnhbaaGreatDoor.Val
