/- The statement ValueSames is proved by its card: for every two values the law returns true. Conditions: none beyond the given row's own. -/
import Derived.Test.YthndlcgcmfhokaaGreatDoorMgValueSames1
import Derived.Test.YthndlcgcmfhokaaGreatDoorFrameC
import Derived.Test.YthndlcgcmfhokaaGreatDoorOpenG
import Derived.Test.YthndlcgcmfhokaaGreatDoorLaid
import Derived.Test.YthndlcgcmfhokaaGreatDoorTabs
import Derived.Test.YthndlcgcmfhokaaGreatDoorPfLaid
namespace Go.Proofs.YthndlcgcmfhokaaGreatDoor.Val
open Go.RowKit Flt Go.ChangeShapes Go.WideShapes Go.ChangeAt
theorem tabs_ofSames02 {W : World} (h : laidMetH Tryz.prog Rows.valueSamesRow.laid W) : Tab.Tabs W :=
  Tab.tabs_of (l := Rows.valueSamesRow.laid) ⟨by kernel_rfl, by kernel_rfl, by kernel_rfl, by kernel_rfl, by kernel_rfl, by kernel_rfl, by kernel_rfl, by kernel_rfl, by kernel_rfl⟩ h
theorem pf_ofSames02 {W : World} (h : laidMetH Tryz.prog Rows.valueSamesRow.laid W) : Pf.PfT W :=
  Pf.pf_of (l := Rows.valueSamesRow.laid) ⟨by kernel_rfl, by kernel_rfl, ⟨_, rfl⟩, ⟨_, rfl, by kernel_rfl, by kernel_rfl⟩⟩ h
set_option maxRecDepth 100000 in
theorem vsames_lifted (os : Os) (started : os.Started) (H : Type) (enc : TypeId × Value → H) :
    ReturnsInHanded {} Tryz.checked os 3 .any (fun w args => (Rows.valueSamesSpec.pre enc Tryz.prog Tryz.f3 Rows.valueSamesRow.domain false w args ∧ laidMetH Tryz.prog Rows.valueSamesRow.laid w) ∧ sizedMet enc Tryz.prog Tryz.f3 (OpenSpec.ofChange Rows.valueSamesSpec) false w args)
      (Rows.valueSamesSpec.post enc Tryz.prog Tryz.f3 false true false false) := by
  refine returnsInHanded_of_change_and (C := Tryz.checked) (X := fun w _ => laidMetH Tryz.prog Rows.valueSamesRow.laid w) (fun _ _ _ hh h => h.of_heap hh) Frame.own started (by kernel_rfl) Tryz.func3
    (ChangeSpec.witness_shaped (enc := enc) (C := Tryz.checked) (os := os) (X := fun w _ => laidMetH Tryz.prog Rows.valueSamesRow.laid w) false (World.laidAll Tryz.prog os Rows.valueSamesRow.laid) #[.agg #[.int .i64 0, .int .i64 0, .float .f64 0, .string .empty, .bool false], .agg #[.int .i64 0, .int .i64 0, .float .f64 0, .string .empty, .bool false]] 8 (World.laidAll_os _ _ _)
      (World.shaped_of_ZipB (by kernel_rfl) (by kernel_rfl)) (by kernel_rfl) (by kernel_rfl) (by kernel_rfl)
      (by rw [MakeChecks.laidMetH_plain _ _ _ (by kernel_rfl)]; exact laidMet_laidAll _ (by kernel_rfl) (by kernel_rfl))) ?_
  intro W base args ds gs before hval0 hW _ hsz0 hL _
  have hsz : (DataW.weightsEach Tryz.prog (Tryz.f3.params.toList ++ Rows.valueSamesSpec.plain.varTypes Tryz.prog) (ds ++ gs)).all (· ≤ reachBytes) = true := hsz0
  have hval : ∀ (j : Nat) t v, Tryz.f3.params[j]? = some t → args[j]? = some v → Value.okWide Tryz.prog W .any base t v := hval0
  have hW' := hW
  obtain ⟨p, q, hA0, hV, rfl, hfz, hnd⟩ := hW
  have hA : DataW.TrodAll enc Tryz.prog W 0 (fun _ => true) true Tryz.f3.params.toList args.toList ds p := hA0
  rw [Tryz.params3] at hA hval hsz
  obtain ⟨v0, vs0, d0, ds0, p0, q0, hargs, rfl, rfl, h0, r0⟩ := trodAll_cons hA
  obtain ⟨v1, vs1, d1, ds1, p1, q1, rfl, rfl, rfl, h1, r1⟩ := trodAll_cons r0
  obtain ⟨rfl, rfl, rfl⟩ := trodAll_nil r1
  obtain rfl : args = #[v0, v1] := by cases args; simp_all
  obtain ⟨rfl, rfl⟩ := trodVars_none hV
  obtain ⟨ka, ia, xa, ta, ya, rfl, wa⟩ := Open.open_val (hval 0 24 v0 rfl rfl) h0 (Open.reach_of hsz (j := 0) (t := 24) rfl rfl)
  obtain ⟨kb, ib, xb, tb, yb, rfl, wb⟩ := Open.open_val (hval 1 24 v1 rfl rfl) h1 (Open.reach_of hsz (j := 1) (t := 24) rfl rfl)
  clear hA0 hval0 hsz hsz0
  refine (sames_any ka ia xa ta ya kb ib xb tb yb W (tabs_ofSames02 hL) (pf_ofSames02 hL) wa.2.2.1 wb.2.2.1 wa.2.2.2 wb.2.2.2 wa.2.1 wb.2.1).mono fun e W' ⟨he, hw⟩ => ?_
  subst he
  exact ⟨_, rfl, Frame.law_post Frame.laidOut (by kernel_rfl) rfl (by kernel_rfl) Tryz.underlying4 rfl rfl rfl hW' hw⟩

set_option maxHeartbeats 40000000 in
theorem vsames_closed : joinedFacts Tryz.pinned.checked.prog 3 Tryz.f3 Rows.valueSamesSpec Rows.valueSamesRow = true := by
  unfold joinedFacts
  repeat (with_reducible refine Bool.and_eq_true_iff.2 ⟨?_, ?_⟩; rotate_left 1; (as_aux_lemma => kernel_rfl))
  as_aux_lemma => kernel_rfl
theorem vsames_said : Rows.ValueSamesSaid :=
  OpenClaim.holds_of_wide 3 Tryz.f3 rfl rfl rfl rfl rfl rfl rfl ⟨rfl, rfl, rfl, rfl, rfl⟩ rfl rfl rfl rfl rfl (by kernel_rfl) Tryz.func3 vsames_closed
    (of_decide_eq_true (by kernel_rfl)) (by unfold Func.isWrapper; first | (rw [if_pos (by decide +kernel)]; kernel_rfl) | (rw [if_neg (by decide +kernel)]; exact ⟨rfl, rfl⟩))
    (fun os started H enc _ => vsames_lifted os started H enc)
theorem vsames_plain (f : FuncId) (fn : Func) (hf : Tryz.pinned.checked.prog.funcNamed "gazette/gazettelaw02.ValueSames" = some f) (hfn : Tryz.pinned.checked.prog.funcs[f]? = some fn) :
    true = Tryz.pinned.checked.prog.looks [] ∧ ∀ (j : Nat) t, fn.params[j]? = some t → Tryz.pinned.checked.prog.wantsStandIn t = false := by
  obtain rfl : f = 3 := Option.some.inj ((show Tryz.prog.funcNamed "gazette/gazettelaw02.ValueSames" = some 3 by kernel_rfl).symm.trans hf) |>.symm
  obtain rfl : fn = Tryz.f3 := (Option.some.inj (Tryz.func3.symm.trans hfn)).symm
  refine ⟨by kernel_rfl, fun j t ht => ?_⟩
  rw [Tryz.params3] at ht
  have hm : t ∈ [24, 24] := by simpa using Array.mem_of_getElem? ht
  have hall : ([24, 24].all fun u => !Tryz.prog.wantsStandIn u) = true := by kernel_rfl
  exact (show Tryz.prog.wantsStandIn t = false by simpa using List.all_eq_true.1 hall t hm)
theorem vsames_holds : Rows.ValueSamesCardSaid :=
  Claim7.holds_tied_plain_at .later [] _ _ _ _ vsames_said (fun _ h => by cases h) (by kernel_rfl) (fun _ h => by cases h) valueSames_row_tie rfl ⟨rfl, rfl⟩ (by kernel_rfl) rfl vsames_plain (by kernel_rfl)
end Go.Proofs.YthndlcgcmfhokaaGreatDoor.Val
