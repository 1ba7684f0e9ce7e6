/- The statement WireApart is proved by its card: for every two filters and every two numbers the law returns true. Conditions: none beyond the given row's own. -/
import Derived.Test.YtpbdgbejcdncgaaGreatDoorMgWireApart5
import Derived.Test.YtpbdgbejcdncgaaGreatDoorFrameC
import Derived.Test.YtpbdgbejcdncgaaGreatDoorLaid
import Derived.Test.YtpbdgbejcdncgaaGreatDoorTabs
namespace Go.Proofs.YtpbdgbejcdncgaaGreatDoor.Wire
open Go.RowKit Flt Go.ChangeShapes Go.WideShapes Go.ChangeAt Go.Proofs.YtpbdgbejcdncgaaGreatDoor.Val
theorem words_ofApart {W : World} (h : laidMetH Tryz.prog Rows.wireApartRow.laid W) : Words W := fun i hi =>
  Laid.strs (name := "gazette/cond.words") (zs := [[61], [33, 61], [60], [60, 61], [62], [62, 61], [94], [104, 97, 115]]) (by kernel_rfl) (by kernel_rfl) (by kernel_rfl) Tryz.underlying100 Tryz.underlying9 (by kernel_rfl) (by kernel_rfl) (by kernel_rfl) h i hi
theorem tabs_ofApart {W : World} (h : laidMetH Tryz.prog Rows.wireApartRow.laid W) : Tab.Tabs W :=
  Tab.tabs_of (l := Rows.wireApartRow.laid) ⟨by kernel_rfl, by kernel_rfl, by kernel_rfl, by kernel_rfl, by kernel_rfl, by kernel_rfl, by kernel_rfl, by kernel_rfl, by kernel_rfl⟩ h
set_option maxRecDepth 100000 in
theorem apart16_lifted (os : Os) (started : os.Started) (H : Type) (enc : TypeId × Value → H) :
    ReturnsInHanded {} Tryz.checked os 3 .any (fun w args => (Rows.wireApartSpec.pre enc Tryz.prog Tryz.f3 Rows.wireApartRow.domain false w args ∧ laidMetH Tryz.prog Rows.wireApartRow.laid w) ∧ sizedMet enc Tryz.prog Tryz.f3 (OpenSpec.ofChange Rows.wireApartSpec) false w args)
      (Rows.wireApartSpec.post enc Tryz.prog Tryz.f3 false true false false) := by
  refine returnsInHanded_of_change_and (C := Tryz.checked) (X := fun w _ => laidMetH Tryz.prog Rows.wireApartRow.laid w) (fun _ _ _ hh h => h.of_heap hh) Frame.own started (by kernel_rfl) Tryz.func3
    (ChangeSpec.witness_shaped (enc := enc) (C := Tryz.checked) (os := os) (X := fun w _ => laidMetH Tryz.prog Rows.wireApartRow.laid w) false (World.laidAll Tryz.prog os Rows.wireApartRow.laid) #[.agg #[.string .empty, .slice none 0 0], .agg #[.string .empty, .slice none 0 0], .agg #[.int .i64 0, .int .i64 0]] 8 (World.laidAll_os _ _ _)
      (World.shaped_of_ZipB (by kernel_rfl) (by kernel_rfl)) (by kernel_rfl) (by kernel_rfl) (by kernel_rfl)
      (by rw [MakeChecks.laidMetH_plain _ _ _ (by kernel_rfl)]; exact laidMet_laidAll _ (by kernel_rfl) (by kernel_rfl))) ?_
  intro W base args ds gs before hval0 hW _ hsz0 hL _
  have hsz : (DataW.weightsEach Tryz.prog (Tryz.f3.params.toList ++ Rows.wireApartSpec.plain.varTypes Tryz.prog) (ds ++ gs)).all (· ≤ reachBytes) = true := hsz0
  have hval : ∀ (j : Nat) t v, Tryz.f3.params[j]? = some t → args[j]? = some v → Value.okWide Tryz.prog W .any base t v := hval0
  have hW' := hW
  obtain ⟨p, q, hA0, hV, rfl, hfz, hnd⟩ := hW
  have hA : DataW.TrodAll enc Tryz.prog W 0 (fun _ => true) true Tryz.f3.params.toList args.toList ds p := hA0
  rw [Tryz.params3] at hA hval hsz
  obtain ⟨v0, vs0, d0, ds0, p0, q0, hargs, rfl, rfl, h0, r0⟩ := trodAll_cons hA
  obtain ⟨v1, vs1, d1, ds1, p1, q1, rfl, rfl, rfl, h1, r1⟩ := trodAll_cons r0
  obtain ⟨v2, vs2, d2, ds2, p2, q2, rfl, rfl, rfl, h2, r2⟩ := trodAll_cons r1
  obtain ⟨rfl, rfl, rfl⟩ := trodAll_nil r2
  obtain rfl : args = #[v0, v1, v2] := by cases args; simp_all
  obtain ⟨rfl, rfl⟩ := trodVars_none hV
  obtain ⟨fa, aa, ca, la, rfl, za, qa, ma, sa, wa, na⟩ := Open.open_filter (hval 0 24 v0 rfl rfl) h0 (Open.reach_of hsz (j := 0) (t := 24) rfl rfl)
  obtain ⟨fb, ab, cb, lb, rfl, zb, qb, mb, sb, wb, nb⟩ := Open.open_filter (hval 1 24 v1 rfl rfl) h1 (Open.reach_of hsz (j := 1) (t := 24) rfl rfl)
  obtain ⟨mc, nc, rfl⟩ := open_arr2 (hval 2 25 v2 rfl rfl) h2
  clear hA0 hval0 hsz hsz0
  refine (apart_any fa aa ca la fb ab cb lb mc nc W (words_ofApart hL) (tabs_ofApart hL) (Nat.le_trans qa ma) (Nat.le_trans qb mb) za zb sa sb wa wb).mono fun e W' ⟨he, hw⟩ => ?_
  subst he
  exact ⟨_, rfl, Frame.law_post Frame.laidOut (by kernel_rfl) rfl (by kernel_rfl) Tryz.underlying4 rfl rfl rfl hW' hw⟩

set_option maxHeartbeats 40000000 in
theorem apart16_closed : joinedFacts Tryz.pinned.checked.prog 3 Tryz.f3 Rows.wireApartSpec Rows.wireApartRow = true := by
  unfold joinedFacts
  repeat (with_reducible refine Bool.and_eq_true_iff.2 ⟨?_, ?_⟩; rotate_left 1; (as_aux_lemma => kernel_rfl))
  as_aux_lemma => kernel_rfl
theorem apart16_said : Rows.WireApartSaid :=
  OpenClaim.holds_of_wide 3 Tryz.f3 rfl rfl rfl rfl rfl rfl rfl ⟨rfl, rfl, rfl, rfl, rfl⟩ rfl rfl rfl rfl rfl (by kernel_rfl) Tryz.func3 apart16_closed
    (of_decide_eq_true (by kernel_rfl)) (by unfold Func.isWrapper; first | (rw [if_pos (by decide +kernel)]; kernel_rfl) | (rw [if_neg (by decide +kernel)]; exact ⟨rfl, rfl⟩))
    (fun os started H enc _ => apart16_lifted os started H enc)
theorem apart16_plain (f : FuncId) (fn : Func) (hf : Tryz.pinned.checked.prog.funcNamed "gazette/gazettelaw16.WireApart" = some f) (hfn : Tryz.pinned.checked.prog.funcs[f]? = some fn) :
    true = Tryz.pinned.checked.prog.looks [] ∧ ∀ (j : Nat) t, fn.params[j]? = some t → Tryz.pinned.checked.prog.wantsStandIn t = false := by
  obtain rfl : f = 3 := Option.some.inj ((show Tryz.prog.funcNamed "gazette/gazettelaw16.WireApart" = some 3 by kernel_rfl).symm.trans hf) |>.symm
  obtain rfl : fn = Tryz.f3 := (Option.some.inj (Tryz.func3.symm.trans hfn)).symm
  refine ⟨by kernel_rfl, fun j t ht => ?_⟩
  rw [Tryz.params3] at ht
  have hm : t ∈ [24, 24, 25] := by simpa using Array.mem_of_getElem? ht
  have hall : ([24, 24, 25].all fun u => !Tryz.prog.wantsStandIn u) = true := by kernel_rfl
  exact (show Tryz.prog.wantsStandIn t = false by simpa using List.all_eq_true.1 hall t hm)
theorem apart16_holds : Rows.WireApartCardSaid :=
  Claim7.holds_tied_plain_at .later [] _ _ _ _ apart16_said (fun _ h => by cases h) (by kernel_rfl) (fun _ h => by cases h) wireApart_row_tie rfl ⟨rfl, rfl⟩ (by kernel_rfl) rfl apart16_plain (by kernel_rfl)
end Go.Proofs.YtpbdgbejcdncgaaGreatDoor.Wire
