/- The statement ParseWords is proved by its card: for every text and every value the law returns true. Conditions: none beyond the given row's own. -/
import Derived.Test.YtnccpddjdgndcaaGreatDoorMgParseWords3
import Derived.Test.YtnccpddjdgndcaaGreatDoorLaid
import Derived.Test.YtnccpddjdgndcaaGreatDoorTabs
namespace Go.Proofs.YtnccpddjdgndcaaGreatDoor.Pa
open Go.RowKit Flt Go.ChangeShapes Go.WideShapes Go.ChangeAt Go.Proofs.YtnccpddjdgndcaaGreatDoor.Val
theorem words_ofPWords {W : World} (h : laidMetH Tryz.prog Rows.parseWordsRow.laid W) : Words W := fun i hi =>
  Laid.strs (name := "gazette/cond.words") (zs := [[61], [33, 61], [60], [60, 61], [62], [62, 61], [94], [104, 97, 115]]) (by kernel_rfl) (by kernel_rfl) (by kernel_rfl) Tryz.underlying72 Tryz.underlying9 (by kernel_rfl) (by kernel_rfl) (by kernel_rfl) h i hi
theorem tabs_ofPWords {W : World} (h : laidMetH Tryz.prog Rows.parseWordsRow.laid W) : Tab.Tabs W :=
  Tab.tabs_of (l := Rows.parseWordsRow.laid) ⟨by kernel_rfl, by kernel_rfl, by kernel_rfl, by kernel_rfl, by kernel_rfl, by kernel_rfl, by kernel_rfl, by kernel_rfl, by kernel_rfl⟩ h
theorem pw_ofPWords {W : World} (h : laidMetH Tryz.prog Rows.parseWordsRow.laid W) : Pf.PfW W ∧ Unq.ErrS W :=
  Pf.pw_of (l := Rows.parseWordsRow.laid) ⟨by kernel_rfl, by kernel_rfl, ⟨_, rfl⟩, ⟨_, rfl, by kernel_rfl⟩, ⟨_, _, rfl⟩⟩ h
set_option maxRecDepth 100000 in
theorem pwords_lifted (os : Os) (started : os.Started) (H : Type) (enc : TypeId × Value → H) :
    ReturnsInHanded {} Tryz.checked os 5 .any (fun w args => (Rows.parseWordsSpec.pre enc Tryz.prog Tryz.f5 Rows.parseWordsRow.domain false w args ∧ laidMetH Tryz.prog Rows.parseWordsRow.laid w) ∧ sizedMet enc Tryz.prog Tryz.f5 (OpenSpec.ofChange Rows.parseWordsSpec) false w args)
      (Rows.parseWordsSpec.post enc Tryz.prog Tryz.f5 false true false false) := by
  refine returnsInHanded_of_change_and (C := Tryz.checked) (X := fun w _ => laidMetH Tryz.prog Rows.parseWordsRow.laid w) (fun _ _ _ hh h => h.of_heap hh) Frame.own started (by kernel_rfl) Tryz.func5
    (ChangeSpec.witness_shaped (enc := enc) (C := Tryz.checked) (os := os) (X := fun w _ => laidMetH Tryz.prog Rows.parseWordsRow.laid w) false (World.laidAll Tryz.prog os Rows.parseWordsRow.laid) #[.string .empty, .agg #[.int .i64 0, .int .i64 0, .float .f64 0, .string .empty, .bool false]] 8 (World.laidAll_os _ _ _)
      (World.shaped_of_ZipB (by kernel_rfl) (by kernel_rfl)) (by kernel_rfl) (by kernel_rfl) (by kernel_rfl)
      (by rw [MakeChecks.laidMetH_plain _ _ _ (by kernel_rfl)]; exact laidMet_laidAll _ (by kernel_rfl) (by kernel_rfl))) ?_
  intro W base args ds gs before hval0 hW _ hsz0 hL _
  have hsz : (DataW.weightsEach Tryz.prog (Tryz.f5.params.toList ++ Rows.parseWordsSpec.plain.varTypes Tryz.prog) (ds ++ gs)).all (· ≤ reachBytes) = true := hsz0
  have hval : ∀ (j : Nat) t v, Tryz.f5.params[j]? = some t → args[j]? = some v → Value.okWide Tryz.prog W .any base t v := hval0
  have hW' := hW
  obtain ⟨p, q, hA0, hV, rfl, hfz, hnd⟩ := hW
  have hA : DataW.TrodAll enc Tryz.prog W 0 (fun _ => true) true Tryz.f5.params.toList args.toList ds p := hA0
  rw [Tryz.params5] at hA hval hsz
  obtain ⟨v0, vs0, d0, ds0, p0, q0, hargs, rfl, rfl, h0, r0⟩ := trodAll_cons hA
  obtain ⟨v1, vs1, d1, ds1, p1, q1, rfl, rfl, rfl, h1, r1⟩ := trodAll_cons r0
  obtain ⟨rfl, rfl, rfl⟩ := trodAll_nil r1
  obtain rfl : args = #[v0, v1] := by cases args; simp_all
  obtain ⟨rfl, rfl⟩ := trodVars_none hV
  obtain ⟨a, rfl, rfl, rfl, wa⟩ := Go.ChangeMaps.open_string Tryz.underlying9 (hval 0 9 v0 rfl rfl) h0
  have za : a.data.toList.length ≤ 140737488351232 := sized_string hsz (j := 0) (t := 9) rfl rfl
  obtain ⟨kb, ib, xb, tb, yb, rfl, wb⟩ := Open.open_val (hval 1 25 v1 rfl rfl) h1 (Open.reach_of hsz (j := 1) (t := 25) rfl rfl)
  clear hA0 hval0 hsz hsz0
  refine (pwords_any a.data.toList kb ib xb tb yb W (words_ofPWords hL) (tabs_ofPWords hL) (pw_ofPWords hL).2 (pw_ofPWords hL).1 za wb.2.2.1 wb.2.2.2 wb.2.1).mono fun e W' ⟨he, hw⟩ => ?_
  subst he
  exact ⟨_, rfl, Frame.law_post Frame.laidOut (by kernel_rfl) rfl (by kernel_rfl) Tryz.underlying4 rfl rfl rfl hW' hw⟩

set_option maxHeartbeats 40000000 in
theorem pwords_closed : joinedFacts Tryz.pinned.checked.prog 5 Tryz.f5 Rows.parseWordsSpec Rows.parseWordsRow = true := by
  unfold joinedFacts
  repeat (with_reducible refine Bool.and_eq_true_iff.2 ⟨?_, ?_⟩; rotate_left 1; (as_aux_lemma => kernel_rfl))
  as_aux_lemma => kernel_rfl
theorem pwords_said : Rows.ParseWordsSaid :=
  OpenClaim.holds_of_wide 5 Tryz.f5 rfl rfl rfl rfl rfl rfl rfl ⟨rfl, rfl, rfl, rfl, rfl⟩ rfl rfl rfl rfl rfl (by kernel_rfl) Tryz.func5 pwords_closed
    (of_decide_eq_true (by kernel_rfl)) (by unfold Func.isWrapper; first | (rw [if_pos (by decide +kernel)]; kernel_rfl) | (rw [if_neg (by decide +kernel)]; exact ⟨rfl, rfl⟩))
    (fun os started H enc _ => pwords_lifted os started H enc)
theorem pwords_plain (f : FuncId) (fn : Func) (hf : Tryz.pinned.checked.prog.funcNamed "gazette/gazettelaw08.ParseWords" = some f) (hfn : Tryz.pinned.checked.prog.funcs[f]? = some fn) :
    true = Tryz.pinned.checked.prog.looks [] ∧ ∀ (j : Nat) t, fn.params[j]? = some t → Tryz.pinned.checked.prog.wantsStandIn t = false := by
  obtain rfl : f = 5 := Option.some.inj ((show Tryz.prog.funcNamed "gazette/gazettelaw08.ParseWords" = some 5 by kernel_rfl).symm.trans hf) |>.symm
  obtain rfl : fn = Tryz.f5 := (Option.some.inj (Tryz.func5.symm.trans hfn)).symm
  refine ⟨by kernel_rfl, fun j t ht => ?_⟩
  rw [Tryz.params5] at ht
  have hm : t ∈ [9, 25] := by simpa using Array.mem_of_getElem? ht
  have hall : ([9, 25].all fun u => !Tryz.prog.wantsStandIn u) = true := by kernel_rfl
  exact (show Tryz.prog.wantsStandIn t = false by simpa using List.all_eq_true.1 hall t hm)
theorem pwords_holds : Rows.ParseWordsCardSaid :=
  Claim7.holds_tied_plain_at .later [] _ _ _ _ pwords_said (fun _ h => by cases h) (by kernel_rfl) (fun _ h => by cases h) parseWords_row_tie rfl ⟨rfl, rfl⟩ (by kernel_rfl) rfl pwords_plain (by kernel_rfl)
end Go.Proofs.YtnccpddjdgndcaaGreatDoor.Pa
