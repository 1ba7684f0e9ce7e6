/- The statement ParseAny is proved by its card: for every text the law returns true. Conditions: none beyond the given row's own. -/
import Derived.Test.YtnccpddjdgndcaaGreatDoorMgParseAny5
import Derived.Test.YtnccpddjdgndcaaGreatDoorLaid
import Derived.Test.YtnccpddjdgndcaaGreatDoorTabs
namespace Go.Proofs.YtnccpddjdgndcaaGreatDoor.Pa
open Go.RowKit Flt Go.ChangeShapes Go.WideShapes Go.ChangeAt Go.Proofs.YtnccpddjdgndcaaGreatDoor.Val
theorem words_ofPAny {W : World} (h : laidMetH Tryz.prog Rows.parseAnyRow.laid W) : Words W := fun i hi =>
  Laid.strs (name := "gazette/cond.words") (zs := [[61], [33, 61], [60], [60, 61], [62], [62, 61], [94], [104, 97, 115]]) (by kernel_rfl) (by kernel_rfl) (by kernel_rfl) Tryz.underlying72 Tryz.underlying9 (by kernel_rfl) (by kernel_rfl) (by kernel_rfl) h i hi
theorem rw_ofPAny {W : World} (hG : Pf.GlobT W) (h : laidMetH Tryz.prog Rows.parseAnyRow.laid W) : ∃ B R o c, RW W B R o c := by
  have hT : Tab.Tabs W := Tab.tabs_of (l := Rows.parseAnyRow.laid) ⟨by kernel_rfl, by kernel_rfl, by kernel_rfl, by kernel_rfl, by kernel_rfl, by kernel_rfl, by kernel_rfl, by kernel_rfl, by kernel_rfl⟩ h
  obtain ⟨hP, hE⟩ := Pf.pw_of (l := Rows.parseAnyRow.laid) ⟨by kernel_rfl, by kernel_rfl, ⟨_, rfl⟩, ⟨_, rfl, by kernel_rfl⟩, ⟨_, _, rfl⟩⟩ h
  obtain ⟨hV, R, o, c, hA⟩ := Pf.aw_of (l := Rows.parseAnyRow.laid) ⟨by kernel_rfl, by kernel_rfl, by kernel_rfl, by kernel_rfl, ⟨_, _, rfl⟩, ⟨_, _, rfl⟩⟩ hP hT.pow hG h
  exact ⟨_, R, o, c, hT, hA, hV, hE⟩
theorem pany_w (s : List UInt8) (W : World) (hG : Pf.GlobT W) (h : laidMetH Tryz.prog Rows.parseAnyRow.laid W) (hs : s.length ≤ 140737488351232) :
    Calls Tryz.prog 6 #[.string ⟨s.toArray⟩] W fun e w' => e = .returned (.bool true) ∧ Below W.heap.size W w' := by
  obtain ⟨B, R, o, c, hr⟩ := rw_ofPAny hG h
  exact pany_any s W (words_ofPAny h) hr hs
set_option maxRecDepth 100000 in
theorem pany_lifted (os : Os) (started : os.Started) (H : Type) (enc : TypeId × Value → H) :
    ReturnsInHanded {} Tryz.checked os 6 .any (fun w args => (Rows.parseAnySpec.pre enc Tryz.prog Tryz.f6 Rows.parseAnyRow.domain false w args ∧ laidMetH Tryz.prog Rows.parseAnyRow.laid w) ∧ sizedMet enc Tryz.prog Tryz.f6 (OpenSpec.ofChange Rows.parseAnySpec) false w args)
      (Rows.parseAnySpec.post enc Tryz.prog Tryz.f6 false true false false) := by
  refine Shp.returns_shaped (S := Pf.GlobT) Pf.glob_of (C := Tryz.checked) (X := fun w _ => laidMetH Tryz.prog Rows.parseAnyRow.laid w) (fun _ _ _ hh h => h.of_heap hh) Frame.own started (by kernel_rfl) Tryz.func6
    (ChangeSpec.witness_shaped (enc := enc) (C := Tryz.checked) (os := os) (X := fun w _ => laidMetH Tryz.prog Rows.parseAnyRow.laid w) false (World.laidAll Tryz.prog os Rows.parseAnyRow.laid) #[.string .empty] 8 (World.laidAll_os _ _ _)
      (World.shaped_of_ZipB (by kernel_rfl) (by kernel_rfl)) (by kernel_rfl) (by kernel_rfl) (by kernel_rfl)
      (by rw [MakeChecks.laidMetH_plain _ _ _ (by kernel_rfl)]; exact laidMet_laidAll _ (by kernel_rfl) (by kernel_rfl))) ?_
  intro W base args ds gs before hS hval0 hW _ hsz0 hL _
  have hsz : (DataW.weightsEach Tryz.prog (Tryz.f6.params.toList ++ Rows.parseAnySpec.plain.varTypes Tryz.prog) (ds ++ gs)).all (· ≤ reachBytes) = true := hsz0
  have hval : ∀ (j : Nat) t v, Tryz.f6.params[j]? = some t → args[j]? = some v → Value.okWide Tryz.prog W .any base t v := hval0
  have hW' := hW
  obtain ⟨p, q, hA0, hV, rfl, hfz, hnd⟩ := hW
  have hA : DataW.TrodAll enc Tryz.prog W 0 (fun _ => true) true Tryz.f6.params.toList args.toList ds p := hA0
  rw [Tryz.params6] at hA hval hsz
  obtain ⟨v0, vs0, d0, ds0, p0, q0, hargs, rfl, rfl, h0, r0⟩ := trodAll_cons hA
  obtain ⟨rfl, rfl, rfl⟩ := trodAll_nil r0
  obtain rfl : args = #[v0] := by cases args; simp_all
  obtain ⟨rfl, rfl⟩ := trodVars_none hV
  obtain ⟨a, rfl, rfl, rfl, wa⟩ := Go.ChangeMaps.open_string Tryz.underlying9 (hval 0 9 v0 rfl rfl) h0
  have za : a.data.toList.length ≤ 140737488351232 := sized_string hsz (j := 0) (t := 9) rfl rfl
  clear hA0 hval0 hsz hsz0
  refine (pany_w a.data.toList W hS hL za).mono fun e W' ⟨he, hw⟩ => ?_
  subst he
  exact ⟨_, rfl, Frame.law_post Frame.laidOut (by kernel_rfl) rfl (by kernel_rfl) Tryz.underlying4 rfl rfl rfl hW' hw⟩

set_option maxHeartbeats 40000000 in
theorem pany_closed : joinedFacts Tryz.pinned.checked.prog 6 Tryz.f6 Rows.parseAnySpec Rows.parseAnyRow = true := by
  unfold joinedFacts
  repeat (with_reducible refine Bool.and_eq_true_iff.2 ⟨?_, ?_⟩; rotate_left 1; (as_aux_lemma => kernel_rfl))
  as_aux_lemma => kernel_rfl
theorem pany_said : Rows.ParseAnySaid :=
  OpenClaim.holds_of_wide 6 Tryz.f6 rfl rfl rfl rfl rfl rfl rfl ⟨rfl, rfl, rfl, rfl, rfl⟩ rfl rfl rfl rfl rfl (by kernel_rfl) Tryz.func6 pany_closed
    (of_decide_eq_true (by kernel_rfl)) (by unfold Func.isWrapper; first | (rw [if_pos (by decide +kernel)]; kernel_rfl) | (rw [if_neg (by decide +kernel)]; exact ⟨rfl, rfl⟩))
    (fun os started H enc _ => pany_lifted os started H enc)
theorem pany_plain (f : FuncId) (fn : Func) (hf : Tryz.pinned.checked.prog.funcNamed "gazette/gazettelaw08.ParseAny" = some f) (hfn : Tryz.pinned.checked.prog.funcs[f]? = some fn) :
    true = Tryz.pinned.checked.prog.looks [] ∧ ∀ (j : Nat) t, fn.params[j]? = some t → Tryz.pinned.checked.prog.wantsStandIn t = false := by
  obtain rfl : f = 6 := Option.some.inj ((show Tryz.prog.funcNamed "gazette/gazettelaw08.ParseAny" = some 6 by kernel_rfl).symm.trans hf) |>.symm
  obtain rfl : fn = Tryz.f6 := (Option.some.inj (Tryz.func6.symm.trans hfn)).symm
  refine ⟨by kernel_rfl, fun j t ht => ?_⟩
  rw [Tryz.params6] at ht
  have hm : t ∈ [9] := by simpa using Array.mem_of_getElem? ht
  have hall : ([9].all fun u => !Tryz.prog.wantsStandIn u) = true := by kernel_rfl
  exact (show Tryz.prog.wantsStandIn t = false by simpa using List.all_eq_true.1 hall t hm)
theorem pany_holds : Rows.ParseAnyCardSaid :=
  Claim7.holds_tied_plain_at .later [] _ _ _ _ pany_said (fun _ h => by cases h) (by kernel_rfl) (fun _ h => by cases h) parseAny_row_tie rfl ⟨rfl, rfl⟩ (by kernel_rfl) rfl pany_plain (by kernel_rfl)
end Go.Proofs.YtnccpddjdgndcaaGreatDoor.Pa
