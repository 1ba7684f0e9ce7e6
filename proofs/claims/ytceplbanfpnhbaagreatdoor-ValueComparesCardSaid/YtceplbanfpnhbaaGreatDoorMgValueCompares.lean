/- The statement ValueCompares is proved by its card: for every two values the law returns true. Conditions: none beyond the given row's own. -/
import Derived.Test.YtceplbanfpnhbaaGreatDoorMgValueCompares1
import Derived.Test.YtceplbanfpnhbaaGreatDoorFrameC
import Derived.Test.YtceplbanfpnhbaaGreatDoorOpenG
import Derived.Test.YtceplbanfpnhbaaGreatDoorLaid
import Derived.Test.YtceplbanfpnhbaaGreatDoorTabs
import Derived.Test.YtceplbanfpnhbaaGreatDoorPfLaid
namespace Go.Proofs.YtceplbanfpnhbaaGreatDoor.Val
open Go.RowKit Flt Go.ChangeShapes Go.WideShapes Go.ChangeAt
theorem tabs_ofVComps {W : World} (h : laidMetH Tryz.prog Rows.valueComparesRow.laid W) : Tab.Tabs W :=
  Tab.tabs_of (l := Rows.valueComparesRow.laid) ⟨by kernel_rfl, by kernel_rfl, by kernel_rfl, by kernel_rfl, by kernel_rfl, by kernel_rfl, by kernel_rfl, by kernel_rfl, by kernel_rfl⟩ h
theorem pf_ofVComps {W : World} (h : laidMetH Tryz.prog Rows.valueComparesRow.laid W) : Pf.PfT W :=
  Pf.pf_of (l := Rows.valueComparesRow.laid) ⟨by kernel_rfl, by kernel_rfl, ⟨_, rfl⟩, ⟨_, rfl, by kernel_rfl, by kernel_rfl⟩⟩ h
theorem compares_any (k n : Int) (x : Nat) (t : List UInt8) (y : Bool) (k2 n2 : Int) (x2 : Nat) (t2 : List UInt8) (y2 : Bool) (w : World) (hT : Tab.Tabs w) (hP : Pf.PfT w) (ht : t.length ≤ 140737488351232) (ht2 : t2.length ≤ 140737488351232)
    (hx : x < 18446744073709551616) (hx2 : x2 < 18446744073709551616) :
    Calls Tryz.prog 13 #[val k n x t y, val k2 n2 x2 t2 y2] w fun e w' => e = .returned (.bool true) ∧ Below w.heap.size w w' := by
  cases ho : cmpOk ⟨k, n, x, t, y⟩ ⟨k2, n2, x2, t2, y2⟩
  · exact comps_no k n x t y k2 n2 x2 t2 y2 w hT hP ht ht2 ho
  · obtain ⟨hk, v1, v2⟩ := cmpOk_parts ho
    have hk' : k = k2 := hk
    subst hk'
    exact comps_yes k n x t y n2 x2 t2 y2 w hT hP ht ht2 hx hx2 v1 v2
set_option maxRecDepth 100000 in
theorem vcompares_lifted (os : Os) (started : os.Started) (H : Type) (enc : TypeId × Value → H) :
    ReturnsInHanded {} Tryz.checked os 13 .any (fun w args => (Rows.valueComparesSpec.pre enc Tryz.prog Tryz.f13 Rows.valueComparesRow.domain false w args ∧ laidMetH Tryz.prog Rows.valueComparesRow.laid w) ∧ sizedMet enc Tryz.prog Tryz.f13 (OpenSpec.ofChange Rows.valueComparesSpec) false w args)
      (Rows.valueComparesSpec.post enc Tryz.prog Tryz.f13 false true false false) := by
  refine returnsInHanded_of_change_and (C := Tryz.checked) (X := fun w _ => laidMetH Tryz.prog Rows.valueComparesRow.laid w) (fun _ _ _ hh h => h.of_heap hh) Frame.own started (by kernel_rfl) Tryz.func13
    (ChangeSpec.witness_shaped (enc := enc) (C := Tryz.checked) (os := os) (X := fun w _ => laidMetH Tryz.prog Rows.valueComparesRow.laid w) false (World.laidAll Tryz.prog os Rows.valueComparesRow.laid) #[.agg #[.int .i64 0, .int .i64 0, .float .f64 0, .string .empty, .bool false], .agg #[.int .i64 0, .int .i64 0, .float .f64 0, .string .empty, .bool false]] 8 (World.laidAll_os _ _ _)
      (World.shaped_of_ZipB (by kernel_rfl) (by kernel_rfl)) (by kernel_rfl) (by kernel_rfl) (by kernel_rfl)
      (by rw [MakeChecks.laidMetH_plain _ _ _ (by kernel_rfl)]; exact laidMet_laidAll _ (by kernel_rfl) (by kernel_rfl))) ?_
  intro W base args ds gs before hval0 hW _ hsz0 hL _
  have hsz : (DataW.weightsEach Tryz.prog (Tryz.f13.params.toList ++ Rows.valueComparesSpec.plain.varTypes Tryz.prog) (ds ++ gs)).all (· ≤ reachBytes) = true := hsz0
  have hval : ∀ (j : Nat) t v, Tryz.f13.params[j]? = some t → args[j]? = some v → Value.okWide Tryz.prog W .any base t v := hval0
  have hW' := hW
  obtain ⟨p, q, hA0, hV, rfl, hfz, hnd⟩ := hW
  have hA : DataW.TrodAll enc Tryz.prog W 0 (fun _ => true) true Tryz.f13.params.toList args.toList ds p := hA0
  rw [Tryz.params13] at hA hval hsz
  obtain ⟨v0, vs0, d0, ds0, p0, q0, hargs, rfl, rfl, h0, r0⟩ := trodAll_cons hA
  obtain ⟨v1, vs1, d1, ds1, p1, q1, rfl, rfl, rfl, h1, r1⟩ := trodAll_cons r0
  obtain ⟨rfl, rfl, rfl⟩ := trodAll_nil r1
  obtain rfl : args = #[v0, v1] := by cases args; simp_all
  obtain ⟨rfl, rfl⟩ := trodVars_none hV
  obtain ⟨ka, ia, xa, ta, ya, rfl, wa⟩ := Open.open_val (hval 0 29 v0 rfl rfl) h0 (Open.reach_of hsz (j := 0) (t := 29) rfl rfl)
  obtain ⟨kb, ib, xb, tb, yb, rfl, wb⟩ := Open.open_val (hval 1 29 v1 rfl rfl) h1 (Open.reach_of hsz (j := 1) (t := 29) rfl rfl)
  clear hA0 hval0 hsz hsz0
  refine (compares_any ka ia xa ta ya kb ib xb tb yb W (tabs_ofVComps hL) (pf_ofVComps hL) wa.2.2.2 wb.2.2.2 wa.2.2.1 wb.2.2.1).mono fun e W' ⟨he, hw⟩ => ?_
  subst he
  exact ⟨_, rfl, Frame.law_post Frame.laidOut (by kernel_rfl) rfl (by kernel_rfl) Tryz.underlying4 rfl rfl rfl hW' hw⟩

set_option maxHeartbeats 40000000 in
theorem vcompares_closed : joinedFacts Tryz.pinned.checked.prog 13 Tryz.f13 Rows.valueComparesSpec Rows.valueComparesRow = true := by
  unfold joinedFacts
  repeat (with_reducible refine Bool.and_eq_true_iff.2 ⟨?_, ?_⟩; rotate_left 1; (as_aux_lemma => kernel_rfl))
  as_aux_lemma => kernel_rfl
theorem vcompares_said : Rows.ValueComparesSaid :=
  OpenClaim.holds_of_wide 13 Tryz.f13 rfl rfl rfl rfl rfl rfl rfl ⟨rfl, rfl, rfl, rfl, rfl⟩ rfl rfl rfl rfl rfl (by kernel_rfl) Tryz.func13 vcompares_closed
    (of_decide_eq_true (by kernel_rfl)) (by unfold Func.isWrapper; first | (rw [if_pos (by decide +kernel)]; kernel_rfl) | (rw [if_neg (by decide +kernel)]; exact ⟨rfl, rfl⟩))
    (fun os started H enc _ => vcompares_lifted os started H enc)
theorem vcompares_plain (f : FuncId) (fn : Func) (hf : Tryz.pinned.checked.prog.funcNamed "gazette/gazettelaw02.ValueCompares" = some f) (hfn : Tryz.pinned.checked.prog.funcs[f]? = some fn) :
    true = Tryz.pinned.checked.prog.looks [] ∧ ∀ (j : Nat) t, fn.params[j]? = some t → Tryz.pinned.checked.prog.wantsStandIn t = false := by
  obtain rfl : f = 13 := Option.some.inj ((show Tryz.prog.funcNamed "gazette/gazettelaw02.ValueCompares" = some 13 by kernel_rfl).symm.trans hf) |>.symm
  obtain rfl : fn = Tryz.f13 := (Option.some.inj (Tryz.func13.symm.trans hfn)).symm
  refine ⟨by kernel_rfl, fun j t ht => ?_⟩
  rw [Tryz.params13] at ht
  have hm : t ∈ [29, 29] := by simpa using Array.mem_of_getElem? ht
  have hall : ([29, 29].all fun u => !Tryz.prog.wantsStandIn u) = true := by kernel_rfl
  exact (show Tryz.prog.wantsStandIn t = false by simpa using List.all_eq_true.1 hall t hm)
theorem vcompares_holds : Rows.ValueComparesCardSaid :=
  Claim7.holds_tied_plain_at .later [] _ _ _ _ vcompares_said (fun _ h => by cases h) (by kernel_rfl) (fun _ h => by cases h) valueCompares_row_tie rfl ⟨rfl, rfl⟩ (by kernel_rfl) rfl vcompares_plain (by kernel_rfl)
end Go.Proofs.YtceplbanfpnhbaaGreatDoor.Val
