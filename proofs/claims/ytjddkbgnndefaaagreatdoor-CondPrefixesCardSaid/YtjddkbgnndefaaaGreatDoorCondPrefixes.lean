/- The statement CondPrefixes is proved: a longer beginning implies a shorter one, and no other text. -/
import Derived.Test.YtjddkbgnndefaaaGreatDoorFrameC
import Derived.Test.YtjddkbgnndefaaaGreatDoorLaid
import Derived.Test.YtjddkbgnndefaaaGreatDoorImpl
import Derived.Test.YtjddkbgnndefaaaGreatDoorCanon
namespace Go.Proofs.YtjddkbgnndefaaaGreatDoor.Val
open Go.RowKit Go.ChangeShapes Go.WideShapes Go.ChangeAt Flt
theorem words_ofPrefixes {W : World} (h : laidMetH Tryz.prog Rows.condPrefixesRow.laid W) : Words W := fun i hi =>
  Laid.strs (name := "gazette/cond.words") (zs := [[61], [33, 61], [60], [60, 61], [62], [62, 61], [94], [104, 97, 115]]) (by kernel_rfl) (by kernel_rfl) (by kernel_rfl) Tryz.underlying63 Tryz.underlying9 (by kernel_rfl) (by kernel_rfl) (by kernel_rfl) h i hi
attribute [local go_sem] run_store_flt
/-- the law's maker of conditions on texts -/
theorem x_any (op : Int) (s : List UInt8) (w : World) : Calls Tryz.prog 24 #[.int .i64 op, .string ⟨s.toArray⟩] w fun e w' => e = .returned (cond [97] op 2 0 0 s false) ∧ Below w.heap.size w w' := by
  go_enter Tryz.func24, Tryz.ntmps24
  go_wp2
  go_returns
  exact ⟨rfl, by repeat (first | assumption | exact balloc _ _ | exact balloc2 _ _ _ | refine btrans ?_ (by assumption) | refine btrans ?_ (balloc _ _))⟩
abbrev T (op : Int) (s : List UInt8) : C := ⟨[97], op, 2, 0, 0, s, false⟩
theorem T_cmp (s t : List UInt8) : cmp1 (T 0 s).val (T 0 t).val = Lib.compareBytes s t := by
  unfold cmp1 cmpOk voidB cmp; simp
theorem imp_pp (s t : List UInt8) : impliesB (T 6 s) (T 6 t) = pre s t := by
  unfold impliesB cvoidB voidB ruleB; simp
theorem imp_pn (s t : List UInt8) : impliesB (T 6 s) (T 1 t) = !pre t s := by
  unfold impliesB cvoidB voidB ruleB; simp
theorem imp_ep (s t : List UInt8) : impliesB (T 0 s) (T 6 t) = pre s t := by
  unfold impliesB cvoidB voidB ruleB holdsB cmpOk voidB; simp
theorem imp_pe (s t : List UInt8) : impliesB (T 6 s) (T 0 t) = false := by
  unfold impliesB cvoidB voidB ruleB; simp
theorem imp_en (s t : List UInt8) : impliesB (T 0 s) (T 1 t) = !(s == t) := by
  have h := cb_zero s t
  have hc := T_cmp s t
  unfold impliesB cvoidB voidB ruleB holdsB cmpOk voidB
  simp at hc ⊢
  rw [hc, Bool.eq_iff_iff]
  simp [h]
theorem raw_list (t : List UInt8) : (⟨t.toArray⟩ : ByteArray).toList = t := by rw [Lib.toList_data]
theorem begins_raw (s t : List UInt8) : (decide (t.length ≤ s.length) && (((⟨s.toArray⟩ : ByteArray).extract 0 t.length).toList == t)) = pre s t := by
  have p1 := Lib.hasPrefix_raw ⟨s.toArray⟩ ⟨t.toArray⟩
  rw [raw_list t] at p1
  exact p1
theorem begins_ways (s t : List UInt8) : ((t.length : Int) ≤ (s.length : Int) ∧ (((⟨s.toArray⟩ : ByteArray).extract 0 t.length).toList == t) = pre s t) ∨ (¬ (t.length : Int) ≤ (s.length : Int) ∧ pre s t = false) := by
  have h := begins_raw s t
  by_cases hl : t.length ≤ s.length
  · left; exact ⟨by omega, by rw [← h]; simp [hl]⟩
  · right; exact ⟨by omega, by rw [← h]; simp [hl]⟩
set_option maxRecDepth 20000 in
set_option maxHeartbeats 4000000 in
theorem prefixes06_any (s t : List UInt8) (w : World) (hw : Words w) :
    Calls Tryz.prog 5 #[.string ⟨s.toArray⟩, .string ⟨t.toArray⟩] w fun e w' => e = .returned (.bool true) ∧ Below w.heap.size w w' := by
  have HW := Lib.hid hw; clear hw
  have i1 := imp_pp s t
  have i2 := imp_pn s t
  have i3 := imp_ep s t
  have i4 := imp_pe s t
  have i5 := imp_en s t
  have b1 := begins_ways s t
  have b2 := begins_ways t s
  generalize pre s t = B at *
  generalize pre t s = U at *
  have I1 := Lib.hid i1; have I2 := Lib.hid i2; have I3 := Lib.hid i3; have I4 := Lib.hid i4; have I5 := Lib.hid i5
  clear i1 i2 i3 i4 i5
  have hway : (decide (40 < (s.length : Int)) = true) ∨ (decide (40 < (s.length : Int)) = false ∧ decide (40 < (t.length : Int)) = true) ∨ (decide (40 < (s.length : Int)) = false ∧ decide (40 < (t.length : Int)) = false) := by
    cases decide (40 < (s.length : Int)) <;> cases decide (40 < (t.length : Int)) <;> simp
  rcases hway with h1 | ⟨h1, h2⟩ | ⟨h1, h2⟩
  rotate_right
  · have hw2 : (∃ E, (s == t) = E) := ⟨_, rfl⟩
    obtain ⟨E, hE⟩ := hw2
    rw [hE] at I5
    rcases b1 with ⟨l1, e1⟩ | ⟨l1, rfl⟩ <;> rcases b2 with ⟨l2, e2⟩ | ⟨l2, rfl⟩
    rotate_right
    · exfalso; omega
    all_goals
      go_enter Tryz.func5, Tryz.ntmps5
      go_wp2_with (first | (go_at_call 11; refine (fit_any _ HW.out).mono ?_; rintro e w2 ⟨rfl, hb2⟩; (first | (replace hb1 := btrans hb1 hb2; clear hb2 hc1 hf1; obtain ⟨hc1, hf1⟩ := bcell hb1) | (have hb1 := hb2; clear hb2; obtain ⟨hc1, hf1⟩ := bcell hb1))) | (go_at_call 24; refine (x_any _ _ _).mono ?_; rintro e w2 ⟨rfl, hb2⟩; (first | (replace hb1 := btrans hb1 hb2; clear hb2 hc1 hf1; obtain ⟨hc1, hf1⟩ := bcell hb1) | (have hb1 := hb2; clear hb2; obtain ⟨hc1, hf1⟩ := bcell hb1))) | (go_at_call 25; refine (implies_any _ _ _ _ _ _ _ _ _ _ _ _ _ _ _ (by decide) (by decide) (by decide) (by decide)).mono ?_; rintro e w2 ⟨rfl, hb2⟩; (first | rw [I1.out] | rw [I2.out] | rw [I3.out] | rw [I4.out] | rw [I5.out]); (first | (replace hb1 := btrans hb1 hb2; clear hb2 hc1 hf1; obtain ⟨hc1, hf1⟩ := bcell hb1) | (have hb1 := hb2; clear hb2; obtain ⟨hc1, hf1⟩ := bcell hb1))) | fail)
      go_ret
      exact ⟨rfl, by repeat (first | assumption | exact balloc _ _ | exact balloc2 _ _ _ | refine btrans ?_ (by assumption) | refine btrans ?_ (balloc _ _))⟩
  all_goals
    clear b1 b2
    go_enter Tryz.func5, Tryz.ntmps5
    go_wp2_with (first | (go_at_call 11; refine (fit_any _ HW.out).mono ?_; rintro e w2 ⟨rfl, hb2⟩; (first | (replace hb1 := btrans hb1 hb2; clear hb2 hc1 hf1; obtain ⟨hc1, hf1⟩ := bcell hb1) | (have hb1 := hb2; clear hb2; obtain ⟨hc1, hf1⟩ := bcell hb1))) | fail)
    go_ret
    exact ⟨rfl, by repeat (first | assumption | exact balloc _ _ | exact balloc2 _ _ _ | refine btrans ?_ (by assumption) | refine btrans ?_ (balloc _ _))⟩
theorem prefixes06_bytes (s t : ByteArray) (w : World) (hw : Words w) :
    Calls Tryz.prog 5 #[.string s, .string t] w fun e w' => e = .returned (.bool true) ∧ Below w.heap.size w w' :=
  prefixes06_any s.data.toList t.data.toList w hw
set_option maxRecDepth 100000 in
theorem prefixes06_lifted (os : Os) (started : os.Started) (H : Type) (enc : TypeId × Value → H) :
    ReturnsInHanded {} Tryz.checked os 5 .any (fun w args => (Rows.condPrefixesSpec.pre enc Tryz.prog Tryz.f5 Rows.condPrefixesRow.domain false w args ∧ laidMetH Tryz.prog Rows.condPrefixesRow.laid w) ∧ sizedMet enc Tryz.prog Tryz.f5 (OpenSpec.ofChange Rows.condPrefixesSpec) false w args)
      (Rows.condPrefixesSpec.post enc Tryz.prog Tryz.f5 false true false false) := by
  refine returnsInHanded_of_change_and (C := Tryz.checked) (X := fun w _ => laidMetH Tryz.prog Rows.condPrefixesRow.laid w) (fun _ _ _ hh h => h.of_heap hh) Frame.own started (by kernel_rfl) Tryz.func5
    (ChangeSpec.witness_shaped (enc := enc) (C := Tryz.checked) (os := os) (X := fun w _ => laidMetH Tryz.prog Rows.condPrefixesRow.laid w) false (World.laidAll Tryz.prog os Rows.condPrefixesRow.laid) #[.string .empty, .string .empty] 8 (World.laidAll_os _ _ _)
      (World.shaped_of_ZipB (by kernel_rfl) (by kernel_rfl)) (by kernel_rfl) (by kernel_rfl) (by kernel_rfl)
      (by rw [MakeChecks.laidMetH_plain _ _ _ (by kernel_rfl)]; exact laidMet_laidAll _ (by kernel_rfl) (by kernel_rfl))) ?_
  intro W base args ds gs before hval0 hW _ hsz0 hL _
  have hsz : (DataW.weightsEach Tryz.prog (Tryz.f5.params.toList ++ Rows.condPrefixesSpec.plain.varTypes Tryz.prog) (ds ++ gs)).all (· ≤ reachBytes) = true := hsz0
  have hval : ∀ (j : Nat) t v, Tryz.f5.params[j]? = some t → args[j]? = some v → Value.okWide Tryz.prog W .any base t v := hval0
  have hW' := hW
  obtain ⟨p, q, hA0, hV, rfl, hfz, hnd⟩ := hW
  have hA : DataW.TrodAll enc Tryz.prog W 0 (fun _ => true) true Tryz.f5.params.toList args.toList ds p := hA0
  rw [Tryz.params5] at hA hval hsz
  obtain ⟨v0, vs0, d0, ds0, p0, q0, hargs, rfl, rfl, h0, r0⟩ := trodAll_cons hA
  obtain ⟨v1, vs1, d1, ds1, p1, q1, rfl, rfl, rfl, h1, r1⟩ := trodAll_cons r0
  obtain ⟨rfl, rfl, rfl⟩ := trodAll_nil r1
  obtain rfl : args = #[v0, v1] := by cases args; simp_all
  obtain ⟨rfl, rfl⟩ := trodVars_none hV
  obtain ⟨a, rfl, rfl, rfl, wa⟩ := Go.ChangeMaps.open_string Tryz.underlying9 (hval 0 9 v0 rfl rfl) h0
  have za : a.data.toList.length ≤ 140737488351232 := sized_string hsz (j := 0) (t := 9) rfl rfl
  obtain ⟨b, rfl, rfl, rfl, wb⟩ := Go.ChangeMaps.open_string Tryz.underlying9 (hval 1 9 v1 rfl rfl) h1
  have zb : b.data.toList.length ≤ 140737488351232 := sized_string hsz (j := 1) (t := 9) rfl rfl
  clear hA0 hval0 hsz hsz0
  refine (prefixes06_bytes a b W (words_ofPrefixes hL)).mono fun e W' ⟨he, hw⟩ => ?_
  subst he
  exact ⟨_, rfl, Frame.law_post Frame.laidOut (by kernel_rfl) rfl (by kernel_rfl) Tryz.underlying4 rfl rfl rfl hW' hw⟩

theorem prefixes06_said : Rows.CondPrefixesSaid :=
  OpenClaim.holds_of_wide 5 Tryz.f5 rfl rfl rfl rfl rfl rfl rfl ⟨rfl, rfl, rfl, rfl, rfl⟩ rfl rfl rfl rfl rfl (by kernel_rfl) Tryz.func5 (by kernel_rfl)
    (of_decide_eq_true (by kernel_rfl)) (by unfold Func.isWrapper; first | (rw [if_pos (by decide +kernel)]; kernel_rfl) | (rw [if_neg (by decide +kernel)]; exact ⟨rfl, rfl⟩))
    (fun os started H enc _ => prefixes06_lifted os started H enc)
theorem prefixes06_plain (f : FuncId) (fn : Func) (hf : Tryz.pinned.checked.prog.funcNamed "gazette/gazettelaw06.CondPrefixes" = some f) (hfn : Tryz.pinned.checked.prog.funcs[f]? = some fn) :
    false = Tryz.pinned.checked.prog.looks [] ∧ ∀ (j : Nat) t, fn.params[j]? = some t → Tryz.pinned.checked.prog.wantsStandIn t = false := by
  obtain rfl : f = 5 := Option.some.inj ((show Tryz.prog.funcNamed "gazette/gazettelaw06.CondPrefixes" = some 5 by kernel_rfl).symm.trans hf) |>.symm
  obtain rfl : fn = Tryz.f5 := (Option.some.inj (Tryz.func5.symm.trans hfn)).symm
  refine ⟨by kernel_rfl, fun j t ht => ?_⟩
  rw [Tryz.params5] at ht
  have hm : t ∈ [9, 9] := by simpa using Array.mem_of_getElem? ht
  have hall : ([9, 9].all fun u => !Tryz.prog.wantsStandIn u) = true := by kernel_rfl
  exact (show Tryz.prog.wantsStandIn t = false by simpa using List.all_eq_true.1 hall t hm)
theorem prefixes06_holds : Rows.CondPrefixesCardSaid :=
  Claim7.holds_tied_plain_at .later [] _ _ _ _ prefixes06_said (fun _ h => by cases h) (by kernel_rfl) (fun _ h => by cases h) condPrefixes_row_tie rfl ⟨rfl, rfl⟩ (by kernel_rfl) rfl prefixes06_plain (by kernel_rfl)
end Go.Proofs.YtjddkbgnndefaaaGreatDoor.Val
