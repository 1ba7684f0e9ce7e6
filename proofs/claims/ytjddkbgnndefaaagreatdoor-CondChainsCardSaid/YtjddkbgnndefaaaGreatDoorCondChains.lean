/- The statement CondChains is proved: what one condition implies, and that implies, it implies. -/
import Derived.Test.YtjddkbgnndefaaaGreatDoorFrameC
import Derived.Test.YtjddkbgnndefaaaGreatDoorOpenG
import Derived.Test.YtjddkbgnndefaaaGreatDoorCondFit
import Derived.Test.YtjddkbgnndefaaaGreatDoorLaid
import Derived.Test.YtjddkbgnndefaaaGreatDoorImpl
namespace Go.Proofs.YtjddkbgnndefaaaGreatDoor.Val
open Go.RowKit Go.ChangeShapes Go.WideShapes Go.ChangeAt Flt
theorem words_ofChains {W : World} (h : laidMetH Tryz.prog Rows.condChainsRow.laid W) : Words W := fun i hi =>
  Laid.strs (name := "gazette/cond.words") (zs := [[61], [33, 61], [60], [60, 61], [62], [62, 61], [94], [104, 97, 115]]) (by kernel_rfl) (by kernel_rfl) (by kernel_rfl) Tryz.underlying63 Tryz.underlying9 (by kernel_rfl) (by kernel_rfl) (by kernel_rfl) h i hi
theorem cright_op {c : C} (h : cRight c = true) : 0 ≤ c.op ∧ c.op ≤ 7 := by
  unfold cRight at h; simp at h; exact ⟨h.1.1.2, h.1.2⟩
set_option maxRecDepth 20000 in
set_option maxHeartbeats 4000000 in
theorem chains06_any (na : List UInt8) (oa ka ia : Int) (xa : Nat) (ta : List UInt8) (ya : Bool) (nb : List UInt8) (ob kb ib : Int) (xb : Nat) (tb : List UInt8) (yb : Bool) (nc : List UInt8) (oc kc ic : Int) (xc : Nat) (tc : List UInt8) (yc : Bool) (w : World) (hw : Words w)
    (z1 : na.length ≤ 140737488351232) (z2 : ta.length ≤ 140737488351232) (z3 : nb.length ≤ 140737488351232) (z4 : tb.length ≤ 140737488351232) (z5 : nc.length ≤ 140737488351232) (z6 : tc.length ≤ 140737488351232)
    (f1 : xa < 18446744073709551616) (f2 : xb < 18446744073709551616) (f3 : xc < 18446744073709551616) :
    Calls Tryz.prog 8 #[cond na oa ka ia xa ta ya, cond nb ob kb ib xb tb yb, cond nc oc kc ic xc tc yc] w fun e w' => e = .returned (.bool true) ∧ Below w.heap.size w w' := by
  have HW := Lib.hid hw; clear hw
  have htr := implies_trans ⟨na, oa, ka, ia, xa, ta, ya⟩ ⟨nb, ob, kb, ib, xb, tb, yb⟩ ⟨nc, oc, kc, ic, xc, tc, yc⟩
  have hoa := @cright_op ⟨na, oa, ka, ia, xa, ta, ya⟩
  have hob := @cright_op ⟨nb, ob, kb, ib, xb, tb, yb⟩
  have hoc := @cright_op ⟨nc, oc, kc, ic, xc, tc, yc⟩
  generalize hla : decide (na.length + ta.length ≤ 300) = la
  generalize hlb : decide (nb.length + tb.length ≤ 300) = lb
  generalize hlc : decide (nc.length + tc.length ≤ 300) = lc
  generalize hra : cRight ⟨na, oa, ka, ia, xa, ta, ya⟩ = ra at hoa
  generalize hrb : cRight ⟨nb, ob, kb, ib, xb, tb, yb⟩ = rb at hob
  generalize hrc : cRight ⟨nc, oc, kc, ic, xc, tc, yc⟩ = rc at hoc
  generalize hia : impliesB ⟨na, oa, ka, ia, xa, ta, ya⟩ ⟨nb, ob, kb, ib, xb, tb, yb⟩ = pa at htr
  generalize hib : impliesB ⟨nb, ob, kb, ib, xb, tb, yb⟩ ⟨nc, oc, kc, ic, xc, tc, yc⟩ = pb at htr
  generalize hic : impliesB ⟨na, oa, ka, ia, xa, ta, ya⟩ ⟨nc, oc, kc, ic, xc, tc, yc⟩ = pc at htr
  have LA := Lib.hid hla; have LB := Lib.hid hlb; have LC := Lib.hid hlc
  have RA := Lib.hid hra; have RB := Lib.hid hrb; have RC := Lib.hid hrc
  have IA := Lib.hid hia; have IB := Lib.hid hib; have IC := Lib.hid hic
  clear hla hlb hlc hra hrb hrc hia hib hic
  have hway : (la = false) ∨ (la = true ∧ lb = false) ∨ (la = true ∧ lb = true ∧ lc = false) ∨ (la = true ∧ lb = true ∧ lc = true ∧ ra = false) ∨ (la = true ∧ lb = true ∧ lc = true ∧ ra = true ∧ rb = false) ∨ (la = true ∧ lb = true ∧ lc = true ∧ ra = true ∧ rb = true ∧ rc = false) ∨ (la = true ∧ lb = true ∧ lc = true ∧ ra = true ∧ rb = true ∧ rc = true) := by
    cases la <;> cases lb <;> cases lc <;> cases ra <;> cases rb <;> cases rc <;> simp
  rcases hway with rfl | ⟨rfl, rfl⟩ | ⟨rfl, rfl, rfl⟩ | ⟨rfl, rfl, rfl, rfl⟩ | ⟨rfl, rfl, rfl, rfl, rfl⟩ | ⟨rfl, rfl, rfl, rfl, rfl, rfl⟩ | ⟨rfl, rfl, rfl, rfl, rfl, rfl⟩
  rotate_right
  · obtain ⟨a0, a7⟩ := hoa rfl
    obtain ⟨b0, b7⟩ := hob rfl
    obtain ⟨c0, c7⟩ := hoc rfl
    have htr' := htr a0 a7 b0 b7 c0 c7
    clear htr hoa hob hoc
    have hway : (pa = false) ∨ (pa = true ∧ pb = false) ∨ (pa = true ∧ pb = true ∧ pc = true) := by
      cases pa <;> cases pb <;> simp_all
    clear htr'
    rcases hway with rfl | ⟨rfl, rfl⟩ | ⟨rfl, rfl, rfl⟩
    all_goals
      go_enter Tryz.func8, Tryz.ntmps8
      go_wp2_with (first | (go_at_call 11; refine (fit_any _ (HW.out.below (by repeat (first | assumption | exact balloc _ _ | exact balloc2 _ _ _ | refine btrans ?_ (by assumption) | refine btrans ?_ (balloc _ _))))).mono ?_; rintro e w2 ⟨rfl, hb2⟩; (first | (replace hb1 := btrans hb1 hb2; clear hb2 hc1 hf1; obtain ⟨hc1, hf1⟩ := bcell hb1) | (have hb1 := hb2; clear hb2; obtain ⟨hc1, hf1⟩ := bcell hb1))) | (go_at_call 12; refine (light_any _ _ _ _ _ _ _ _ (by assumption) (by assumption)).mono ?_; rintro e w2 ⟨rfl, hb2⟩; (first | rw [LA.out] | rw [LB.out] | rw [LC.out]); (first | (replace hb1 := btrans hb1 hb2; clear hb2 hc1 hf1; obtain ⟨hc1, hf1⟩ := bcell hb1) | (have hb1 := hb2; clear hb2; obtain ⟨hc1, hf1⟩ := bcell hb1))) | (go_at_call 15; refine (cright_any _ _ _ _ _ _ _ _ (by assumption) (by assumption)).mono ?_; rintro e w2 ⟨rfl, hb2⟩; (first | rw [RA.out] | rw [RB.out] | rw [RC.out]); (first | (replace hb1 := btrans hb1 hb2; clear hb2 hc1 hf1; obtain ⟨hc1, hf1⟩ := bcell hb1) | (have hb1 := hb2; clear hb2; obtain ⟨hc1, hf1⟩ := bcell hb1))) | (go_at_call 25; refine (implies_any _ _ _ _ _ _ _ _ _ _ _ _ _ _ _ (by assumption) (by assumption) (by assumption) (by assumption)).mono ?_; rintro e w2 ⟨rfl, hb2⟩; (first | rw [IA.out] | rw [IB.out] | rw [IC.out]); (first | (replace hb1 := btrans hb1 hb2; clear hb2 hc1 hf1; obtain ⟨hc1, hf1⟩ := bcell hb1) | (have hb1 := hb2; clear hb2; obtain ⟨hc1, hf1⟩ := bcell hb1))) | fail)
      go_ret
      exact ⟨rfl, by repeat (first | assumption | exact balloc _ _ | exact balloc2 _ _ _ | refine btrans ?_ (by assumption) | refine btrans ?_ (balloc _ _))⟩
  all_goals
    clear htr hoa hob hoc
    go_enter Tryz.func8, Tryz.ntmps8
    go_wp2_with (first | (go_at_call 11; refine (fit_any _ (HW.out.below (by repeat (first | assumption | exact balloc _ _ | exact balloc2 _ _ _ | refine btrans ?_ (by assumption) | refine btrans ?_ (balloc _ _))))).mono ?_; rintro e w2 ⟨rfl, hb2⟩; (first | (replace hb1 := btrans hb1 hb2; clear hb2 hc1 hf1; obtain ⟨hc1, hf1⟩ := bcell hb1) | (have hb1 := hb2; clear hb2; obtain ⟨hc1, hf1⟩ := bcell hb1))) | (go_at_call 12; refine (light_any _ _ _ _ _ _ _ _ (by assumption) (by assumption)).mono ?_; rintro e w2 ⟨rfl, hb2⟩; (first | rw [LA.out] | rw [LB.out] | rw [LC.out]); (first | (replace hb1 := btrans hb1 hb2; clear hb2 hc1 hf1; obtain ⟨hc1, hf1⟩ := bcell hb1) | (have hb1 := hb2; clear hb2; obtain ⟨hc1, hf1⟩ := bcell hb1))) | (go_at_call 15; refine (cright_any _ _ _ _ _ _ _ _ (by assumption) (by assumption)).mono ?_; rintro e w2 ⟨rfl, hb2⟩; (first | rw [RA.out] | rw [RB.out] | rw [RC.out]); (first | (replace hb1 := btrans hb1 hb2; clear hb2 hc1 hf1; obtain ⟨hc1, hf1⟩ := bcell hb1) | (have hb1 := hb2; clear hb2; obtain ⟨hc1, hf1⟩ := bcell hb1))) | fail)
    go_ret
    exact ⟨rfl, by repeat (first | assumption | exact balloc _ _ | exact balloc2 _ _ _ | refine btrans ?_ (by assumption) | refine btrans ?_ (balloc _ _))⟩
set_option maxRecDepth 100000 in
theorem chains06_lifted (os : Os) (started : os.Started) (H : Type) (enc : TypeId × Value → H) :
    ReturnsInHanded {} Tryz.checked os 8 .any (fun w args => (Rows.condChainsSpec.pre enc Tryz.prog Tryz.f8 Rows.condChainsRow.domain false w args ∧ laidMetH Tryz.prog Rows.condChainsRow.laid w) ∧ sizedMet enc Tryz.prog Tryz.f8 (OpenSpec.ofChange Rows.condChainsSpec) false w args)
      (Rows.condChainsSpec.post enc Tryz.prog Tryz.f8 false true false false) := by
  refine returnsInHanded_of_change_and (C := Tryz.checked) (X := fun w _ => laidMetH Tryz.prog Rows.condChainsRow.laid w) (fun _ _ _ hh h => h.of_heap hh) Frame.own started (by kernel_rfl) Tryz.func8
    (ChangeSpec.witness_shaped (enc := enc) (C := Tryz.checked) (os := os) (X := fun w _ => laidMetH Tryz.prog Rows.condChainsRow.laid w) false (World.laidAll Tryz.prog os Rows.condChainsRow.laid) #[.agg #[.string .empty, .int .i64 0, .int .i64 0, .int .i64 0, .float .f64 0, .string .empty, .bool false], .agg #[.string .empty, .int .i64 0, .int .i64 0, .int .i64 0, .float .f64 0, .string .empty, .bool false], .agg #[.string .empty, .int .i64 0, .int .i64 0, .int .i64 0, .float .f64 0, .string .empty, .bool false]] 8 (World.laidAll_os _ _ _)
      (World.shaped_of_ZipB (by kernel_rfl) (by kernel_rfl)) (by kernel_rfl) (by kernel_rfl) (by kernel_rfl)
      (by rw [MakeChecks.laidMetH_plain _ _ _ (by kernel_rfl)]; exact laidMet_laidAll _ (by kernel_rfl) (by kernel_rfl))) ?_
  intro W base args ds gs before hval0 hW _ hsz0 hL _
  have hsz : (DataW.weightsEach Tryz.prog (Tryz.f8.params.toList ++ Rows.condChainsSpec.plain.varTypes Tryz.prog) (ds ++ gs)).all (· ≤ reachBytes) = true := hsz0
  have hval : ∀ (j : Nat) t v, Tryz.f8.params[j]? = some t → args[j]? = some v → Value.okWide Tryz.prog W .any base t v := hval0
  have hW' := hW
  obtain ⟨p, q, hA0, hV, rfl, hfz, hnd⟩ := hW
  have hA : DataW.TrodAll enc Tryz.prog W 0 (fun _ => true) true Tryz.f8.params.toList args.toList ds p := hA0
  rw [Tryz.params8] at hA hval hsz
  obtain ⟨v0, vs0, d0, ds0, p0, q0, hargs, rfl, rfl, h0, r0⟩ := trodAll_cons hA
  obtain ⟨v1, vs1, d1, ds1, p1, q1, rfl, rfl, rfl, h1, r1⟩ := trodAll_cons r0
  obtain ⟨v2, vs2, d2, ds2, p2, q2, rfl, rfl, rfl, h2, r2⟩ := trodAll_cons r1
  obtain ⟨rfl, rfl, rfl⟩ := trodAll_nil r2
  obtain rfl : args = #[v0, v1, v2] := by cases args; simp_all
  obtain ⟨rfl, rfl⟩ := trodVars_none hV
  obtain ⟨ma, oa, ka, ia, xa, ta, ya, rfl, wa⟩ := Open.open_cond (hval 0 26 v0 rfl rfl) h0 (Open.reach_of hsz (j := 0) (t := 26) rfl rfl)
  obtain ⟨mb, ob, kb, ib, xb, tb, yb, rfl, wb⟩ := Open.open_cond (hval 1 26 v1 rfl rfl) h1 (Open.reach_of hsz (j := 1) (t := 26) rfl rfl)
  obtain ⟨mc, oc, kc, ic, xc, tc, yc, rfl, wc⟩ := Open.open_cond (hval 2 26 v2 rfl rfl) h2 (Open.reach_of hsz (j := 2) (t := 26) rfl rfl)
  clear hA0 hval0 hsz hsz0
  refine (chains06_any ma oa ka ia xa ta ya mb ob kb ib xb tb yb mc oc kc ic xc tc yc W (words_ofChains hL) wa.1 wa.2.2.2.2.2 wb.1 wb.2.2.2.2.2 wc.1 wc.2.2.2.2.2 wa.2.2.2.2.1 wb.2.2.2.2.1 wc.2.2.2.2.1).mono fun e W' ⟨he, hw⟩ => ?_
  subst he
  exact ⟨_, rfl, Frame.law_post Frame.laidOut (by kernel_rfl) rfl (by kernel_rfl) Tryz.underlying4 rfl rfl rfl hW' hw⟩

theorem chains06_said : Rows.CondChainsSaid :=
  OpenClaim.holds_of_wide 8 Tryz.f8 rfl rfl rfl rfl rfl rfl rfl ⟨rfl, rfl, rfl, rfl, rfl⟩ rfl rfl rfl rfl rfl (by kernel_rfl) Tryz.func8 (by kernel_rfl)
    (of_decide_eq_true (by kernel_rfl)) (by unfold Func.isWrapper; first | (rw [if_pos (by decide +kernel)]; kernel_rfl) | (rw [if_neg (by decide +kernel)]; exact ⟨rfl, rfl⟩))
    (fun os started H enc _ => chains06_lifted os started H enc)
theorem chains06_plain (f : FuncId) (fn : Func) (hf : Tryz.pinned.checked.prog.funcNamed "gazette/gazettelaw06.CondChains" = some f) (hfn : Tryz.pinned.checked.prog.funcs[f]? = some fn) :
    false = Tryz.pinned.checked.prog.looks [] ∧ ∀ (j : Nat) t, fn.params[j]? = some t → Tryz.pinned.checked.prog.wantsStandIn t = false := by
  obtain rfl : f = 8 := Option.some.inj ((show Tryz.prog.funcNamed "gazette/gazettelaw06.CondChains" = some 8 by kernel_rfl).symm.trans hf) |>.symm
  obtain rfl : fn = Tryz.f8 := (Option.some.inj (Tryz.func8.symm.trans hfn)).symm
  refine ⟨by kernel_rfl, fun j t ht => ?_⟩
  rw [Tryz.params8] at ht
  have hm : t ∈ [26, 26, 26] := by simpa using Array.mem_of_getElem? ht
  have hall : ([26, 26, 26].all fun u => !Tryz.prog.wantsStandIn u) = true := by kernel_rfl
  exact (show Tryz.prog.wantsStandIn t = false by simpa using List.all_eq_true.1 hall t hm)
theorem chains06_holds : Rows.CondChainsCardSaid :=
  Claim7.holds_tied_plain_at .later [] _ _ _ _ chains06_said (fun _ h => by cases h) (by kernel_rfl) (fun _ h => by cases h) condChains_row_tie rfl ⟨rfl, rfl⟩ (by kernel_rfl) rfl chains06_plain (by kernel_rfl)
end Go.Proofs.YtjddkbgnndefaaaGreatDoor.Val
