/- The statement CondSides is proved: of a number and its own value the six comparisons tell what they should. -/
import Derived.Test.YtjddkbgnndefaaaDoorFrameC
import Derived.Test.YtjddkbgnndefaaaDoorOpenG
import Derived.Test.YtjddkbgnndefaaaDoorCondFit
import Derived.Test.YtjddkbgnndefaaaDoorLaid
import Derived.Test.YtjddkbgnndefaaaDoorCondLaw
import Derived.LoopN
import Derived.Deep.RegionHeld3
namespace Go.Proofs.YtjddkbgnndefaaaDoor.Val
open Go.RowKit Go.ChangeShapes Go.WideShapes Go.ChangeAt Flt
theorem words_of {W : World} (h : laidMetH Tryd.prog Rows.condSidesRow.laid W) : Words W := fun i hi =>
  Laid.strs (name := "gazette/cond.words") (zs := [[61], [33, 61], [60], [60, 61], [62], [62, 61], [94], [104, 97, 115]]) (by kernel_rfl) (by kernel_rfl) (by kernel_rfl) Tryd.underlying41 Tryd.underlying9 (by kernel_rfl) (by kernel_rfl) (by kernel_rfl) h i hi
theorem heldv_below {b : Nat} {v0 v1 v2 v3 v4 : Value} {w w1 w2 : World} (hb : Below w1.heap.size w1 w2)
    (h : w1.cell? ⟨b, 0, none⟩ = some v0 ∧ w1.cell? ⟨b, 1, none⟩ = some v1 ∧ w1.cell? ⟨b, 2, none⟩ = some v2 ∧ w1.cell? ⟨b, 3, none⟩ = some v3 ∧ w1.cell? ⟨b, 4, none⟩ = some v4 ∧ Below w.heap.size w w1 ∧ b < w1.heap.size) :
    w2.cell? ⟨b, 0, none⟩ = some v0 ∧ w2.cell? ⟨b, 1, none⟩ = some v1 ∧ w2.cell? ⟨b, 2, none⟩ = some v2 ∧ w2.cell? ⟨b, 3, none⟩ = some v3 ∧ w2.cell? ⟨b, 4, none⟩ = some v4 ∧ Below w.heap.size w w2 ∧ b < w2.heap.size := by
  obtain ⟨h0, h1, h2, h3, h4, hB, hl⟩ := h
  have c : ∀ o, w2.cell? ⟨b, o, none⟩ = w1.cell? ⟨b, o, none⟩ := fun o => hb.cell (p := ⟨b, o, none⟩) hl
  exact ⟨by rw [c]; exact h0, by rw [c]; exact h1, by rw [c]; exact h2, by rw [c]; exact h3, by rw [c]; exact h4, btrans hB hb, Nat.lt_of_lt_of_le hl hb.size⟩
theorem heldv_start {v0 v1 v2 v3 v4 : Value} {T : TypeId} {w w1 : World} (hb : Below (w.alloc (.cells #[v0, v1, v2, v3, v4] T)).heap.size (w.alloc (.cells #[v0, v1, v2, v3, v4] T)) w1) :
    w1.drew.cell? ⟨w.heap.size, 0, none⟩ = some v0 ∧ w1.drew.cell? ⟨w.heap.size, 1, none⟩ = some v1 ∧ w1.drew.cell? ⟨w.heap.size, 2, none⟩ = some v2 ∧ w1.drew.cell? ⟨w.heap.size, 3, none⟩ = some v3 ∧ w1.drew.cell? ⟨w.heap.size, 4, none⟩ = some v4 ∧ Below w.heap.size w w1.drew ∧ w.heap.size < w1.drew.heap.size := by
  have c : ∀ o, w1.cell? ⟨w.heap.size, o, none⟩ = #[v0, v1, v2, v3, v4][o]? := fun o => (hb.cell (p := ⟨w.heap.size, o, none⟩) (by show w.heap.size < (w.alloc _).heap.size; simp)).trans (World.cell?_alloc_at _ _ _ _ rfl)
  exact ⟨c 0, c 1, c 2, c 3, c 4, bdrewN (btrans (balloc _ _) hb) 1, (show w.heap.size < w1.heap.size from size1 hb)⟩
theorem heldv_own {b : Nat} {v0 v1 v2 v3 v4 : Value} {w w1 : World}
    (h : w1.cell? ⟨b, 0, none⟩ = some v0 ∧ w1.cell? ⟨b, 1, none⟩ = some v1 ∧ w1.cell? ⟨b, 2, none⟩ = some v2 ∧ w1.cell? ⟨b, 3, none⟩ = some v3 ∧ w1.cell? ⟨b, 4, none⟩ = some v4 ∧ Below w.heap.size w w1 ∧ b < w1.heap.size) : Below w.heap.size w w1 := h.2.2.2.2.2.1
attribute [local go_sem] run_store_flt Ord.ford_ne_self sideB
set_option maxRecDepth 20000 in
set_option maxHeartbeats 4000000 in
theorem sides_any (k n : Int) (x : Nat) (t : List UInt8) (y : Bool) (w : World) (hw : Words w) (ht : t.length ≤ 140737488351232) :
    Calls Tryd.prog 3 #[val k n x t y] w fun e w' => e = .returned (.bool true) ∧ Below w.heap.size w w' := by
  have HW := Lib.hid hw; clear hw
  have hv : voidB ⟨k, n, x, t, y⟩ = (k == 1 && nan x) := rfl
  have hrt (w : World) := vright_any k n x t y w ht
  have hs (nm : List UInt8) (op k1 n1 : Int) (x1 : Nat) (t1 : List UInt8) (y1 : Bool) (w : World) := holds_any nm op k1 n1 x1 t1 y1 k n x t y w
  have e7 : holdsB ⟨[97], 7, ⟨0, 0, 0, [], false⟩⟩ ⟨k, n, x, t, y⟩ = true := rfl
  have es (nm : List UInt8) (op : Int) : holdsB ⟨nm, op, ⟨k, n, x, t, y⟩⟩ ⟨k, n, x, t, y⟩ = sideB op (k == 1 && nan x) (k == 2) := (side_eq nm op ⟨k, n, x, t, y⟩).trans (by rw [hv])
  have hv2 : (k == 1) = true → (k == 2) = false := by intro h; simp at h; subst h; rfl
  generalize hvr : vRight ⟨k, n, x, t, y⟩ = vr at *
  generalize hk1 : (k == 1) = b1 at *
  generalize hk2 : (k == 2) = b2 at *
  generalize hk3 : nan x = b3 at *
  have HR := Lib.hid hrt; have HS := Lib.hid hs; have E7 := Lib.hid e7
  clear hrt hs hv hvr e7
  by_cases hl : 300 < t.length
  · have s1 : decide (300 < (t.length : Int)) = true := by rw [decide_eq_true_iff]; omega
    clear es hv2
    go_enter Tryd.func3, Tryd.ntmps3
    go_wp2_with (go_at_call 4; refine (fit_any _ (HW.out.below (by repeat (first | assumption | exact balloc _ _ | refine btrans ?_ (by assumption))))).mono ?_; rintro e w1 ⟨rfl, hb1⟩; obtain ⟨hc1, hf1⟩ := bcell hb1)
    go_ret
    exact ⟨rfl, by repeat (first | assumption | exact balloc _ _ | refine btrans ?_ (by assumption))⟩
  have s1 : decide (300 < (t.length : Int)) = false := by rw [decide_eq_false_iff_not]; omega
  cases vr
  · clear es hv2
    go_enter Tryd.func3, Tryd.ntmps3
    go_wp2_with (first | (go_at_call 4; refine (fit_any _ (HW.out.below (by repeat (first | assumption | exact balloc _ _ | refine btrans ?_ (by assumption))))).mono ?_; rintro e w1 ⟨rfl, hb1⟩; obtain ⟨hc1, hf1⟩ := bcell hb1) | (go_at_call 5; refine (HR.out _).mono ?_; rintro e w2 ⟨rfl, hb2⟩; replace hb1 := btrans hb1 hb2; clear hb2 hc1 hf1; obtain ⟨hc1, hf1⟩ := bcell hb1))
    go_ret
    exact ⟨rfl, by repeat (first | assumption | exact balloc _ _ | refine btrans ?_ (by assumption))⟩
  have i0 : ∀ w : World, (Instr.index 27 (.agg #[.bool true, .bool false, .bool false, .bool true, .bool false, .bool true]) (.int .i64 0)).run Tryd.prog w = .ok (.bool true) w := fun _ => by kernel_rfl
  have i1 : ∀ w : World, (Instr.index 27 (.agg #[.bool true, .bool false, .bool false, .bool true, .bool false, .bool true]) (.int .i64 1)).run Tryd.prog w = .ok (.bool false) w := fun _ => by kernel_rfl
  have i2 : ∀ w : World, (Instr.index 27 (.agg #[.bool true, .bool false, .bool false, .bool true, .bool false, .bool true]) (.int .i64 2)).run Tryd.prog w = .ok (.bool false) w := fun _ => by kernel_rfl
  have i3 : ∀ w : World, (Instr.index 27 (.agg #[.bool true, .bool false, .bool false, .bool true, .bool false, .bool true]) (.int .i64 3)).run Tryd.prog w = .ok (.bool true) w := fun _ => by kernel_rfl
  have i4 : ∀ w : World, (Instr.index 27 (.agg #[.bool true, .bool false, .bool false, .bool true, .bool false, .bool true]) (.int .i64 4)).run Tryd.prog w = .ok (.bool false) w := fun _ => by kernel_rfl
  have i5 : ∀ w : World, (Instr.index 27 (.agg #[.bool true, .bool false, .bool false, .bool true, .bool false, .bool true]) (.int .i64 5)).run Tryd.prog w = .ok (.bool true) w := fun _ => by kernel_rfl
  cases b1
  · have ES := Lib.hid es; clear es hv2
    go_enter Tryd.func3, Tryd.ntmps3
    go_wp2_with (first | (go_at_call 4; refine (fit_any _ (HW.out.below (by repeat (first | assumption | exact balloc _ _ | refine btrans ?_ (by assumption))))).mono ?_; rintro e w1 ⟨rfl, hb1⟩; obtain ⟨hc1, hf1⟩ := bcell hb1) | (go_at_call 5; refine (HR.out _).mono ?_; rintro e w2 ⟨rfl, hb2⟩; replace hb1 := btrans hb1 hb2; clear hb2 hc1 hf1; obtain ⟨hc1, hf1⟩ := bcell hb1))
    refine wp_loop_rounds 7 ?_
    iterate 6
      rw [rounds_succ]
      go_wp2_with (go_at_call 6; refine (HS.out _ _ _ _ _ _ _ _).mono ?_; rintro e w2 ⟨rfl, hb2⟩; replace hb1 := btrans hb1 hb2; clear hb2 hc1 hf1; obtain ⟨hc1, hf1⟩ := bcell hb1; first | rw [E7.out] | rw [ES.out])
    rw [rounds_succ]
    go_wp2_with fail
    go_region_held3 (fun w' => w'.cell? ⟨w.heap.size, 0, none⟩ = some (.int .i64 k) ∧ w'.cell? ⟨w.heap.size, 1, none⟩ = some (.int .i64 n) ∧ w'.cell? ⟨w.heap.size, 2, none⟩ = some (.float .f64 x) ∧ w'.cell? ⟨w.heap.size, 3, none⟩ = some (.string ⟨t.toArray⟩) ∧ w'.cell? ⟨w.heap.size, 4, none⟩ = some (.bool y) ∧ Below w.heap.size w w' ∧ w.heap.size < w'.heap.size)
      (first | exact heldv_start hb1 | assumption | exact heldv_below (by assumption) (by assumption))
      (first | (go_at_call 6; refine (HS.out _ _ _ _ _ _ _ _).mono ?_; rintro e w2 ⟨rfl, hb2⟩; first | rw [E7.out] | rw [ES.out]))
    go_goals
    all_goals
      go_wp2
      go_ret
      exact ⟨rfl, heldv_own (by assumption)⟩
  · obtain rfl := hv2 rfl
    have ES := Lib.hid es; clear es hv2
    go_enter Tryd.func3, Tryd.ntmps3
    go_wp2_with (first | (go_at_call 4; refine (fit_any _ (HW.out.below (by repeat (first | assumption | exact balloc _ _ | refine btrans ?_ (by assumption))))).mono ?_; rintro e w1 ⟨rfl, hb1⟩; obtain ⟨hc1, hf1⟩ := bcell hb1) | (go_at_call 5; refine (HR.out _).mono ?_; rintro e w2 ⟨rfl, hb2⟩; replace hb1 := btrans hb1 hb2; clear hb2 hc1 hf1; obtain ⟨hc1, hf1⟩ := bcell hb1))
    refine wp_loop_rounds 7 ?_
    iterate 6
      rw [rounds_succ]
      go_wp2_with (go_at_call 6; refine (HS.out _ _ _ _ _ _ _ _).mono ?_; rintro e w2 ⟨rfl, hb2⟩; replace hb1 := btrans hb1 hb2; clear hb2 hc1 hf1; obtain ⟨hc1, hf1⟩ := bcell hb1; first | rw [E7.out] | rw [ES.out])
    rw [rounds_succ]
    go_wp2_with fail
    go_region_held3 (fun w' => w'.cell? ⟨w.heap.size, 0, none⟩ = some (.int .i64 k) ∧ w'.cell? ⟨w.heap.size, 1, none⟩ = some (.int .i64 n) ∧ w'.cell? ⟨w.heap.size, 2, none⟩ = some (.float .f64 x) ∧ w'.cell? ⟨w.heap.size, 3, none⟩ = some (.string ⟨t.toArray⟩) ∧ w'.cell? ⟨w.heap.size, 4, none⟩ = some (.bool y) ∧ Below w.heap.size w w' ∧ w.heap.size < w'.heap.size)
      (first | exact heldv_start hb1 | assumption | exact heldv_below (by assumption) (by assumption))
      (first | (go_at_call 6; refine (HS.out _ _ _ _ _ _ _ _).mono ?_; rintro e w2 ⟨rfl, hb2⟩; first | rw [E7.out] | rw [ES.out]))
    go_goals
    all_goals
      go_wp2
      go_ret
      exact ⟨rfl, heldv_own (by assumption)⟩
set_option maxRecDepth 100000 in
theorem sides_lifted (os : Os) (started : os.Started) (H : Type) (enc : TypeId × Value → H) :
    ReturnsInHanded {} Tryd.checked os 3 .any (fun w args => (Rows.condSidesSpec.pre enc Tryd.prog Tryd.f3 Rows.condSidesRow.domain false w args ∧ laidMetH Tryd.prog Rows.condSidesRow.laid w) ∧ sizedMet enc Tryd.prog Tryd.f3 (OpenSpec.ofChange Rows.condSidesSpec) false w args)
      (Rows.condSidesSpec.post enc Tryd.prog Tryd.f3 false true false false) := by
  refine returnsInHanded_of_change_and (C := Tryd.checked) (X := fun w _ => laidMetH Tryd.prog Rows.condSidesRow.laid w) (fun _ _ _ hh h => h.of_heap hh) Frame.own started (by kernel_rfl) Tryd.func3
    (ChangeSpec.witness_shaped (enc := enc) (C := Tryd.checked) (os := os) (X := fun w _ => laidMetH Tryd.prog Rows.condSidesRow.laid w) false (World.laidAll Tryd.prog os Rows.condSidesRow.laid) #[.agg #[.int .i64 0, .int .i64 0, .float .f64 0, .string .empty, .bool false]] 8 (World.laidAll_os _ _ _)
      (World.shaped_of_ZipB (by kernel_rfl) (by kernel_rfl)) (by kernel_rfl) (by kernel_rfl) (by kernel_rfl)
      (by rw [MakeChecks.laidMetH_plain _ _ _ (by kernel_rfl)]; exact laidMet_laidAll _ (by kernel_rfl) (by kernel_rfl))) ?_
  intro W base args ds gs before hval0 hW _ hsz0 hL _
  have hsz : (DataW.weightsEach Tryd.prog (Tryd.f3.params.toList ++ Rows.condSidesSpec.plain.varTypes Tryd.prog) (ds ++ gs)).all (· ≤ reachBytes) = true := hsz0
  have hval : ∀ (j : Nat) t v, Tryd.f3.params[j]? = some t → args[j]? = some v → Value.okWide Tryd.prog W .any base t v := hval0
  have hW' := hW
  obtain ⟨p, q, hA0, hV, rfl, hfz, hnd⟩ := hW
  have hA : DataW.TrodAll enc Tryd.prog W 0 (fun _ => true) true Tryd.f3.params.toList args.toList ds p := hA0
  rw [Tryd.params3] at hA hval hsz
  obtain ⟨v0, vs0, d0, ds0, p0, q0, hargs, rfl, rfl, h0, r0⟩ := trodAll_cons hA
  obtain ⟨rfl, rfl, rfl⟩ := trodAll_nil r0
  obtain rfl : args = #[v0] := by cases args; simp_all
  obtain ⟨rfl, rfl⟩ := trodVars_none hV
  obtain ⟨ka, ia, xa, ta, ya, rfl, wa⟩ := Open.open_val (hval 0 24 v0 rfl rfl) h0 (Open.reach_of hsz (j := 0) (t := 24) rfl rfl)
  clear hA0 hval0 hsz hsz0
  refine (sides_any ka ia xa ta ya W (words_of hL) wa.2.2.2).mono fun e W' ⟨he, hw⟩ => ?_
  subst he
  exact ⟨_, rfl, Frame.law_post Frame.laidOut (by kernel_rfl) rfl (by kernel_rfl) Tryd.underlying4 rfl rfl rfl hW' hw⟩

theorem sides_said : Rows.CondSidesSaid :=
  OpenClaim.holds_of_wide 3 Tryd.f3 rfl rfl rfl rfl rfl rfl rfl ⟨rfl, rfl, rfl, rfl, rfl⟩ rfl rfl rfl rfl rfl (by kernel_rfl) Tryd.func3 (by kernel_rfl)
    (of_decide_eq_true (by kernel_rfl)) (by unfold Func.isWrapper; first | (rw [if_pos (by decide +kernel)]; kernel_rfl) | (rw [if_neg (by decide +kernel)]; exact ⟨rfl, rfl⟩))
    (fun os started H enc _ => sides_lifted os started H enc)
theorem sides_plain (f : FuncId) (fn : Func) (hf : Tryd.pinned.checked.prog.funcNamed "gazette/gazettelaw06.CondSides" = some f) (hfn : Tryd.pinned.checked.prog.funcs[f]? = some fn) :
    false = Tryd.pinned.checked.prog.looks [] ∧ ∀ (j : Nat) t, fn.params[j]? = some t → Tryd.pinned.checked.prog.wantsStandIn t = false := by
  obtain rfl : f = 3 := Option.some.inj ((show Tryd.prog.funcNamed "gazette/gazettelaw06.CondSides" = some 3 by kernel_rfl).symm.trans hf) |>.symm
  obtain rfl : fn = Tryd.f3 := (Option.some.inj (Tryd.func3.symm.trans hfn)).symm
  refine ⟨by kernel_rfl, fun j t ht => ?_⟩
  rw [Tryd.params3] at ht
  have hm : t ∈ [24] := by simpa using Array.mem_of_getElem? ht
  have hall : ([24].all fun u => !Tryd.prog.wantsStandIn u) = true := by kernel_rfl
  exact (show Tryd.prog.wantsStandIn t = false by simpa using List.all_eq_true.1 hall t hm)
theorem sides_holds : Rows.CondSidesCardSaid :=
  Claim7.holds_tied_plain_at .later [] _ _ _ _ sides_said (fun _ h => by cases h) (by kernel_rfl) (fun _ h => by cases h) condSides_row_tie rfl ⟨rfl, rfl⟩ (by kernel_rfl) rfl sides_plain (by kernel_rfl)
end Go.Proofs.YtjddkbgnndefaaaDoor.Val
