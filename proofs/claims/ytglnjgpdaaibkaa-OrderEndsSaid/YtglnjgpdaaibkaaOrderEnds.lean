/- The statement OrderEnds is proved: for every float64 number the law returns true. Conditions: none beyond the given row's own. -/
import Derived.Test.YtglnjgpdaaibkaaOrdLaw1
import Derived.Test.YtglnjgpdaaibkaaFrame
namespace Go.Proofs.Ytglnjgpdaaibkaa.Ord
open Go.RowKit Flt Go.ChangeShapes Go.WideShapes Go.ChangeAt
attribute [local go_sem] ford_eq ford_lt ford_gt
theorem ends_facts (x : Nat) (hx : x < 18446744073709551616) :
    (nan x = true ∧ 18442240474082181120 < key x) ∨
    (nan x = false ∧ 4503599627370495 ≤ key x ∧ key x ≤ 18442240474082181120 ∧ Flt.eq x 9218868437227405312 = decide (key x = 18442240474082181120)) := by
  cases hn : nan x with
  | true => left; rw [key_nan hn]; decide
  | false =>
    right
    have h1 := key_sk hx hn
    have h2 := sk_bound hn
    have h3 : nan 9218868437227405312 = false := by decide
    have h4 : sk 9218868437227405312 = 9218868437227405312 := by decide
    unfold Flt.eq
    rw [hn, h3, h4]
    unfold ofSk at h1
    refine ⟨rfl, ?_, ?_, ?_⟩
    · split at h1 <;> omega
    · split at h1 <;> omega
    · rw [Bool.eq_iff_iff]; simp
      split at h1 <;> omega
set_option maxHeartbeats 1000000 in
theorem ends_any (x : Nat) (hx : x < 18446744073709551616) (w : World) :
    Calls Try.prog 8 #[.float .f64 x] w fun e w' => e = .returned (.bool true) ∧ Below w.heap.size w w' := by
  have h1 := ford_ne_self x
  have c1 : (back 18442240474082181120).1 = 9218868437227405312 := by decide
  have c3 : (back 4503599627370495).1 = 18442240474082181120 := by decide
  have k1 : key 9218868437227405312 = 18442240474082181120 := by decide
  have k2 : key 18442240474082181120 = 4503599627370495 := by decide
  have hneg := run_neg
  have hn0 : Op.negFloat .f64 18442240474082181120 = 9218868437227405312 := by decide
  have e1 : Flt.eq 9218868437227405312 9218868437227405312 = true := by decide
  have e2 : Flt.lt 9214871658872686752 9218868437227405312 = true := by decide
  have b1 : ∀ w : World, Calls Try.prog 15 #[.int .u64 18442240474082181120] w fun e w' => e = .returned (.tuple #[.float .f64 9218868437227405312, .bool (back 18442240474082181120).2]) ∧ w = w' := by
    intro w; have := back_any 18442240474082181120 (by decide) w; rw [c1] at this; exact this
  have b2 : ∀ w : World, Calls Try.prog 15 #[.int .u64 4503599627370495] w fun e w' => e = .returned (.tuple #[.float .f64 18442240474082181120, .bool (back 4503599627370495).2]) ∧ w = w' := by
    intro w; have := back_any 4503599627370495 (by decide) w; rw [c3] at this; exact this
  have B1 := Lib.hid b1; have B2 := Lib.hid b2; clear b1 b2 c1 c3
  rcases ends_facts x hx with ⟨hn, k⟩ | ⟨hn, k3, k4, hq⟩
  · rw [hn] at h1; clear hn
    have q1 : decide (18442240474082181120 < (key x : Int)) = true := by rw [decide_eq_true_iff]; omega
    go_enter Try.func8, Try.ntmps8
    go_wp2_with fail
    refine (fit_any _).mono ?_
    rintro e w' ⟨rfl, rfl⟩
    go_wp2_with fail
    refine (B1.out _).mono ?_
    rintro e w' ⟨rfl, rfl⟩
    go_wp2_with fail
    refine (B2.out _).mono ?_
    rintro e w' ⟨rfl, rfl⟩
    go_wp2_with (go_at_call 10; refine (key_any _ (by first | assumption | decide) _).mono ?_; rintro e w' ⟨rfl, rfl⟩)
    go_ret
    exact ⟨rfl, below_drew _ _⟩
  · rw [hn] at h1; clear hn
    have q1 : decide (18442240474082181120 < (key x : Int)) = false := by rw [decide_eq_false_iff_not]; omega
    have q2 : decide ((key x : Int) ≤ 18442240474082181120) = true := by rw [decide_eq_true_iff]; omega
    have q3 : decide (4503599627370495 ≤ (key x : Int)) = true := by rw [decide_eq_true_iff]; omega
    have q4 : ((key x : Int) == 18442240474082181120) = decide (key x = 18442240474082181120) := by rw [Bool.eq_iff_iff]; simp; omega
    generalize decide (key x = 18442240474082181120) = b at *
    cases b
    all_goals
      go_enter Try.func8, Try.ntmps8
      go_wp2_with fail
      refine (fit_any _).mono ?_
      rintro e w' ⟨rfl, rfl⟩
      go_wp2_with fail
      refine (B1.out _).mono ?_
      rintro e w' ⟨rfl, rfl⟩
      go_wp2_with fail
      refine (B2.out _).mono ?_
      rintro e w' ⟨rfl, rfl⟩
      go_wp2_with (go_at_call 10; refine (key_any _ (by first | assumption | decide) _).mono ?_; rintro e w' ⟨rfl, rfl⟩)
      go_ret
      exact ⟨rfl, below_drew _ _⟩
set_option maxRecDepth 100000 in
theorem ends_lifted (os : Os) (started : os.Started) (H : Type) (enc : TypeId × Value → H) :
    ReturnsInHanded {} Try.checked os 8 .any (Rows.orderEndsSpec.pre6 enc Try.prog Try.f8 Rows.orderEndsRow.domain false) (Rows.orderEndsSpec.post enc Try.prog Try.f8 false true false false) := by
  refine returnsInHanded_of_change (C := Try.checked) Frame.own started (by kernel_rfl) Try.func8
    (ChangeSpec.witness6 (enc := enc) (C := Try.checked) false ⟨#[], #[.float .f64 0], []⟩ 8 (by kernel_rfl) (by kernel_rfl) (by kernel_rfl) (by kernel_rfl)) ?_
  intro W base args ds gs before hval0 hW _ hsz
  have hval : ∀ (j : Nat) t v, Try.f8.params[j]? = some t → args[j]? = some v → Value.okWide Try.prog W .any base t v := hval0
  have hW' := hW
  obtain ⟨p, q, hA0, hV, rfl, hfz, hnd⟩ := hW
  have hA : DataW.TrodAll enc Try.prog W 0 (fun _ => true) true Try.f8.params.toList args.toList ds p := hA0
  rw [Try.params8] at hA hval
  obtain ⟨v0, vs0, d0, ds0, p0, q0, hargs, rfl, rfl, h0, r0⟩ := trodAll_cons hA
  obtain ⟨rfl, rfl, rfl⟩ := trodAll_nil r0
  obtain rfl : args = #[v0] := by cases args; simp_all
  obtain ⟨rfl, rfl⟩ := trodVars_none hV
  obtain ⟨a, rfl, rfl, rfl, wa⟩ := open_float Try.underlying22 (hval 0 22 v0 rfl rfl) h0
  clear hA0 hval0
  clear hsz
  refine (ends_any a (float_lt wa) W).mono fun e W' ⟨he, hw⟩ => ?_
  subst he
  exact ⟨_, rfl, Frame.law_post Frame.laidOut (by kernel_rfl) rfl (by kernel_rfl) Try.underlying4 rfl rfl rfl hW' hw⟩

theorem ends_holds : Rows.OrderEndsSaid :=
  OpenClaim.holds_of_wide 8 Try.f8 rfl rfl rfl rfl rfl rfl rfl ⟨rfl, rfl, rfl, rfl, rfl⟩ rfl rfl rfl rfl rfl (by kernel_rfl) Try.func8 (by kernel_rfl)
    (of_decide_eq_true (by kernel_rfl)) (by unfold Func.isWrapper; first | (rw [if_pos (by decide +kernel)]; kernel_rfl) | (rw [if_neg (by decide +kernel)]; exact ⟨rfl, rfl⟩))
    (fun os started H enc _ => ends_lifted os started H enc)
end Go.Proofs.Ytglnjgpdaaibkaa.Ord
