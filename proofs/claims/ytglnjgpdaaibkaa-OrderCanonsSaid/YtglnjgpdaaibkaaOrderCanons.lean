/- The statement OrderCanons is proved: for every float64 number the law returns true. Conditions: none beyond the given row's own. -/
import Derived.Test.YtglnjgpdaaibkaaOrdLaw1
import Derived.Test.YtglnjgpdaaibkaaFrame
namespace Go.Proofs.Ytglnjgpdaaibkaa.Ord
open Go.RowKit Flt Go.ChangeShapes Go.WideShapes Go.ChangeAt
attribute [local go_sem] ford_eq ford_lt ford_gt
theorem eq_refl (x : Nat) (h : nan x = false) : Flt.eq x x = true := by simp [Flt.eq, h]
set_option maxHeartbeats 400000 in
theorem canons_any (x : Nat) (hx : x < 18446744073709551616) (w : World) :
    Calls Try.prog 4 #[.float .f64 x] w fun e w' => e = .returned (.bool true) ∧ Below w.heap.size w w' := by
  have h1 := ford_ne_self x
  have h3 := ford_ne_self (canon x)
  rw [canon_nan] at h3
  have hc : canon x = if nan x then nan0 else if zero x then 0 else x := rfl
  have hz : Flt.eq x 0 = zero x := rfl
  cases na : nan x
  · rw [na] at h1 hc h3
    cases nz : zero x
    · rw [nz] at hz hc
      have e1 := eq_refl x na
      have e2 : same x x = true := by simp [same]
      have hc' : canon x = x := hc
      clear hc nz h3
      go_enter Try.func4, Try.ntmps4
      go_wp2_with (first | (go_at_call 9; refine (fit_any _).mono ?_; rintro e w' ⟨rfl, rfl⟩) | (go_at_call 13; refine (canon_any _ _).mono ?_; rintro e w' ⟨rfl, rfl⟩) | (go_at_call 12; refine (same_any _ _ (by assumption) (by assumption) _).mono ?_; rintro e w' ⟨rfl, rfl⟩) | (go_at_call 14; refine (none_any _ _).mono ?_; rintro e w' ⟨rfl, rfl⟩))
      go_ret
      exact ⟨rfl, below_drew _ _⟩
    · rw [nz] at hz hc
      have hc' : canon x = 0 := hc
      have e1 : Flt.eq 0 0 = true := by decide
      have e2 : Flt.lt 0 9218868437227405312 = true := by decide
      have hq := run_float_arith (P := Try.prog) w.drew .quo 22 .f64 4607182418800017408 0 9218868437227405312 (by decide)
      clear hc nz h3
      go_enter Try.func4, Try.ntmps4
      go_wp2_with (first | (go_at_call 9; refine (fit_any _).mono ?_; rintro e w' ⟨rfl, rfl⟩) | (go_at_call 13; refine (canon_any _ _).mono ?_; rintro e w' ⟨rfl, rfl⟩) | (go_at_call 14; refine (none_any _ _).mono ?_; rintro e w' ⟨rfl, rfl⟩))
      go_ret
      exact ⟨rfl, below_drew _ _⟩
  · rw [na] at h1 h3; clear hc hz
    go_enter Try.func4, Try.ntmps4
    go_wp2_with (first | (go_at_call 9; refine (fit_any _).mono ?_; rintro e w' ⟨rfl, rfl⟩) | (go_at_call 13; refine (canon_any _ _).mono ?_; rintro e w' ⟨rfl, rfl⟩) | (go_at_call 14; refine (none_any _ _).mono ?_; rintro e w' ⟨rfl, rfl⟩))
    go_ret
    exact ⟨rfl, below_drew _ _⟩
set_option maxRecDepth 100000 in
theorem canons_lifted (os : Os) (started : os.Started) (H : Type) (enc : TypeId × Value → H) :
    ReturnsInHanded {} Try.checked os 4 .any (Rows.orderCanonsSpec.pre6 enc Try.prog Try.f4 Rows.orderCanonsRow.domain false) (Rows.orderCanonsSpec.post enc Try.prog Try.f4 false true false false) := by
  refine returnsInHanded_of_change (C := Try.checked) Frame.own started (by kernel_rfl) Try.func4
    (ChangeSpec.witness6 (enc := enc) (C := Try.checked) false ⟨#[], #[.float .f64 0], []⟩ 8 (by kernel_rfl) (by kernel_rfl) (by kernel_rfl) (by kernel_rfl)) ?_
  intro W base args ds gs before hval0 hW _ hsz
  have hval : ∀ (j : Nat) t v, Try.f4.params[j]? = some t → args[j]? = some v → Value.okWide Try.prog W .any base t v := hval0
  have hW' := hW
  obtain ⟨p, q, hA0, hV, rfl, hfz, hnd⟩ := hW
  have hA : DataW.TrodAll enc Try.prog W 0 (fun _ => true) true Try.f4.params.toList args.toList ds p := hA0
  rw [Try.params4] at hA hval
  obtain ⟨v0, vs0, d0, ds0, p0, q0, hargs, rfl, rfl, h0, r0⟩ := trodAll_cons hA
  obtain ⟨rfl, rfl, rfl⟩ := trodAll_nil r0
  obtain rfl : args = #[v0] := by cases args; simp_all
  obtain ⟨rfl, rfl⟩ := trodVars_none hV
  obtain ⟨a, rfl, rfl, rfl, wa⟩ := open_float Try.underlying22 (hval 0 22 v0 rfl rfl) h0
  clear hA0 hval0
  clear hsz
  refine (canons_any a (float_lt wa) W).mono fun e W' ⟨he, hw⟩ => ?_
  subst he
  exact ⟨_, rfl, Frame.law_post Frame.laidOut (by kernel_rfl) rfl (by kernel_rfl) Try.underlying4 rfl rfl rfl hW' hw⟩

theorem canons_holds : Rows.OrderCanonsSaid :=
  OpenClaim.holds_of_wide 4 Try.f4 rfl rfl rfl rfl rfl rfl rfl ⟨rfl, rfl, rfl, rfl, rfl⟩ rfl rfl rfl rfl rfl (by kernel_rfl) Try.func4 (by kernel_rfl)
    (of_decide_eq_true (by kernel_rfl)) (by unfold Func.isWrapper; first | (rw [if_pos (by decide +kernel)]; kernel_rfl) | (rw [if_neg (by decide +kernel)]; exact ⟨rfl, rfl⟩))
    (fun os started H enc _ => canons_lifted os started H enc)
end Go.Proofs.Ytglnjgpdaaibkaa.Ord
