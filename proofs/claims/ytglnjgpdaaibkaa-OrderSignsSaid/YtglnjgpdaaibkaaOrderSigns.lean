/- The statement OrderSigns is proved: for every float64 number the law returns true. Conditions: none beyond the given row's own. -/
import Derived.Test.YtglnjgpdaaibkaaOrdLaw1
import Derived.Test.YtglnjgpdaaibkaaFrame
namespace Go.Proofs.Ytglnjgpdaaibkaa.Ord
open Go.RowKit Flt Go.ChangeShapes Go.WideShapes Go.ChangeAt
attribute [local go_sem] ford_eq ford_lt ford_gt
def fneg (x : Nat) : Nat := if x < 9223372036854775808 then x + 9223372036854775808 else x - 9223372036854775808
theorem or_add (x : Nat) (h : x < 9223372036854775808) : 9223372036854775808 + x = 9223372036854775808 ||| x := by
  have t := Nat.two_pow_add_eq_or_of_lt (i := 63) (b := x) (by omega) 1
  have e : 2 ^ 63 * 1 = 9223372036854775808 := by decide
  rw [e] at t; exact t
theorem negFloat_eq (x : Nat) (hx : x < 18446744073709551616) : Op.negFloat .f64 x = fneg x := by
  have e : Op.negFloat .f64 x = x ^^^ 9223372036854775808 := rfl
  rw [e]
  unfold fneg
  by_cases h : x < 9223372036854775808
  · rw [if_pos h]
    have h2 : (9223372036854775808 ^^^ x : Nat) = 9223372036854775808 ||| x := by
      apply Nat.eq_of_testBit_eq
      intro i
      rw [Nat.testBit_xor, Nat.testBit_or]
      have e3 : (9223372036854775808 : Nat) = 2 ^ 63 := by decide
      rw [e3, Nat.testBit_two_pow]
      by_cases hi : 63 = i
      · subst hi
        have : x.testBit 63 = false := Nat.testBit_lt_two_pow (by omega)
        rw [this]; simp
      · simp [hi]
    have := or_add x h
    rw [Nat.xor_comm, h2]; omega
  · rw [if_neg h]
    obtain ⟨y, rfl⟩ : ∃ y, x = 9223372036854775808 + y := ⟨x - 9223372036854775808, by omega⟩
    have hy : y < 9223372036854775808 := by omega
    have e4 : 9223372036854775808 + y = 9223372036854775808 ||| y := or_add y hy
    have e5 : 9223372036854775808 + y - 9223372036854775808 = y := by omega
    rw [e5, e4]
    apply Nat.eq_of_testBit_eq
    intro i
    have e3 : (9223372036854775808 : Nat) = 2 ^ 63 := by decide
    rw [Nat.testBit_xor, Nat.testBit_or, e3, Nat.testBit_two_pow]
    by_cases hi : 63 = i
    · subst hi
      have : y.testBit 63 = false := Nat.testBit_lt_two_pow (by omega)
      rw [this]; simp
    · simp [hi]
theorem fneg_lt {x : Nat} (hx : x < 18446744073709551616) : fneg x < 18446744073709551616 := by unfold fneg; split <;> omega
theorem fneg_rung {x : Nat} (hx : x < 18446744073709551616) : rung (fneg x) = rung x := by unfold rung fneg; split <;> omega
theorem fneg_nan {x : Nat} (hx : x < 18446744073709551616) : nan (fneg x) = nan x := by unfold nan; rw [fneg_rung hx]
theorem fneg_neg {x : Nat} (hx : x < 18446744073709551616) : neg (fneg x) = !neg x := by
  rw [neg_iff hx, neg_iff (fneg_lt hx), Bool.eq_iff_iff]
  unfold fneg
  simp; split <;> omega
theorem fneg_sk {x : Nat} (hx : x < 18446744073709551616) : sk (fneg x) = - sk x := by
  unfold sk; rw [fneg_neg hx, fneg_rung hx]; cases neg x <;> simp
theorem lt_zero (x : Nat) (hn : nan x = false) : Flt.lt 0 x = decide (0 < sk x) := by
  have h0 : nan 0 = false := by decide
  have h1 : sk 0 = 0 := by decide
  unfold Flt.lt; rw [hn, h0, h1]; simp
theorem zero_sk (x : Nat) : zero x = decide (sk x = 0) := by
  rw [zero_iff]; unfold sk; rw [Bool.eq_iff_iff]; simp; split <;> omega
/-- a number's key and that of its opposite -/
theorem signs_facts (x : Nat) (hx : x < 18446744073709551616) (hn : nan x = false) :
    (zero x = true ∧ key x = 9223372036854775808 ∧ key (fneg x) = 9223372036854775808) ∨
    (zero x = false ∧ Flt.lt 0 x = true ∧ 9223372036854775808 < key x ∧ key x + key (fneg x) = 18446744073709551615) ∨
    (zero x = false ∧ Flt.lt 0 x = false ∧ key x < 9223372036854775808 ∧ key x + key (fneg x) = 18446744073709551615) := by
  have k1 := key_sk hx hn
  have hn' := fneg_nan hx; rw [hn] at hn'
  have k2 := key_sk (fneg_lt hx) hn'
  rw [fneg_sk hx] at k2
  rw [zero_sk, lt_zero x hn]
  unfold ofSk at k1 k2
  by_cases h : sk x = 0
  · left; rw [h] at k1 k2; simp [h] at *; omega
  · by_cases h2 : 0 < sk x
    · right; left
      rw [if_neg (by omega)] at k1; rw [if_pos (by omega)] at k2
      simp [h, h2]; omega
    · right; right
      rw [if_pos (by omega)] at k1; rw [if_neg (by omega)] at k2
      simp [h, h2]; omega
set_option maxHeartbeats 400000 in
theorem signs_any (x : Nat) (hx : x < 18446744073709551616) (w : World) :
    Calls Try.prog 6 #[.float .f64 x] w fun e w' => e = .returned (.bool true) ∧ Below w.heap.size w w' := by
  have h1 := ford_ne_self x
  have hz : Flt.eq x 0 = zero x := rfl
  have hneg : ∀ w : World, (Op.unary .neg (.float .f64 x)).run Try.prog w = .ok (.float .f64 (fneg x)) w := fun w => by rw [run_neg, negFloat_eq x hx]
  have hy := fneg_lt hx
  have q1 := beq_cast (key x) (key (fneg x))
  have kb := key_lt x hx
  have kc := key_lt _ hy
  cases na : nan x
  · rw [na] at h1
    rcases signs_facts x hx na with ⟨z, k1, k2⟩ | ⟨z, l, k1, k2⟩ | ⟨z, l, k1, k2⟩
    · rw [z] at hz; rw [k1, k2] at q1; clear kb kc
      go_enter Try.func6, Try.ntmps6
      go_wp2_with (first | (go_at_call 9; refine (fit_any _).mono ?_; rintro e w' ⟨rfl, rfl⟩) | (go_at_call 10; refine (key_any _ (by assumption) _).mono ?_; rintro e w' ⟨rfl, rfl⟩))
      go_ret
      exact ⟨rfl, below_drew _ _⟩
    all_goals
      rw [z] at hz
      have q6 : decide (9223372036854775808 < (key x : Int)) = decide (9223372036854775808 < key x) := by rw [Bool.eq_iff_iff]; simp; omega
      first | rw [decide_eq_true k1] at q6 | rw [decide_eq_false (show ¬ 9223372036854775808 < key x by omega)] at q6
      have q2 : ((key x : Int) == (key (fneg x) : Int)) = false := by rw [beq_eq_false_iff_ne]; omega
      have q3 : ((key x : Int) != (key (fneg x) : Int)) = true := by rw [bne_iff_ne]; omega
      have q4 : ((key x : Int) + (key (fneg x) : Int) == 18446744073709551615) = true := by rw [beq_iff_eq]; omega
      have q5 : (key x : Int) + (key (fneg x) : Int) ≤ 18446744073709551615 := by omega
      have K := Lib.hid k2; clear k2 q1
      go_enter Try.func6, Try.ntmps6
      go_wp2_with (first | (go_at_call 9; refine (fit_any _).mono ?_; rintro e w' ⟨rfl, rfl⟩) | (go_at_call 10; refine (key_any _ (by assumption) _).mono ?_; rintro e w' ⟨rfl, rfl⟩))
      go_ret
      exact ⟨rfl, below_drew _ _⟩
  · have k1 := key_nan na
    have k2 := key_nan (fneg_nan hx ▸ na)
    rw [na] at h1; rw [k1, k2] at q1; clear kb kc hz
    go_enter Try.func6, Try.ntmps6
    go_wp2_with (first | (go_at_call 9; refine (fit_any _).mono ?_; rintro e w' ⟨rfl, rfl⟩) | (go_at_call 10; refine (key_any _ (by assumption) _).mono ?_; rintro e w' ⟨rfl, rfl⟩))
    go_ret
    exact ⟨rfl, below_drew _ _⟩
set_option maxRecDepth 100000 in
theorem signs_lifted (os : Os) (started : os.Started) (H : Type) (enc : TypeId × Value → H) :
    ReturnsInHanded {} Try.checked os 6 .any (Rows.orderSignsSpec.pre6 enc Try.prog Try.f6 Rows.orderSignsRow.domain false) (Rows.orderSignsSpec.post enc Try.prog Try.f6 false true false false) := by
  refine returnsInHanded_of_change (C := Try.checked) Frame.own started (by kernel_rfl) Try.func6
    (ChangeSpec.witness6 (enc := enc) (C := Try.checked) false ⟨#[], #[.float .f64 0], []⟩ 8 (by kernel_rfl) (by kernel_rfl) (by kernel_rfl) (by kernel_rfl)) ?_
  intro W base args ds gs before hval0 hW _ hsz
  have hval : ∀ (j : Nat) t v, Try.f6.params[j]? = some t → args[j]? = some v → Value.okWide Try.prog W .any base t v := hval0
  have hW' := hW
  obtain ⟨p, q, hA0, hV, rfl, hfz, hnd⟩ := hW
  have hA : DataW.TrodAll enc Try.prog W 0 (fun _ => true) true Try.f6.params.toList args.toList ds p := hA0
  rw [Try.params6] at hA hval
  obtain ⟨v0, vs0, d0, ds0, p0, q0, hargs, rfl, rfl, h0, r0⟩ := trodAll_cons hA
  obtain ⟨rfl, rfl, rfl⟩ := trodAll_nil r0
  obtain rfl : args = #[v0] := by cases args; simp_all
  obtain ⟨rfl, rfl⟩ := trodVars_none hV
  obtain ⟨a, rfl, rfl, rfl, wa⟩ := open_float Try.underlying22 (hval 0 22 v0 rfl rfl) h0
  clear hA0 hval0
  clear hsz
  refine (signs_any a (float_lt wa) W).mono fun e W' ⟨he, hw⟩ => ?_
  subst he
  exact ⟨_, rfl, Frame.law_post Frame.laidOut (by kernel_rfl) rfl (by kernel_rfl) Try.underlying4 rfl rfl rfl hW' hw⟩

theorem signs_holds : Rows.OrderSignsSaid :=
  OpenClaim.holds_of_wide 6 Try.f6 rfl rfl rfl rfl rfl rfl rfl ⟨rfl, rfl, rfl, rfl, rfl⟩ rfl rfl rfl rfl rfl (by kernel_rfl) Try.func6 (by kernel_rfl)
    (of_decide_eq_true (by kernel_rfl)) (by unfold Func.isWrapper; first | (rw [if_pos (by decide +kernel)]; kernel_rfl) | (rw [if_neg (by decide +kernel)]; exact ⟨rfl, rfl⟩))
    (fun os started H enc _ => signs_lifted os started H enc)
end Go.Proofs.Ytglnjgpdaaibkaa.Ord
