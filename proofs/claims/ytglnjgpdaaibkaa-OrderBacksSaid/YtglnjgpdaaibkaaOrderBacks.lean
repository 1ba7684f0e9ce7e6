/- The statement OrderBacks is proved: for every float64 number and every key the law returns true. Conditions: none beyond the given row's own. -/
import Derived.Test.YtglnjgpdaaibkaaOrdLaw1
import Derived.Test.YtglnjgpdaaibkaaFrame
namespace Go.Proofs.Ytglnjgpdaaibkaa.Ord
open Go.RowKit Flt Go.ChangeShapes Go.WideShapes Go.ChangeAt
attribute [local go_sem] ford_eq ford_lt ford_gt ford_ne
theorem back_key (x : Nat) (hx : x < 18446744073709551616) : back (key x) = (canon x, true) := by
  unfold back
  cases hn : nan x with
  | true => rw [key_nan hn, if_pos rfl]; unfold canon; rw [hn]; rfl
  | false =>
    have hm := key_ne_most hx hn
    rw [if_neg (by omega)]
    have hB : backB (key x) = canon x := by
      unfold backB key canon
      rw [hn]
      simp only [Bool.false_eq_true, if_false]
      cases hz : zero x with
      | true => simp only [if_true]; decide
      | false =>
        simp only [Bool.false_eq_true, if_false]
        unfold top most
        by_cases h : x / 9223372036854775808 = 1
        · rw [if_pos h, if_pos (by omega)]; omega
        · rw [if_neg h, if_neg (by omega)]; omega
    have hk : key (canon x) = key x := by
      unfold canon; rw [hn]
      simp only [Bool.false_eq_true, if_false]
      cases hz : zero x with
      | true => simp only [if_true]; unfold key; rw [hn, hz]; simp only [if_true, Bool.false_eq_true, if_false]; decide
      | false => simp
    rw [hB, canon_nan, hn, hk]; simp
theorem key_canon (x : Nat) : key (canon x) = key x := by
  unfold canon
  cases hn : nan x with
  | true => simp only [if_true]; rw [key_nan hn]; decide
  | false =>
    simp only [Bool.false_eq_true, if_false]
    cases hz : zero x with
    | true => simp only [if_true]; unfold key; rw [hn, hz]; simp only [if_true, Bool.false_eq_true, if_false]; decide
    | false => simp
theorem eq_canon (x : Nat) (hn : nan x = false) : Flt.eq (canon x) x = true := by
  have h := canon_nan x
  rw [hn] at h
  unfold Flt.eq; rw [h, hn]
  unfold canon; rw [hn]
  simp only [Bool.false_eq_true, if_false]
  cases hz : zero x with
  | true =>
    have h2 : zero x = (!nan x && !nan 0 && decide (sk x = sk 0)) := rfl
    rw [hn, hz] at h2
    have h3 : nan 0 = false := by decide
    rw [h3] at h2
    have : sk x = sk 0 := by simpa using h2
    simp [this]
  | false => simp
theorem back_facts (k : Nat) (hk : k < 18446744073709551616) :
    ((back k).2 = true ∧ (back k).1 < 18446744073709551616 ∧ key (back k).1 = k) ∨ ((back k).2 = false ∧ (back k).1 = 0 ∧ ¬ k = top) := by
  unfold back
  by_cases hm : k = most
  · rw [if_pos hm]; left; subst hm; decide
  · rw [if_neg hm]
    have hl := backB_lt hk
    cases hn : nan (backB k) with
    | true =>
      right; simp only [Bool.true_or, if_true, true_and]
      rintro rfl; revert hn; decide
    | false =>
      cases hkk : key (backB k) != k with
      | true =>
        right; simp only [Bool.or_true, if_true, true_and]
        rintro rfl; revert hkk; decide
      | false =>
        left; simp only [Bool.or_false, Bool.false_eq_true, if_false, true_and]
        exact ⟨hl, by simpa using hkk⟩
set_option maxHeartbeats 1000000 in
theorem backs_any (x k : Nat) (hx : x < 18446744073709551616) (hk : k < 18446744073709551616) (w : World) :
    Calls Try.prog 7 #[.float .f64 x, .int .u64 k] w fun e w' => e = .returned (.bool true) ∧ Below w.heap.size w w' := by
  have hkx := key_lt x hx
  have hbk := back_key x hx
  have hcl := canon_lt x hx
  have hs : same x (canon x) = true := by unfold same; rw [key_canon]; simp
  have e1 : Flt.eq x x = !nan x := by unfold Flt.eq; simp
  have b1 : (back (key x)).1 = canon x := by rw [hbk]
  have b2 : (back (key x)).2 = true := by rw [hbk]
  clear hbk
  have hc : nan x = true ∨ (nan x = false ∧ Flt.eq (canon x) x = true) := by
    cases hn : nan x
    · right; exact ⟨rfl, eq_canon x hn⟩
    · left; rfl
  have h0 : 0 < 18446744073709551616 := by decide
  rcases hc with hn | ⟨hn, e2⟩ <;> rcases back_facts k hk with ⟨i1, i2, i3⟩ | ⟨i1, i2, i3⟩
  all_goals
    rw [hn] at e1; clear hn
    first
      | (have q : ((key (back k).1 : Int) == (k : Int)) = true := by rw [beq_iff_eq, i3]
         have I := Lib.hid i3; clear i3)
      | (have q1 : ((9223372036854775808 : Int) != (k : Int)) = true := by rw [bne_iff_ne]; unfold top at i3; omega
         have q2 : Flt.eq 0 0 = true := by decide
         have q3 : key 0 = 9223372036854775808 := by decide
         clear i3)
  all_goals
    go_enter Try.func7, Try.ntmps7
    go_wp2_with (first | (go_at_call 9; refine (fit_any _).mono ?_; rintro e w' ⟨rfl, rfl⟩) | (go_at_call 10; refine (key_any _ (by assumption) _).mono ?_; rintro e w' ⟨rfl, rfl⟩) | (go_at_call 15; refine (back_any _ (by assumption) _).mono ?_; rintro e w' ⟨rfl, rfl⟩) | (go_at_call 12; refine (same_any _ _ (by assumption) (by assumption) _).mono ?_; rintro e w' ⟨rfl, rfl⟩))
  all_goals
    go_ret
    exact ⟨rfl, below_drew _ _⟩
theorem backs_walk (a : Nat) (k : Int) (wa : (Lit.float .f64 a).wf = true) (wk : (Lit.int .u64 k).wf = true) (w : World) :
    Calls Try.prog 7 #[.float .f64 a, .int .u64 k] w fun e w' => e = .returned (.bool true) ∧ Below w.heap.size w w' := by
  have h := u64_lt wk
  obtain ⟨n, rfl⟩ := Int.eq_ofNat_of_zero_le h.1
  exact backs_any a n (float_lt wa) (by omega) w
set_option maxRecDepth 100000 in
theorem backs_lifted (os : Os) (started : os.Started) (H : Type) (enc : TypeId × Value → H) :
    ReturnsInHanded {} Try.checked os 7 .any (Rows.orderBacksSpec.pre6 enc Try.prog Try.f7 Rows.orderBacksRow.domain false) (Rows.orderBacksSpec.post enc Try.prog Try.f7 false true false false) := by
  refine returnsInHanded_of_change (C := Try.checked) Frame.own started (by kernel_rfl) Try.func7
    (ChangeSpec.witness6 (enc := enc) (C := Try.checked) false ⟨#[], #[.float .f64 0, .int .u64 0], []⟩ 8 (by kernel_rfl) (by kernel_rfl) (by kernel_rfl) (by kernel_rfl)) ?_
  intro W base args ds gs before hval0 hW _ hsz
  have hval : ∀ (j : Nat) t v, Try.f7.params[j]? = some t → args[j]? = some v → Value.okWide Try.prog W .any base t v := hval0
  have hW' := hW
  obtain ⟨p, q, hA0, hV, rfl, hfz, hnd⟩ := hW
  have hA : DataW.TrodAll enc Try.prog W 0 (fun _ => true) true Try.f7.params.toList args.toList ds p := hA0
  rw [Try.params7] at hA hval
  obtain ⟨v0, vs0, d0, ds0, p0, q0, hargs, rfl, rfl, h0, r0⟩ := trodAll_cons hA
  obtain ⟨v1, vs1, d1, ds1, p1, q1, rfl, rfl, rfl, h1, r1⟩ := trodAll_cons r0
  obtain ⟨rfl, rfl, rfl⟩ := trodAll_nil r1
  obtain rfl : args = #[v0, v1] := by cases args; simp_all
  obtain ⟨rfl, rfl⟩ := trodVars_none hV
  obtain ⟨a, rfl, rfl, rfl, wa⟩ := open_float Try.underlying22 (hval 0 22 v0 rfl rfl) h0
  obtain ⟨k, rfl, rfl, rfl, wk⟩ := open_int Try.underlying24 (hval 1 24 v1 rfl rfl) h1
  clear hA0 hval0
  clear hsz
  refine (backs_walk a k wa wk W).mono fun e W' ⟨he, hw⟩ => ?_
  subst he
  exact ⟨_, rfl, Frame.law_post Frame.laidOut (by kernel_rfl) rfl (by kernel_rfl) Try.underlying4 rfl rfl rfl hW' hw⟩

theorem backs_holds : Rows.OrderBacksSaid :=
  OpenClaim.holds_of_wide 7 Try.f7 rfl rfl rfl rfl rfl rfl rfl ⟨rfl, rfl, rfl, rfl, rfl⟩ rfl rfl rfl rfl rfl (by kernel_rfl) Try.func7 (by kernel_rfl)
    (of_decide_eq_true (by kernel_rfl)) (by unfold Func.isWrapper; first | (rw [if_pos (by decide +kernel)]; kernel_rfl) | (rw [if_neg (by decide +kernel)]; exact ⟨rfl, rfl⟩))
    (fun os started H enc _ => backs_lifted os started H enc)
end Go.Proofs.Ytglnjgpdaaibkaa.Ord
