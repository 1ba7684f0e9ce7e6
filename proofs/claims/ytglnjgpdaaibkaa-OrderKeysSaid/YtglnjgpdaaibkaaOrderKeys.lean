/- The statement OrderKeys is proved: for every two float64 numbers the law returns true. Conditions: none beyond the given row's own. -/
import Derived.Test.YtglnjgpdaaibkaaOrdLaw1
import Derived.Test.YtglnjgpdaaibkaaFrame
namespace Go.Proofs.Ytglnjgpdaaibkaa.Ord
open Go.RowKit Flt Go.ChangeShapes Go.WideShapes Go.ChangeAt
attribute [local go_sem] ford_eq ford_lt ford_gt
theorem keys_facts (a b : Nat) (ha : a < 18446744073709551616) (hb : b < 18446744073709551616) :
    (nan a = true ∧ nan b = true ∧ lt a b = false ∧ lt b a = false ∧ same a b = true ∧ key a = key b) ∨
    (nan a = true ∧ nan b = false ∧ lt a b = false ∧ lt b a = false ∧ same a b = false ∧ key b < key a) ∨
    (nan a = false ∧ nan b = true ∧ lt a b = false ∧ lt b a = false ∧ same a b = false ∧ key a < key b) ∨
    (nan a = false ∧ nan b = false ∧ lt a b = true ∧ lt b a = false ∧ same a b = false ∧ key a < key b) ∨
    (nan a = false ∧ nan b = false ∧ lt a b = false ∧ lt b a = true ∧ same a b = false ∧ key b < key a) ∨
    (nan a = false ∧ nan b = false ∧ lt a b = false ∧ lt b a = false ∧ same a b = true ∧ key a = key b) := by
  unfold same lt
  cases na : nan a <;> cases nb : nan b
  · have i1 := key_lt_iff ha hb na nb
    have i2 := key_lt_iff hb ha nb na
    have i3 := key_eq_iff ha hb na nb
    have c : (sk a < sk b) ∨ (sk b < sk a) ∨ (sk a = sk b) := by omega
    rcases c with c | c | c
    · have := i1.2 c
      simp; refine Or.inl ⟨c, by omega, by omega, this⟩
    · have := i2.2 c
      simp; refine Or.inr (Or.inl ⟨by omega, c, by omega, this⟩)
    · have := i3.2 c
      simp; refine Or.inr (Or.inr ⟨by omega, by omega, this⟩)
  · have h1 := key_ne_most ha na
    have h2 := key_nan nb
    simp; omega
  · have h1 := key_ne_most hb nb
    have h2 := key_nan na
    simp; omega
  · simp [key_nan na, key_nan nb]
set_option maxHeartbeats 400000 in
theorem keys_any (a b : Nat) (ha : a < 18446744073709551616) (hb : b < 18446744073709551616) (w : World) :
    Calls Try.prog 3 #[.float .f64 a, .float .f64 b] w fun e w' => e = .returned (.bool true) ∧ Below w.heap.size w w' := by
  have h1 := ford_ne_self a
  have h2 := ford_ne_self b
  have q1 := beq_cast (key a) (key b)
  rcases keys_facts a b ha hb with ⟨na, nb, l1, l2, s1, k⟩ | ⟨na, nb, l1, l2, s1, k⟩ | ⟨na, nb, l1, l2, s1, k⟩ | ⟨na, nb, l1, l2, s1, k⟩ | ⟨na, nb, l1, l2, s1, k⟩ | ⟨na, nb, l1, l2, s1, k⟩
  all_goals
    rw [na] at h1; rw [nb] at h2; clear na nb
    have q : (key a == key b) = same a b := rfl
    rw [q, s1] at q1; clear q
    try (have k' : key a = key b := k; clear k k')
  all_goals
    go_enter Try.func3, Try.ntmps3
    go_wp2_with (first | (go_at_call 9; refine (fit_any _).mono ?_; rintro e w' ⟨rfl, rfl⟩) | (go_at_call 10; refine (key_any _ (by assumption) _).mono ?_; rintro e w' ⟨rfl, rfl⟩) | (go_at_call 12; refine (same_any _ _ (by assumption) (by assumption) _).mono ?_; rintro e w' ⟨rfl, rfl⟩) | (go_at_call 14; refine (none_any _ _).mono ?_; rintro e w' ⟨rfl, rfl⟩) | (go_at_call 11; refine (less_any _ _ _).mono ?_; rintro e w' ⟨rfl, rfl⟩))
  all_goals
    go_ret
    exact ⟨rfl, below_drew _ _⟩

set_option maxRecDepth 100000 in
theorem keys_lifted (os : Os) (started : os.Started) (H : Type) (enc : TypeId × Value → H) :
    ReturnsInHanded {} Try.checked os 3 .any (Rows.orderKeysSpec.pre6 enc Try.prog Try.f3 Rows.orderKeysRow.domain false) (Rows.orderKeysSpec.post enc Try.prog Try.f3 false true false false) := by
  refine returnsInHanded_of_change (C := Try.checked) Frame.own started (by kernel_rfl) Try.func3
    (ChangeSpec.witness6 (enc := enc) (C := Try.checked) false ⟨#[], #[.float .f64 0, .float .f64 0], []⟩ 8 (by kernel_rfl) (by kernel_rfl) (by kernel_rfl) (by kernel_rfl)) ?_
  intro W base args ds gs before hval0 hW _ hsz
  have hval : ∀ (j : Nat) t v, Try.f3.params[j]? = some t → args[j]? = some v → Value.okWide Try.prog W .any base t v := hval0
  have hW' := hW
  obtain ⟨p, q, hA0, hV, rfl, hfz, hnd⟩ := hW
  have hA : DataW.TrodAll enc Try.prog W 0 (fun _ => true) true Try.f3.params.toList args.toList ds p := hA0
  rw [Try.params3] at hA hval
  obtain ⟨v0, vs0, d0, ds0, p0, q0, hargs, rfl, rfl, h0, r0⟩ := trodAll_cons hA
  obtain ⟨v1, vs1, d1, ds1, p1, q1, rfl, rfl, rfl, h1, r1⟩ := trodAll_cons r0
  obtain ⟨rfl, rfl, rfl⟩ := trodAll_nil r1
  obtain rfl : args = #[v0, v1] := by cases args; simp_all
  obtain ⟨rfl, rfl⟩ := trodVars_none hV
  obtain ⟨a, rfl, rfl, rfl, wa⟩ := open_float Try.underlying22 (hval 0 22 v0 rfl rfl) h0
  obtain ⟨b, rfl, rfl, rfl, wb⟩ := open_float Try.underlying22 (hval 1 22 v1 rfl rfl) h1
  clear hA0 hval0
  clear hsz
  refine (keys_any a b (float_lt wa) (float_lt wb) W).mono fun e W' ⟨he, hw⟩ => ?_
  subst he
  exact ⟨_, rfl, Frame.law_post Frame.laidOut (by kernel_rfl) rfl (by kernel_rfl) Try.underlying4 rfl rfl rfl hW' hw⟩

theorem keys_holds : Rows.OrderKeysSaid :=
  OpenClaim.holds_of_wide 3 Try.f3 rfl rfl rfl rfl rfl rfl rfl ⟨rfl, rfl, rfl, rfl, rfl⟩ rfl rfl rfl rfl rfl (by kernel_rfl) Try.func3 (by kernel_rfl)
    (of_decide_eq_true (by kernel_rfl)) (by unfold Func.isWrapper; first | (rw [if_pos (by decide +kernel)]; kernel_rfl) | (rw [if_neg (by decide +kernel)]; exact ⟨rfl, rfl⟩))
    (fun os started H enc _ => keys_lifted os started H enc)
end Go.Proofs.Ytglnjgpdaaibkaa.Ord
