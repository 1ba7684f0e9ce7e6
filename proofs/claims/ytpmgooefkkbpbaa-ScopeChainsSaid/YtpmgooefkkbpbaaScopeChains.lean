/- The statement ScopeChains is proved: for every three texts the law returns true. Conditions: none beyond the given row's own. -/
import Derived.Test.YtpmgooefkkbpbaaScLaw
namespace Go.Proofs.Ytpmgooefkkbpbaa.Sc
open Go.RowKit Go.ChangeShapes Go.WideShapes Go.ChangeAt
theorem under_iff (a b : List UInt8) : underB a b = true ↔ b = [] ∨ a = b ∨ ∃ r, a = b ++ 47 :: r := by
  rcases under_cases a b with h | ⟨h0, rfl⟩ | ⟨h0, h1, h2, h3⟩ | ⟨x, r, h0, rfl, h1, h2, h3⟩
  · have e : b = [] := by cases b <;> simp_all
    subst e; simp [underB]
  · simp [underB]
  · rw [h3]; simp only [Bool.false_eq_true, false_iff]
    have h0' : ¬ b = [] := by cases b <;> simp_all
    have h1' : ¬ a = b := by simpa using h1
    rintro (h | h | ⟨r, rfl⟩)
    · exact h0' h
    · exact h1' h
    · unfold Lib.hasPrefix at h2
      have : b.isPrefixOf (b ++ 47 :: r) = true := List.isPrefixOf_iff_prefix.2 ⟨_, rfl⟩
      rw [this] at h2; cases h2
  · rw [h3]
    have h0' : ¬ b = [] := by cases b <;> simp_all
    have e1 : (b ++ x :: r = b) = False := by simp
    simp [h0', e1]
theorem under_anti {a b : List UInt8} (h1 : underB a b = true) (h2 : underB b a = true) : a = b := by
  rw [under_iff] at h1 h2
  rcases h1 with rfl | rfl | ⟨r, rfl⟩
  · rcases h2 with rfl | h2 | ⟨t, h⟩
    · rfl
    · exact h2.symm
    · cases a <;> simp at h
  · rfl
  · rcases h2 with h | h | ⟨t, h⟩
    · simp at h
    · exact h.symm
    · have := congrArg List.length h; simp at this
theorem under_trans {a b c : List UInt8} (h1 : underB a b = true) (h2 : underB b c = true) : underB a c = true := by
  rw [under_iff] at h1 h2 ⊢
  rcases h2 with rfl | rfl | ⟨t, rfl⟩
  · exact Or.inl rfl
  · exact h1
  · rcases h1 with h | rfl | ⟨r, rfl⟩
    · simp at h
    · exact Or.inr (Or.inr ⟨t, rfl⟩)
    · exact Or.inr (Or.inr ⟨t ++ 47 :: r, by simp⟩)
/-- all that may be of the three -/
theorem chain_ways (a b c : List UInt8) :
    (underB a b = false ∧ underB b a = underB b a) ∨ (underB a b = true ∧ underB b a = false ∧ underB b c = false) ∨ (underB a b = true ∧ underB b a = false ∧ underB b c = true ∧ underB a c = true) ∨
    (underB a b = true ∧ underB b a = true ∧ a = b ∧ underB b c = false) ∨ (underB a b = true ∧ underB b a = true ∧ a = b ∧ underB b c = true ∧ underB a c = true) := by
  cases h1 : underB a b
  · simp
  · cases h2 : underB b a
    · cases h3 : underB b c
      · simp
      · simp [under_trans h1 h3]
    · have e := under_anti h1 h2
      cases h3 : underB b c
      · simp [e]
      · simp [e, h3]
set_option maxHeartbeats 1000000 in
theorem chains_any (a b c : List UInt8) (w : World) (ha : a.length ≤ 140737488351232) (hb : b.length ≤ 140737488351232) (hc : c.length ≤ 140737488351232) :
    Calls Try.prog 5 #[.string ⟨a.toArray⟩, .string ⟨b.toArray⟩, .string ⟨c.toArray⟩] w fun e w' => e = .returned (.bool true) ∧ Below w.heap.size w w' := by
  by_cases hsum : a.length + b.length + c.length ≤ 300
  · have s1 : decide (300 < (a.length : Int) + (b.length : Int) + (c.length : Int)) = false := by rw [decide_eq_false_iff_not]; omega
    have ways : (rightB a = false ∧ rightB b = rightB b) ∨ (rightB a = true ∧ rightB b = false) ∨ (rightB a = true ∧ rightB b = true ∧ rightB c = false) ∨ (rightB a = true ∧ rightB b = true ∧ rightB c = true) := by
      cases rightB a <;> cases rightB b <;> cases rightB c <;> simp
    rcases ways with ⟨ra, _⟩ | ⟨ra, rb⟩ | ⟨ra, rb, rc⟩ | ⟨ra, rb, rc⟩
    rotate_right
    · rcases chain_ways a b c with ⟨u1, _⟩ | ⟨u1, u2, u3⟩ | ⟨u1, u2, u3, u4⟩ | ⟨u1, u2, rfl, u3⟩ | ⟨u1, u2, rfl, u3, u4⟩
      all_goals
        go_enter Try.func5, Try.ntmps5
        go_wp2_with (first | (go_at_call 8; refine (fit_any _).mono ?_; rintro e w' ⟨rfl, ⟨_, rfl⟩⟩) | (go_at_call 11; refine (right_l _ _ (by omega)).mono ?_; rintro e w' ⟨rfl, ⟨_, rfl⟩⟩) | (go_at_call 12; refine (under_l _ _ _ (by omega) (by omega)).mono ?_; rintro e w' ⟨rfl, rfl⟩))
      all_goals
        go_ret
        exact ⟨rfl, Drawn.below ⟨_, rfl⟩ _⟩
    all_goals
      go_enter Try.func5, Try.ntmps5
      go_wp2_with (first | (go_at_call 8; refine (fit_any _).mono ?_; rintro e w' ⟨rfl, ⟨_, rfl⟩⟩) | (go_at_call 11; refine (right_l _ _ (by omega)).mono ?_; rintro e w' ⟨rfl, ⟨_, rfl⟩⟩))
      go_ret
      exact ⟨rfl, Drawn.below ⟨_, rfl⟩ _⟩
  · have s1 : decide (300 < (a.length : Int) + (b.length : Int) + (c.length : Int)) = true := by rw [decide_eq_true_iff]; omega
    go_enter Try.func5, Try.ntmps5
    go_wp2_with (go_at_call 8; refine (fit_any _).mono ?_; rintro e w' ⟨rfl, ⟨_, rfl⟩⟩)
    go_ret
    exact ⟨rfl, Drawn.below ⟨_, rfl⟩ _⟩
set_option maxRecDepth 100000 in
theorem chains_lifted (os : Os) (started : os.Started) (H : Type) (enc : TypeId × Value → H) :
    ReturnsInHanded {} Try.checked os 5 .any (Rows.scopeChainsSpec.pre6 enc Try.prog Try.f5 Rows.scopeChainsRow.domain false) (Rows.scopeChainsSpec.post enc Try.prog Try.f5 false true false false) := by
  refine returnsInHanded_of_change_sized (C := Try.checked) Frame.own started (by kernel_rfl) Try.func5
    (ChangeSpec.witness6 (enc := enc) (C := Try.checked) false ⟨#[], #[.string .empty, .string .empty, .string .empty], []⟩ 8 (by kernel_rfl) (by kernel_rfl) (by kernel_rfl) (by kernel_rfl)) ?_
  intro W base args ds gs before hval0 hW _ hsz0 _
  have hsz : (DataW.weightsEach Try.prog (Try.f5.params.toList ++ Rows.scopeChainsSpec.plain.varTypes Try.prog) (ds ++ gs)).all (· ≤ reachBytes) = true := hsz0
  have hval : ∀ (j : Nat) t v, Try.f5.params[j]? = some t → args[j]? = some v → Value.okWide Try.prog W .any base t v := hval0
  have hW' := hW
  obtain ⟨p, q, hA0, hV, rfl, hfz, hnd⟩ := hW
  have hA : DataW.TrodAll enc Try.prog W 0 (fun _ => true) true Try.f5.params.toList args.toList ds p := hA0
  rw [Try.params5] at hA hval hsz
  obtain ⟨v0, vs0, d0, ds0, p0, q0, hargs, rfl, rfl, h0, r0⟩ := trodAll_cons hA
  obtain ⟨v1, vs1, d1, ds1, p1, q1, rfl, rfl, rfl, h1, r1⟩ := trodAll_cons r0
  obtain ⟨v2, vs2, d2, ds2, p2, q2, rfl, rfl, rfl, h2, r2⟩ := trodAll_cons r1
  obtain ⟨rfl, rfl, rfl⟩ := trodAll_nil r2
  obtain rfl : args = #[v0, v1, v2] := by cases args; simp_all
  obtain ⟨rfl, rfl⟩ := trodVars_none hV
  obtain ⟨a, rfl, rfl, rfl, wa⟩ := Go.ChangeMaps.open_string Try.underlying9 (hval 0 9 v0 rfl rfl) h0
  obtain ⟨b, rfl, rfl, rfl, wb⟩ := Go.ChangeMaps.open_string Try.underlying9 (hval 1 9 v1 rfl rfl) h1
  obtain ⟨c, rfl, rfl, rfl, wc⟩ := Go.ChangeMaps.open_string Try.underlying9 (hval 2 9 v2 rfl rfl) h2
  have za : a.data.toList.length ≤ 140737488351232 := sized_string hsz (j := 0) (t := 9) rfl rfl
  have zb : b.data.toList.length ≤ 140737488351232 := sized_string hsz (j := 1) (t := 9) rfl rfl
  have zc : c.data.toList.length ≤ 140737488351232 := sized_string hsz (j := 2) (t := 9) rfl rfl
  clear hA0 hval0 hsz hsz0
  refine (chains_any a.data.toList b.data.toList c.data.toList W za zb zc).mono fun e W' ⟨he, hw⟩ => ?_
  subst he
  exact ⟨_, rfl, Frame.law_post Frame.laidOut (by kernel_rfl) rfl (by kernel_rfl) Try.underlying4 rfl rfl rfl hW' hw⟩

theorem chains_holds : Rows.ScopeChainsSaid :=
  OpenClaim.holds_of_wide 5 Try.f5 rfl rfl rfl rfl rfl rfl rfl ⟨rfl, rfl, rfl, rfl, rfl⟩ rfl rfl rfl rfl rfl (by kernel_rfl) Try.func5 (by kernel_rfl)
    (of_decide_eq_true (by kernel_rfl)) (by unfold Func.isWrapper; first | (rw [if_pos (by decide +kernel)]; kernel_rfl) | (rw [if_neg (by decide +kernel)]; exact ⟨rfl, rfl⟩))
    (fun os started H enc _ => chains_lifted os started H enc)
end Go.Proofs.Ytpmgooefkkbpbaa.Sc
