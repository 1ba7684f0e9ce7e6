/- THE WALK OF cond.Implies. -/
import Derived.Test.YtpbdgbejcdncgaaSame
namespace Go.Proofs.Ytpbdgbejcdncgaa.Val
open Go.RowKit Flt
theorem low_ways (o p q : Int) (h : p ≠ q) (hp : p ≠ 1) (hq : q ≠ 1) : ((o == p) = true ∧ (o == q) = false ∧ (o == 1) = false) ∨ ((o == p) = false ∧ (o == q) = true ∧ (o == 1) = false) ∨ ((o == p) = false ∧ (o == q) = false ∧ (o == 1) = true) ∨ ((o == p) = false ∧ (o == q) = false ∧ (o == 1) = false) := by
  cases h1 : (o == p) <;> cases h2 : (o == q) <;> cases h3 : (o == 1) <;> simp_all
theorem cmp3_ways (c : Int) : (decide (c < 0) = true ∧ (c == 0) = false ∧ decide (0 < c) = false) ∨ (decide (c < 0) = false ∧ (c == 0) = true ∧ decide (0 < c) = false) ∨ (decide (c < 0) = false ∧ (c == 0) = false ∧ decide (0 < c) = true) := by
  rcases Int.lt_trichotomy c 0 with h | h | h
  · left; simp [h]; omega
  · right; left; simp [h]
  · right; right; simp [h]; omega
end Go.Proofs.Ytpbdgbejcdncgaa.Val
