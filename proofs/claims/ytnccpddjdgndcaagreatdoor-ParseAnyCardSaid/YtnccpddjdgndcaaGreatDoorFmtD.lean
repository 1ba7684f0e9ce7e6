/- THE SHORTEST DIGITS ARE A NUMBER ABOVE NOUGHT. No walk. -/
import Derived.Test.YtnccpddjdgndcaaGreatDoorFmtFn
namespace Go.Proofs.YtnccpddjdgndcaaGreatDoor.Fmt
theorem hiT_big : ∀ i, i < 696 → 9223372036854775808 ≤ hiT i ∧ hiT i < 18446744073709551616 := by decide +kernel
theorem or_ge (a b : Nat) : a ≤ a ||| b := Nat.left_le_or
theorem or_one (a : Nat) : 1 ≤ a ||| 1 := Nat.right_le_or
/-- a scaled number is at least one, and small, where something is struck -/
theorem usc_ge (x hi lo s : Nat) (hx : 4611686018427387904 ≤ x) (hx2 : x < 18446744073709551616) (hh : 9223372036854775808 ≤ hi) (hh2 : hi < 18446744073709551616) (hs : s ≤ 58) : 7 ≤ usc x hi lo s := by
  have hA : 2305843009213693952 ≤ x * hi / 18446744073709551616 := by
    have := Nat.mul_le_mul hx hh
    omega
  have hA2 : x * hi / 18446744073709551616 < 18446744073709551616 := by
    rw [Nat.div_lt_iff_lt_mul (by decide)]
    exact Nat.mul_lt_mul'' hx2 hh2
  have hp : 2 ^ s ≤ 2 ^ 58 := Nat.pow_le_pow_right (by decide) hs
  rw [show (2 : Nat) ^ 58 = 288230376151711744 by decide] at hp
  have hp0 : 0 < 2 ^ s := Nat.two_pow_pos s
  unfold usc
  split
  · refine Nat.le_trans ?_ (or_ge _ _)
    rw [Nat.le_div_iff_mul_le hp0]
    omega
  · refine Nat.le_trans ?_ (or_ge _ _)
    generalize x * hi / 18446744073709551616 = A at *
    generalize hc : (if x * hi % 18446744073709551616 < x * lo / 18446744073709551616 then 1 else 0) = c
    have hc1 : c ≤ 1 := by subst hc; split <;> decide
    rw [Nat.le_div_iff_mul_le hp0]
    omega
theorem usc_lt63 (x hi lo s : Nat) (hx2 : x < 18446744073709551616) (hh2 : hi < 18446744073709551616) (hs : 1 ≤ s) : usc x hi lo s < 9223372036854775808 := by
  have hA2 : x * hi / 18446744073709551616 < 18446744073709551616 := by
    rw [Nat.div_lt_iff_lt_mul (by decide)]
    exact Nat.mul_lt_mul'' hx2 hh2
  have hp : 2 ^ 1 ≤ 2 ^ s := Nat.pow_le_pow_right (by decide) hs
  have hd : ∀ y : Nat, y < 18446744073709551616 → y / 2 ^ s < 2 ^ 63 := fun y hy => by
    rw [Nat.div_lt_iff_lt_mul (Nat.two_pow_pos s)]
    have : 2 ^ 63 * 2 ^ 1 ≤ 2 ^ 63 * 2 ^ s := Nat.mul_le_mul_left _ hp
    omega
  unfold usc
  split
  · exact Nat.or_lt_two_pow (n := 63) (hd _ hA2) (by decide)
  · exact Nat.or_lt_two_pow (n := 63) (hd _ (Nat.mod_lt _ (by decide))) (by split <;> decide)
theorem cl_pos (u d : Nat) (h : 1 ≤ u) (h2 : u < 9223372036854775808) (hd : d < 2) : 1 ≤ cl (nudge u d) := by
  unfold cl nudge
  omega
theorem rnd_pos (u : Nat) (h : 7 ≤ u) (h2 : u < 9223372036854775808) : 1 ≤ rnd u ∧ rnd u < 18446744073709551616 := by
  unfold rnd
  have e1 : (u + 1) % 18446744073709551616 = u + 1 := Nat.mod_eq_of_lt (by omega)
  have e2 : (u + 1 + u / 4 % 2) % 18446744073709551616 = u + 1 + u / 4 % 2 := Nat.mod_eq_of_lt (by omega)
  rw [e1, e2]
  omega
theorem cl_lt (u : Nat) : cl u < 18446744073709551616 := by unfold cl; omega
theorem short_ok (m : Nat) (E : Int) (hm : m < 18446744073709551616) (hm1 : 4611686018427387904 ≤ m) (hmin : 4611686018427387904 ≤ sfMin m E) (hmin2 : sfMin m E < 18446744073709551616)
    (hi : sfI m E < 696) (hs1 : 1 ≤ sfS m E) (hs2 : sfS m E ≤ 58) : 1 ≤ (short m E).1 ∧ (short m E).1 < 18446744073709551616 := by
  obtain ⟨h1, h2⟩ := hiT_big _ hi
  have u1 : 7 ≤ sfU m E m := usc_ge _ _ _ _ hm1 hm h1 h2 hs2
  have u2 : sfU m E m < 9223372036854775808 := usc_lt63 _ _ _ _ hm h2 hs1
  have v1 : 7 ≤ sfU m E (sfMin m E) := usc_ge _ _ _ _ hmin hmin2 h1 h2 hs2
  have v2 : sfU m E (sfMin m E) < 9223372036854775808 := usc_lt63 _ _ _ _ hmin2 h2 hs1
  have ho : sfOdd m E < 2 := Nat.mod_lt _ (by decide)
  have hlo : 1 ≤ sfLo m E := cl_pos _ _ (by omega) v2 ho
  have hlt : sfLo m E < 18446744073709551616 := cl_lt _
  have hhi : sfHi m E < 18446744073709551616 := by unfold sfHi flr nudge; omega
  have hr := rnd_pos _ u1 u2
  unfold short
  split
  · refine ⟨?_, ?_⟩
    · show 1 ≤ sfHi m E / 10; omega
    · show sfHi m E / 10 < _; omega
  · split
    · exact hr
    · exact ⟨hlo, hlt⟩
theorem short_okn (m : Nat) (E : Int) (hm : 9223372036854775808 ≤ (m : Int)) (hm2 : (m : Int) ≤ 18446744073709549568) (hE : -1085 ≤ E) (hE2 : E ≤ 971) : 1 ≤ (short m E).1 ∧ (short m E).1 < 18446744073709551616 := by
  have hP : sfP m E = sfP m E := rfl
  conv at hP => rhs; unfold sfP lg10 skew
  have hPi : -348 ≤ sfP m E ∧ sfP m E ≤ 347 := by rw [hP]; split <;> (try split) <;> omega
  have hSS : 1 ≤ -(E + lg2 (sfP m E) + 3) ∧ -(E + lg2 (sfP m E) + 3) ≤ 58 := by rw [hP]; unfold lg2; split <;> (try split) <;> omega
  have hmin : 4611686018427387904 ≤ sfMin m E ∧ sfMin m E < 18446744073709551616 := by
    unfold sfMin
    split
    · omega
    · have : sfZ E = 11 := by unfold sfZ; rw [if_pos hE]
      rw [this, show (2 : Nat) ^ (11 - 1) = 1024 by decide]
      omega
  exact short_ok m E (by omega) (by omega) hmin.1 hmin.2 (by unfold sfI; omega) (by unfold sfS; omega) (by unfold sfS; omega)
theorem short_oks (m : Nat) (E : Int) (z : Nat) (hzE : 11 + (-1085 - E) = (z : Int)) (hz1 : 12 ≤ z) (hz2 : z ≤ 63) (hm : 9223372036854775808 ≤ (m : Int)) (hm2 : m < 18446744073709551616) : 1 ≤ (short m E).1 ∧ (short m E).1 < 18446744073709551616 := by
  have hB2 : ¬ -1085 ≤ E := by omega
  have hz : sfZ E = z := by unfold sfZ; rw [if_neg hB2]; omega
  have hP : sfP m E = 324 := by unfold sfP; rw [if_neg (by omega), if_neg hB2]; decide
  have hl : lg2 324 = 1076 := by decide
  have hT3 : 2 ^ (z - 1) ≤ 2 ^ 62 := Nat.pow_le_pow_right (by decide) (by omega)
  rw [show (2 : Nat) ^ 62 = 4611686018427387904 by decide] at hT3
  have hmin : 4611686018427387904 ≤ sfMin m E ∧ sfMin m E < 18446744073709551616 := by
    unfold sfMin
    rw [if_neg (by omega), hz]
    generalize 2 ^ (z - 1) = T at *
    omega
  exact short_ok m E hm2 (by omega) hmin.1 hmin.2 (by unfold sfI; rw [hP]; decide) (by unfold sfS; rw [hP, hl]; omega) (by unfold sfS; rw [hP, hl]; omega)
end Go.Proofs.YtnccpddjdgndcaaGreatDoor.Fmt
