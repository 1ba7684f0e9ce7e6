/- THE SHORTEST DIGITS TELL NUMBERS APART within a binade: each lies between two bounds, and the bounds of neighbours do not meet. No walk. -/
import Derived.Test.YtnccpddjdgndcaaGreatDoorFmtD
namespace Go.Proofs.YtnccpddjdgndcaaGreatDoor.Fmt
/-- a number scaled by a row of the table: 64 + s bits behind it -/
def gsc (x hi lo : Nat) : Nat := x * hi - x * lo / 18446744073709551616
theorem or1 (a : Nat) : a ||| 1 = a + (1 - a % 2) := by
  have h1 := Nat.or_div_two (a := a) (b := 1)
  have h2 : (a ||| 1) % 2 = 1 := Nat.or_mod_two_eq_one.2 (Or.inr rfl)
  rw [show 1 / 2 = 0 by decide, Nat.or_zero] at h1
  omega
theorem mid_le (x lo : Nat) (hx : x < 18446744073709551616) (hl : lo < 18446744073709551616) : x * lo / 18446744073709551616 ≤ 18446744073709551614 := by
  have : x * lo ≤ 18446744073709551615 * 18446744073709551615 := Nat.mul_le_mul (by omega) (by omega)
  omega
theorem mid_x (x lo : Nat) (hx : 1 ≤ x) (hl : lo < 18446744073709551616) : x * lo / 18446744073709551616 < x := by
  rw [Nat.div_lt_iff_lt_mul (by decide)]
  exact Nat.mul_lt_mul_of_pos_left hl hx
theorem dm (Q K r : Nat) (h : r < Q) : (Q * K + r) / Q = K ∧ (Q * K + r) % Q = r := by
  have hQ : 0 < Q := by omega
  refine ⟨?_, ?_⟩
  · rw [Nat.mul_add_div hQ, Nat.div_eq_of_lt h, Nat.add_zero]
  · rw [Nat.mul_add_mod, Nat.mod_eq_of_lt h]
theorem usc_eq (x hi lo s : Nat) (hx : x < 18446744073709551616) (hx1 : 1 ≤ x) (hh : 1 ≤ hi) (hh2 : hi < 18446744073709551616) (hl : lo < 18446744073709551616) :
    usc x hi lo s = gsc x hi lo / (18446744073709551616 * 2 ^ s) ||| (if 1 < gsc x hi lo % (18446744073709551616 * 2 ^ s) then 1 else 0) := by
  have hmid := mid_le x lo hx hl
  have hmx := mid_x x lo hx1 hl
  have hxh : x ≤ x * hi := Nat.le_mul_of_pos_right _ (by omega)
  have hH : x * hi / 18446744073709551616 < 18446744073709551616 := by rw [Nat.div_lt_iff_lt_mul (by decide)]; exact Nat.mul_lt_mul'' hx hh2
  have hS : 0 < 2 ^ s := Nat.two_pow_pos s
  unfold usc gsc
  generalize x * lo / 18446744073709551616 = mid at *
  generalize x * hi = P at *
  have hP : P = 18446744073709551616 * (P / 18446744073709551616) + P % 18446744073709551616 := (Nat.div_add_mod _ _).symm
  have hM : P % 18446744073709551616 < 18446744073709551616 := Nat.mod_lt _ (by decide)
  generalize P / 18446744073709551616 = H at *
  generalize P % 18446744073709551616 = M at *
  subst hP
  generalize 2 ^ s = S at *
  have hT : S * (H / S) + H % S = H := Nat.div_add_mod _ _
  have hR : H % S < S := Nat.mod_lt _ hS
  have hc : H / S * S = S * (H / S) := Nat.mul_comm _ _
  have hA : 18446744073709551616 * S * (H / S) = 18446744073709551616 * (S * (H / S)) := Nat.mul_assoc _ _ _
  generalize hKK : H / S = K at *
  generalize H % S = R at *
  by_cases hR0 : R = 0
  · rw [if_neg (by omega)]
    by_cases hb : M < mid
    · rw [if_pos hb]
      have e1 : (H + 18446744073709551616 - 1) % 18446744073709551616 = H - 1 := by omega
      have hK1 : K ≠ 0 := fun h => by rw [h, Nat.mul_zero] at hT; omega
      obtain ⟨k, hk⟩ := Nat.exists_eq_succ_of_ne_zero hK1
      have e2 : H = S * k + S := by rw [hk, Nat.mul_succ] at hT; omega
      have e3 : (H - 1) / S = k := by
        have e6 : H - 1 = S * k + (S - 1) := by omega
        rw [e6]
        exact (dm S k (S - 1) (by omega)).1
      have e4 : 18446744073709551616 * H + M - mid = 18446744073709551616 * S * k + (18446744073709551616 * S + M - mid) := by
        have : 18446744073709551616 * S * k = 18446744073709551616 * (S * k) := Nat.mul_assoc _ _ _
        omega
      have e5 := dm (18446744073709551616 * S) k (18446744073709551616 * S + M - mid) (by omega)
      rw [e1, e3, e4, e5.1, e5.2, if_pos (by omega), if_pos (by omega)]
    · rw [if_neg hb]
      have e1 : (H + 18446744073709551616 - 0) % 18446744073709551616 = H := by omega
      have e4 : 18446744073709551616 * H + M - mid = 18446744073709551616 * S * K + (M - mid) := by omega
      have e5 := dm (18446744073709551616 * S) K (M - mid) (by omega)
      rw [e1, hKK, e4, e5.1, e5.2]
      by_cases h1 : 1 < M - mid
      · rw [if_pos (by omega), if_pos h1]
      · rw [if_neg (by omega), if_neg h1]
  · rw [if_pos (by omega)]
    have e4 : 18446744073709551616 * H + M - mid = 18446744073709551616 * S * K + (18446744073709551616 * R + M - mid) := by omega
    have e5 := dm (18446744073709551616 * S) K (18446744073709551616 * R + M - mid) (by omega)
    rw [e4, e5.1, e5.2, if_pos (by omega)]
/-- the scaled number by its quarter -/
theorem u_spec (x hi lo s W : Nat) (hx : x < 18446744073709551616) (hx1 : 1 ≤ x) (hh : 1 ≤ hi) (hh2 : hi < 18446744073709551616) (hl : lo < 18446744073709551616) (hW : W = 18446744073709551616 * 2 ^ s * 4) :
    ∃ q r, gsc x hi lo = W * q + r ∧ r < W ∧ usc x hi lo s / 4 = q ∧ (usc x hi lo s % 4 = 0 ↔ r ≤ 1) := by
  rw [usc_eq x hi lo s hx hx1 hh hh2 hl]
  have hS : 0 < 2 ^ s := Nat.two_pow_pos s
  generalize 2 ^ s = S at *
  have hQ : 2 ≤ 18446744073709551616 * S := by omega
  generalize 18446744073709551616 * S = Q at *
  generalize gsc x hi lo = G
  subst hW
  have h4 : G / (Q * 4) = G / Q / 4 := (Nat.div_div_eq_div_mul _ _ _).symm
  have hm : G % (Q * 4) = G % Q + Q * (G / Q % 4) := Nat.mod_mul
  refine ⟨G / (Q * 4), G % (Q * 4), (Nat.div_add_mod _ _).symm, Nat.mod_lt _ (by omega), ?_⟩
  rw [h4, hm]
  have hle : G / Q % 4 ≠ 0 → Q ≤ Q * (G / Q % 4) := fun h => Nat.le_mul_of_pos_right _ (by omega)
  have hz : G / Q % 4 = 0 → Q * (G / Q % 4) = 0 := fun h => by rw [h, Nat.mul_zero]
  generalize Q * (G / Q % 4) = A at *
  generalize G % Q = r at *
  generalize G / Q = F at *
  by_cases h1 : 1 < r
  · rw [if_pos h1, or1]
    omega
  · rw [if_neg h1, Nat.or_zero]
    refine ⟨rfl, ?_⟩
    by_cases hF : F % 4 = 0
    · have := hz hF; omega
    · have := hle hF; omega
theorem le_of_wl {W a b r : Nat} (h : W * a ≤ W * b + r) (hr : r < W) : a ≤ b := by
  have h2 : W * a < W * (b + 1) := by rw [Nat.mul_succ]; omega
  have := Nat.lt_of_mul_lt_mul_left h2
  omega
/-- between the bounds there is a number; the number that is taken lies between them -/
theorem pick (W Gn Gm Gx qn rn qm rm qx rx un um ux dn dx o : Nat) (hW : 4 ≤ W)
    (en : Gn = W * qn + rn) (em : Gm = W * qm + rm) (ex : Gx = W * qx + rx) (ln : rn < W) (lm : rm < W) (lx : rx < W)
    (an : un / 4 = qn) (am : um / 4 = qm) (ax : ux / 4 = qx) (bn : un % 4 = 0 ↔ rn ≤ 1) (bm : um % 4 = 0 ↔ rm ≤ 1) (bx : ux % 4 = 0 ↔ rx ≤ 1)
    (h1 : Gn + Gx ≤ 2 * Gm + 1) (h2 : 2 * Gm ≤ Gn + Gx + 1) (hN : Gn + W + 2 ≤ Gx ∨ (Gn + W ≤ Gx ∧ 2 ≤ rn)) (ho : o < 2) (hx : o ≤ ux)
    (edn : dn = (un + o + 3) / 4) (edx : dx = (ux - o) / 4) (hum : um < 9223372036854775808) :
    dn ≤ dx ∧ (dn < dx → dn ≤ rnd um ∧ rnd um ≤ dx) := by
  have hr : rnd um = (um + 1 + um / 4 % 2) / 4 := by unfold rnd; omega
  have w1 : W * (qn + 1) = W * qn + W := Nat.mul_succ _ _
  have w2 : W * (qn + 2) = W * qn + W + W := by rw [Nat.mul_succ, Nat.mul_succ]
  have hle : dn ≤ dx := by
    rcases (show o = 0 ∨ o = 1 by omega) with rfl | rfl
    · by_cases hrn : rn ≤ 1
      · have : qn ≤ qx := le_of_wl (W := W) (r := rx) (by omega) lx
        omega
      · have : qn + 1 ≤ qx := le_of_wl (W := W) (r := rx) (by omega) lx
        omega
    · by_cases hrx : rx ≤ 1
      · have : qn + 2 ≤ qx := by
          have : W * (qn + 1) < W * qx := by omega
          have := Nat.lt_of_mul_lt_mul_left this
          omega
        omega
      · have : qn + 1 ≤ qx := le_of_wl (W := W) (r := rx) (by omega) lx
        omega
  refine ⟨hle, fun hlt => ?_⟩
  have hm : W * (dn + 1) ≤ W * dx := Nat.mul_le_mul_left _ hlt
  rw [Nat.mul_succ] at hm
  have x1 : W * (dx + 1) = W * dx + W := Nat.mul_succ _ _
  have hn : W * dn + 2 ≤ Gn + W ∧ Gn ≤ W * dn + 1 ∧ o = 0 ∨ W * dn ≤ Gn + W ∧ Gn + 1 ≤ W * dn ∧ o = 1 := by
    rcases (show o = 0 ∨ o = 1 by omega) with rfl | rfl
    · left
      by_cases hrn : rn ≤ 1
      · rw [show dn = qn by omega]; omega
      · rw [show dn = qn + 1 by omega]; omega
    · right
      rw [show dn = qn + 1 by omega]; omega
  have hxx : W * dx ≤ Gx ∧ Gx + 1 ≤ W * dx + W ∧ o = 0 ∨ W * dx + 2 ≤ Gx ∧ Gx ≤ W * dx + W + 1 ∧ o = 1 := by
    rcases (show o = 0 ∨ o = 1 by omega) with rfl | rfl
    · left
      rw [show dx = qx by omega]; omega
    · right
      by_cases hrx : rx ≤ 1
      · have hq : 1 ≤ qx := by
          rcases Nat.eq_zero_or_pos qx with h | h
          · omega
          · exact h
        obtain ⟨k, rfl⟩ : ∃ k, qx = k + 1 := ⟨qx - 1, by omega⟩
        rw [Nat.mul_succ] at ex
        rw [show dx = k by omega]; omega
      · rw [show dx = qx by omega]; omega
  have hA : W * dn ≤ Gm := by omega
  have hB : Gm ≤ W * dx := by omega
  have c1 : dn ≤ qm := le_of_wl (W := W) (r := rm) (by omega) lm
  have c2 : qm ≤ dx := le_of_wl (W := W) (r := 0) (by omega) (by omega)
  rw [hr]
  refine ⟨by omega, ?_⟩
  rcases Nat.lt_or_ge qm dx with h | h
  · omega
  · have : qm = dx := by omega
    subst this
    omega
theorem gsc_mid (x h hi lo : Nat) (hh : h ≤ x) (h1 : 1 ≤ x - h) (hhi : 1 ≤ hi) (hl : lo < 18446744073709551616) :
    gsc (x - h) hi lo + gsc (x + h) hi lo ≤ 2 * gsc x hi lo + 1 ∧ 2 * gsc x hi lo ≤ gsc (x - h) hi lo + gsc (x + h) hi lo + 1 := by
  have a1 := mid_x (x - h) lo h1 hl
  have a2 := mid_x (x + h) lo (by omega) hl
  have a3 := mid_x x lo (by omega) hl
  have b1 : x - h ≤ (x - h) * hi := Nat.le_mul_of_pos_right _ hhi
  have b2 : x + h ≤ (x + h) * hi := Nat.le_mul_of_pos_right _ hhi
  have b3 : x ≤ x * hi := Nat.le_mul_of_pos_right _ hhi
  unfold gsc
  rw [Nat.sub_mul, Nat.add_mul, Nat.sub_mul, Nat.add_mul] at *
  have m1 : h * hi ≤ x * hi := Nat.mul_le_mul_right _ hh
  have m2 : h * lo ≤ x * lo := Nat.mul_le_mul_right _ hh
  generalize x * hi = A at *
  generalize h * hi = C at *
  generalize x * lo = D at *
  generalize h * lo = F at *
  omega
theorem gsc_gap (x h hi lo W : Nat) (hh : h ≤ x) (h1 : 1 ≤ x - h) (hhi : 1 ≤ hi) (hl : lo < 18446744073709551616) (hg : 2 * h * lo / 18446744073709551616 + 1 + W ≤ 2 * h * hi) :
    gsc (x - h) hi lo + W ≤ gsc (x + h) hi lo := by
  have a1 := mid_x (x - h) lo h1 hl
  have a2 := mid_x (x + h) lo (by omega) hl
  have b1 : x - h ≤ (x - h) * hi := Nat.le_mul_of_pos_right _ hhi
  have b2 : x + h ≤ (x + h) * hi := Nat.le_mul_of_pos_right _ hhi
  unfold gsc
  rw [Nat.sub_mul, Nat.add_mul, Nat.sub_mul, Nat.add_mul] at *
  rw [Nat.mul_assoc, Nat.mul_assoc] at hg
  have m1 : h * hi ≤ x * hi := Nat.mul_le_mul_right _ hh
  have m2 : h * lo ≤ x * lo := Nat.mul_le_mul_right _ hh
  generalize x * hi = A at *
  generalize h * hi = C at *
  generalize x * lo = D at *
  generalize h * lo = F at *
  omega
end Go.Proofs.YtnccpddjdgndcaaGreatDoor.Fmt
