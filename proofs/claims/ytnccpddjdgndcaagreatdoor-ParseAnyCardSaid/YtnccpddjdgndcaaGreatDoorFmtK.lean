/- THE SHORTEST DIGITS TELL NUMBERS APART: whatever the bits. No walk. -/
import Derived.Test.YtnccpddjdgndcaaGreatDoorFmtJ
import Derived.Lib.BitFns
namespace Go.Proofs.YtnccpddjdgndcaaGreatDoor.Fmt
/-- how far the fraction is shifted; the fraction; its power of two -/
def fz (b : Nat) : Nat := if bexp b = 0 then 64 - Lib.bitLen (bman b) else 11
def fm (b : Nat) : Nat := if bexp b = 0 then bman b * 2 ^ fz b else (4503599627370496 + bman b) * 2048
def fE (b : Nat) : Int := if bexp b = 0 then -1074 - (fz b : Int) else (bexp b : Int) - 1086
def fkey (b : Nat) : Nat := vN (short (fm b) (fE b))
theorem bitLenAux_bounds : ∀ (f x : Nat), x < 2 ^ f → x ≠ 0 → 1 ≤ Lib.bitLenAux f x ∧ 2 ^ (Lib.bitLenAux f x - 1) ≤ x ∧ x < 2 ^ Lib.bitLenAux f x
  | 0, x, h, h0 => by omega
  | f + 1, x, h, h0 => by
    rw [Lib.bitLenAux, if_neg h0]
    by_cases h1 : x / 2 = 0
    · have hx : x = 1 := by omega
      have hz : Lib.bitLenAux f 0 = 0 := by cases f <;> simp [Lib.bitLenAux]
      rw [h1, hz, hx]
      decide
    · obtain ⟨a, b, c⟩ := bitLenAux_bounds f (x / 2) (by rw [Nat.pow_succ] at h; omega) h1
      generalize Lib.bitLenAux f (x / 2) = k at *
      obtain ⟨j, rfl⟩ : ∃ j, k = j + 1 := ⟨k - 1, by omega⟩
      refine ⟨by omega, ?_, ?_⟩
      · rw [show 1 + (j + 1) - 1 = (j + 1 - 1) + 1 by omega, Nat.pow_succ]; omega
      · rw [show 1 + (j + 1) = (j + 1) + 1 by omega, Nat.pow_succ]; omega
theorem bitLen_bounds (x : Nat) (h : x < 4503599627370496) (h0 : 1 ≤ x) : 1 ≤ Lib.bitLen x ∧ Lib.bitLen x ≤ 52 ∧ 2 ^ (Lib.bitLen x - 1) ≤ x ∧ x < 2 ^ Lib.bitLen x := by
  obtain ⟨a, b, c⟩ := bitLenAux_bounds 64 x (Nat.lt_trans h (by decide)) (by omega)
  exact ⟨a, Lib.bitLen_le x 52 (by decide) h, b, c⟩
theorem bitLen_of (x k : Nat) (h : x < 4503599627370496) (h0 : 1 ≤ x) (hk : 2 ^ k ≤ x) (hk2 : x < 2 ^ (k + 1)) : Lib.bitLen x = k + 1 := by
  obtain ⟨a, _, b, c⟩ := bitLen_bounds x h h0
  have h1 : k < Lib.bitLen x := (Nat.pow_lt_pow_iff_right (by decide : 1 < 2)).1 (Nat.lt_of_le_of_lt hk c)
  have h2 : Lib.bitLen x - 1 < k + 1 := (Nat.pow_lt_pow_iff_right (by decide : 1 < 2)).1 (Nat.lt_of_le_of_lt b hk2)
  omega
theorem plain_norm (b : Nat) (h1 : 1 ≤ bexp b) (h2 : bexp b ≤ 2046) (h : bexp b = 1 ∨ bman b ≠ 0) : Plain (fm b) (fE b) := by
  have hf : bman b < 4503599627370496 := Nat.mod_lt _ (by decide)
  have hm : fm b = (4503599627370496 + bman b) * 2048 := by unfold fm; rw [if_neg (by omega)]
  have hE : fE b = (bexp b : Int) - 1086 := by unfold fE; rw [if_neg (by omega)]
  have hz : sfZ (fE b) = 11 := by unfold sfZ; rw [hE, if_pos (by omega)]
  refine ⟨?_, ?_, ?_, ?_, ?_⟩
  · have := okE_norm (bexp b - 1) (by omega)
    rw [hE, show (bexp b : Int) - 1086 = ((bexp b - 1 : Nat) : Int) - 1085 by omega]
    exact this
  · rw [hm, hE]; omega
  · rw [hm]; omega
  · rw [hz, hm, show (2 : Nat) ^ (11 - 1) = 1024 by decide]; omega
  · intro _; rw [hm]; omega
theorem sub_facts (b : Nat) (h : bexp b = 0) (h0 : 1 ≤ bman b) : ∃ z, fz b = z ∧ 12 ≤ z ∧ z ≤ 63 ∧ Lib.bitLen (bman b) = 64 - z ∧ fm b = bman b * 2 ^ z ∧ fE b = -1074 - (z : Int) ∧ sfZ (fE b) = z ∧
    2 ^ (63 - z) ≤ bman b ∧ bman b < 2 ^ (64 - z) := by
  have hf : bman b < 4503599627370496 := Nat.mod_lt _ (by decide)
  obtain ⟨a, b1, c, d⟩ := bitLen_bounds _ hf h0
  have hz : fz b = 64 - Lib.bitLen (bman b) := by unfold fz; rw [if_pos h]
  have hE : fE b = -1074 - (fz b : Int) := by unfold fE; rw [if_pos h]
  refine ⟨fz b, rfl, by omega, by omega, by omega, by unfold fm; rw [if_pos h], hE, by unfold sfZ; rw [hE, if_neg (by omega)]; omega, ?_, ?_⟩
  · rw [show 63 - fz b = Lib.bitLen (bman b) - 1 by omega]; exact c
  · rw [show 64 - fz b = Lib.bitLen (bman b) by omega]; exact d
theorem pow_join (a b c : Nat) (h : a + b = c) : 2 ^ a * 2 ^ b = 2 ^ c := by rw [← Nat.pow_add, h]
theorem plain_sub (b : Nat) (h : bexp b = 0) (h0 : 1 ≤ bman b) : Plain (fm b) (fE b) := by
  obtain ⟨z, _, z1, z2, _, hm, hE, hz, l1, l2⟩ := sub_facts b h h0
  have hT : 2 ^ z = 2 ^ (z - 1) * 2 := by rw [← Nat.pow_succ]; congr 1; omega
  have hT0 : 0 < 2 ^ (z - 1) := Nat.two_pow_pos _
  have hlow : 2 ^ (63 - z) * 2 ^ z ≤ bman b * 2 ^ z := Nat.mul_le_mul_right _ l1
  have hhigh : (bman b + 1) * 2 ^ z ≤ 2 ^ (64 - z) * 2 ^ z := Nat.mul_le_mul_right _ l2
  rw [pow_join _ _ 63 (by omega), show (2 : Nat) ^ 63 = 9223372036854775808 by decide] at hlow
  rw [pow_join _ _ 64 (by omega), show (2 : Nat) ^ 64 = 18446744073709551616 by decide, Nat.succ_mul] at hhigh
  refine ⟨?_, ?_, ?_, ?_, ?_⟩
  · have := okE_sub (z - 12) (by omega)
    rw [hE, show (z : Int) = ((z - 12 : Nat) : Int) + 12 by omega]
    exact this
  · rw [hE]; omega
  · rw [hm]; exact hlow
  · rw [hz, hm]; omega
  · intro h11; rw [hE] at h11; omega
theorem fkey_step (b : Nat) (h1 : 1 ≤ b) (h2 : b + 1 < 9218868437227405312) : fkey b < fkey (b + 1) := by
  have e0 : bexp b = b / 4503599627370496 := by unfold bexp; omega
  have f0 : bman b = b % 4503599627370496 := rfl
  have e1 : bexp (b + 1) = (b + 1) / 4503599627370496 := by unfold bexp; omega
  have f1 : bman (b + 1) = (b + 1) % 4503599627370496 := rfl
  unfold fkey
  by_cases hx : bexp b = 0
  · have hb : bman b = b := by omega
    by_cases hx1 : bexp (b + 1) = 0
    · have hb1 : bman (b + 1) = b + 1 := by omega
      obtain ⟨z, q, z1, z2, hl, hm, hE, hz, l1, l2⟩ := sub_facts b hx (by omega)
      obtain ⟨y, r, y1, y2, kl, km, kE, kz, k1, k2⟩ := sub_facts (b + 1) hx1 (by omega)
      by_cases hyz : y = z
      · subst hyz
        have key := (plain_sub b hx (by omega)).step
        rw [hE, ← hE, hz] at key
        have e : fm b + 2 ^ y = fm (b + 1) := by rw [hm, km, hb, hb1, Nat.succ_mul]
        have eE : fE b = fE (b + 1) := by rw [hE, kE]
        rw [e, eE] at key
        rw [eE]
        exact key (plain_sub (b + 1) hx1 (by omega))
      · have hp : b + 1 = 2 ^ (64 - z) := by
          rcases Nat.lt_or_ge (b + 1) (2 ^ (64 - z)) with h | h
          · have := bitLen_of (b + 1) (63 - z) (by omega) (by omega) (by omega) (by rw [show 63 - z + 1 = 64 - z by omega]; exact h)
            rw [hb1] at kl
            omega
          · omega
        have hy : y = z - 1 := by
          have hlt : 2 ^ (64 - z) < 2 ^ (64 - z + 1) := Nat.pow_lt_pow_right (by decide) (by omega)
          have := bitLen_of (b + 1) (64 - z) (by omega) (by omega) (by omega) (by rw [hp]; exact hlt)
          rw [hb1] at kl
          omega
        have key := sub_step (z - 12) (by omega)
        have hz12 : z - 12 + 12 = z := by omega
        have em : fm b = 18446744073709551616 - 2 ^ z := by
          have : (b + 1) * 2 ^ z = 2 ^ 64 := by rw [hp, pow_join _ _ 64 (by omega)]
          rw [Nat.succ_mul] at this
          rw [hm, hb]
          omega
        have em1 : fm (b + 1) = 9223372036854775808 := by rw [km, hb1, hp, pow_join _ _ 63 (by omega)]
        rw [hz12] at key
        rw [em, em1, hE, kE, hy]
        have c1 : ((z - 12 : Nat) : Int) + 12 = (z : Int) := by omega
        have c2 : ((z - 12 : Nat) : Int) + 11 = ((z - 1 : Nat) : Int) := by omega
        rw [c1, c2] at key
        exact key
    · have hbe : b = 4503599627370495 := by omega
      subst hbe
      exact (by decide +kernel : vN (short (fm 4503599627370495) (fE 4503599627370495)) < vN (short (fm (4503599627370495 + 1)) (fE (4503599627370495 + 1))))
  · have hE : fE b = (bexp b : Int) - 1086 := by unfold fE; rw [if_neg (by omega)]
    have hm : fm b = (4503599627370496 + bman b) * 2048 := by unfold fm; rw [if_neg (by omega)]
    have hE1 : fE (b + 1) = (bexp (b + 1) : Int) - 1086 := by unfold fE; rw [if_neg (by omega)]
    have hm1 : fm (b + 1) = (4503599627370496 + bman (b + 1)) * 2048 := by unfold fm; rw [if_neg (by omega)]
    by_cases hf : bman b = 4503599627370495
    · have key := head_step (bexp b - 1) (by omega)
      have c1 : ((bexp b - 1 : Nat) : Int) - 1085 = (bexp b : Int) - 1086 := by omega
      have c2 : ((bexp b - 1 : Nat) : Int) - 1084 = (bexp (b + 1) : Int) - 1086 := by omega
      rw [c1, c2] at key
      rw [hE, hE1, hm, hm1, hf, show bman (b + 1) = 0 by omega]
      exact key
    · have hx1 : bexp (b + 1) = bexp b := by omega
      have hf1 : bman (b + 1) = bman b + 1 := by omega
      by_cases h0 : bman b = 0 ∧ 2 ≤ bexp b
      · have key := foot_step (bexp b - 2) (by omega)
        have c1 : ((bexp b - 2 : Nat) : Int) - 1084 = (bexp b : Int) - 1086 := by omega
        rw [c1] at key
        rw [hE, hE1, hm, hm1, hf1, h0.1, hx1]
        exact key
      · have key := (plain_norm b (by omega) (by omega) (by omega)).step
        have hz : sfZ (fE b) = 11 := by unfold sfZ; rw [hE, if_pos (by omega)]
        have e : fm b + 2 ^ sfZ (fE b) = fm (b + 1) := by rw [hz, hm, hm1, hf1]; omega
        have eE : fE b = fE (b + 1) := by rw [hE, hE1, hx1]
        rw [e, eE] at key
        rw [eE]
        exact key (plain_norm (b + 1) (by omega) (by omega) (by omega))
theorem fkey_mono (a b : Nat) (h1 : 1 ≤ a) (h : a < b) (h2 : b < 9218868437227405312) : fkey a < fkey b := by
  induction b with
  | zero => omega
  | succ b ih =>
    rcases Nat.lt_or_ge a b with hab | hab
    · exact Nat.lt_trans (ih hab (by omega)) (fkey_step b (by omega) h2)
    · obtain rfl : a = b := by omega
      exact fkey_step a h1 h2
/-- numbers above nought with one decimal are one number -/
theorem fkey_inj (a b : Nat) (h1 : 1 ≤ a) (h2 : 1 ≤ b) (h3 : a < 9218868437227405312) (h4 : b < 9218868437227405312) (h : fkey a = fkey b) : a = b := by
  rcases Nat.lt_trichotomy a b with g | g | g
  · have := fkey_mono a b h1 g h4; omega
  · exact g
  · have := fkey_mono b a h2 g h3; omega
end Go.Proofs.YtnccpddjdgndcaaGreatDoor.Fmt
