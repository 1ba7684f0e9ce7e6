/- THE PLAIN FUNCTIONS OF package order, on the bits of float64 numbers, and their plain laws. No program in sight. -/
import Derived.Test.YtnccpddjdgndcaaGreatDoorFlt
namespace Go.Proofs.YtnccpddjdgndcaaGreatDoor.Ord
open Flt
def zero (b : Nat) : Bool := eq b 0
def nan0 : Nat := 9221120237041090561
def top : Nat := 9223372036854775808
def most : Nat := 18446744073709551615
def canon (b : Nat) : Nat := if nan b then nan0 else if zero b then 0 else b
def key (b : Nat) : Nat := if nan b then most else if zero b then top else if b / 9223372036854775808 = 1 then most - b else b + top
/-- the signed place to a key -/
def ofSk (x : Int) : Int := if x < 0 then 9223372036854775807 + x else 9223372036854775808 + x

theorem rung_lt (b : Nat) : rung b < 9223372036854775808 := Nat.mod_lt _ (by decide)
theorem zero_iff (b : Nat) : zero b = decide (rung b = 0) := by
  have hn : nan 0 = false := by decide
  have hs : sk 0 = 0 := by decide
  unfold zero eq
  rw [hn, hs]
  have h0 : rung b = 0 → nan b = false := fun h => by unfold nan inf; rw [h]; decide
  cases h : nan b with
  | true =>
    have : ¬ rung b = 0 := fun e => by rw [h0 e] at h; cases h
    simp [this]
  | false =>
    unfold sk
    cases neg b <;> simp
theorem neg_iff {b : Nat} (hb : b < 18446744073709551616) : neg b = decide (b / 9223372036854775808 = 1) := by
  unfold neg
  have : b / 2 ^ 63 % 2 = b / 9223372036854775808 := by omega
  rw [this, Bool.eq_iff_iff]; simp
theorem parts {b : Nat} (hb : b < 18446744073709551616) : b = (if neg b then 9223372036854775808 else 0) + rung b := by
  rw [neg_iff hb]
  unfold rung
  by_cases h : b / 9223372036854775808 = 1
  · simp only [h, decide_true, if_true]; omega
  · simp only [h, decide_false, Bool.false_eq_true, if_false]; omega
/-- THE KEY OF A NUMBER IS ITS SIGNED PLACE. -/
theorem key_sk {b : Nat} (hb : b < 18446744073709551616) (hn : nan b = false) : (key b : Int) = ofSk (sk b) := by
  have hp := parts hb
  have hr := rung_lt b
  unfold key ofSk sk top most
  rw [hn, zero_iff]
  have hneg := neg_iff hb
  by_cases h : rung b = 0
  · simp only [h, decide_true, if_true, Bool.false_eq_true, if_false]
    cases neg b <;> simp
  · simp only [h, decide_false, Bool.false_eq_true, if_false]
    cases hs : neg b with
    | true =>
      rw [hs] at hneg hp
      have : b / 9223372036854775808 = 1 := by simpa using hneg.symm
      simp only [if_true] at hp ⊢
      rw [if_pos this, if_pos (by omega)]; omega
    | false =>
      rw [hs] at hneg hp
      have : ¬ b / 9223372036854775808 = 1 := by simpa using hneg.symm
      simp only [Bool.false_eq_true, if_false] at hp ⊢
      rw [if_neg this, if_neg (by omega)]; omega
theorem key_nan {b : Nat} (hn : nan b = true) : key b = most := by unfold key; rw [hn]; rfl
theorem sk_bound {b : Nat} (hn : nan b = false) : -9218868437227405312 ≤ sk b ∧ sk b ≤ 9218868437227405312 := by
  have : rung b ≤ inf := by simpa [nan] using hn
  unfold inf at this
  unfold sk; split <;> omega
theorem key_lt (b : Nat) (hb : b < 18446744073709551616) : key b < 18446744073709551616 := by
  cases hn : nan b with
  | true => rw [key_nan hn]; decide
  | false =>
    have h1 := key_sk hb hn
    have h2 := sk_bound hn
    unfold ofSk at h1
    split at h1 <;> omega
theorem key_ne_most {b : Nat} (hb : b < 18446744073709551616) (hn : nan b = false) : key b < most := by
  have h1 := key_sk hb hn
  have h2 := sk_bound hn
  unfold most
  unfold ofSk at h1
  split at h1 <;> omega
theorem key_lt_iff {a b : Nat} (ha : a < 18446744073709551616) (hb : b < 18446744073709551616) (na : nan a = false) (nb : nan b = false) : key a < key b ↔ sk a < sk b := by
  have h1 := key_sk ha na
  have h2 := key_sk hb nb
  have e : key a < key b ↔ ofSk (sk a) < ofSk (sk b) := by omega
  rw [e]; unfold ofSk; split <;> split <;> omega
theorem key_eq_iff {a b : Nat} (ha : a < 18446744073709551616) (hb : b < 18446744073709551616) (na : nan a = false) (nb : nan b = false) : key a = key b ↔ sk a = sk b := by
  have h1 := key_sk ha na
  have h2 := key_sk hb nb
  have e : key a = key b ↔ ofSk (sk a) = ofSk (sk b) := by omega
  rw [e]; unfold ofSk; split <;> split <;> omega
theorem canon_lt (b : Nat) (hb : b < 18446744073709551616) : canon b < 18446744073709551616 := by
  unfold canon; split
  · decide
  · split
    · decide
    · exact hb
theorem canon_nan (b : Nat) : nan (canon b) = nan b := by
  unfold canon
  cases hn : nan b with
  | true => simp only [if_true]; decide
  | false =>
    simp only [Bool.false_eq_true, if_false]
    split
    · decide
    · exact hn
/-- WHAT Key DOES BEHIND Canon -/
theorem key_of_canon (b : Nat) (hb : b < 18446744073709551616) (hn : nan b = false) :
    key b = if canon b / 9223372036854775808 = 1 then most - canon b else canon b ||| top := by
  unfold key canon
  rw [hn]
  simp only [Bool.false_eq_true, if_false]
  cases hz : zero b with
  | true => simp only [if_true]; decide
  | false =>
    simp only [Bool.false_eq_true, if_false]
    by_cases h : b / 9223372036854775808 = 1
    · rw [if_pos h, if_pos h]
    · rw [if_neg h, if_neg h]
      have hl : b < 2 ^ 63 := by omega
      unfold top
      have := Nat.two_pow_add_eq_or_of_lt hl 1
      simp only [Nat.mul_one] at this
      rw [Nat.or_comm]
      have e : (9223372036854775808 : Nat) = 2 ^ 63 := by decide
      rw [e, ← this]; omega

def backB (k : Nat) : Nat := if k / 9223372036854775808 = 0 then most - k else k % 9223372036854775808
def back (k : Nat) : Nat × Bool := if k = most then (nan0, true) else if nan (backB k) || key (backB k) != k then (0, false) else (backB k, true)
theorem backB_lt {k : Nat} (hk : k < 18446744073709551616) : backB k < 18446744073709551616 := by
  unfold backB most; split <;> omega
theorem xor_most {b : Nat} (hb : b < 18446744073709551616) : most ^^^ b = most - b := by
  have h : (BitVec.allOnes 64 ^^^ BitVec.ofNat 64 b).toNat = (~~~ (BitVec.ofNat 64 b)).toNat := by rw [BitVec.allOnes_xor]
  rw [BitVec.toNat_xor, BitVec.toNat_not, BitVec.toNat_allOnes, BitVec.toNat_ofNat] at h
  have e : b % 2 ^ 64 = b := Nat.mod_eq_of_lt (by omega)
  rw [e] at h
  unfold most
  have e2 : (2 : Nat) ^ 64 - 1 = 18446744073709551615 := by decide
  have e3 : (2 : Nat) ^ 64 - 1 - b = 18446744073709551615 - b := by rw [e2]
  rw [e3, e2] at h
  exact h
theorem and_low (b : Nat) : b &&& (18446744073709551615 - 9223372036854775808) = b % 9223372036854775808 :=
  Nat.and_two_pow_sub_one_eq_mod b 63
end Go.Proofs.YtnccpddjdgndcaaGreatDoor.Ord
