/- PLAIN LAWS OF float64 WORDS: how two words compare, by their signed rungs. No program in sight. -/
import GoSem.Core.Float
namespace Go.Proofs.YtnccpddjdgndcaaGreatDoor.Flt
open Ieee

/-- the magnitude's place among all magnitudes -/
def rung (b : Nat) : Nat := b % 2 ^ 63
def neg (b : Nat) : Bool := b / 2 ^ 63 % 2 == 1
def inf : Nat := 2047 * 2 ^ 52
def nan (b : Nat) : Bool := decide (inf < rung b)
/-- the signed rung -/
def sk (b : Nat) : Int := if neg b then -(rung b : Int) else (rung b : Int)

/-- the magnitude of a rung in units of the least place -/
def mag (r : Nat) : Nat := if r < 2 ^ 52 then r else (2 ^ 52 + r % 2 ^ 52) <<< (r / 2 ^ 52 - 1)

theorem mag_succ (r : Nat) : mag r < mag (r + 1) := by
  unfold mag
  by_cases h : r + 1 < 2 ^ 52
  · rw [if_pos h, if_pos (by omega)]; omega
  by_cases h2 : r < 2 ^ 52
  · have : r = 2 ^ 52 - 1 := by omega
    subst this
    decide
  rw [if_neg h2, if_neg h]
  simp only [Nat.shiftLeft_eq]
  by_cases h3 : (r + 1) % 2 ^ 52 = 0
  · have e1 : (r + 1) / 2 ^ 52 = r / 2 ^ 52 + 1 := by omega
    have e2 : r % 2 ^ 52 = 2 ^ 52 - 1 := by omega
    have e3 : r / 2 ^ 52 + 1 - 1 = (r / 2 ^ 52 - 1) + 1 := by omega
    have e4 : 2 ^ (r / 2 ^ 52 - 1 + 1) = 2 ^ (r / 2 ^ 52 - 1) * 2 := Nat.pow_succ ..
    rw [e1, e2, h3, e3, e4]
    have hp : 0 < 2 ^ (r / 2 ^ 52 - 1) := Nat.two_pow_pos _
    generalize 2 ^ (r / 2 ^ 52 - 1) = p at *
    have : (2 ^ 52 + 0) * (p * 2) = (2 ^ 52 + (2 ^ 52 - 1)) * p + p := by omega
    omega
  · have e1 : (r + 1) / 2 ^ 52 = r / 2 ^ 52 := by omega
    have e2 : (r + 1) % 2 ^ 52 = r % 2 ^ 52 + 1 := by omega
    rw [e1, e2]
    exact Nat.mul_lt_mul_of_pos_right (by omega) (Nat.two_pow_pos _)

theorem mag_mono {a b : Nat} (h : a < b) : mag a < mag b := by
  induction b with
  | zero => omega
  | succ n ih =>
    by_cases e : a = n
    · subst e; exact mag_succ _
    · exact Nat.lt_trans (ih (by omega)) (mag_succ _)

theorem mag_lt_iff {a b : Nat} : mag a < mag b ↔ a < b :=
  ⟨fun h => by
    by_cases h' : a < b
    · exact h'
    by_cases e : a = b
    · subst e; omega
    · have := mag_mono (show b < a by omega); omega, mag_mono⟩
theorem mag_zero : mag 0 = 0 := by decide
theorem mag_inj {a b : Nat} (h : mag a = mag b) : a = b := by
  by_cases h1 : a < b
  · have := mag_mono h1; omega
  by_cases h2 : b < a
  · have := mag_mono h2; omega
  omega

/-- the word as a datum -/
theorem read_eq (b : Nat) : double.read b =
    if rung b < 2 ^ 52 then .number (neg b) (rung b) double.leastPlace
    else if rung b < inf then .number (neg b) (2 ^ 52 + rung b % 2 ^ 52) (double.leastPlace + (rung b / 2 ^ 52 - 1 : Nat))
    else if rung b = inf then .infinity (neg b) else .nan (neg b) (rung b - inf) := rfl

theorem order_fin (s t : Bool) (m n : Nat) (i j : Nat) (L : Int) :
    Datum.order (.number s m (L + i)) (.number t n (L + j)) = some (compare (signed s (m <<< i) 0) (signed t (n <<< j) 0)) := by
  simp only [Datum.order]
  congr 1
  have hb : (min (L + (i : Int)) (L + j)) = L + (min i j : Nat) := by omega
  rw [hb]
  have e1 : (L + (i : Int) - (L + (min i j : Nat))).toNat = i - min i j := by omega
  have e2 : (L + (j : Int) - (L + (min i j : Nat))).toNat = j - min i j := by omega
  rw [e1, e2]
  generalize hk : min i j = k at *
  have hi : k ≤ i := by omega
  have hj : k ≤ j := by omega
  obtain ⟨p, rfl⟩ : ∃ p, i = k + p := ⟨i - k, by omega⟩
  obtain ⟨q, rfl⟩ : ∃ q, j = k + q := ⟨j - k, by omega⟩
  have e3 : k + p - k = p := by omega
  have e4 : k + q - k = q := by omega
  rw [e3, e4]
  have key : ∀ (s : Bool) (m p : Nat), signed s (m <<< (k + p)) 0 = signed s m p * (2 ^ k : Nat) := by
    intro s m p
    unfold signed
    have : (m <<< (k + p)) <<< 0 = (m <<< p) * 2 ^ k := by
      simp only [Nat.shiftLeft_eq, Nat.pow_add, Nat.pow_zero, Nat.mul_one]
      rw [Nat.mul_assoc, Nat.mul_comm (2 ^ p)]
    rw [this]
    cases s <;> simp [Int.neg_mul]
  rw [key, key]
  have hpos : (0 : Int) < (2 ^ k : Nat) := by exact_mod_cast Nat.two_pow_pos k
  generalize ((2 ^ k : Nat) : Int) = c at *
  generalize signed s m p = x
  generalize signed t n q = y
  simp only [compare, compareOfLessAndEq]
  by_cases h1 : x < y
  · rw [if_pos h1, if_pos (Int.mul_lt_mul_of_pos_right h1 hpos)]
  · have hle := Int.mul_le_mul_of_nonneg_right (show y ≤ x by omega) (Int.le_of_lt hpos)
    have h3 : ¬ x * c < y * c := by omega
    rw [if_neg h1, if_neg h3]
    by_cases h2 : x = y
    · have h4 : x * c = y * c := by rw [h2]
      rw [if_pos h2, if_pos h4]
    · have h4 : ¬ x * c = y * c := fun h => h2 (Int.eq_of_mul_eq_mul_right (by omega) h)
      rw [if_neg h2, if_neg h4]

theorem signed_mag (s : Bool) (r : Nat) : signed s (mag r) 0 = if s then -(mag r : Int) else (mag r : Int) := by
  unfold signed; simp

theorem number_of (b : Nat) (h : rung b < inf) : ∃ m i, double.read b = .number (neg b) m (double.leastPlace + (i : Nat)) ∧ m <<< i = mag (rung b) := by
  rw [read_eq]
  by_cases h1 : rung b < 2 ^ 52
  · rw [if_pos h1]
    exact ⟨rung b, 0, by simp, by simp [mag, h1]⟩
  · rw [if_neg h1, if_pos h]
    exact ⟨_, _, rfl, by unfold mag; rw [if_neg h1]⟩

theorem cmp_mag (s t : Bool) (a b : Nat) : compare (if s then -(mag a : Int) else (mag a : Int)) (if t then -(mag b : Int) else (mag b : Int)) = compare (if s then -(a : Int) else (a : Int)) (if t then -(b : Int) else (b : Int)) := by
  have h1 := @mag_lt_iff a b
  have h2 := @mag_lt_iff b a
  have h3 := @mag_lt_iff 0 a
  have h4 := @mag_lt_iff 0 b
  have h5 := @mag_inj a b
  rw [mag_zero] at h3 h4
  simp only [compare, compareOfLessAndEq]
  have h6 : a = b → mag a = mag b := fun e => by rw [e]
  generalize mag a = x at *
  generalize mag b = y at *
  cases s <;> cases t <;> simp only [Bool.false_eq_true, if_true, if_false] <;> (repeat' split) <;> first | rfl | (exfalso; omega)

theorem cmp_of_lt {x y : Int} (h : x < y) : compare x y = .lt := by simp [compare, compareOfLessAndEq, h]
theorem cmp_of_gt {x y : Int} (h : y < x) : compare x y = .gt := by
  have h1 : ¬ x < y := by omega
  have h2 : ¬ x = y := by omega
  simp [compare, compareOfLessAndEq, h1, h2]
theorem sk_inf {b : Nat} (h : rung b = inf) : sk b = if neg b then -(inf : Int) else (inf : Int) := by unfold sk; rw [h]
theorem sk_bd {b : Nat} (h : rung b < inf) : -(inf : Int) < sk b ∧ sk b < (inf : Int) := by
  unfold sk; split <;> omega

/-- HOW TWO WORDS THAT ARE NUMBERS COMPARE. -/
theorem order_sk (a b : Nat) (ha : nan a = false) (hb : nan b = false) : double.order a b = some (compare (sk a) (sk b)) := by
  have ha' : rung a ≤ inf := by simpa [nan] using ha
  have hb' : rung b ≤ inf := by simpa [nan] using hb
  unfold Format.order
  have hI : ¬ inf < 2 ^ 52 := by decide
  have hIp : 0 < inf := by decide
  by_cases h1 : rung a < inf
  · obtain ⟨m, i, e1, e2⟩ := number_of a h1
    by_cases h2 : rung b < inf
    · obtain ⟨n, j, e3, e4⟩ := number_of b h2
      rw [e1, e3, order_fin, e2, e4, signed_mag, signed_mag, cmp_mag]; rfl
    · have e : rung b = inf := by omega
      have : double.read b = .infinity (neg b) := by
        rw [read_eq, if_neg (by omega), if_neg h2, if_pos e]
      rw [e1, this, sk_inf e]
      have hd := sk_bd h1
      simp only [Datum.order]
      cases neg b
      · rw [if_neg (by decide), if_neg (by decide), cmp_of_lt hd.2]
      · rw [if_pos rfl, if_pos rfl, cmp_of_gt hd.1]
  · have e : rung a = inf := by omega
    have e1 : double.read a = .infinity (neg a) := by
      rw [read_eq, if_neg (by omega), if_neg h1, if_pos e]
    by_cases h2 : rung b < inf
    · obtain ⟨n, j, e3, e4⟩ := number_of b h2
      rw [e1, e3, sk_inf e]
      have hd := sk_bd h2
      simp only [Datum.order]
      cases neg a
      · rw [if_neg (by decide), if_neg (by decide), cmp_of_gt hd.2]
      · rw [if_pos rfl, if_pos rfl, cmp_of_lt hd.1]
    · have e' : rung b = inf := by omega
      have : double.read b = .infinity (neg b) := by
        rw [read_eq, if_neg (by omega), if_neg h2, if_pos e']
      rw [e1, this]
      simp only [Datum.order, sk, e, e', compare, compareOfLessAndEq]
      cases neg b <;> cases neg a <;> decide

theorem read_nan (b : Nat) (h : nan b = true) : double.read b = .nan (neg b) (rung b - inf) := by
  have h' : inf < rung b := by simpa [nan] using h
  have hI : ¬ inf < 2 ^ 52 := by decide
  rw [read_eq, if_neg (by omega), if_neg (by omega), if_neg (by omega)]

theorem order_nan_l (a b : Nat) (h : nan a = true) : double.order a b = none := by
  unfold Format.order; rw [read_nan a h]; rfl
theorem order_nan_r (a b : Nat) (h : nan b = true) : double.order a b = none := by
  unfold Format.order; rw [read_nan b h]; cases double.read a <;> rfl

theorem eq_self (b : Nat) : (double.order b b == some .eq) = !nan b := by
  cases h : nan b with
  | true => rw [order_nan_l b b h]; rfl
  | false => rw [order_sk b b h h]; simp [compare, compareOfLessAndEq]

theorem cmp_lt (x y : Int) : (some (compare x y) == some Ordering.lt) = decide (x < y) := by
  by_cases h : x < y
  · rw [cmp_of_lt h]; simp [h]
  · by_cases h2 : x = y
    · subst h2; simp
    · rw [cmp_of_gt (by omega)]; simp; omega
theorem cmp_eq (x y : Int) : (some (compare x y) == some Ordering.eq) = decide (x = y) := by
  by_cases h : x < y
  · rw [cmp_of_lt h]; simp; omega
  · by_cases h2 : x = y
    · subst h2; simp
    · rw [cmp_of_gt (by omega)]; simp; omega
theorem cmp_gt (x y : Int) : (some (compare x y) == some Ordering.gt) = decide (y < x) := by
  by_cases h : x < y
  · rw [cmp_of_lt h]; simp; omega
  · by_cases h2 : x = y
    · subst h2; simp
    · rw [cmp_of_gt (by omega)]; simp; omega

def lt (a b : Nat) : Bool := !nan a && !nan b && decide (sk a < sk b)
def eq (a b : Nat) : Bool := !nan a && !nan b && decide (sk a = sk b)
theorem order_lt (a b : Nat) : (double.order a b == some .lt) = lt a b := by
  unfold lt
  cases ha : nan a with
  | true => rw [order_nan_l a b ha]; rfl
  | false => cases hb : nan b with
    | true => rw [order_nan_r a b hb]; rfl
    | false => rw [order_sk a b ha hb, cmp_lt]; simp
theorem order_gt (a b : Nat) : (double.order a b == some .gt) = lt b a := by
  unfold lt
  cases ha : nan a with
  | true => rw [order_nan_l a b ha]; simp
  | false => cases hb : nan b with
    | true => rw [order_nan_r a b hb]; rfl
    | false => rw [order_sk a b ha hb, cmp_gt]; simp
theorem order_eq (a b : Nat) : (double.order a b == some .eq) = eq a b := by
  unfold eq
  cases ha : nan a with
  | true => rw [order_nan_l a b ha]; rfl
  | false => cases hb : nan b with
    | true => rw [order_nan_r a b hb]; rfl
    | false => rw [order_sk a b ha hb, cmp_eq]; simp
end Go.Proofs.YtnccpddjdgndcaaGreatDoor.Flt
