/- WHAT FormatFloat RECKONS ('g', the shortest, 64 bits): the scaled digits, in plain words. No walk. -/
import GoSem.PinnedTables
import Derived.Lib.ItoaNum
namespace Go.Proofs.YtnccpddjdgndcaaGreatDoor.Fmt
def bneg (b : Nat) : Bool := b / 9223372036854775808 ≠ 0
def bexp (b : Nat) : Nat := b / 4503599627370496 % 2048
def bman (b : Nat) : Nat := b % 4503599627370496
def hiT (i : Nat) : Nat := (Go.Pinned.pow10Rows.getD i (0, 0)).1
def loT (i : Nat) : Nat := (Go.Pinned.pow10Rows.getD i (0, 0)).2
def lg10 (x : Int) : Int := x * 78913 / 262144
def lg2 (x : Int) : Int := x * 108853 / 32768
def skew (x : Int) : Int := (x * 631305 - 261663) / 2097152
/-- a number scaled by a row of the table, two bits kept behind it -/
def usc (x hi lo s : Nat) : Nat :=
  if x * hi / 18446744073709551616 / 2 ^ s * 2 ^ s ≠ x * hi / 18446744073709551616 then x * hi / 18446744073709551616 / 2 ^ s ||| 1
  else
    ((x * hi / 18446744073709551616 + 18446744073709551616 - (if x * hi % 18446744073709551616 < x * lo / 18446744073709551616 then 1 else 0)) % 18446744073709551616 / 2 ^ s) |||
      (if 1 < (x * hi % 18446744073709551616 + 18446744073709551616 - x * lo / 18446744073709551616) % 18446744073709551616 then 1 else 0)
def flr (u : Nat) : Nat := u / 4
def cl (u : Nat) : Nat := (u + 3) % 18446744073709551616 / 4
def rnd (u : Nat) : Nat := ((u + 1) % 18446744073709551616 + u / 4 % 2) % 18446744073709551616 / 4
def nudge (u : Nat) (d : Int) : Nat := (((u : Int) + d) % 18446744073709551616).toNat
theorem usc_lt (x hi lo s : Nat) (hx : x < 18446744073709551616) (hh : hi < 18446744073709551616) : usc x hi lo s < 18446744073709551616 := by
  have h1 : x * hi / 18446744073709551616 < 18446744073709551616 := by
    rw [Nat.div_lt_iff_lt_mul (by decide)]
    exact Nat.mul_lt_mul'' hx hh
  have h2 : ∀ y : Nat, y < 18446744073709551616 → y / 2 ^ s < 2 ^ 64 := fun y hy => Nat.lt_of_le_of_lt (Nat.div_le_self _ _) hy
  unfold usc
  split
  · exact Nat.or_lt_two_pow (n := 64) (h2 _ h1) (by decide)
  · exact Nat.or_lt_two_pow (n := 64) (h2 _ (Nat.mod_lt _ (by decide))) (by split <;> decide)
/-- the shortest digits of m * 2^E (m left-justified) -/
def sfZ (E : Int) : Nat := if -1085 ≤ E then 11 else (-1074 - E).toNat
def sfP (m : Nat) (E : Int) : Int := if m = 9223372036854775808 ∧ -1085 < E then -skew (E + 11) else if -1085 ≤ E then -lg10 (E + 11) else -lg10 (-1074)
def sfMin (m : Nat) (E : Int) : Nat := if m = 9223372036854775808 ∧ -1085 < E then m - 512 else m - 2 ^ (sfZ E - 1)
def sfMax (m : Nat) (E : Int) : Nat := m + 2 ^ (sfZ E - 1)
def sfOdd (m : Nat) (E : Int) : Nat := m / 2 ^ sfZ E % 2
def sfI (m : Nat) (E : Int) : Nat := (sfP m E + 348).toNat
def sfS (m : Nat) (E : Int) : Nat := (-(E + lg2 (sfP m E) + 3)).toNat
def sfU (m : Nat) (E : Int) (x : Nat) : Nat := usc x (hiT (sfI m E)) (loT (sfI m E)) (sfS m E)
def sfLo (m : Nat) (E : Int) : Nat := cl (nudge (sfU m E (sfMin m E)) (sfOdd m E))
def sfHi (m : Nat) (E : Int) : Nat := flr (nudge (sfU m E (sfMax m E)) (-(sfOdd m E : Int)))
def short (m : Nat) (E : Int) : Nat × Int :=
  if sfLo m E ≤ sfHi m E / 10 * 10 then (sfHi m E / 10, -(sfP m E - 1))
  else if sfLo m E < sfHi m E then (rnd (sfU m E m), -sfP m E)
  else (sfLo m E, -sfP m E)
end Go.Proofs.YtnccpddjdgndcaaGreatDoor.Fmt
