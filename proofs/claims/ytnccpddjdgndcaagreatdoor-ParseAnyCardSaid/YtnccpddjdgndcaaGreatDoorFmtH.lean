/- THE SHORTEST DIGITS TELL NUMBERS APART: what is reckoned binade by binade. No walk. -/
import Derived.Test.YtnccpddjdgndcaaGreatDoorFmtFn
namespace Go.Proofs.YtnccpddjdgndcaaGreatDoor.Fmt
/-- a decimal as a whole number of the smallest unit -/
def vN (x : Nat × Int) : Nat := x.1 * 10 ^ (x.2 + 400).toNat
def pN (E : Int) : Int := if -1085 ≤ E then -lg10 (E + 11) else -lg10 (-1074)
def iN (E : Int) : Nat := (pN E + 348).toNat
def sN (E : Int) : Nat := (-(E + lg2 (pN E) + 3)).toNat
def okE (E : Int) : Bool := decide (iN E < 696) && decide (1 ≤ sN E) && decide (sN E ≤ 58) && decide (1 ≤ sfZ E) && decide (sfZ E ≤ 63) &&
  (decide (2 * 2 ^ (sfZ E - 1) * loT (iN E) / 18446744073709551616 + 1 + (18446744073709551616 * 2 ^ sN E * 4 + 2) ≤ 2 * 2 ^ (sfZ E - 1) * hiT (iN E)) || decide (E = -11))
set_option maxRecDepth 100000 in
theorem okE_norm : ∀ e : Nat, e < 2046 → okE ((e : Int) - 1085) = true := by decide +kernel
set_option maxRecDepth 100000 in
theorem okE_sub : ∀ z : Nat, z < 52 → okE (-1074 - ((z : Int) + 12)) = true := by decide +kernel
theorem row_one : hiT (iN (-11)) = 9223372036854775808 ∧ loT (iN (-11)) = 0 ∧ sN (-11) = 8 := by decide +kernel
set_option maxRecDepth 100000 in
theorem foot_step : ∀ e : Nat, e < 2045 → vN (short 9223372036854775808 ((e : Int) - 1084)) < vN (short 9223372036854777856 ((e : Int) - 1084)) := by decide +kernel
set_option maxRecDepth 100000 in
theorem head_step : ∀ e : Nat, e < 2045 → vN (short 18446744073709549568 ((e : Int) - 1085)) < vN (short 9223372036854775808 ((e : Int) - 1084)) := by decide +kernel
set_option maxRecDepth 100000 in
theorem sub_step : ∀ z : Nat, z < 52 → vN (short (18446744073709551616 - 2 ^ (z + 12)) (-1074 - ((z : Int) + 12))) < vN (short 9223372036854775808 (-1074 - ((z : Int) + 11))) := by decide +kernel
end Go.Proofs.YtnccpddjdgndcaaGreatDoor.Fmt
