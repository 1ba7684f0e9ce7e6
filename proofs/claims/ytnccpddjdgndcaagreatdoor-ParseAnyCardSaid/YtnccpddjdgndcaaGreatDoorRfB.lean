/- THE WALK OF strconv.readFloat AT ANY TEXT. -/
import Derived.Test.YtnccpddjdgndcaaGreatDoorUok
import Derived.Handy
import Derived.WalkMore
import Derived.Deep.DeepCutAuto
import Derived.Deep.CutBlock
import Derived.Deep.CutRange
import Derived.Deep.LoopGhost
import Derived.Deep.QuietTactic
import Derived.Lib.Hide
namespace Go.Proofs.YtnccpddjdgndcaaGreatDoor.Pf
open Go.RowKit
theorem go_some (hex : Bool) (l : List UInt8) (r : RS) (c : UInt8) (r2 : RS) (h : rfStep hex (c.toNat : Int) r = some r2) : rfGo hex (c :: l) r = rfGo hex l r2 := by rw [rfGo, h]
theorem go_none (hex : Bool) (l : List UInt8) (r : RS) (c : UInt8) (h : rfStep hex (c.toNat : Int) r = none) : rfGo hex (c :: l) r = (r, c :: l) := by rw [rfGo, h]
/-- the state's bounds -/
def RB (r : RS) (k : Nat) : Prop := 0 ≤ r.nd ∧ r.nd ≤ (k : Int) ∧ 0 ≤ r.ndm ∧ r.ndm ≤ (k : Int) ∧ -(k : Int) ≤ r.dp ∧ r.dp ≤ (k : Int) ∧ 0 ≤ r.m ∧ r.m < 18446744073709551616
theorem wrap_u64_bd (n : Int) : 0 ≤ IntKind.u64.wrap n ∧ IntKind.u64.wrap n < 18446744073709551616 := by rw [IntKind.wrap_u64]; omega
/-- the four ways behind the digits -/
theorem rfEnd_of (hex : Bool) (r : RS) (l : List UInt8) :
    (r.dig = false → rfEnd hex (r, l) = none) ∧
    (r.dig = true → isX hex l = false → hex = false → rfEnd hex (r, l) = some ⟨r.m, if r.m = 0 then 0 else (if r.dot then r.dp else r.nd) - r.ndm, r.tr, r.us, l⟩) ∧
    (r.dig = true → isX hex l = false → hex = true → rfEnd hex (r, l) = none) ∧
    (r.dig = true → isX hex l = true → exAll (l.drop 1) r.us = none → rfEnd hex (r, l) = none) ∧
    (∀ e us q, r.dig = true → isX hex l = true → exAll (l.drop 1) r.us = some (e, us, q) → rfEnd hex (r, l) = some ⟨r.m, if r.m = 0 then 0 else (if r.dot then r.dp else r.nd) * (if hex then 4 else 1) + e - r.ndm * (if hex then 4 else 1), r.tr, us, q⟩) := by
  unfold rfEnd
  refine ⟨fun h => ?_, fun h h2 h3 => ?_, fun h h2 h3 => ?_, fun h h2 h3 => ?_, fun e us q h h2 h3 => ?_⟩
  · simp only; rw [if_pos h]
  · subst h3
    simp only [h, h2, Bool.false_eq_true, if_false, Bool.true_eq_false, Int.mul_one]
  · subst h3
    simp only [h, h2, Bool.false_eq_true, if_false, if_true, Bool.true_eq_false]
  · simp only
    rw [if_neg (by rw [h]; decide), if_pos h2, h3]
  · simp only
    rw [if_neg (by rw [h]; decide), if_pos h2, h3]
/-- what readFloat answers -/
def RfP (s : ByteArray) (ng hex : Bool) (o : Option RO) (e : Ending) : Prop :=
  ∃ (m x : Int) (tr : Bool) (n : Int) (ok : Bool), e = .returned (.tuple #[.int .u64 m, .int .i64 x, .bool ng, .bool tr, .bool hex, .int .i64 n, .bool ok]) ∧ 0 ≤ n ∧ n ≤ s.size ∧ 0 ≤ m ∧ m < 18446744073709551616 ∧ -9000000 ≤ x ∧ x ≤ 9000000 ∧
    (o = none → ok = false) ∧ ∀ r, o = some r → (r.us = false → ok = true) ∧ m = r.m ∧ x = r.e ∧ tr = r.tr ∧ n + (r.rest.length : Int) = s.size
def sgP (l : List UInt8) : Bool × Nat := match l with
  | [] => (false, 0)
  | c :: _ => if (c.toNat : Int) = 43 then (false, 1) else if (c.toNat : Int) = 45 then (true, 1) else (false, 0)
def hexP (l : List UInt8) (i : Nat) : Bool := decide (i + 2 < l.length) && (((l.getD i 0).toNat : Int) == 48 && low ((l.getD (i + 1) 0).toNat : Int) == 120)
theorem low_bd : ∀ c : Nat, c < 256 → 0 ≤ low (c : Int) ∧ low (c : Int) < 256 := by decide +kernel
end Go.Proofs.YtnccpddjdgndcaaGreatDoor.Pf
