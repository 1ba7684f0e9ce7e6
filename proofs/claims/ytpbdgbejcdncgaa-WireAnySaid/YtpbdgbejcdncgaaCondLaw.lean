/- PLAIN LAWS OF VALUES AND CONDITIONS. No program in sight. -/
import Derived.Test.YtpbdgbejcdncgaaValFn
namespace Go.Proofs.Ytpbdgbejcdncgaa.Val
open Flt
theorem bytes_self (t : List UInt8) : Lib.compareBytes t t = 0 := by
  induction t with
  | nil => rfl
  | cons c t ih => simp [Lib.compareBytes, ih]
theorem lt_self (x : Nat) : Flt.lt x x = false := by simp [Flt.lt]
theorem cmp_self (v : V) : cmp v v = 0 := by
  unfold cmp sgn
  rw [lt_self, bytes_self]
  cases v.yes <;> simp
theorem pre_self (t : List UInt8) : pre t t = true := by
  unfold pre Lib.hasPrefix; rw [List.isPrefixOf_iff_prefix]; exact List.prefix_refl t
theorem cmp1_self (v : V) : cmp1 v v = 0 := by unfold cmp1; rw [cmp_self]; simp
/-- what Holds answers of a value and its own -/
def sideB (op : Int) (void text : Bool) : Bool := if op == 0 || op == 3 || op == 5 then !void else if op == 6 then text && !void else op == 7
theorem side_eq (nm : List UInt8) (op : Int) (v : V) : holdsB ⟨nm, op, v⟩ v = sideB op (voidB v) (v.kind == 2) := by
  have e : cmpOk v v = !voidB v := by unfold cmpOk; cases voidB v <;> simp
  unfold holdsB sideB
  simp only [cmp1_self, pre_self, e]
  by_cases h7 : op = 7
  · subst h7; rfl
  by_cases h6 : op = 6
  · subst h6; cases voidB v <;> simp
  by_cases h0 : op = 0
  · subst h0; simp
  by_cases h1 : op = 1
  · subst h1; simp
  by_cases h2 : op = 2
  · subst h2; simp
  by_cases h3 : op = 3
  · subst h3; simp
  by_cases h4 : op = 4
  · subst h4; simp
  by_cases h5 : op = 5
  · subst h5; simp
  simp [h0, h1, h2, h3, h4, h5, h6, h7]
end Go.Proofs.Ytpbdgbejcdncgaa.Val
