/- THE WALKS OF package value and cond: Right, Holds, Word. -/
import Derived.Test.YtpbdgbejcdncgaaVal
namespace Go.Proofs.Ytpbdgbejcdncgaa.Val
open Go.RowKit Flt
theorem right_ways (k : Int) (n : Nat) : (k < 0) ∨ (0 ≤ k ∧ 3 < k) ∨ (0 ≤ k ∧ k ≤ 3 ∧ n ≤ 40) ∨ (0 ≤ k ∧ k ≤ 3 ∧ 40 < n) := by omega
set_option maxHeartbeats 400000 in
theorem vright_any (k n : Int) (x : Nat) (t : List UInt8) (y : Bool) (w : World) (ht : t.length ≤ 140737488351232) :
    Calls Try.prog 41 #[val k n x t y] w fun e w' => e = .returned (.bool (vRight ⟨k, n, x, t, y⟩)) ∧ Below w.heap.size w w' := by
  have hr : vRight ⟨k, n, x, t, y⟩ = (decide (0 ≤ k) && decide (k ≤ 3) && decide (t.length ≤ 40)) := rfl
  have HR := Lib.hid hr; clear hr
  rcases right_ways k t.length with h1 | ⟨h1, h2⟩ | ⟨h1, h2, h3⟩ | ⟨h1, h2, h3⟩
  all_goals
    go_enter Try.func41, Try.ntmps41
    go_wp2
    go_ret
    exact ⟨ret_bool (by rw [HR.out, Bool.eq_iff_iff]; simp; omega), balloc _ _⟩
/-- a condition as the walk has it -/
abbrev cond (nm : List UInt8) (op k n : Int) (x : Nat) (t : List UInt8) (y : Bool) : Value := .agg #[.string ⟨nm.toArray⟩, .int .i64 op, .int .i64 k, .int .i64 n, .float .f64 x, .string ⟨t.toArray⟩, .bool y]
/-- which way Holds goes: ok, and the six ops -/
theorem op_ways (op : Int) : (op == 7) = true ∨ ((op == 7) = false ∧ (op == 6) = true) ∨ ((op == 7) = false ∧ (op == 6) = false ∧ (op == 0) = true) ∨ ((op == 7) = false ∧ (op == 6) = false ∧ (op == 0) = false ∧ (op == 1) = true) ∨
    ((op == 7) = false ∧ (op == 6) = false ∧ (op == 0) = false ∧ (op == 1) = false ∧ (op == 2) = true) ∨ ((op == 7) = false ∧ (op == 6) = false ∧ (op == 0) = false ∧ (op == 1) = false ∧ (op == 2) = false ∧ (op == 3) = true) ∨
    ((op == 7) = false ∧ (op == 6) = false ∧ (op == 0) = false ∧ (op == 1) = false ∧ (op == 2) = false ∧ (op == 3) = false ∧ (op == 4) = true) ∨
    ((op == 7) = false ∧ (op == 6) = false ∧ (op == 0) = false ∧ (op == 1) = false ∧ (op == 2) = false ∧ (op == 3) = false ∧ (op == 4) = false ∧ (op == 5) = true) ∨
    ((op == 7) = false ∧ (op == 6) = false ∧ (op == 0) = false ∧ (op == 1) = false ∧ (op == 2) = false ∧ (op == 3) = false ∧ (op == 4) = false ∧ (op == 5) = false) := by
  cases h7 : (op == 7) <;> cases h6 : (op == 6) <;> cases h0 : (op == 0) <;> cases h1 : (op == 1) <;> cases h2 : (op == 2) <;> cases h3 : (op == 3) <;> cases h4 : (op == 4) <;> cases h5 : (op == 5) <;> simp
/-- the table of words -/
def wordL (i : Nat) : List UInt8 := ([[61], [33, 61], [60], [60, 61], [62], [62, 61], [94], [104, 97, 115]] : List (List UInt8)).getD i []
def wordB (op : Int) : List UInt8 := if op < 0 ∨ 7 < op then [] else wordL op.toNat
theorem ret_str {a b : List UInt8} (h : a = b) : Ending.returned (.string ⟨a.toArray⟩) = .returned (.string ⟨b.toArray⟩) := by rw [h]
end Go.Proofs.Ytpbdgbejcdncgaa.Val
