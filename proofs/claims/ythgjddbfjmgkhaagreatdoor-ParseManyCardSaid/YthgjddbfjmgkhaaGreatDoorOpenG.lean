/- OPENING THE ARGUMENTS OF THE PROGRAM's OWN TYPES: values, conditions. -/
import Derived.Test.YthgjddbfjmgkhaaGreatDoorRows
import Derived.Test.YthgjddbfjmgkhaaGreatDoorOpen
namespace Go.Proofs.YthgjddbfjmgkhaaGreatDoor.Open
open Go.ChangeShapes Go.WideShapes Go.ChangeAt Go.RowKit Go.Deep
/-- a value as the walk has it -/
abbrev vcells (k n : Int) (x : Nat) (t : List UInt8) (y : Bool) : List Value := [.int .i64 k, .int .i64 n, .float .f64 x, .string ⟨t.toArray⟩, .bool y]
theorem i64_bd {n : Int} (h : (Lit.int .i64 n).wf = true) : -9223372036854775808 ≤ n ∧ n ≤ 9223372036854775807 := by
  simpa [Lit.wf, IntKind.min, IntKind.max, IntKind.signed, IntKind.bits] using h
theorem f64_bd {b : Nat} (h : (Lit.float .f64 b).wf = true) : b < 18446744073709551616 := by simpa [Lit.wf] using h
/-- what is known of a value's fields -/
def ValOk (k n : Int) (x : Nat) (t : List UInt8) : Prop := (-9223372036854775808 ≤ k ∧ k ≤ 9223372036854775807) ∧ (-9223372036854775808 ≤ n ∧ n ≤ 9223372036854775807) ∧ x < 18446744073709551616 ∧ t.length ≤ 140737488351232
section
variable {H : Type} {enc : TypeId × Value → H} {w : World} {base : Nat} {spare : Nat → Bool} {held : Bool}
theorem val_leaves : leaves Tryz.prog 3 35 = [3, 2, 33, 9, 4] := by kernel_rfl
theorem val_packed : packed Tryz.prog 3 35 = true := by kernel_rfl
theorem val_cells {W : List Nat} (hr : ∀ k ∈ W, k ≤ 140737488351232) {vs : List Value} {ts : List TypeId} (h : Cells enc Tryz.prog w base spare held W ([3, 2, 33, 9, 4] ++ ts) vs) :
    ∃ k n x t y us, vs = vcells k n x t y ++ us ∧ ValOk k n x t ∧ Cells enc Tryz.prog w base spare held W ts us := by
  obtain ⟨v0, u0, rfl, h0, r0⟩ := h.cons
  obtain ⟨v1, u1, rfl, h1, r1⟩ := r0.cons
  obtain ⟨v2, u2, rfl, h2, r2⟩ := r1.cons
  obtain ⟨v3, u3, rfl, h3, r3⟩ := r2.cons
  obtain ⟨v4, u4, rfl, h4, r4⟩ := r3.cons
  obtain ⟨k, rfl, w0⟩ := h0.int Tryz.underlying3
  obtain ⟨n, rfl, w1⟩ := h1.int Tryz.underlying2
  obtain ⟨x, rfl, w2⟩ := h2.float Tryz.underlying33
  obtain ⟨t, rfl, w3⟩ := h3.string Tryz.underlying9
  obtain ⟨y, rfl⟩ := h4.bool Tryz.underlying4
  exact ⟨k, n, x, t, y, u4, rfl, ⟨i64_bd w0, i64_bd w1, f64_bd w2, hr _ w3⟩, r4⟩
set_option maxRecDepth 100000 in
theorem open_val {r : Reach} {b0 : Nat} {v : Value} {d : DataW H} {p : List MemPlace} (hv : Value.okWide Tryz.prog w r b0 35 v) (h : DataW.Trod enc Tryz.prog w base spare held 35 v d p)
    (hr : ∀ k ∈ DataW.weights Tryz.prog 35 d, k ≤ 140737488351232) : ∃ k n x t y, v = .agg (vcells k n x t y).toArray ∧ ValOk k n x t := by
  obtain ⟨cs, rfl, hc⟩ := arg_cells 3 Tryz.underlying35 val_packed hv h
  rw [val_leaves] at hc
  obtain ⟨k, n, x, t, y, us, e, ok, hn⟩ := val_cells hr (ts := []) hc
  rw [hn.nil, List.append_nil] at e
  exact ⟨k, n, x, t, y, by rw [← e], ok⟩
theorem cond_leaves : leaves Tryz.prog 3 37 = [9, 3, 3, 2, 33, 9, 4] := by kernel_rfl
theorem cond_packed : packed Tryz.prog 3 37 = true := by kernel_rfl
def CondOk (nm : List UInt8) (op : Int) (k n : Int) (x : Nat) (t : List UInt8) : Prop := nm.length ≤ 140737488351232 ∧ (-9223372036854775808 ≤ op ∧ op ≤ 9223372036854775807) ∧ ValOk k n x t
theorem cond_cells {W : List Nat} (hr : ∀ k ∈ W, k ≤ 140737488351232) {vs : List Value} {ts : List TypeId} (h : Cells enc Tryz.prog w base spare held W ([9, 3, 3, 2, 33, 9, 4] ++ ts) vs) :
    ∃ nm op k n x t y us, vs = (.string ⟨nm.toArray⟩ :: .int .i64 op :: vcells k n x t y) ++ us ∧ CondOk nm op k n x t ∧ Cells enc Tryz.prog w base spare held W ts us := by
  obtain ⟨v0, u0, rfl, h0, r0⟩ := h.cons
  obtain ⟨v1, u1, rfl, h1, r1⟩ := r0.cons
  obtain ⟨nm, rfl, w0⟩ := h0.string Tryz.underlying9
  obtain ⟨op, rfl, w1⟩ := h1.int Tryz.underlying3
  obtain ⟨k, n, x, t, y, us, rfl, ok, hn⟩ := val_cells hr r1
  exact ⟨nm, op, k, n, x, t, y, us, rfl, ⟨hr _ w0, i64_bd w1, ok⟩, hn⟩
set_option maxRecDepth 100000 in
theorem open_cond {r : Reach} {b0 : Nat} {v : Value} {d : DataW H} {p : List MemPlace} (hv : Value.okWide Tryz.prog w r b0 37 v) (h : DataW.Trod enc Tryz.prog w base spare held 37 v d p)
    (hr : ∀ k ∈ DataW.weights Tryz.prog 37 d, k ≤ 140737488351232) : ∃ nm op k n x t y, v = .agg (.string ⟨nm.toArray⟩ :: .int .i64 op :: vcells k n x t y).toArray ∧ CondOk nm op k n x t := by
  obtain ⟨cs, rfl, hc⟩ := arg_cells 3 Tryz.underlying37 cond_packed hv h
  rw [cond_leaves] at hc
  obtain ⟨nm, op, k, n, x, t, y, us, e, ok, hn⟩ := cond_cells hr (ts := []) hc
  rw [hn.nil, List.append_nil] at e
  exact ⟨nm, op, k, n, x, t, y, by rw [← e], ok⟩
end
end Go.Proofs.YthgjddbfjmgkhaaGreatDoor.Open
