/- THE WALKS OF package value: Void, Right, Compare. -/
import Derived.Test.YthgjddbfjmgkhaaGreatDoorOrd
import Derived.Test.YthgjddbfjmgkhaaGreatDoorValFn
import Derived.Test.YthgjddbfjmgkhaaGreatDoorShelf
import Derived.Deep.QuietTactic
import Derived.BigQuiet
namespace Go.Proofs.YthgjddbfjmgkhaaGreatDoor.Val
open Go.RowKit Flt
/-- a value as the walk has it -/
abbrev val (k n : Int) (x : Nat) (t : List UInt8) (y : Bool) : Value := .agg #[.int .i64 k, .int .i64 n, .float .f64 x, .string ⟨t.toArray⟩, .bool y]
theorem bcell {W w1 : World} (hb : Below W.heap.size W w1) : (∀ b o, b < W.heap.size → w1.cell? ⟨b, o, none⟩ = W.cell? ⟨b, o, none⟩) ∧ (∀ b o, b < W.heap.size → w1.frozen? ⟨b, o, none⟩ = W.frozen? ⟨b, o, none⟩) :=
  ⟨fun b o h => hb.cell (p := ⟨b, o, none⟩) h, fun b o h => hb.frozen (p := ⟨b, o, none⟩) h⟩
theorem balloc (w : World) (o : Obj) : Below w.heap.size w (w.alloc o) := (Below.refl _ _).alloc (Nat.le_refl _) _
theorem btrans {w a b : World} (h : Below w.heap.size w a) (k : Below a.heap.size a b) : Below w.heap.size w b := h.trans (k.mono h.size)
theorem balloc2 (w : World) (o o' : Obj) : Below w.heap.size w ((w.alloc o).alloc o') := btrans (balloc _ _) (balloc _ _)
theorem bdrewN {w a : World} (h : Below w.heap.size w a) (n : Nat) : Below w.heap.size w (a.drewN n) := h.trans ⟨rfl, rfl, rfl, Nat.le_refl _, fun _ _ => rfl⟩
theorem size2 {w w1 : World} {o o' : Obj} (hb : Below ((w.alloc o).alloc o').heap.size ((w.alloc o).alloc o') w1) : w.heap.size + 1 < w1.heap.size := by
  have := hb.size; simp at this; omega
theorem ret_bool {a b : Bool} (h : a = b) : Ending.returned (.bool a) = .returned (.bool b) := by rw [h]
/-- which way Compare goes -/
theorem cmp_ways (k1 n1 : Int) (x1 : Nat) (t1 : List UInt8) (y1 : Bool) (k2 n2 : Int) (x2 : Nat) (t2 : List UInt8) (y2 : Bool) :
    ((k1 != k2) = true ∧ cmpOk ⟨k1, n1, x1, t1, y1⟩ ⟨k2, n2, x2, t2, y2⟩ = false) ∨
    ((k1 != k2) = false ∧ voidB ⟨k1, n1, x1, t1, y1⟩ = true ∧ cmpOk ⟨k1, n1, x1, t1, y1⟩ ⟨k2, n2, x2, t2, y2⟩ = false) ∨
    ((k1 != k2) = false ∧ voidB ⟨k1, n1, x1, t1, y1⟩ = false ∧ voidB ⟨k2, n2, x2, t2, y2⟩ = true ∧ cmpOk ⟨k1, n1, x1, t1, y1⟩ ⟨k2, n2, x2, t2, y2⟩ = false) ∨
    ((k1 != k2) = false ∧ voidB ⟨k1, n1, x1, t1, y1⟩ = false ∧ voidB ⟨k2, n2, x2, t2, y2⟩ = false ∧ cmpOk ⟨k1, n1, x1, t1, y1⟩ ⟨k2, n2, x2, t2, y2⟩ = true) := by
  unfold cmpOk
  cases h1 : (k1 != k2) <;> cases h2 : voidB ⟨k1, n1, x1, t1, y1⟩ <;> cases h3 : voidB ⟨k2, n2, x2, t2, y2⟩ <;> simp_all
end Go.Proofs.YthgjddbfjmgkhaaGreatDoor.Val
