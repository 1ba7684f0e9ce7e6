/- THE PLAIN LAW OF CondNumbers: of comparisons with whole numbers 0..7 one implies another one just if it does among the halves from -1 to 9. -/
import Derived.Test.YtjddkbgnndefaaaGreatDoorImplFn
import Derived.Laws.Cover2
import Derived.WalkKit
namespace Go.Proofs.YtjddkbgnndefaaaGreatDoor.Val
open Flt
def fnum (n : Int) : Nat := floatOfInt .f64 n
def vnum (k : Nat) : Nat := (FloatKind.f64.format.div (fnum ((k : Int) - 2)) 4611686018427387904).getD 0
def numC (p : Nat) (b : Nat) : C := ⟨[97], p, 1, 0, b, [], false⟩
def numV (b : Nat) : V := ⟨1, 0, b, [], false⟩
theorem fnum_table : (List.range 8).map (fun i : Nat => fnum (i : Int)) = [0, 4607182418800017408, 4611686018427387904, 4613937818241073152, 4616189618054758400, 4617315517961601024, 4618441417868443648, 4619567317775286272] := by decide +kernel
theorem vnum_ok : ((List.range 21).all fun k : Nat => FloatKind.f64.format.div (fnum ((k : Int) - 2)) 4611686018427387904 == some (vnum k)) = true := by decide +kernel
def numB (a b p q : Nat) : Bool := impliesB (numC p a) (numC q b) == (List.range 21).all fun k => !holdsB (numC p a) (numV (vnum k)) || holdsB (numC q b) (numV (vnum k))
theorem num_law : ((List.range 8).all fun a => (List.range 8).all fun b => (List.range 6).all fun p => (List.range 6).all fun q => numB (fnum (a : Nat)) (fnum (b : Nat)) p q) = true := by decide +kernel
theorem num_at (a b p q : Nat) (ha : a < 8) (hb : b < 8) (hp : p < 6) (hq : q < 6) : impliesB (numC p (fnum (a : Nat))) (numC q (fnum (b : Nat))) = (List.range 21).all fun k => !holdsB (numC p (fnum (a : Nat))) (numV (vnum k)) || holdsB (numC q (fnum (b : Nat))) (numV (vnum k)) := by
  have h := List.all_eq_true.1 num_law a (List.mem_range.2 ha)
  have h := List.all_eq_true.1 h b (List.mem_range.2 hb)
  have h := List.all_eq_true.1 h p (List.mem_range.2 hp)
  have h := List.all_eq_true.1 h q (List.mem_range.2 hq)
  exact beq_iff_eq.1 h
theorem vnum_at (k : Nat) (hk : k < 21) : FloatKind.f64.format.div (fnum ((k : Int) - 2)) 4611686018427387904 = some (vnum k) :=
  beq_iff_eq.1 (List.all_eq_true.1 vnum_ok k (List.mem_range.2 hk))
theorem fnum_all : ((List.range 8).all fun i : Nat => decide (fnum (i : Int) < 18446744073709551616)) = true := by decide +kernel
theorem fnum_lt (a : Nat) (ha : a < 8) : fnum (a : Int) < 18446744073709551616 :=
  of_decide_eq_true (List.all_eq_true.1 fnum_all a (List.mem_range.2 ha))
/-- as far as k -/
def upTo (x y : C) (k : Nat) : Bool := (List.range k).all fun k => !holdsB x (numV (vnum k)) || holdsB y (numV (vnum k))
theorem upTo_succ (x y : C) (k : Nat) : upTo x y (k + 1) = (upTo x y k && (!holdsB x (numV (vnum k)) || holdsB y (numV (vnum k)))) := by
  unfold upTo; rw [List.range_succ, List.all_append]; simp
end Go.Proofs.YtjddkbgnndefaaaGreatDoor.Val
