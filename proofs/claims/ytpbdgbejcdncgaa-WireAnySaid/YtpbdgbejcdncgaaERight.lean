/- THE WALKS OF event.kept and event.Right. -/
import Derived.Test.YtpbdgbejcdncgaaLight03
import Derived.Test.YtpbdgbejcdncgaaCondVoid
import Derived.Laws.StructEq
namespace Go.Proofs.Ytpbdgbejcdncgaa.Val
open Go.RowKit Flt
attribute [local go_sem] run_store_flt Ord.ford_eq
theorem run_equalIn_flt {P : Program} (w : World) (d : Nat) (t : TypeId) (a b : Nat) (h : P.underlying t = some (.float .f64)) : (Op.equalIn (d + 1) t (.float .f64 a) (.float .f64 b)).run P w = .ok (Flt.eq a b) w := by
  simp [Op.equalIn, run_underlying h, Op.floatEq, Ord.ford_eq]
theorem eqF (a b : Nat) (w : World) : (Op.equalIn 9999 68 (.float .f64 a) (.float .f64 b)).run Try.prog w = .ok (Flt.eq a b) w := run_equalIn_flt w 9998 _ a b Try.underlying68
def eqV (a b : V) : Bool := a.kind == b.kind && a.int == b.int && Flt.eq a.num b.num && a.text == b.text && a.yes == b.yes
set_option maxRecDepth 20000 in
theorem eq_val (k n : Int) (x : Nat) (t : List UInt8) (y : Bool) (k2 n2 : Int) (x2 : Nat) (t2 : List UInt8) (y2 : Bool) (w : World) :
    (Op.equalIn 10000 70 (val k n x t y) (val k2 n2 x2 t2 y2)).run Try.prog w = .ok (eqV ⟨k, n, x, t, y⟩ ⟨k2, n2, x2, t2, y2⟩) w := by
  have hS : Try.prog.underlying 70 = some (.struct (Try.prog.fieldsOf 70)) := by kernel_rfl
  have hp : Try.prog.stoodInHeld 70 = false := by kernel_rfl
  have hf := eqF x x2
  rw [show (10000 : Nat) = 9999 + 1 from rfl, run_equalIn_agg w 9999 70 _ _ hS hp]
  simp only [Program.fieldsOf, Try.underlying70]
  unfold eqV
  cases h1 : (k == k2)
  · go_simp
  cases h2 : (n == n2)
  · go_simp
  cases h3 : Flt.eq x x2
  · rw [h3] at hf; go_simp
  rw [h3] at hf
  cases h4 : (t == t2)
  · go_simp
  cases h5 : (y == y2)
  · go_simp
  · go_simp
def keptB (v : V) : Bool := if voidB v then eqV ⟨(canonV v).kind, (canonV v).int, 0, (canonV v).text, (canonV v).yes⟩ ⟨v.kind, v.int, 0, v.text, v.yes⟩ else eqV (canonV v) v
attribute [local go_sem] eqF
set_option maxRecDepth 20000 in
theorem kept_any (k n : Int) (x : Nat) (t : List UInt8) (y : Bool) (w : World) :
    Calls Try.prog 45 #[val k n x t y] w fun e w' => e = .returned (.bool (keptB ⟨k, n, x, t, y⟩)) ∧ Below w.heap.size w w' := by
  have hv (w : World) := void_any k n x t y w
  have hc (w : World) := vcanon_any k n x t y w
  have hr : keptB ⟨k, n, x, t, y⟩ = if voidB ⟨k, n, x, t, y⟩ then eqV ⟨(canonV ⟨k, n, x, t, y⟩).kind, (canonV ⟨k, n, x, t, y⟩).int, 0, (canonV ⟨k, n, x, t, y⟩).text, (canonV ⟨k, n, x, t, y⟩).yes⟩ ⟨k, n, 0, t, y⟩ else eqV (canonV ⟨k, n, x, t, y⟩) ⟨k, n, x, t, y⟩ := rfl
  generalize voidB ⟨k, n, x, t, y⟩ = vb at *
  generalize canonV ⟨k, n, x, t, y⟩ = cv at *
  obtain ⟨k2, n2, x2, t2, y2⟩ := cv
  have HV := Lib.hid hv; have HC := Lib.hid hc; have HR := Lib.hid hr; clear hv hc hr
  cases vb
  all_goals
    go_enter Try.func45, Try.ntmps45
    go_wp2_with fail
    refine (HC.out _).mono ?_
    rintro e w1 ⟨rfl, hb1⟩
    obtain ⟨hc1, hf1⟩ := bcell hb1
    have hsz1 := size1 hb1
    go_wp2_with fail
    refine (HV.out _).mono ?_
    rintro e w2 ⟨rfl, hb2⟩
    obtain ⟨hc2, hf2⟩ := bcell hb2
    have hsz2 := size1 hb2
    have z1 : ¬ (w.heap.size = w1.heap.size) := by omega
    have z2 : ¬ (w1.heap.size = w.heap.size) := by omega
    have p : ∀ o, w2.cell? ⟨w.heap.size, o, none⟩ = #[.int .i64 k, .int .i64 n, .float .f64 x, .string ⟨t.toArray⟩, .bool y][o]? := fun o => (hc2 _ _ (by simp; omega)).trans ((World.cell?_alloc_past _ _ _ hsz1).trans ((hc1 _ _ (by simp)).trans (World.cell?_alloc_at _ _ _ _ rfl)))
    have q : ∀ o, w2.cell? ⟨w1.heap.size, o, none⟩ = #[.int .i64 k2, .int .i64 n2, .float .f64 x2, .string ⟨t2.toArray⟩, .bool y2][o]? := fun o => (hc2 _ _ (by simp)).trans (World.cell?_alloc_at _ _ _ _ rfl)
    have p0 := p 0; have p1 := p 1; have p2 := p 2; have p3 := p 3; have p4 := p 4
    have q0 := q 0; have q1 := q 1; have q2 := q 2; have q3 := q 3; have q4 := q 4
    have fp : w2.frozen? ⟨w.heap.size, 2, none⟩ = false := (hf2 _ _ (by simp; omega)).trans ((World.frozen?_alloc_past _ _ _ hsz1).trans ((hf1 _ _ (by simp)).trans (World.frozen?_alloc_at _ _ _ _ rfl)))
    have fq : w2.frozen? ⟨w1.heap.size, 2, none⟩ = false := (hf2 _ _ (by simp)).trans (World.frozen?_alloc_at _ _ _ _ rfl)
    have hbb : Below w.heap.size w w2 := btrans (btrans (btrans (balloc _ _) hb1) (balloc _ _)) hb2
    clear hc1 hf1 hc2 hf2 p q hb1 hb2
    go_wp2_with fail
    all_goals
      go_ret
      refine ⟨ret_bool (by rw [HR.out]; simp_all [eqV]), ?_⟩
      first | exact hbb | exact (hbb.setCell (by simp; omega) _).setCell (by simp) _
end Go.Proofs.Ytpbdgbejcdncgaa.Val
