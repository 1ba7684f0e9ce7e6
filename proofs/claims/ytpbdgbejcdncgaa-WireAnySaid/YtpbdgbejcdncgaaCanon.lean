/- THE WALKS OF value.Canon and cond.Canon. -/
import Derived.Test.YtpbdgbejcdncgaaCondFit
import Derived.Test.YtpbdgbejcdncgaaCondVoid
import Derived.Handy
import Derived.Laws.IdiomCopy
namespace Go.Proofs.Ytpbdgbejcdncgaa.Val
open Go.RowKit Flt
attribute [local go_sem] run_store_flt
def canonV (v : V) : V := if v.kind == 0 then ⟨0, v.int, 0, [], false⟩ else if v.kind == 1 then ⟨1, 0, Ord.canon v.num, [], false⟩ else if v.kind == 2 then ⟨2, 0, 0, v.text, false⟩ else if v.kind == 3 then ⟨3, 0, 0, [], v.yes⟩ else ⟨0, 0, 0, [], false⟩
/-- a value's own form -/
abbrev vv (v : V) : Value := val v.kind v.int v.num v.text v.yes
abbrev cc (c : C) : Value := cond c.name c.op c.val.kind c.val.int c.val.num c.val.text c.val.yes
def canonC (c : C) : C := if c.op == 7 then ⟨c.name, 7, 0, 0, 0, [], false⟩ else ⟨c.name, c.op, canonV c.val⟩
theorem kind_ways (k : Int) : (k == 0) = true ∨ ((k == 0) = false ∧ (k == 1) = true) ∨ ((k == 0) = false ∧ (k == 1) = false ∧ (k == 2) = true) ∨ ((k == 0) = false ∧ (k == 1) = false ∧ (k == 2) = false ∧ (k == 3) = true) ∨ ((k == 0) = false ∧ (k == 1) = false ∧ (k == 2) = false ∧ (k == 3) = false) := by
  cases h0 : (k == 0) <;> cases h1 : (k == 1) <;> cases h2 : (k == 2) <;> cases h3 : (k == 3) <;> simp
theorem ret_vv {a b : V} (h : a = b) : Ending.returned (vv a) = .returned (vv b) := by rw [h]
theorem ret_cc {a b : C} (h : a = b) : Ending.returned (cc a) = .returned (cc b) := by rw [h]
set_option maxHeartbeats 400000 in
theorem vcanon_any (k n : Int) (x : Nat) (t : List UInt8) (y : Bool) (w : World) :
    Calls Try.prog 42 #[val k n x t y] w fun e w' => e = .returned (vv (canonV ⟨k, n, x, t, y⟩)) ∧ Below w.heap.size w w' := by
  have hr : canonV ⟨k, n, x, t, y⟩ = if k == 0 then ⟨0, n, 0, [], false⟩ else if k == 1 then ⟨1, 0, Ord.canon x, [], false⟩ else if k == 2 then ⟨2, 0, 0, t, false⟩ else if k == 3 then ⟨3, 0, 0, [], y⟩ else ⟨0, 0, 0, [], false⟩ := rfl
  have HR := Lib.hid hr; clear hr
  rcases kind_ways k with h0 | ⟨h0, h1⟩ | ⟨h0, h1, h2⟩ | ⟨h0, h1, h2, h3⟩ | ⟨h0, h1, h2, h3⟩
  all_goals
    go_enter Try.func42, Try.ntmps42
    go_wp2_with (go_at_call 49; refine (Ord.canon_any _ _).mono ?_; rintro e w' ⟨rfl, rfl⟩)
    go_returns
    exact ⟨by rw [HR.out]; simp only [*, Bool.false_eq_true, if_false, if_true], by repeat (first | assumption | (with_reducible exact Below.refl _ _) | exact balloc _ _ | exact balloc2 _ _ _ | refine btrans ?_ (by assumption) | refine btrans ?_ (balloc _ _))⟩
theorem bdrew0 {w a : World} (h : Below w.drew.heap.size w.drew a) : Below w.heap.size w a := (bdrewN (Below.refl _ _) 1).trans h
theorem set7_far (w : World) (b b' o : Nat) (v0 v1 v2 v3 v4 v5 v6 : Value) (h : b ≠ b') : (((((((w.setCell ⟨b, 0, none⟩ v0).setCell ⟨b, 1, none⟩ v1).setCell ⟨b, 2, none⟩ v2).setCell ⟨b, 3, none⟩ v3).setCell ⟨b, 4, none⟩ v4).setCell ⟨b, 5, none⟩ v5).setCell ⟨b, 6, none⟩ v6).cell? ⟨b', o, none⟩ = w.cell? ⟨b', o, none⟩ :=
  World.cell?_setCells_out b [v0, v1, v2, v3, v4, v5, v6] 0 w ⟨b', o, none⟩ (fun h1 => absurd h1.symm h)
theorem set7_at (w : World) (b : Nat) (v0 v1 v2 v3 v4 v5 v6 : Value) (h : ∀ j, j < 7 → (w.cell? ⟨b, j, none⟩).isSome = true) :
    (((((((w.setCell ⟨b, 0, none⟩ v0).setCell ⟨b, 1, none⟩ v1).setCell ⟨b, 2, none⟩ v2).setCell ⟨b, 3, none⟩ v3).setCell ⟨b, 4, none⟩ v4).setCell ⟨b, 5, none⟩ v5).setCell ⟨b, 6, none⟩ v6).cell? ⟨b, 0, none⟩ = some v0 ∧
    (((((((w.setCell ⟨b, 0, none⟩ v0).setCell ⟨b, 1, none⟩ v1).setCell ⟨b, 2, none⟩ v2).setCell ⟨b, 3, none⟩ v3).setCell ⟨b, 4, none⟩ v4).setCell ⟨b, 5, none⟩ v5).setCell ⟨b, 6, none⟩ v6).cell? ⟨b, 1, none⟩ = some v1 ∧
    (((((((w.setCell ⟨b, 0, none⟩ v0).setCell ⟨b, 1, none⟩ v1).setCell ⟨b, 2, none⟩ v2).setCell ⟨b, 3, none⟩ v3).setCell ⟨b, 4, none⟩ v4).setCell ⟨b, 5, none⟩ v5).setCell ⟨b, 6, none⟩ v6).cell? ⟨b, 2, none⟩ = some v2 ∧
    (((((((w.setCell ⟨b, 0, none⟩ v0).setCell ⟨b, 1, none⟩ v1).setCell ⟨b, 2, none⟩ v2).setCell ⟨b, 3, none⟩ v3).setCell ⟨b, 4, none⟩ v4).setCell ⟨b, 5, none⟩ v5).setCell ⟨b, 6, none⟩ v6).cell? ⟨b, 3, none⟩ = some v3 ∧
    (((((((w.setCell ⟨b, 0, none⟩ v0).setCell ⟨b, 1, none⟩ v1).setCell ⟨b, 2, none⟩ v2).setCell ⟨b, 3, none⟩ v3).setCell ⟨b, 4, none⟩ v4).setCell ⟨b, 5, none⟩ v5).setCell ⟨b, 6, none⟩ v6).cell? ⟨b, 4, none⟩ = some v4 ∧
    (((((((w.setCell ⟨b, 0, none⟩ v0).setCell ⟨b, 1, none⟩ v1).setCell ⟨b, 2, none⟩ v2).setCell ⟨b, 3, none⟩ v3).setCell ⟨b, 4, none⟩ v4).setCell ⟨b, 5, none⟩ v5).setCell ⟨b, 6, none⟩ v6).cell? ⟨b, 5, none⟩ = some v5 ∧
    (((((((w.setCell ⟨b, 0, none⟩ v0).setCell ⟨b, 1, none⟩ v1).setCell ⟨b, 2, none⟩ v2).setCell ⟨b, 3, none⟩ v3).setCell ⟨b, 4, none⟩ v4).setCell ⟨b, 5, none⟩ v5).setCell ⟨b, 6, none⟩ v6).cell? ⟨b, 6, none⟩ = some v6 ∧
    Below b w (((((((w.setCell ⟨b, 0, none⟩ v0).setCell ⟨b, 1, none⟩ v1).setCell ⟨b, 2, none⟩ v2).setCell ⟨b, 3, none⟩ v3).setCell ⟨b, 4, none⟩ v4).setCell ⟨b, 5, none⟩ v5).setCell ⟨b, 6, none⟩ v6) := by
  have e := World.cell?_setCells_in b [v0, v1, v2, v3, v4, v5, v6] 0 w (fun j hj => by rw [Nat.zero_add]; exact h j hj)
  exact ⟨e 0 (by simp), e 1 (by simp), e 2 (by simp), e 3 (by simp), e 4 (by simp), e 5 (by simp), e 6 (by simp),
    (((((((Below.refl b w).setCell (Nat.le_refl _) _).setCell (Nat.le_refl _) _).setCell (Nat.le_refl _) _).setCell (Nat.le_refl _) _).setCell (Nat.le_refl _) _).setCell (Nat.le_refl _) _).setCell (Nat.le_refl _) _⟩
theorem canonV_kind (v : V) (h0 : 0 ≤ v.kind) (h3 : v.kind ≤ 3) : (canonV v).kind = v.kind := by
  unfold canonV
  rcases kind_ways v.kind with h | ⟨h, h1⟩ | ⟨h, h1, h2⟩ | ⟨h, h1, h2, h3⟩ | ⟨h, h1, h2, h3⟩
  · simp only [h, if_true]; exact (beq_iff_eq.1 h).symm
  · simp only [h, h1, Bool.false_eq_true, if_false, if_true]; exact (beq_iff_eq.1 h1).symm
  · simp only [h, h1, h2, Bool.false_eq_true, if_false, if_true]; exact (beq_iff_eq.1 h2).symm
  · simp only [h, h1, h2, h3, Bool.false_eq_true, if_false, if_true]; exact (beq_iff_eq.1 h3).symm
  · simp at h h1 h2 h3; omega
theorem canonV_void (v : V) : voidB (canonV v) = voidB v := by
  unfold canonV voidB
  rcases kind_ways v.kind with h | ⟨h, h1⟩ | ⟨h, h1, h2⟩ | ⟨h, h1, h2, h3⟩ | ⟨h, h1, h2, h3⟩
  · have : (v.kind == 1) = false := by rw [beq_iff_eq] at h; rw [h]; rfl
    simp [h, this]
  · simp [h, h1, Ord.canon_nan]
  · simp [h, h1, h2]
  · simp [h, h1, h2, h3]
  · simp [h, h1, h2, h3]
theorem canonC_void (c : C) (h0 : 0 ≤ c.val.kind) (h3 : c.val.kind ≤ 3) : cvoidB (canonC c) = cvoidB c := by
  unfold canonC cvoidB
  cases h7 : (c.op == 7)
  · have : (c.op != 7) = true := by rw [bne, h7]; rfl
    simp [this, canonV_void, canonV_kind _ h0 h3]
  · have : c.op = 7 := by simpa using h7
    simp [this]
end Go.Proofs.Ytpbdgbejcdncgaa.Val
