/- THE WALKS OF package value: Void, Right, Compare. -/
import Derived.Test.YtnccpddjdgndcaaGreatDoorOrd
import Derived.Test.YtnccpddjdgndcaaGreatDoorValFn
import Derived.Test.YtnccpddjdgndcaaGreatDoorShelf
import Derived.Deep.QuietTactic
import Derived.BigQuiet
namespace Go.Proofs.YtnccpddjdgndcaaGreatDoor.Val
open Go.RowKit Flt
/-- a value as the walk has it -/
abbrev val (k n : Int) (x : Nat) (t : List UInt8) (y : Bool) : Value := .agg #[.int .i64 k, .int .i64 n, .float .f64 x, .string ⟨t.toArray⟩, .bool y]
theorem bcell {W w1 : World} (hb : Below W.heap.size W w1) : (∀ b o, b < W.heap.size → w1.cell? ⟨b, o, none⟩ = W.cell? ⟨b, o, none⟩) ∧ (∀ b o, b < W.heap.size → w1.frozen? ⟨b, o, none⟩ = W.frozen? ⟨b, o, none⟩) :=
  ⟨fun b o h => hb.cell (p := ⟨b, o, none⟩) h, fun b o h => hb.frozen (p := ⟨b, o, none⟩) h⟩
theorem balloc (w : World) (o : Obj) : Below w.heap.size w (w.alloc o) := (Below.refl _ _).alloc (Nat.le_refl _) _
theorem btrans {w a b : World} (h : Below w.heap.size w a) (k : Below a.heap.size a b) : Below w.heap.size w b := h.trans (k.mono h.size)
theorem balloc2 (w : World) (o o' : Obj) : Below w.heap.size w ((w.alloc o).alloc o') := btrans (balloc _ _) (balloc _ _)
theorem bdrewN {w a : World} (h : Below w.heap.size w a) (n : Nat) : Below w.heap.size w (a.drewN n) := h.trans ⟨rfl, rfl, rfl, Nat.le_refl _, fun _ _ => rfl⟩
theorem size2 {w w1 : World} {o o' : Obj} (hb : Below ((w.alloc o).alloc o').heap.size ((w.alloc o).alloc o') w1) : w.heap.size + 1 < w1.heap.size := by
  have := hb.size; simp at this; omega
theorem ret_bool {a b : Bool} (h : a = b) : Ending.returned (.bool a) = .returned (.bool b) := by rw [h]
set_option maxHeartbeats 400000 in
theorem void_any (k n : Int) (x : Nat) (t : List UInt8) (y : Bool) (w : World) :
    Calls Tryz.prog 16 #[val k n x t y] w fun e w' => e = .returned (.bool (voidB ⟨k, n, x, t, y⟩)) ∧ Below w.heap.size w w' := by
  have hk : voidB ⟨k, n, x, t, y⟩ = ((k == 1) && nan x) := rfl
  cases h : (k == 1)
  all_goals
    rw [h] at hk
    have HK := Lib.hid hk; clear hk
    go_enter Tryz.func16, Tryz.ntmps16
    go_wp2_with (go_at_call 38; refine (Ord.none_any _ _).mono ?_; rintro e w' ⟨rfl, rfl⟩)
    go_ret
    exact ⟨ret_bool (by rw [HK.out]; rfl), (Below.refl _ _).alloc (Nat.le_refl _) _⟩

theorem sign_any (l m : Bool) (w : World) :
    Calls Tryz.prog 186 #[.bool l, .bool m] w fun e w' => e = .returned (.int .i64 (sgn l m)) ∧ w = w' := by
  cases l <;> cases m
  all_goals
    go_enter Tryz.func186, Tryz.ntmps186
    go_wp2
    go_ret
    exact ⟨rfl, rfl⟩
/-- which way Compare goes -/
theorem cmp_ways (k1 n1 : Int) (x1 : Nat) (t1 : List UInt8) (y1 : Bool) (k2 n2 : Int) (x2 : Nat) (t2 : List UInt8) (y2 : Bool) :
    ((k1 != k2) = true ∧ cmpOk ⟨k1, n1, x1, t1, y1⟩ ⟨k2, n2, x2, t2, y2⟩ = false) ∨
    ((k1 != k2) = false ∧ voidB ⟨k1, n1, x1, t1, y1⟩ = true ∧ cmpOk ⟨k1, n1, x1, t1, y1⟩ ⟨k2, n2, x2, t2, y2⟩ = false) ∨
    ((k1 != k2) = false ∧ voidB ⟨k1, n1, x1, t1, y1⟩ = false ∧ voidB ⟨k2, n2, x2, t2, y2⟩ = true ∧ cmpOk ⟨k1, n1, x1, t1, y1⟩ ⟨k2, n2, x2, t2, y2⟩ = false) ∨
    ((k1 != k2) = false ∧ voidB ⟨k1, n1, x1, t1, y1⟩ = false ∧ voidB ⟨k2, n2, x2, t2, y2⟩ = false ∧ cmpOk ⟨k1, n1, x1, t1, y1⟩ ⟨k2, n2, x2, t2, y2⟩ = true) := by
  unfold cmpOk
  cases h1 : (k1 != k2) <;> cases h2 : voidB ⟨k1, n1, x1, t1, y1⟩ <;> cases h3 : voidB ⟨k2, n2, x2, t2, y2⟩ <;> simp_all
set_option maxHeartbeats 1000000 in
theorem compare_any (k1 n1 : Int) (x1 : Nat) (t1 : List UInt8) (y1 : Bool) (k2 n2 : Int) (x2 : Nat) (t2 : List UInt8) (y2 : Bool) (w : World) :
    Calls Tryz.prog 144 #[val k1 n1 x1 t1 y1, val k2 n2 x2 t2 y2] w fun e w' =>
      e = .returned (.tuple #[.int .i64 (cmp1 ⟨k1, n1, x1, t1, y1⟩ ⟨k2, n2, x2, t2, y2⟩), .bool (cmpOk ⟨k1, n1, x1, t1, y1⟩ ⟨k2, n2, x2, t2, y2⟩)]) ∧ Below w.heap.size w w' := by
  rcases cmp_ways k1 n1 x1 t1 y1 k2 n2 x2 t2 y2 with ⟨h1, h4⟩ | ⟨h1, h2, h4⟩ | ⟨h1, h2, h3, h4⟩ | ⟨h1, h2, h3, h4⟩
  · unfold cmp1; rw [h4]; clear h4
    go_enter Tryz.func144, Tryz.ntmps144
    go_wp2
    go_ret2
    exact ⟨rfl, balloc2 _ _ _⟩
  · unfold cmp1; rw [h4]; clear h4
    go_enter Tryz.func144, Tryz.ntmps144
    go_wp2_with (go_at_call 16; refine (void_any _ _ _ _ _ _).mono ?_; rintro e w1 ⟨rfl, hb⟩; obtain ⟨hc, hf⟩ := bcell hb)
    go_ret2
    exact ⟨rfl, btrans (balloc2 _ _ _) hb⟩
  · unfold cmp1; rw [h4]; clear h4
    go_enter Tryz.func144, Tryz.ntmps144
    go_wp2_with fail
    refine (void_any _ _ _ _ _ _).mono ?_; rintro e w1 ⟨rfl, hb⟩; obtain ⟨hc, hf⟩ := bcell hb
    go_wp2_with fail
    refine (void_any _ _ _ _ _ _).mono ?_; rintro e w2 ⟨rfl, hb2⟩
    go_wp2
    go_ret2
    exact ⟨rfl, btrans (btrans (balloc2 _ _ _) hb) hb2⟩
  · have hu : cmp1 ⟨k1, n1, x1, t1, y1⟩ ⟨k2, n2, x2, t2, y2⟩ = cmp ⟨k1, n1, x1, t1, y1⟩ ⟨k2, n2, x2, t2, y2⟩ := by unfold cmp1; rw [h4]; rfl
    have hd : cmp ⟨k1, n1, x1, t1, y1⟩ ⟨k2, n2, x2, t2, y2⟩ = if k1 == 0 then sgn (decide (n1 < n2)) (decide (n2 < n1)) else if k1 == 1 then sgn (Flt.lt x1 x2) (Flt.lt x2 x1) else if k1 == 2 then Lib.compareBytes t1 t2 else sgn (!y1 && y2) (y1 && !y2) := rfl
    rw [hu, h4]; clear h4 hu
    have HD := Lib.hid hd; clear hd
    go_enter Tryz.func144, Tryz.ntmps144
    go_wp2_with fail
    refine (void_any _ _ _ _ _ _).mono ?_; rintro e w1 ⟨rfl, hb⟩; obtain ⟨hc, hf⟩ := bcell hb
    have hz := size2 hb
    have hz0 : w.heap.size < w1.heap.size := by omega
    go_wp2_with fail
    refine (void_any _ _ _ _ _ _).mono ?_; rintro e w2 ⟨rfl, hb2⟩; obtain ⟨hc2, hf2⟩ := bcell hb2
    have hz2 : w.heap.size + 1 < w2.heap.size := Nat.lt_of_lt_of_le hz hb2.size
    have B : Hid (Below w.heap.size w w2) := Lib.hid (btrans (btrans (balloc2 _ _ _) hb) hb2)
    clear hb hb2
    cases q0 : (k1 == 0)
    · cases q1 : (k1 == 1)
      · cases q2 : (k1 == 2)
        · cases y1 <;> cases y2
          all_goals
            go_wp2_with (go_at_call 186; refine (sign_any _ _ _).mono ?_; rintro e w' ⟨rfl, rfl⟩)
            go_ret2
            exact ⟨by rw [HD.out, q0, q1, q2]; rfl, B.out⟩
        · go_wp2_with (go_at_call 68; refine (Tryz.strings_Compare _ _ _).mono ?_; rintro e w' ⟨rfl, rfl⟩)
          go_ret2
          exact ⟨by rw [HD.out, q0, q1, q2]; rfl, B.out⟩
      · go_wp2_with fail
        go_quiet ((first | (go_at_call 28; exact Calls.quiet_of_same ((Ord.less_any _ _ _).mono fun e w' ⟨h1, h2⟩ => ⟨h1, h2.symm⟩)) | (go_at_call 186; exact Calls.quiet_of_same ((sign_any _ _ _).mono fun e w' ⟨h1, h2⟩ => ⟨h1, h2.symm⟩))))
        go_wp2
        go_ret2
        exact ⟨by rw [HD.out, q0, q1]; rfl, bdrewN B.out _⟩
    · go_wp2_with (go_at_call 186; refine (sign_any _ _ _).mono ?_; rintro e w' ⟨rfl, rfl⟩)
      go_ret2
      exact ⟨by rw [HD.out, q0]; rfl, B.out⟩
end Go.Proofs.YtnccpddjdgndcaaGreatDoor.Val
