/- THE WALKS OF package value and cond: Right, Holds, Word. -/
import Derived.Test.YtnccpddjdgndcaaGreatDoorVal
namespace Go.Proofs.YtnccpddjdgndcaaGreatDoor.Val
open Go.RowKit Flt
theorem right_ways (k : Int) (n : Nat) : (k < 0) ∨ (0 ≤ k ∧ 3 < k) ∨ (0 ≤ k ∧ k ≤ 3 ∧ n ≤ 40) ∨ (0 ≤ k ∧ k ≤ 3 ∧ 40 < n) := by omega
set_option maxHeartbeats 400000 in
theorem vright_any (k n : Int) (x : Nat) (t : List UInt8) (y : Bool) (w : World) (ht : t.length ≤ 140737488351232) :
    Calls Tryz.prog 12 #[val k n x t y] w fun e w' => e = .returned (.bool (vRight ⟨k, n, x, t, y⟩)) ∧ Below w.heap.size w w' := by
  have hr : vRight ⟨k, n, x, t, y⟩ = (decide (0 ≤ k) && decide (k ≤ 3) && decide (t.length ≤ 40)) := rfl
  have HR := Lib.hid hr; clear hr
  rcases right_ways k t.length with h1 | ⟨h1, h2⟩ | ⟨h1, h2, h3⟩ | ⟨h1, h2, h3⟩
  all_goals
    go_enter Tryz.func12, Tryz.ntmps12
    go_wp2
    go_ret
    exact ⟨ret_bool (by rw [HR.out, Bool.eq_iff_iff]; simp; omega), balloc _ _⟩
/-- a condition as the walk has it -/
abbrev cond (nm : List UInt8) (op k n : Int) (x : Nat) (t : List UInt8) (y : Bool) : Value := .agg #[.string ⟨nm.toArray⟩, .int .i64 op, .int .i64 k, .int .i64 n, .float .f64 x, .string ⟨t.toArray⟩, .bool y]
/-- which way Holds goes: ok, and the six ops -/
theorem op_ways (op : Int) : (op == 7) = true ∨ ((op == 7) = false ∧ (op == 6) = true) ∨ ((op == 7) = false ∧ (op == 6) = false ∧ (op == 0) = true) ∨ ((op == 7) = false ∧ (op == 6) = false ∧ (op == 0) = false ∧ (op == 1) = true) ∨
    ((op == 7) = false ∧ (op == 6) = false ∧ (op == 0) = false ∧ (op == 1) = false ∧ (op == 2) = true) ∨ ((op == 7) = false ∧ (op == 6) = false ∧ (op == 0) = false ∧ (op == 1) = false ∧ (op == 2) = false ∧ (op == 3) = true) ∨
    ((op == 7) = false ∧ (op == 6) = false ∧ (op == 0) = false ∧ (op == 1) = false ∧ (op == 2) = false ∧ (op == 3) = false ∧ (op == 4) = true) ∨
    ((op == 7) = false ∧ (op == 6) = false ∧ (op == 0) = false ∧ (op == 1) = false ∧ (op == 2) = false ∧ (op == 3) = false ∧ (op == 4) = false ∧ (op == 5) = true) ∨
    ((op == 7) = false ∧ (op == 6) = false ∧ (op == 0) = false ∧ (op == 1) = false ∧ (op == 2) = false ∧ (op == 3) = false ∧ (op == 4) = false ∧ (op == 5) = false) := by
  cases h7 : (op == 7) <;> cases h6 : (op == 6) <;> cases h0 : (op == 0) <;> cases h1 : (op == 1) <;> cases h2 : (op == 2) <;> cases h3 : (op == 3) <;> cases h4 : (op == 4) <;> cases h5 : (op == 5) <;> simp
set_option maxHeartbeats 1000000 in
theorem holds_any (nm : List UInt8) (op k1 n1 : Int) (x1 : Nat) (t1 : List UInt8) (y1 : Bool) (k2 n2 : Int) (x2 : Nat) (t2 : List UInt8) (y2 : Bool) (w : World) :
    Calls Tryz.prog 142 #[cond nm op k1 n1 x1 t1 y1, val k2 n2 x2 t2 y2] w fun e w' =>
      e = .returned (.bool (holdsB ⟨nm, op, ⟨k1, n1, x1, t1, y1⟩⟩ ⟨k2, n2, x2, t2, y2⟩)) ∧ Below w.heap.size w w' := by
  have hd : holdsB ⟨nm, op, ⟨k1, n1, x1, t1, y1⟩⟩ ⟨k2, n2, x2, t2, y2⟩ = (if op == 7 then true
    else if op == 6 then cmpOk ⟨k2, n2, x2, t2, y2⟩ ⟨k1, n1, x1, t1, y1⟩ && k2 == 2 && Lib.hasPrefix t2 t1
    else if op == 0 then cmpOk ⟨k2, n2, x2, t2, y2⟩ ⟨k1, n1, x1, t1, y1⟩ && cmp1 ⟨k2, n2, x2, t2, y2⟩ ⟨k1, n1, x1, t1, y1⟩ == 0
    else if op == 1 then cmpOk ⟨k2, n2, x2, t2, y2⟩ ⟨k1, n1, x1, t1, y1⟩ && cmp1 ⟨k2, n2, x2, t2, y2⟩ ⟨k1, n1, x1, t1, y1⟩ != 0
    else if op == 2 then cmpOk ⟨k2, n2, x2, t2, y2⟩ ⟨k1, n1, x1, t1, y1⟩ && decide (cmp1 ⟨k2, n2, x2, t2, y2⟩ ⟨k1, n1, x1, t1, y1⟩ < 0)
    else if op == 3 then cmpOk ⟨k2, n2, x2, t2, y2⟩ ⟨k1, n1, x1, t1, y1⟩ && decide (cmp1 ⟨k2, n2, x2, t2, y2⟩ ⟨k1, n1, x1, t1, y1⟩ ≤ 0)
    else if op == 4 then cmpOk ⟨k2, n2, x2, t2, y2⟩ ⟨k1, n1, x1, t1, y1⟩ && decide (0 < cmp1 ⟨k2, n2, x2, t2, y2⟩ ⟨k1, n1, x1, t1, y1⟩)
    else if op == 5 then cmpOk ⟨k2, n2, x2, t2, y2⟩ ⟨k1, n1, x1, t1, y1⟩ && decide (0 ≤ cmp1 ⟨k2, n2, x2, t2, y2⟩ ⟨k1, n1, x1, t1, y1⟩)
    else false) := rfl
  have hcmp (w : World) := compare_any k2 n2 x2 t2 y2 k1 n1 x1 t1 y1 w
  generalize holdsB ⟨nm, op, ⟨k1, n1, x1, t1, y1⟩⟩ ⟨k2, n2, x2, t2, y2⟩ = R at *
  generalize cmpOk ⟨k2, n2, x2, t2, y2⟩ ⟨k1, n1, x1, t1, y1⟩ = ok at *
  generalize cmp1 ⟨k2, n2, x2, t2, y2⟩ ⟨k1, n1, x1, t1, y1⟩ = c at *
  have HD := Lib.hid hd; have HC := Lib.hid hcmp; clear hd hcmp
  rcases op_ways op with h7 | ⟨h7, h6⟩ | ⟨h7, h6, h0⟩ | ⟨h7, h6, h0, h1⟩ | ⟨h7, h6, h0, h1, h2⟩ | ⟨h7, h6, h0, h1, h2, h3⟩ | ⟨h7, h6, h0, h1, h2, h3, h4⟩ | ⟨h7, h6, h0, h1, h2, h3, h4, h5⟩ | ⟨h7, h6, h0, h1, h2, h3, h4, h5⟩
  · go_enter Tryz.func142, Tryz.ntmps142
    go_wp2_with (go_at_call 144; refine (HC.out _).mono ?_; rintro e w1 ⟨rfl, hb⟩; obtain ⟨hc, hf⟩ := bcell hb)
    go_ret
    exact ⟨ret_bool (by rw [HD.out, h7]; rfl), btrans (balloc2 _ _ _) hb⟩
  · cases ok
    · go_enter Tryz.func142, Tryz.ntmps142
      go_wp2_with (go_at_call 144; refine (HC.out _).mono ?_; rintro e w1 ⟨rfl, hb⟩; obtain ⟨hc, hf⟩ := bcell hb)
      go_ret
      exact ⟨ret_bool (by rw [HD.out, h7, h6]; rfl), btrans (balloc2 _ _ _) hb⟩
    · cases hk : (k2 == 2)
      all_goals
        go_enter Tryz.func142, Tryz.ntmps142
        go_wp2_with (first | (go_at_call 144; refine (HC.out _).mono ?_; rintro e w1 ⟨rfl, hb⟩; obtain ⟨hc, hf⟩ := bcell hb) | (go_at_call 143; refine (Tryz.strings_HasPrefix _ _ _).mono ?_; rintro e w' ⟨rfl, rfl⟩))
      all_goals
        go_ret
        exact ⟨ret_bool (by rw [HD.out, h7, h6, hk]; rfl), btrans (balloc2 _ _ _) hb⟩
  all_goals
    cases ok
    all_goals
      go_enter Tryz.func142, Tryz.ntmps142
      go_wp2_with (go_at_call 144; refine (HC.out _).mono ?_; rintro e w1 ⟨rfl, hb⟩; obtain ⟨hc, hf⟩ := bcell hb)
    all_goals
      go_ret
      exact ⟨ret_bool (by rw [HD.out]; simp [*]), btrans (balloc2 _ _ _) hb⟩

/-- the table of words -/
def wordL (i : Nat) : List UInt8 := ([[61], [33, 61], [60], [60, 61], [62], [62, 61], [94], [104, 97, 115]] : List (List UInt8)).getD i []
def Words (w : World) : Prop := ∀ i : Nat, i < 8 → w.cell? ⟨0, i, none⟩ = some (.string ⟨(wordL i).toArray⟩)
theorem Words.lt {w : World} (h : Words w) : 0 < w.heap.size := by
  have h0 := h 0 (by decide)
  unfold World.cell? at h0
  cases hh : w.heap[0]? with
  | none => simp only [hh] at h0; cases h0
  | some o => exact (Array.getElem?_eq_some_iff.1 hh).1
theorem Words.below {w w' : World} (h : Words w) (hb : Below w.heap.size w w') : Words w' := fun i hi => (hb.cell (p := ⟨0, i, none⟩) h.lt).trans (h i hi)
theorem Words.drew {w : World} (h : Words w) : Words w.drew := h
theorem Words.drewN {w : World} (h : Words w) (n : Nat) : Words (w.drewN n) := h
def wordB (op : Int) : List UInt8 := if op < 0 ∨ 7 < op then [] else wordL op.toNat
theorem ret_str {a b : List UInt8} (h : a = b) : Ending.returned (.string ⟨a.toArray⟩) = .returned (.string ⟨b.toArray⟩) := by rw [h]
set_option maxHeartbeats 400000 in
theorem word_any (op : Int) (w : World) (hw : Words w) :
    Calls Tryz.prog 19 #[.int .i64 op] w fun e w' => e = .returned (.string ⟨(wordB op).toArray⟩) ∧ w = w' := by
  have hr : wordB op = if op < 0 ∨ 7 < op then [] else wordL op.toNat := rfl
  have HR := Lib.hid hr; clear hr
  have ways : op < 0 ∨ (0 ≤ op ∧ 7 < op) ∨ (0 ≤ op ∧ op ≤ 7) := by omega
  rcases ways with h | ⟨h1, h2⟩ | ⟨h1, h2⟩
  · go_enter Tryz.func19, Tryz.ntmps19
    go_wp2
    go_ret
    exact ⟨ret_str (by rw [HR.out, if_pos (Or.inl h)]), rfl⟩
  · have d1 : decide (op < 0) = false := by rw [decide_eq_false_iff_not]; omega
    have d2 : decide (7 < op) = true := by rw [decide_eq_true_iff]; omega
    go_enter Tryz.func19, Tryz.ntmps19
    go_wp2
    go_ret
    exact ⟨ret_str (by rw [HR.out, if_pos (Or.inr h2)]), rfl⟩
  · obtain ⟨n, rfl⟩ := Int.eq_ofNat_of_zero_le h1
    have hc := hw n (by omega)
    have hw' := Lib.hid hw; clear hw
    go_enter Tryz.func19, Tryz.ntmps19
    go_wp2
    go_ret
    exact ⟨ret_str (by rw [HR.out, if_neg (by omega)]; rfl), rfl⟩
end Go.Proofs.YtnccpddjdgndcaaGreatDoor.Val
