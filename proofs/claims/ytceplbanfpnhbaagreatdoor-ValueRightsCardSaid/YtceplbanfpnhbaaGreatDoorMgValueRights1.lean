/- MERGED BY A PROGRAM OF MINE (mg.py) out of my own texts, in their order: CondFit, Fit02, ReadT, PlainQ. -/
import Derived.Test.YtceplbanfpnhbaaGreatDoorCond
import Derived.Test.YtceplbanfpnhbaaGreatDoorName
import Derived.RegionCalls
import Derived.Deep.RegionWith
import Derived.Deep.RegionHeld3
import Derived.Test.YtceplbanfpnhbaaGreatDoorParseFl
import Derived.Test.YtceplbanfpnhbaaGreatDoorPrint
import Derived.Test.YtceplbanfpnhbaaGreatDoorUnq

section
/- THE WALK OF the laws' fit of package cond: it prints 'a < 3'. -/
namespace Go.Proofs.YtceplbanfpnhbaaGreatDoor.Val
open Go.RowKit Flt
set_option maxHeartbeats 400000 in
theorem fmtint_small (i : Nat) (hi : i < 100) (w : World) :
    Calls Tryz.prog 79 #[.int .i64 i, .int .i64 10] w fun e w' => e = .returned (.string ⟨(Lib.decDigits i).toArray⟩) ∧ w = w' := by
  go_enter Tryz.func79, Tryz.ntmps79
  go_wp2_with (go_at_call 110; refine (Tryz.internal_strconv_FormatInt_10_small _ hi _).mono ?_; rintro e w' ⟨rfl, rfl⟩)
  go_ret
  exact ⟨rfl, rfl⟩
set_option maxHeartbeats 400000 in
theorem print_small (i : Nat) (hi : i < 100) (x : Nat) (t : List UInt8) (y : Bool) (w : World) :
    Calls Tryz.prog 38 #[val 0 i x t y] w fun e w' => e = .returned (.string ⟨(Lib.decDigits i).toArray⟩) ∧ Below w.heap.size w w' := by
  go_enter Tryz.func38, Tryz.ntmps38
  go_wp2_with (go_at_call 79; refine (fmtint_small _ hi _).mono ?_; rintro e w' ⟨rfl, rfl⟩)
  go_ret
  exact ⟨rfl, balloc _ _⟩
theorem print_3 (w : World) : Calls Tryz.prog 38 #[val 0 3 0 [] false] w fun e w' => e = .returned (.string ⟨[51].toArray⟩) ∧ Below w.heap.size w w' :=
  (print_small 3 (by decide) 0 [] false w).mono fun e w' ⟨h1, h2⟩ => ⟨by rw [h1, show Lib.decDigits 3 = [51] by simp [Lib.decDigits]], h2⟩
/-- what the region's loads want of the world -/
theorem held_below {b : Nat} {v0 v1 v2 v3 v4 v5 v6 : Value} {w w1 w2 : World} (hb : Below w1.heap.size w1 w2)
    (h : w1.cell? ⟨b, 0, none⟩ = some v0 ∧ w1.cell? ⟨b, 1, none⟩ = some v1 ∧ w1.cell? ⟨b, 2, none⟩ = some v2 ∧ w1.cell? ⟨b, 3, none⟩ = some v3 ∧ w1.cell? ⟨b, 4, none⟩ = some v4 ∧ w1.cell? ⟨b, 5, none⟩ = some v5 ∧ w1.cell? ⟨b, 6, none⟩ = some v6 ∧ Words w1 ∧ Below w.heap.size w w1 ∧ b < w1.heap.size) :
    w2.cell? ⟨b, 0, none⟩ = some v0 ∧ w2.cell? ⟨b, 1, none⟩ = some v1 ∧ w2.cell? ⟨b, 2, none⟩ = some v2 ∧ w2.cell? ⟨b, 3, none⟩ = some v3 ∧ w2.cell? ⟨b, 4, none⟩ = some v4 ∧ w2.cell? ⟨b, 5, none⟩ = some v5 ∧ w2.cell? ⟨b, 6, none⟩ = some v6 ∧ Words w2 ∧ Below w.heap.size w w2 ∧ b < w2.heap.size := by
  obtain ⟨h0, h1, h2, h3, h4, h5, h6, hw, hB, hl⟩ := h
  have c : ∀ o, w2.cell? ⟨b, o, none⟩ = w1.cell? ⟨b, o, none⟩ := fun o => hb.cell (p := ⟨b, o, none⟩) hl
  exact ⟨by rw [c]; exact h0, by rw [c]; exact h1, by rw [c]; exact h2, by rw [c]; exact h3, by rw [c]; exact h4, by rw [c]; exact h5, by rw [c]; exact h6, hw.below hb, btrans hB hb, Nat.lt_of_lt_of_le hl hb.size⟩
theorem held_start {v0 v1 v2 v3 v4 v5 v6 : Value} {T : TypeId} {w : World} (hw : Words w) :
    (w.alloc (.cells #[v0, v1, v2, v3, v4, v5, v6] T)).drew.cell? ⟨w.heap.size, 0, none⟩ = some v0 ∧ (w.alloc (.cells #[v0, v1, v2, v3, v4, v5, v6] T)).drew.cell? ⟨w.heap.size, 1, none⟩ = some v1 ∧ (w.alloc (.cells #[v0, v1, v2, v3, v4, v5, v6] T)).drew.cell? ⟨w.heap.size, 2, none⟩ = some v2 ∧ (w.alloc (.cells #[v0, v1, v2, v3, v4, v5, v6] T)).drew.cell? ⟨w.heap.size, 3, none⟩ = some v3 ∧ (w.alloc (.cells #[v0, v1, v2, v3, v4, v5, v6] T)).drew.cell? ⟨w.heap.size, 4, none⟩ = some v4 ∧ (w.alloc (.cells #[v0, v1, v2, v3, v4, v5, v6] T)).drew.cell? ⟨w.heap.size, 5, none⟩ = some v5 ∧ (w.alloc (.cells #[v0, v1, v2, v3, v4, v5, v6] T)).drew.cell? ⟨w.heap.size, 6, none⟩ = some v6 ∧
    Words (w.alloc (.cells #[v0, v1, v2, v3, v4, v5, v6] T)).drew ∧ Below w.heap.size w (w.alloc (.cells #[v0, v1, v2, v3, v4, v5, v6] T)).drew ∧ w.heap.size < (w.alloc (.cells #[v0, v1, v2, v3, v4, v5, v6] T)).drew.heap.size := by
  have c : ∀ o, (w.alloc (.cells #[v0, v1, v2, v3, v4, v5, v6] T)).cell? ⟨w.heap.size, o, none⟩ = #[v0, v1, v2, v3, v4, v5, v6][o]? := fun o => World.cell?_alloc_at _ _ _ _ rfl
  exact ⟨c 0, c 1, c 2, c 3, c 4, c 5, c 6, (hw.below (balloc _ _)).drew, bdrewN (balloc _ _) 1, by show w.heap.size < (w.alloc _).heap.size; simp⟩
theorem held_words {b : Nat} {v0 v1 v2 v3 v4 v5 v6 : Value} {w w1 : World}
    (h : w1.cell? ⟨b, 0, none⟩ = some v0 ∧ w1.cell? ⟨b, 1, none⟩ = some v1 ∧ w1.cell? ⟨b, 2, none⟩ = some v2 ∧ w1.cell? ⟨b, 3, none⟩ = some v3 ∧ w1.cell? ⟨b, 4, none⟩ = some v4 ∧ w1.cell? ⟨b, 5, none⟩ = some v5 ∧ w1.cell? ⟨b, 6, none⟩ = some v6 ∧ Words w1 ∧ Below w.heap.size w w1 ∧ b < w1.heap.size) : Words w1 := h.2.2.2.2.2.2.2.1
theorem held_own {b : Nat} {v0 v1 v2 v3 v4 v5 v6 : Value} {w w1 : World}
    (h : w1.cell? ⟨b, 0, none⟩ = some v0 ∧ w1.cell? ⟨b, 1, none⟩ = some v1 ∧ w1.cell? ⟨b, 2, none⟩ = some v2 ∧ w1.cell? ⟨b, 3, none⟩ = some v3 ∧ w1.cell? ⟨b, 4, none⟩ = some v4 ∧ w1.cell? ⟨b, 5, none⟩ = some v5 ∧ w1.cell? ⟨b, 6, none⟩ = some v6 ∧ Words w1 ∧ Below w.heap.size w w1 ∧ b < w1.heap.size) : Below w.heap.size w w1 := h.2.2.2.2.2.2.2.2.1
theorem wordB_len (op : Int) : (wordB op).length ≤ 3 := by
  unfold wordB
  split
  · simp
  · have : op.toNat ≤ 7 := by omega
    revert this
    generalize op.toNat = n
    intro h
    match n, h with
    | 0, _ => decide
    | 1, _ => decide
    | 2, _ => decide
    | 3, _ => decide
    | 4, _ => decide
    | 5, _ => decide
    | 6, _ => decide
    | 7, _ => decide
set_option maxHeartbeats 1000000 in
theorem cprint_of (nm : List UInt8) (op k n : Int) (x : Nat) (t : List UInt8) (y : Bool) (ps : List UInt8) (w : World) (hw : Words w) (h7 : (op == 7) = false) (hnm : nm.length ≤ 1000000) (hps : ps.length ≤ 1000000)
    (hp : ∀ w, Calls Tryz.prog 38 #[val k n x t y] w fun e w' => e = .returned (.string ⟨ps.toArray⟩) ∧ Below w.heap.size w w') :
    Calls Tryz.prog 34 #[cond nm op k n x t y] w fun e w' => e = .returned (.string ⟨(nm ++ [32] ++ wordB op ++ [32] ++ ps).toArray⟩) ∧ Below w.heap.size w w' := by
  have hwl := wordB_len op
  have HW := Lib.hid hw; have HP := Lib.hid hp; clear hw hp
  generalize hwd : wordB op = wd at *
  have HWD := Lib.hid hwd; clear hwd
  obtain ⟨y1, hy1⟩ : ∃ l, l = nm ++ [32] := ⟨_, rfl⟩
  obtain ⟨y2, hy2⟩ : ∃ l, l = y1 ++ wd := ⟨_, rfl⟩
  obtain ⟨y3, hy3⟩ : ∃ l, l = y2 ++ [32] := ⟨_, rfl⟩
  obtain ⟨y4, hy4⟩ : ∃ l, l = y3 ++ ps := ⟨_, rfl⟩
  have l1 : y1.length = nm.length + 1 := by rw [hy1]; simp
  have l2 : y2.length = y1.length + wd.length := by rw [hy2]; simp
  have l3 : y3.length = y2.length + 1 := by rw [hy3]; simp
  have r1 : ∀ w, (Op.stringOp .add ⟨nm.toArray⟩ ⟨#[32]⟩).run Tryz.prog w = .ok (.string ⟨y1.toArray⟩) w := fun w => by rw [hy1]; exact run_string_add_lists w nm [32] (by omega) (by simp)
  have r2 : ∀ w, (Op.stringOp .add ⟨y1.toArray⟩ ⟨wd.toArray⟩).run Tryz.prog w = .ok (.string ⟨y2.toArray⟩) w := fun w => by rw [hy2]; exact run_string_add_lists w y1 wd (by omega) (by omega)
  have r3 : ∀ w, (Op.stringOp .add ⟨y2.toArray⟩ ⟨#[32]⟩).run Tryz.prog w = .ok (.string ⟨y3.toArray⟩) w := fun w => by rw [hy3]; exact run_string_add_lists w y2 [32] (by omega) (by simp)
  have r4 : ∀ w, (Op.stringOp .add ⟨y3.toArray⟩ ⟨ps.toArray⟩).run Tryz.prog w = .ok (.string ⟨y4.toArray⟩) w := fun w => by rw [hy4]; exact run_string_add_lists w y3 ps (by omega) (by omega)
  have HY : nm ++ [32] ++ wd ++ [32] ++ ps = y4 := by rw [hy4, hy3, hy2, hy1]
  have HY' := Lib.hid HY
  clear hy1 hy2 hy3 hy4 l1 l2 l3 HY hwl hnm hps
  go_enter Tryz.func34, Tryz.ntmps34
  go_wp2_with fail
  go_region_held3 (fun w' => w'.cell? ⟨w.heap.size, 0, none⟩ = some (.string ⟨nm.toArray⟩) ∧ w'.cell? ⟨w.heap.size, 1, none⟩ = some (.int .i64 op) ∧ w'.cell? ⟨w.heap.size, 2, none⟩ = some (.int .i64 k) ∧ w'.cell? ⟨w.heap.size, 3, none⟩ = some (.int .i64 n) ∧ w'.cell? ⟨w.heap.size, 4, none⟩ = some (.float .f64 x) ∧ w'.cell? ⟨w.heap.size, 5, none⟩ = some (.string ⟨t.toArray⟩) ∧ w'.cell? ⟨w.heap.size, 6, none⟩ = some (.bool y) ∧ Words w' ∧ Below w.heap.size w w' ∧ w.heap.size < w'.heap.size)
    (first | exact held_start HW.out | assumption | exact held_below (by assumption) (by assumption))
    (first | (go_at_call 48; refine (word_any _ _ (held_words (by assumption))).mono ?_; rintro e w' ⟨rfl, rfl⟩; rw [HWD.out]) | (go_at_call 38; refine (HP.out _).mono ?_; rintro e w1 ⟨rfl, hb⟩))
  go_goals
  all_goals
    go_wp2
    go_ret
    exact ⟨ret_str HY'.out.symm, held_own (by assumption)⟩
theorem cprint_a3 (w : World) (hw : Words w) : Calls Tryz.prog 34 #[cond [97] 2 0 3 0 [] false] w fun e w' => e = .returned (.string ⟨#[97, 32, 60, 32, 51]⟩) ∧ Below w.heap.size w w' :=
  (cprint_of [97] 2 0 3 0 [] false [51] w hw rfl (by decide) (by decide) print_3).mono fun _ _ ⟨h1, h2⟩ => ⟨h1, h2⟩
theorem holds_a3 (n : Int) : holdsB ⟨[97], 2, ⟨0, 3, 0, [], false⟩⟩ ⟨0, n, 0, [], false⟩ = decide (n < 3) := by
  rw [Bool.eq_iff_iff]
  simp only [holdsB, cmp1, cmpOk, voidB, cmp, sgn]
  by_cases h : n < 3 <;> by_cases h' : 3 < n <;> simp [h, h'] <;> omega
theorem fH (n : Int) (w : World) : Calls Tryz.prog 69 #[cond [97] 2 0 3 0 [] false, val 0 n 0 [] false] w fun e w' => e = .returned (.bool (decide (n < 3))) ∧ Below w.heap.size w w' :=
  (holds_any [97] 2 0 3 0 [] false 0 n 0 [] false w).mono fun _ _ ⟨h1, h2⟩ => ⟨by rw [h1, holds_a3], h2⟩
theorem fname (w : World) : Calls Tryz.prog 86 #[.string ⟨#[97]⟩] w fun e w' => e = .returned (.bool true) ∧ w = w' :=
  (Sc.name_l [97] w (by decide)).mono fun _ _ ⟨h1, h2⟩ => ⟨h1, h2⟩
theorem fright (w : World) : Calls Tryz.prog 39 #[val 0 3 0 [] false] w fun e w' => e = .returned (.bool true) ∧ Below w.heap.size w w' :=
  (vright_any 0 3 0 [] false w (by decide)).mono fun _ _ ⟨h1, h2⟩ => ⟨h1, h2⟩
theorem run_store_flt (P : Program) (w : World) (a : Addr) (m : Mode) (k : FloatKind) (b : Nat) : (store a (.float k b) m).run P w = stored P w a (.float k b) m := run_store P w a _ m rfl
attribute [local go_sem] run_store_flt
theorem size1 {w w1 : World} {o : Obj} (hb : Below (w.alloc o).heap.size (w.alloc o) w1) : w.heap.size < w1.heap.size := Nat.lt_of_lt_of_le (by show w.heap.size < (w.alloc o).heap.size; simp) hb.size
end Go.Proofs.YtceplbanfpnhbaaGreatDoor.Val
end

section
/- THE WALK OF the fit of chapter 02's laws: it reads "3.0" and prints "a". -/
namespace Go.Proofs.YtceplbanfpnhbaaGreatDoor.Val
open Go.RowKit Flt
attribute [local go_sem] run_store_flt
/-- three, as a number -/
abbrev F3 : Nat := 4613937818241073152
theorem vT_3 : vT ⟨1, 0, F3, [], false⟩ = [51, 46, 48] := by decide +kernel
theorem vT_a : vT ⟨2, 0, 0, [97], false⟩ = [34, 97, 34] := by decide +kernel
theorem any3 (W : World) : Calls Tryz.prog 75 #[Pf.t3, .string ⟨#[46, 101, 73, 78]⟩] W fun e w' => e = .returned (.bool true) ∧ Below W.heap.size W w' :=
  (any_at [51, 46, 48] W (by decide) (by decide)).mono fun _ _ ⟨h1, h2⟩ => ⟨h1, h2⟩
theorem right3 (W : World) : Calls Tryz.prog 39 #[val 1 0 F3 [] false] W fun e w' => e = .returned (.bool true) ∧ Below W.heap.size W w' :=
  (vright_any 1 0 F3 [] false W (by decide)).mono fun _ _ ⟨h1, h2⟩ => ⟨h1, h2⟩
theorem print3 (W : World) (hT : Tab.Tabs W) : Calls Tryz.prog 38 #[val 1 0 F3 [] false] W fun e w' => e = .returned (.string ⟨#[51, 46, 48]⟩) ∧ Below W.heap.size W w' :=
  (vprint_any 1 0 F3 [] false W (by decide) (by decide) (by decide) (by decide) hT).mono fun _ _ ⟨h1, h2⟩ => ⟨by rw [h1, vT_3], h2⟩
theorem printa (W : World) (hT : Tab.Tabs W) : Calls Tryz.prog 38 #[val 2 0 0 [97] false] W fun e w' => e = .returned (.string ⟨#[34, 97, 34]⟩) ∧ Below W.heap.size W w' :=
  (vprint_any 2 0 0 [97] false W (by decide) (by decide) (by decide) (by decide) hT).mono fun _ _ ⟨h1, h2⟩ => ⟨by rw [h1, vT_a], h2⟩
theorem canon3 (W : World) : Calls Tryz.prog 77 #[.float .f64 F3] W fun e w' => e = .returned (.float .f64 F3) ∧ W = w' :=
  (Ord.canon_any F3 W).mono fun _ _ ⟨h1, h2⟩ => ⟨by rw [h1, show Ord.canon F3 = F3 by decide +kernel], h2⟩
theorem set5_at (w : World) (b : Nat) (v0 v1 v2 v3 v4 : Value) (h : ∀ j, j < 5 → (w.cell? ⟨b, j, none⟩).isSome = true) :
    (((((w.setCell ⟨b, 0, none⟩ v0).setCell ⟨b, 1, none⟩ v1).setCell ⟨b, 2, none⟩ v2).setCell ⟨b, 3, none⟩ v3).setCell ⟨b, 4, none⟩ v4).cell? ⟨b, 0, none⟩ = some v0 ∧
    (((((w.setCell ⟨b, 0, none⟩ v0).setCell ⟨b, 1, none⟩ v1).setCell ⟨b, 2, none⟩ v2).setCell ⟨b, 3, none⟩ v3).setCell ⟨b, 4, none⟩ v4).cell? ⟨b, 1, none⟩ = some v1 ∧
    (((((w.setCell ⟨b, 0, none⟩ v0).setCell ⟨b, 1, none⟩ v1).setCell ⟨b, 2, none⟩ v2).setCell ⟨b, 3, none⟩ v3).setCell ⟨b, 4, none⟩ v4).cell? ⟨b, 2, none⟩ = some v2 ∧
    (((((w.setCell ⟨b, 0, none⟩ v0).setCell ⟨b, 1, none⟩ v1).setCell ⟨b, 2, none⟩ v2).setCell ⟨b, 3, none⟩ v3).setCell ⟨b, 4, none⟩ v4).cell? ⟨b, 3, none⟩ = some v3 ∧
    (((((w.setCell ⟨b, 0, none⟩ v0).setCell ⟨b, 1, none⟩ v1).setCell ⟨b, 2, none⟩ v2).setCell ⟨b, 3, none⟩ v3).setCell ⟨b, 4, none⟩ v4).cell? ⟨b, 4, none⟩ = some v4 ∧
    Below b w (((((w.setCell ⟨b, 0, none⟩ v0).setCell ⟨b, 1, none⟩ v1).setCell ⟨b, 2, none⟩ v2).setCell ⟨b, 3, none⟩ v3).setCell ⟨b, 4, none⟩ v4) := by
  have e := World.cell?_setCells_in b [v0, v1, v2, v3, v4] 0 w (fun j hj => by rw [Nat.zero_add]; exact h j hj)
  exact ⟨e 0 (by simp), e 1 (by simp), e 2 (by simp), e 3 (by simp), e 4 (by simp),
    (((((Below.refl b w).setCell (Nat.le_refl _) _).setCell (Nat.le_refl _) _).setCell (Nat.le_refl _) _).setCell (Nat.le_refl _) _).setCell (Nat.le_refl _) _⟩
/-- two boxes laid one behind the other, seen from a later world -/
theorem two_box {w w1 : World} {A B : Array Value} {T U : TypeId} (hb : Below ((w.alloc (.cells A T)).alloc (.cells B U)).heap.size ((w.alloc (.cells A T)).alloc (.cells B U)) w1) :
    (∀ o, w1.cell? ⟨w.heap.size, o, none⟩ = A[o]?) ∧ (∀ o, w1.cell? ⟨w.heap.size + 1, o, none⟩ = B[o]?) ∧ (∀ o, w1.frozen? ⟨w.heap.size, o, none⟩ = false) ∧ (∀ o, w1.frozen? ⟨w.heap.size + 1, o, none⟩ = false) ∧
      w.heap.size + 1 < w1.heap.size ∧ Below w.heap.size w w1 := by
  have hz := size2 hb
  have c : ∀ b o, b < w.heap.size + 2 → w1.cell? ⟨b, o, none⟩ = ((w.alloc (.cells A T)).alloc (.cells B U)).cell? ⟨b, o, none⟩ := fun b o h => hb.cell (p := ⟨b, o, none⟩) (by simp; omega)
  have f : ∀ b o, b < w.heap.size + 2 → w1.frozen? ⟨b, o, none⟩ = ((w.alloc (.cells A T)).alloc (.cells B U)).frozen? ⟨b, o, none⟩ := fun b o h => hb.frozen (p := ⟨b, o, none⟩) (by simp; omega)
  exact ⟨fun o => (c _ o (by omega)).trans (by simp), fun o => (c _ o (by omega)).trans (by simp), fun o => (f _ o (by omega)).trans (by simp), fun o => (f _ o (by omega)).trans (by simp), hz, btrans (balloc2 _ _ _) hb⟩
/-- the second one is written -/
theorem two_set {w w1 : World} {A B : Array Value} {T U : TypeId} (hb : Below ((w.alloc (.cells A T)).alloc (.cells B U)).heap.size ((w.alloc (.cells A T)).alloc (.cells B U)) w1) (hB : B.size = 5) (v0 v1 v2 v3 v4 : Value) :
    ∃ W2, W2 = (((((w1.setCell ⟨w.heap.size + 1, 0, none⟩ v0).setCell ⟨w.heap.size + 1, 1, none⟩ v1).setCell ⟨w.heap.size + 1, 2, none⟩ v2).setCell ⟨w.heap.size + 1, 3, none⟩ v3).setCell ⟨w.heap.size + 1, 4, none⟩ v4) ∧
      (∀ o, W2.cell? ⟨w.heap.size, o, none⟩ = A[o]?) ∧ (W2.cell? ⟨w.heap.size + 1, 0, none⟩ = some v0 ∧ W2.cell? ⟨w.heap.size + 1, 1, none⟩ = some v1 ∧ W2.cell? ⟨w.heap.size + 1, 2, none⟩ = some v2 ∧ W2.cell? ⟨w.heap.size + 1, 3, none⟩ = some v3 ∧ W2.cell? ⟨w.heap.size + 1, 4, none⟩ = some v4) ∧
      (∀ o, W2.frozen? ⟨w.heap.size, o, none⟩ = false) ∧ w.heap.size + 1 < W2.heap.size ∧ Below w.heap.size w W2 := by
  obtain ⟨c0, c1, f0, f1, hz, hl⟩ := two_box hb
  obtain ⟨e0, e1, e2, e3, e4, h2⟩ := set5_at w1 (w.heap.size + 1) v0 v1 v2 v3 v4 (fun j hj => by rw [c1, Array.getElem?_eq_getElem (by omega)]; rfl)
  exact ⟨_, rfl, fun o => (h2.cell (p := ⟨w.heap.size, o, none⟩) (Nat.lt_succ_self _)).trans (c0 o), ⟨e0, e1, e2, e3, e4⟩, fun o => (h2.frozen (p := ⟨w.heap.size, o, none⟩) (Nat.lt_succ_self _)).trans (f0 o), Nat.lt_of_lt_of_le hz h2.size, hl.trans (h2.mono (by omega))⟩
set_option maxRecDepth 20000 in
set_option maxHeartbeats 4000000 in
theorem read3_any (w : World) (hT : Tab.Tabs w) (hP : Pf.PfT w) : Calls Tryz.prog 37 #[Pf.t3] w fun e w' => e = .returned (.tuple #[val 1 0 F3 [] false, .bool true]) ∧ Below w.heap.size w w' := by
  have HT := Lib.hid hT; have HP := Lib.hid hP; clear hT hP
  go_enter Tryz.func37, Tryz.ntmps37
  go_wp2_with (first
    | (go_at_call 75; refine (any3 _).mono ?_; rintro e w1 ⟨rfl, hb1⟩; have HB1 := Lib.hid hb1; obtain ⟨c0, c1, f0, f1, hz1, hl1⟩ := two_box hb1; clear hb1)
    | (go_at_call 76; refine (Pf.parse_3 _ (HP.out.below hl1 (Nat.le_refl _))).mono ?_; rintro e w' ⟨rfl, rfl⟩)
    | (go_at_call 77; refine (canon3 _).mono ?_; rintro e w' ⟨rfl, rfl⟩) | fail)
  obtain ⟨W2, hW2, d0, ⟨e0, e1, e2, e3, e4⟩, g0, hz2, hl2⟩ := two_set HB1.out rfl (.int .i64 1) (.int .i64 0) (.float .f64 F3) (.string ⟨#[]⟩) (.bool false)
  rw [← hW2]
  clear c0 c1 f0 f1 hz1 hl1 HB1 hW2
  have HB := Lib.hid hl2; clear hl2
  go_wp2_with (first
    | (go_at_call 39; refine (right3 _).mono ?_; rintro e w3 ⟨rfl, hb3⟩; obtain ⟨hc3, hf3⟩ := bcell hb3; have hs3 := Nat.lt_of_lt_of_le hz2 hb3.size; have hs3' : w.heap.size < W2.heap.size := by omega)
    | (go_at_call 38; refine (print3 _ (HT.out.below (btrans HB.out hb3) (Nat.le_refl _))).mono ?_; rintro e w4 ⟨rfl, hb4⟩; obtain ⟨hc4, hf4⟩ := bcell hb4; have hs4' : w.heap.size < w3.heap.size := by omega) | fail)
  obtain ⟨r0, r1, r2, r3, r4, hb5⟩ := set5_at w4 w.heap.size (.int .i64 1) (.int .i64 0) (.float .f64 F3) (.string ⟨#[]⟩) (.bool false) (fun j hj => by
    rw [hc4 _ _ (by omega), hc3 _ _ (by omega), d0, Array.getElem?_eq_getElem (by exact hj)]; rfl)
  generalize World.setCell _ _ _ = W5 at *
  refine bodyPost_ret (v := .tuple #[val 1 0 F3 [] false, .bool true]) (by simp [results, Tryz.results37, go_sem, r0, r1, r2, r3, r4]; try rfl) rfl ?_
  exact ⟨rfl, (btrans (btrans HB.out hb3) hb4).trans hb5⟩
set_option maxRecDepth 20000 in
theorem of_a (w : World) : Calls Tryz.prog 42 #[.iface 9 (.string ⟨#[97]⟩)] w fun e w' => e = .returned (.tuple #[val 2 0 0 [97] false, .bool true]) ∧ Below w.heap.size w w' := by
  have t0 : ∀ w, (Instr.typeAssert (.iface 9 (.string ⟨#[97]⟩)) 20 3 true).run Tryz.prog w = .ok (.tuple #[.int .i64 0, .bool false]) w := fun _ => by kernel_rfl
  have t1 : ∀ w, (Instr.typeAssert (.iface 9 (.string ⟨#[97]⟩)) 20 2 true).run Tryz.prog w = .ok (.tuple #[.int .i64 0, .bool false]) w := fun _ => by kernel_rfl
  have t2 : ∀ w, (Instr.typeAssert (.iface 9 (.string ⟨#[97]⟩)) 20 27 true).run Tryz.prog w = .ok (.tuple #[.float .f64 0, .bool false]) w := fun _ => by kernel_rfl
  have t3 : ∀ w, (Instr.typeAssert (.iface 9 (.string ⟨#[97]⟩)) 20 9 true).run Tryz.prog w = .ok (.tuple #[.string ⟨#[97]⟩, .bool true]) w := fun _ => by kernel_rfl
  go_enter Tryz.func42, Tryz.ntmps42
  go_wp2_with fail
  go_returns
  exact ⟨rfl, by repeat (first | assumption | (with_reducible exact Below.refl _ _) | exact balloc _ _ | exact balloc2 _ _ _ | refine btrans ?_ (by assumption) | refine btrans ?_ (balloc _ _))⟩
theorem less12 (W : World) : Calls Tryz.prog 73 #[.float .f64 4607182418800017408, .float .f64 4611686018427387904] W fun e w' => e = .returned (.bool true) ∧ W = w' :=
  (Ord.less_any _ _ W).mono fun _ _ ⟨h1, h2⟩ => ⟨by rw [h1, show Flt.lt 4607182418800017408 4611686018427387904 = true by decide +kernel], h2⟩
set_option maxRecDepth 20000 in
set_option maxHeartbeats 4000000 in
theorem fit02_any (w : World) (hT : Tab.Tabs w) (hP : Pf.PfT w) : Calls Tryz.prog 36 #[] w fun e w' => e = .returned (.bool true) ∧ Below w.heap.size w w' := by
  have q3 : (FloatKind.f64.format.order F3 F3 == some .eq) = true := by decide +kernel
  have HT := Lib.hid hT; have HP := Lib.hid hP; clear hT hP
  go_enter Tryz.func36, Tryz.ntmps36
  go_wp2_with (first
    | (go_at_call 37; refine (read3_any _ HT.out HP.out).mono ?_; rintro e w1 ⟨rfl, hb1⟩)
    | (go_at_call 42; refine (of_a _).mono ?_; rintro e w2 ⟨rfl, hb2⟩; obtain ⟨hc2, hf2⟩ := bcell hb2; have hs2 := size1 hb2)
    | (go_at_call 38; refine (printa _ (HT.out.below (by repeat (first | assumption | (with_reducible exact Below.refl _ _) | exact balloc _ _ | exact balloc2 _ _ _ | refine btrans ?_ (by assumption) | refine btrans ?_ (balloc _ _))) (Nat.le_refl _))).mono ?_; rintro e w3 ⟨rfl, hb3⟩)
    | (go_at_call 73; refine (less12 _).mono ?_; rintro e w' ⟨rfl, rfl⟩) | fail)
  go_ret
  exact ⟨rfl, by repeat (first | assumption | (with_reducible exact Below.refl _ _) | exact balloc _ _ | exact balloc2 _ _ _ | refine btrans ?_ (by assumption) | refine btrans ?_ (balloc _ _))⟩
theorem light_v (k n : Int) (x : Nat) (t : List UInt8) (y : Bool) (w : World) (ht : t.length ≤ 140737488351232) : Calls Tryz.prog 40 #[val k n x t y] w fun e w' => e = .returned (.bool (decide (t.length ≤ 300))) ∧ Below w.heap.size w w' := by
  by_cases h : t.length ≤ 300
  · have s1 : decide ((t.length : Int) ≤ 300) = true := by rw [decide_eq_true_iff]; omega
    go_enter Tryz.func40, Tryz.ntmps40
    go_wp2
    go_ret
    exact ⟨ret_bool (by rw [decide_eq_true h]), balloc _ _⟩
  · have s1 : decide ((t.length : Int) ≤ 300) = false := by rw [decide_eq_false_iff_not]; omega
    go_enter Tryz.func40, Tryz.ntmps40
    go_wp2
    go_ret
    exact ⟨ret_bool (by rw [decide_eq_false h]), balloc _ _⟩
end Go.Proofs.YtceplbanfpnhbaaGreatDoor.Val
end

section
/- THE WALK OF value.Read AT A TEXT BETWEEN QUOTES that needs no escapes. -/
namespace Go.Proofs.YtceplbanfpnhbaaGreatDoor.Val
open Go.RowKit Flt
attribute [local go_sem] run_store_flt
/-- a text that stands between quotes as it is -/
structure Bare1 (body : List UInt8) : Prop where
  h34 : 34 ∉ body
  h92 : 92 ∉ body
  h10 : 10 ∉ body
  hv : Lib.validD body = true
  hq : Quo.quoteT Lib.goPrintTabs body = 34 :: (body ++ [34])
set_option maxRecDepth 20000 in
set_option maxHeartbeats 4000000 in
theorem read_yes (body : List UInt8) (w : World) (hb : Bare1 body) (hl : body.length ≤ 40) (hT : Tab.Tabs w) :
    Calls Tryz.prog 37 #[.string ⟨(34 :: (body ++ [34])).toArray⟩] w fun e w' => e = .returned (.tuple #[val 2 0 0 body false, .bool true]) ∧ Below w.heap.size w w' := by
  have hu := fun W hW => Unq.unq_any body W hb.h34 hb.h92 hb.h10 hb.hv (by omega) hW
  have hp := fun W hW => vprint_any 2 0 0 body false W (by decide) (by decide) (by decide) (by omega) hW
  have hvt : vT ⟨2, 0, 0, body, false⟩ = 34 :: (body ++ [34]) := hb.hq
  rw [hvt] at hp
  have hr := fun W => vright_any 2 0 0 body false W (by omega)
  have hrr : vRight ⟨2, 0, 0, body, false⟩ = true := by
    show (true && true && decide (body.length ≤ 40)) = _
    simp; omega
  rw [hrr] at hr
  have HU := Lib.hid hu; have HPR := Lib.hid hp; have HR := Lib.hid hr; have HT := Lib.hid hT
  clear hu hp hvt hr hrr hT hb
  go_enter Tryz.func37, Tryz.ntmps37
  go_wp2_with (first
    | (go_at_call 74; refine (HU.out _ (HT.out.below (by repeat (first | assumption | (with_reducible exact Below.refl _ _) | exact balloc _ _ | exact balloc2 _ _ _ | refine btrans ?_ (by assumption) | refine btrans ?_ (balloc _ _))) (Nat.le_refl _))).mono ?_; rintro e w1 ⟨rfl, hb1⟩; have HB1 := Lib.hid hb1; obtain ⟨c0, c1, f0, f1, hz1, hl1⟩ := two_box hb1; clear hb1) | fail)
  obtain ⟨W2, hW2, d0, ⟨e0, e1, e2, e3, e4⟩, g0, hz2, hl2⟩ := two_set HB1.out rfl (.int .i64 2) (.int .i64 0) (.float .f64 0) (.string ⟨body.toArray⟩) (.bool false)
  rw [← hW2]
  clear c0 c1 f0 f1 hz1 hl1 HB1 hW2
  have HB := Lib.hid hl2; clear hl2
  go_wp2_with (first
    | (go_at_call 39; refine (HR.out _).mono ?_; rintro e w3 ⟨rfl, hb3⟩; obtain ⟨hc3, hf3⟩ := bcell hb3; have hs3 := Nat.lt_of_lt_of_le hz2 hb3.size; have hs3' : w.heap.size < W2.heap.size := by omega)
    | (go_at_call 38; refine (HPR.out _ (HT.out.below (btrans HB.out hb3) (Nat.le_refl _))).mono ?_; rintro e w4 ⟨rfl, hb4⟩; obtain ⟨hc4, hf4⟩ := bcell hb4; have hs4' : w.heap.size < w3.heap.size := by omega) | fail)
  obtain ⟨r0, r1, r2, r3, r4, hb5⟩ := set5_at w4 w.heap.size (.int .i64 2) (.int .i64 0) (.float .f64 0) (.string ⟨body.toArray⟩) (.bool false) (fun j hj => by
    rw [hc4 _ _ (by omega), hc3 _ _ (by omega), d0, Array.getElem?_eq_getElem (by exact hj)]; rfl)
  generalize World.setCell _ _ _ = W5 at *
  refine bodyPost_ret (v := .tuple #[val 2 0 0 body false, .bool true]) (by simp [results, Tryz.results37, go_sem, r0, r1, r2, r3, r4]; try rfl) rfl ?_
  exact ⟨rfl, (btrans (btrans HB.out hb3) hb4).trans hb5⟩
set_option maxRecDepth 20000 in
set_option maxHeartbeats 4000000 in
theorem read_no (body : List UInt8) (w : World) (hb : Bare1 body) (hl : body.length ≤ 1000) (h40 : 40 < body.length) (hT : Tab.Tabs w) :
    Calls Tryz.prog 37 #[.string ⟨(34 :: (body ++ [34])).toArray⟩] w fun e w' => e = .returned (.tuple #[val 0 0 0 [] false, .bool false]) ∧ Below w.heap.size w w' := by
  have hu := fun W hW => Unq.unq_any body W hb.h34 hb.h92 hb.h10 hb.hv (by omega) hW
  have hp := fun W hW => vprint_any 2 0 0 body false W (by decide) (by decide) (by decide) (by omega) hW
  have hvt : vT ⟨2, 0, 0, body, false⟩ = 34 :: (body ++ [34]) := hb.hq
  rw [hvt] at hp
  have hr := fun W => vright_any 2 0 0 body false W (by omega)
  have hrr : vRight ⟨2, 0, 0, body, false⟩ = false := by
    show (true && true && decide (body.length ≤ 40)) = _
    simp; omega
  rw [hrr] at hr
  have HU := Lib.hid hu; have HPR := Lib.hid hp; have HR := Lib.hid hr; have HT := Lib.hid hT
  clear hu hp hvt hr hrr hT hb
  go_enter Tryz.func37, Tryz.ntmps37
  go_wp2_with (first
    | (go_at_call 74; refine (HU.out _ (HT.out.below (by repeat (first | assumption | (with_reducible exact Below.refl _ _) | exact balloc _ _ | exact balloc2 _ _ _ | refine btrans ?_ (by assumption) | refine btrans ?_ (balloc _ _))) (Nat.le_refl _))).mono ?_; rintro e w1 ⟨rfl, hb1⟩; have HB1 := Lib.hid hb1; obtain ⟨c0, c1, f0, f1, hz1, hl1⟩ := two_box hb1; clear hb1) | fail)
  obtain ⟨W2, hW2, d0, ⟨e0, e1, e2, e3, e4⟩, g0, hz2, hl2⟩ := two_set HB1.out rfl (.int .i64 2) (.int .i64 0) (.float .f64 0) (.string ⟨body.toArray⟩) (.bool false)
  rw [← hW2]
  clear c0 c1 f0 f1 hz1 hl1 HB1 hW2
  have HB := Lib.hid hl2; clear hl2
  go_wp2_with (first
    | (go_at_call 39; refine (HR.out _).mono ?_; rintro e w3 ⟨rfl, hb3⟩; obtain ⟨hc3, hf3⟩ := bcell hb3; have hs3 := Nat.lt_of_lt_of_le hz2 hb3.size; have hs3' : w.heap.size < W2.heap.size := by omega)
    | (go_at_call 38; refine (HPR.out _ (HT.out.below (btrans HB.out hb3) (Nat.le_refl _))).mono ?_; rintro e w4 ⟨rfl, hb4⟩; obtain ⟨hc4, hf4⟩ := bcell hb4; have hs4' : w.heap.size < w3.heap.size := by omega) | fail)
  obtain ⟨r0, r1, r2, r3, r4, hb5⟩ := set5_at w3 w.heap.size (.int .i64 0) (.int .i64 0) (.float .f64 0) (.string ⟨#[]⟩) (.bool false) (fun j hj => by
    rw [hc3 _ _ (by omega), d0, Array.getElem?_eq_getElem (by exact hj)]; rfl)
  generalize World.setCell _ _ _ = W5 at *
  refine bodyPost_ret (v := .tuple #[val 0 0 0 [] false, .bool false]) (by simp [results, Tryz.results37, go_sem, r0, r1, r2, r3, r4]; try rfl) rfl ?_
  exact ⟨rfl, (btrans HB.out hb3).trans hb5⟩
end Go.Proofs.YtceplbanfpnhbaaGreatDoor.Val
end

section
/- PLAIN TEXTS between quotes: signs 32..126 without the quote and the back stroke stand as they are. -/
namespace Go.Proofs.YtceplbanfpnhbaaGreatDoor.Val
open Go.RowKit Flt
/-- a plain sign -/
def Pl (b : UInt8) : Prop := 32 ≤ b.toNat ∧ b.toNat < 127 ∧ b.toNat ≠ 34 ∧ b.toNat ≠ 92
theorem code_pl_all : ((List.range 127).all fun n => decide (n < 32) || decide (n = 34) || decide (n = 92) || (Quo.code Lib.goPrintTabs (n : Int) == [(n : Int)])) = true := by decide +kernel
theorem code_pl (n : Nat) (h0 : 32 ≤ n) (h1 : n < 127) (h2 : n ≠ 34) (h3 : n ≠ 92) : Quo.code Lib.goPrintTabs (n : Int) = [(n : Int)] := by
  have h := List.all_eq_true.1 code_pl_all n (List.mem_range.2 h1)
  rw [show decide (n < 32) = false by rw [decide_eq_false_iff_not]; omega, decide_eq_false h2, decide_eq_false h3] at h
  exact beq_iff_eq.1 (by simpa using h)
theorem qf_pl : ∀ (l : List UInt8) (f : Nat), (∀ b ∈ l, Pl b) → l.length ≤ f → Quo.qf Lib.goPrintTabs f l = l.map fun b => (b.toNat : Int)
  | [], f, _, _ => Quo.qf_nil _ f
  | b :: t, 0, _, h => by simp at h
  | b :: t, f + 1, hp, h => by
    obtain ⟨p0, p1, p2, p3⟩ := hp b (List.mem_cons_self ..)
    have hd : Lib.decodeL (b :: t) = (b.toNat, 1) := Lib.decodeL_ascii b t (by omega)
    have hs : Quo.symOf (b :: t) = (b.toNat : Int) := by
      unfold Quo.symOf
      rw [hd]
      rw [if_neg (fun hh => by have := hh.2; dsimp only at this; omega)]
    unfold Quo.qf
    rw [if_neg (by simp), hs, code_pl b.toNat p0 p1 p2 p3, hd]
    show [(b.toNat : Int)] ++ Quo.qf Lib.goPrintTabs f t = _
    rw [qf_pl t f (fun c hc => hp c (List.mem_cons_of_mem _ hc)) (by simpa using h)]
    rfl
theorem quoteT_pl (l : List UInt8) (hp : ∀ b ∈ l, Pl b) : Quo.quoteT Lib.goPrintTabs l = 34 :: (l ++ [34]) := by
  unfold Quo.quoteT
  rw [Quo.quoteZ_qf, qf_pl l l.length hp (Nat.le_refl _)]
  have hb : ∀ b : UInt8, UInt8.ofNat (Int.toNat (b.toNat : Int)) = b := fun b => by
    rw [Int.toNat_natCast]; exact UInt8.ofNat_toNat
  simp only [List.map_cons, List.map_append, List.map_nil, List.map_map]
  congr 2
  conv => rhs; rw [← List.map_id l]
  exact List.map_congr_left fun b _ => hb b
theorem valid_pl : ∀ (l : List UInt8), (∀ b ∈ l, Pl b) → Lib.validD l = true
  | [], _ => rfl
  | b :: t, hp => by
    have p1 := (hp b (List.mem_cons_self ..)).2.1
    rw [Lib.validD_cons b t (by omega)]
    exact valid_pl t fun c hc => hp c (List.mem_cons_of_mem _ hc)
theorem bare_pl (l : List UInt8) (hp : ∀ b ∈ l, Pl b) : Bare1 l :=
  ⟨fun e => (hp _ e).2.2.1 rfl, fun e => (hp _ e).2.2.2 rfl, fun e => absurd (hp _ e).1 (by decide), valid_pl l hp, quoteT_pl l hp⟩
theorem xs_bare (m : Nat) : Bare1 (List.replicate m 120) := bare_pl _ fun b hb => by
  rw [List.eq_of_mem_replicate hb]; unfold Pl; decide
end Go.Proofs.YtceplbanfpnhbaaGreatDoor.Val
end
