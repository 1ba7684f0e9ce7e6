/- THE WALK OF the laws' fit of package cond: it prints 'a < 3'. -/
import Derived.Test.YtpbdgbejcdncgaaGreatDoorCond
import Derived.Test.YtpbdgbejcdncgaaGreatDoorName
import Derived.RegionCalls
import Derived.Deep.RegionWith
import Derived.Deep.RegionHeld3
namespace Go.Proofs.YtpbdgbejcdncgaaGreatDoor.Val
open Go.RowKit Flt
set_option maxHeartbeats 400000 in
theorem fmtint_small (i : Nat) (hi : i < 100) (w : World) :
    Calls Tryz.prog 55 #[.int .i64 i, .int .i64 10] w fun e w' => e = .returned (.string ⟨(Lib.decDigits i).toArray⟩) ∧ w = w' := by
  go_enter Tryz.func55, Tryz.ntmps55
  go_wp2_with (go_at_call 72; refine (Tryz.internal_strconv_FormatInt_10_small _ hi _).mono ?_; rintro e w' ⟨rfl, rfl⟩)
  go_ret
  exact ⟨rfl, rfl⟩
set_option maxHeartbeats 400000 in
theorem print_small (i : Nat) (hi : i < 100) (x : Nat) (t : List UInt8) (y : Bool) (w : World) :
    Calls Tryz.prog 44 #[val 0 i x t y] w fun e w' => e = .returned (.string ⟨(Lib.decDigits i).toArray⟩) ∧ Below w.heap.size w w' := by
  go_enter Tryz.func44, Tryz.ntmps44
  go_wp2_with (go_at_call 55; refine (fmtint_small _ hi _).mono ?_; rintro e w' ⟨rfl, rfl⟩)
  go_ret
  exact ⟨rfl, balloc _ _⟩
theorem print_3 (w : World) : Calls Tryz.prog 44 #[val 0 3 0 [] false] w fun e w' => e = .returned (.string ⟨[51].toArray⟩) ∧ Below w.heap.size w w' :=
  (print_small 3 (by decide) 0 [] false w).mono fun e w' ⟨h1, h2⟩ => ⟨by rw [h1, show Lib.decDigits 3 = [51] by simp [Lib.decDigits]], h2⟩
/-- what the region's loads want of the world -/
theorem held_below {b : Nat} {v0 v1 v2 v3 v4 v5 v6 : Value} {w w1 w2 : World} (hb : Below w1.heap.size w1 w2)
    (h : w1.cell? ⟨b, 0, none⟩ = some v0 ∧ w1.cell? ⟨b, 1, none⟩ = some v1 ∧ w1.cell? ⟨b, 2, none⟩ = some v2 ∧ w1.cell? ⟨b, 3, none⟩ = some v3 ∧ w1.cell? ⟨b, 4, none⟩ = some v4 ∧ w1.cell? ⟨b, 5, none⟩ = some v5 ∧ w1.cell? ⟨b, 6, none⟩ = some v6 ∧ Words w1 ∧ Below w.heap.size w w1 ∧ b < w1.heap.size) :
    w2.cell? ⟨b, 0, none⟩ = some v0 ∧ w2.cell? ⟨b, 1, none⟩ = some v1 ∧ w2.cell? ⟨b, 2, none⟩ = some v2 ∧ w2.cell? ⟨b, 3, none⟩ = some v3 ∧ w2.cell? ⟨b, 4, none⟩ = some v4 ∧ w2.cell? ⟨b, 5, none⟩ = some v5 ∧ w2.cell? ⟨b, 6, none⟩ = some v6 ∧ Words w2 ∧ Below w.heap.size w w2 ∧ b < w2.heap.size := by
  obtain ⟨h0, h1, h2, h3, h4, h5, h6, hw, hB, hl⟩ := h
  have c : ∀ o, w2.cell? ⟨b, o, none⟩ = w1.cell? ⟨b, o, none⟩ := fun o => hb.cell (p := ⟨b, o, none⟩) hl
  exact ⟨by rw [c]; exact h0, by rw [c]; exact h1, by rw [c]; exact h2, by rw [c]; exact h3, by rw [c]; exact h4, by rw [c]; exact h5, by rw [c]; exact h6, hw.below hb, btrans hB hb, Nat.lt_of_lt_of_le hl hb.size⟩
theorem held_start {v0 v1 v2 v3 v4 v5 v6 : Value} {T : TypeId} {w : World} (hw : Words w) :
    (w.alloc (.cells #[v0, v1, v2, v3, v4, v5, v6] T)).drew.cell? ⟨w.heap.size, 0, none⟩ = some v0 ∧ (w.alloc (.cells #[v0, v1, v2, v3, v4, v5, v6] T)).drew.cell? ⟨w.heap.size, 1, none⟩ = some v1 ∧ (w.alloc (.cells #[v0, v1, v2, v3, v4, v5, v6] T)).drew.cell? ⟨w.heap.size, 2, none⟩ = some v2 ∧ (w.alloc (.cells #[v0, v1, v2, v3, v4, v5, v6] T)).drew.cell? ⟨w.heap.size, 3, none⟩ = some v3 ∧ (w.alloc (.cells #[v0, v1, v2, v3, v4, v5, v6] T)).drew.cell? ⟨w.heap.size, 4, none⟩ = some v4 ∧ (w.alloc (.cells #[v0, v1, v2, v3, v4, v5, v6] T)).drew.cell? ⟨w.heap.size, 5, none⟩ = some v5 ∧ (w.alloc (.cells #[v0, v1, v2, v3, v4, v5, v6] T)).drew.cell? ⟨w.heap.size, 6, none⟩ = some v6 ∧
    Words (w.alloc (.cells #[v0, v1, v2, v3, v4, v5, v6] T)).drew ∧ Below w.heap.size w (w.alloc (.cells #[v0, v1, v2, v3, v4, v5, v6] T)).drew ∧ w.heap.size < (w.alloc (.cells #[v0, v1, v2, v3, v4, v5, v6] T)).drew.heap.size := by
  have c : ∀ o, (w.alloc (.cells #[v0, v1, v2, v3, v4, v5, v6] T)).cell? ⟨w.heap.size, o, none⟩ = #[v0, v1, v2, v3, v4, v5, v6][o]? := fun o => World.cell?_alloc_at _ _ _ _ rfl
  exact ⟨c 0, c 1, c 2, c 3, c 4, c 5, c 6, (hw.below (balloc _ _)).drew, bdrewN (balloc _ _) 1, by show w.heap.size < (w.alloc _).heap.size; simp⟩
theorem held_words {b : Nat} {v0 v1 v2 v3 v4 v5 v6 : Value} {w w1 : World}
    (h : w1.cell? ⟨b, 0, none⟩ = some v0 ∧ w1.cell? ⟨b, 1, none⟩ = some v1 ∧ w1.cell? ⟨b, 2, none⟩ = some v2 ∧ w1.cell? ⟨b, 3, none⟩ = some v3 ∧ w1.cell? ⟨b, 4, none⟩ = some v4 ∧ w1.cell? ⟨b, 5, none⟩ = some v5 ∧ w1.cell? ⟨b, 6, none⟩ = some v6 ∧ Words w1 ∧ Below w.heap.size w w1 ∧ b < w1.heap.size) : Words w1 := h.2.2.2.2.2.2.2.1
theorem held_own {b : Nat} {v0 v1 v2 v3 v4 v5 v6 : Value} {w w1 : World}
    (h : w1.cell? ⟨b, 0, none⟩ = some v0 ∧ w1.cell? ⟨b, 1, none⟩ = some v1 ∧ w1.cell? ⟨b, 2, none⟩ = some v2 ∧ w1.cell? ⟨b, 3, none⟩ = some v3 ∧ w1.cell? ⟨b, 4, none⟩ = some v4 ∧ w1.cell? ⟨b, 5, none⟩ = some v5 ∧ w1.cell? ⟨b, 6, none⟩ = some v6 ∧ Words w1 ∧ Below w.heap.size w w1 ∧ b < w1.heap.size) : Below w.heap.size w w1 := h.2.2.2.2.2.2.2.2.1
theorem wordB_len (op : Int) : (wordB op).length ≤ 3 := by
  unfold wordB
  split
  · simp
  · have : op.toNat ≤ 7 := by omega
    revert this
    generalize op.toNat = n
    intro h
    match n, h with
    | 0, _ => decide
    | 1, _ => decide
    | 2, _ => decide
    | 3, _ => decide
    | 4, _ => decide
    | 5, _ => decide
    | 6, _ => decide
    | 7, _ => decide
set_option maxHeartbeats 1000000 in
theorem cprint_of (nm : List UInt8) (op k n : Int) (x : Nat) (t : List UInt8) (y : Bool) (ps : List UInt8) (w : World) (hw : Words w) (h7 : (op == 7) = false) (hnm : nm.length ≤ 1000000) (hps : ps.length ≤ 1000000)
    (hp : ∀ w, Calls Tryz.prog 44 #[val k n x t y] w fun e w' => e = .returned (.string ⟨ps.toArray⟩) ∧ Below w.heap.size w w') :
    Calls Tryz.prog 20 #[cond nm op k n x t y] w fun e w' => e = .returned (.string ⟨(nm ++ [32] ++ wordB op ++ [32] ++ ps).toArray⟩) ∧ Below w.heap.size w w' := by
  have hwl := wordB_len op
  have HW := Lib.hid hw; have HP := Lib.hid hp; clear hw hp
  generalize hwd : wordB op = wd at *
  have HWD := Lib.hid hwd; clear hwd
  obtain ⟨y1, hy1⟩ : ∃ l, l = nm ++ [32] := ⟨_, rfl⟩
  obtain ⟨y2, hy2⟩ : ∃ l, l = y1 ++ wd := ⟨_, rfl⟩
  obtain ⟨y3, hy3⟩ : ∃ l, l = y2 ++ [32] := ⟨_, rfl⟩
  obtain ⟨y4, hy4⟩ : ∃ l, l = y3 ++ ps := ⟨_, rfl⟩
  have l1 : y1.length = nm.length + 1 := by rw [hy1]; simp
  have l2 : y2.length = y1.length + wd.length := by rw [hy2]; simp
  have l3 : y3.length = y2.length + 1 := by rw [hy3]; simp
  have r1 : ∀ w, (Op.stringOp .add ⟨nm.toArray⟩ ⟨#[32]⟩).run Tryz.prog w = .ok (.string ⟨y1.toArray⟩) w := fun w => by rw [hy1]; exact run_string_add_lists w nm [32] (by omega) (by simp)
  have r2 : ∀ w, (Op.stringOp .add ⟨y1.toArray⟩ ⟨wd.toArray⟩).run Tryz.prog w = .ok (.string ⟨y2.toArray⟩) w := fun w => by rw [hy2]; exact run_string_add_lists w y1 wd (by omega) (by omega)
  have r3 : ∀ w, (Op.stringOp .add ⟨y2.toArray⟩ ⟨#[32]⟩).run Tryz.prog w = .ok (.string ⟨y3.toArray⟩) w := fun w => by rw [hy3]; exact run_string_add_lists w y2 [32] (by omega) (by simp)
  have r4 : ∀ w, (Op.stringOp .add ⟨y3.toArray⟩ ⟨ps.toArray⟩).run Tryz.prog w = .ok (.string ⟨y4.toArray⟩) w := fun w => by rw [hy4]; exact run_string_add_lists w y3 ps (by omega) (by omega)
  have HY : nm ++ [32] ++ wd ++ [32] ++ ps = y4 := by rw [hy4, hy3, hy2, hy1]
  have HY' := Lib.hid HY
  clear hy1 hy2 hy3 hy4 l1 l2 l3 HY hwl hnm hps
  go_enter Tryz.func20, Tryz.ntmps20
  go_wp2_with fail
  go_region_held3 (fun w' => w'.cell? ⟨w.heap.size, 0, none⟩ = some (.string ⟨nm.toArray⟩) ∧ w'.cell? ⟨w.heap.size, 1, none⟩ = some (.int .i64 op) ∧ w'.cell? ⟨w.heap.size, 2, none⟩ = some (.int .i64 k) ∧ w'.cell? ⟨w.heap.size, 3, none⟩ = some (.int .i64 n) ∧ w'.cell? ⟨w.heap.size, 4, none⟩ = some (.float .f64 x) ∧ w'.cell? ⟨w.heap.size, 5, none⟩ = some (.string ⟨t.toArray⟩) ∧ w'.cell? ⟨w.heap.size, 6, none⟩ = some (.bool y) ∧ Words w' ∧ Below w.heap.size w w' ∧ w.heap.size < w'.heap.size)
    (first | exact held_start HW.out | assumption | exact held_below (by assumption) (by assumption))
    (first | (go_at_call 43; refine (word_any _ _ (held_words (by assumption))).mono ?_; rintro e w' ⟨rfl, rfl⟩; rw [HWD.out]) | (go_at_call 44; refine (HP.out _).mono ?_; rintro e w1 ⟨rfl, hb⟩))
  go_goals
  all_goals
    go_wp2
    go_ret
    exact ⟨ret_str HY'.out.symm, held_own (by assumption)⟩
theorem cprint_a3 (w : World) (hw : Words w) : Calls Tryz.prog 20 #[cond [97] 2 0 3 0 [] false] w fun e w' => e = .returned (.string ⟨#[97, 32, 60, 32, 51]⟩) ∧ Below w.heap.size w w' :=
  (cprint_of [97] 2 0 3 0 [] false [51] w hw rfl (by decide) (by decide) print_3).mono fun _ _ ⟨h1, h2⟩ => ⟨h1, h2⟩
theorem holds_a3 (n : Int) : holdsB ⟨[97], 2, ⟨0, 3, 0, [], false⟩⟩ ⟨0, n, 0, [], false⟩ = decide (n < 3) := by
  rw [Bool.eq_iff_iff]
  simp only [holdsB, cmp1, cmpOk, voidB, cmp, sgn]
  by_cases h : n < 3 <;> by_cases h' : 3 < n <;> simp [h, h'] <;> omega
theorem fH (n : Int) (w : World) : Calls Tryz.prog 60 #[cond [97] 2 0 3 0 [] false, val 0 n 0 [] false] w fun e w' => e = .returned (.bool (decide (n < 3))) ∧ Below w.heap.size w w' :=
  (holds_any [97] 2 0 3 0 [] false 0 n 0 [] false w).mono fun _ _ ⟨h1, h2⟩ => ⟨by rw [h1, holds_a3], h2⟩
theorem fname (w : World) : Calls Tryz.prog 12 #[.string ⟨#[97]⟩] w fun e w' => e = .returned (.bool true) ∧ w = w' :=
  (Sc.name_l [97] w (by decide)).mono fun _ _ ⟨h1, h2⟩ => ⟨h1, h2⟩
theorem fright (w : World) : Calls Tryz.prog 39 #[val 0 3 0 [] false] w fun e w' => e = .returned (.bool true) ∧ Below w.heap.size w w' :=
  (vright_any 0 3 0 [] false w (by decide)).mono fun _ _ ⟨h1, h2⟩ => ⟨h1, h2⟩
theorem run_store_flt (P : Program) (w : World) (a : Addr) (m : Mode) (k : FloatKind) (b : Nat) : (store a (.float k b) m).run P w = stored P w a (.float k b) m := run_store P w a _ m rfl
attribute [local go_sem] run_store_flt
theorem size1 {w w1 : World} {o : Obj} (hb : Below (w.alloc o).heap.size (w.alloc o) w1) : w.heap.size < w1.heap.size := Nat.lt_of_lt_of_le (by show w.heap.size < (w.alloc o).heap.size; simp) hb.size
end Go.Proofs.YtpbdgbejcdncgaaGreatDoor.Val
