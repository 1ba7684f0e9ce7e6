/- THE WALK OF cond.Print: what a condition's text is. -/
import Derived.Test.YtpbdgbejcdncgaaGreatDoorPrint
import Derived.Test.YtpbdgbejcdncgaaGreatDoorCondFit
namespace Go.Proofs.YtpbdgbejcdncgaaGreatDoor.Val
open Go.RowKit Flt
def hasT : List UInt8 := [104, 97, 115, 32]
/-- a condition's text -/
def cT (c : C) : List UInt8 := if c.op == 7 then hasT ++ c.name else c.name ++ [32] ++ wordB c.op ++ [32] ++ vT c.val
theorem itoa_len (n : Int) (h0 : -9223372036854775808 ≤ n) (h1 : n ≤ 9223372036854775807) : (Lib.itoa n).length ≤ 100 := by
  have a := Fmt.nDigits_le20 (u := n.natAbs) (by omega)
  have b := Fmt.nDigits_le20 (u := n.toNat) (by omega)
  unfold Lib.itoa
  split
  · rw [List.length_cons, Lib.decDigits_length]; omega
  · rw [Lib.decDigits_length]; omega
theorem quoteT_len (t : List UInt8) : (Quo.quoteT Lib.goPrintTabs t).length ≤ 10 * t.length + 2 := by
  unfold Quo.quoteT
  rw [List.length_map]
  have h := Lib.quoteZ_length_le Lib.goPrintTabs ⟨t.toArray⟩
  have hs : (⟨t.toArray⟩ : ByteArray).size = t.length := by simp [ByteArray.size]
  rw [hs] at h
  exact h
theorem vT_len (v : V) (h0 : -9223372036854775808 ≤ v.int) (h1 : v.int ≤ 9223372036854775807) : (vT v).length ≤ 10 * v.text.length + 2000 := by
  unfold vT
  split
  · have := itoa_len v.int h0 h1; omega
  · split
    · have := flt_len (Ord.canon v.num)
      unfold Fmt.fltT
      split
      · omega
      · rw [List.length_append]; simp; omega
    · split
      · have := quoteT_len v.text; omega
      · have a : yesT.length = 3 := rfl
        have b : noT.length = 2 := rfl
        split <;> omega
set_option maxHeartbeats 1000000 in
theorem cprint_in (nm : List UInt8) (op k n : Int) (x : Nat) (t : List UInt8) (y : Bool) (ps : List UInt8) (w : World) (hw : Words w) (h7 : (op == 7) = false) (hnm : nm.length ≤ 1000000) (hps : ps.length ≤ 1000000)
    (hp : ∀ w1, Below w.heap.size w w1 → Calls Tryz.prog 44 #[val k n x t y] w1 fun e w' => e = .returned (.string ⟨ps.toArray⟩) ∧ Below w1.heap.size w1 w') :
    Calls Tryz.prog 20 #[cond nm op k n x t y] w fun e w' => e = .returned (.string ⟨(nm ++ [32] ++ wordB op ++ [32] ++ ps).toArray⟩) ∧ Below w.heap.size w w' := by
  have hwl := wordB_len op
  have HW := Lib.hid hw; have HP := Lib.hid hp; clear hw hp
  generalize hwd : wordB op = wd at *
  have HWD := Lib.hid hwd; clear hwd
  obtain ⟨y1, hy1⟩ : ∃ l, l = nm ++ [32] := ⟨_, rfl⟩
  obtain ⟨y2, hy2⟩ : ∃ l, l = y1 ++ wd := ⟨_, rfl⟩
  obtain ⟨y3, hy3⟩ : ∃ l, l = y2 ++ [32] := ⟨_, rfl⟩
  obtain ⟨y4, hy4⟩ : ∃ l, l = y3 ++ ps := ⟨_, rfl⟩
  have l1 : y1.length = nm.length + 1 := by rw [hy1]; simp
  have l2 : y2.length = y1.length + wd.length := by rw [hy2]; simp
  have l3 : y3.length = y2.length + 1 := by rw [hy3]; simp
  have r1 : ∀ w, (Op.stringOp .add ⟨nm.toArray⟩ ⟨#[32]⟩).run Tryz.prog w = .ok (.string ⟨y1.toArray⟩) w := fun w => by rw [hy1]; exact run_string_add_lists w nm [32] (by omega) (by simp)
  have r2 : ∀ w, (Op.stringOp .add ⟨y1.toArray⟩ ⟨wd.toArray⟩).run Tryz.prog w = .ok (.string ⟨y2.toArray⟩) w := fun w => by rw [hy2]; exact run_string_add_lists w y1 wd (by omega) (by omega)
  have r3 : ∀ w, (Op.stringOp .add ⟨y2.toArray⟩ ⟨#[32]⟩).run Tryz.prog w = .ok (.string ⟨y3.toArray⟩) w := fun w => by rw [hy3]; exact run_string_add_lists w y2 [32] (by omega) (by simp)
  have r4 : ∀ w, (Op.stringOp .add ⟨y3.toArray⟩ ⟨ps.toArray⟩).run Tryz.prog w = .ok (.string ⟨y4.toArray⟩) w := fun w => by rw [hy4]; exact run_string_add_lists w y3 ps (by omega) (by omega)
  have HY : nm ++ [32] ++ wd ++ [32] ++ ps = y4 := by rw [hy4, hy3, hy2, hy1]
  have HY' := Lib.hid HY
  clear hy1 hy2 hy3 hy4 l1 l2 l3 HY hwl hnm hps
  go_enter Tryz.func20, Tryz.ntmps20
  go_wp2_with fail
  go_region_held3 (fun w' => w'.cell? ⟨w.heap.size, 0, none⟩ = some (.string ⟨nm.toArray⟩) ∧ w'.cell? ⟨w.heap.size, 1, none⟩ = some (.int .i64 op) ∧ w'.cell? ⟨w.heap.size, 2, none⟩ = some (.int .i64 k) ∧ w'.cell? ⟨w.heap.size, 3, none⟩ = some (.int .i64 n) ∧ w'.cell? ⟨w.heap.size, 4, none⟩ = some (.float .f64 x) ∧ w'.cell? ⟨w.heap.size, 5, none⟩ = some (.string ⟨t.toArray⟩) ∧ w'.cell? ⟨w.heap.size, 6, none⟩ = some (.bool y) ∧ Words w' ∧ Below w.heap.size w w' ∧ w.heap.size < w'.heap.size)
    (first | exact held_start HW.out | assumption | exact held_below (by assumption) (by assumption))
    (first | (go_at_call 43; refine (word_any _ _ (held_words (by assumption))).mono ?_; rintro e w' ⟨rfl, rfl⟩; rw [HWD.out]) | (go_at_call 44; refine (HP.out _ (held_own (by assumption))).mono ?_; rintro e w1 ⟨rfl, hb⟩))
  go_goals
  all_goals
    go_wp2
    go_ret
    exact ⟨ret_str HY'.out.symm, held_own (by assumption)⟩
set_option maxHeartbeats 1000000 in
theorem cprint_has (nm : List UInt8) (k n : Int) (x : Nat) (t : List UInt8) (y : Bool) (w : World) (hnm : nm.length ≤ 1000000) :
    Calls Tryz.prog 20 #[cond nm 7 k n x t y] w fun e w' => e = .returned (.string ⟨(hasT ++ nm).toArray⟩) ∧ Below w.heap.size w w' := by
  obtain ⟨y1, hy1⟩ : ∃ l, l = hasT ++ nm := ⟨_, rfl⟩
  have r1 : ∀ w, (Op.stringOp .add ⟨#[104, 97, 115, 32]⟩ ⟨nm.toArray⟩).run Tryz.prog w = .ok (.string ⟨y1.toArray⟩) w := fun w => by rw [hy1]; exact run_string_add_lists w [104, 97, 115, 32] nm (by decide) (by omega)
  rw [← hy1]
  clear hnm hy1
  go_enter Tryz.func20, Tryz.ntmps20
  go_wp2_with fail
  go_ret
  exact ⟨rfl, balloc _ _⟩
theorem cprint_any (nm : List UInt8) (op k n : Int) (x : Nat) (t : List UInt8) (y : Bool) (w : World) (hw : Words w) (hT : Tab.Tabs w) (hnm : nm.length ≤ 1000000) (ht : t.length ≤ 90000) (hx : x < 18446744073709551616) (h0 : -9223372036854775808 ≤ n) (h1 : n ≤ 9223372036854775807) :
    Calls Tryz.prog 20 #[cond nm op k n x t y] w fun e w' => e = .returned (.string ⟨(cT ⟨nm, op, k, n, x, t, y⟩).toArray⟩) ∧ Below w.heap.size w w' := by
  by_cases h7 : op = 7
  · subst h7
    exact cprint_has nm k n x t y w hnm
  · have e7 : (op == 7) = false := by simpa using h7
    have hl := vT_len ⟨k, n, x, t, y⟩ h0 h1
    have e : cT ⟨nm, op, k, n, x, t, y⟩ = nm ++ [32] ++ wordB op ++ [32] ++ vT ⟨k, n, x, t, y⟩ := by unfold cT; rw [e7]; rfl
    rw [e]
    exact cprint_in nm op k n x t y _ w hw e7 hnm (by simp only at hl; omega) (fun w1 hb => vprint_any k n x t y w1 hx h0 h1 (by omega) (hT.below hb (Nat.le_refl _)))
end Go.Proofs.YtpbdgbejcdncgaaGreatDoor.Val
