/- THE WALK OF cond.Implies. -/
import Derived.Test.YtdggofleokjmcaaGreatDoorSame
namespace Go.Proofs.YtdggofleokjmcaaGreatDoor.Val
open Go.RowKit Flt
theorem low_ways (o p q : Int) (h : p ≠ q) (hp : p ≠ 1) (hq : q ≠ 1) : ((o == p) = true ∧ (o == q) = false ∧ (o == 1) = false) ∨ ((o == p) = false ∧ (o == q) = true ∧ (o == 1) = false) ∨ ((o == p) = false ∧ (o == q) = false ∧ (o == 1) = true) ∨ ((o == p) = false ∧ (o == q) = false ∧ (o == 1) = false) := by
  cases h1 : (o == p) <;> cases h2 : (o == q) <;> cases h3 : (o == 1) <;> simp_all
theorem cmp3_ways (c : Int) : (decide (c < 0) = true ∧ (c == 0) = false ∧ decide (0 < c) = false) ∨ (decide (c < 0) = false ∧ (c == 0) = true ∧ decide (0 < c) = false) ∨ (decide (c < 0) = false ∧ (c == 0) = false ∧ decide (0 < c) = true) := by
  rcases Int.lt_trichotomy c 0 with h | h | h
  · left; simp [h]; omega
  · right; left; simp [h]
  · right; right; simp [h]; omega
set_option maxRecDepth 20000 in
set_option maxHeartbeats 4000000 in
theorem implies_any (nm1 : List UInt8) (op1 k1 n1 : Int) (x1 : Nat) (t1 : List UInt8) (y1 : Bool) (nm2 : List UInt8) (op2 k2 n2 : Int) (x2 : Nat) (t2 : List UInt8) (y2 : Bool) (w : World)
    (a0 : 0 ≤ op1) (a7 : op1 ≤ 7) (hx1 : x1 < 18446744073709551616) (hx2 : x2 < 18446744073709551616) :
    Calls Tryz.prog 69 #[cond nm1 op1 k1 n1 x1 t1 y1, cond nm2 op2 k2 n2 x2 t2 y2] w fun e w' => e = .returned (.bool (impliesB ⟨nm1, op1, k1, n1, x1, t1, y1⟩ ⟨nm2, op2, k2, n2, x2, t2, y2⟩)) ∧ Below w.heap.size w w' := by
  have hr : impliesB ⟨nm1, op1, k1, n1, x1, t1, y1⟩ ⟨nm2, op2, k2, n2, x2, t2, y2⟩ = (if !(nm1 == nm2) then false else if cvoidB ⟨nm1, op1, k1, n1, x1, t1, y1⟩ || op2 == 7 then true else if op1 == 7 || cvoidB ⟨nm2, op2, k2, n2, x2, t2, y2⟩ || k1 != k2 then false
    else if op1 == 0 then holdsB ⟨nm2, op2, k2, n2, x2, t2, y2⟩ ⟨k1, n1, x1, t1, y1⟩ else if op1 == 1 then op2 == 1 && cmp1 ⟨k1, n1, x1, t1, y1⟩ ⟨k2, n2, x2, t2, y2⟩ == 0
    else if op1 == 6 then (op2 == 6 && pre t1 t2) || (op2 == 1 && !pre t2 t1)
    else if op1 == 2 || op1 == 3 then lowB (cmp1 ⟨k1, n1, x1, t1, y1⟩ ⟨k2, n2, x2, t2, y2⟩) op1 op2 else uppB (cmp1 ⟨k1, n1, x1, t1, y1⟩ ⟨k2, n2, x2, t2, y2⟩) op1 op2) := rfl
  have hsc : cvoidB ⟨nm1, op1, k1, n1, x1, t1, y1⟩ = false → cvoidB ⟨nm2, op2, k2, n2, x2, t2, y2⟩ = false → op1 ≠ 7 → op2 ≠ 7 → k1 = k2 → sameB ⟨k1, n1, x1, t1, y1⟩ ⟨k2, n2, x2, t2, y2⟩ = (cmp1 ⟨k1, n1, x1, t1, y1⟩ ⟨k2, n2, x2, t2, y2⟩ == 0) :=
    fun h1 h2 h3 h4 h5 => same_cmp _ _ h5 (cvoid_at h1 h3) (cvoid_at h2 h4) hx1 hx2
  have hho (w : World) := holds_any nm2 op2 k2 n2 x2 t2 y2 k1 n1 x1 t1 y1 w
  have hsm (w : World) := same_any k1 n1 x1 t1 y1 k2 n2 x2 t2 y2 w hx1 hx2
  have hcm (w : World) := compare_any k1 n1 x1 t1 y1 k2 n2 x2 t2 y2 w
  clear hx1 hx2
  have ep : Lib.hasPrefix t1 t2 = pre t1 t2 := rfl
  have eq : Lib.hasPrefix t2 t1 = pre t2 t1 := rfl
  have ea : cvoidB ⟨nm1, op1, k1, n1, x1, t1, y1⟩ = cvoidB ⟨nm1, op1, k1, n1, x1, t1, y1⟩ := rfl
  have eb : cvoidB ⟨nm2, op2, k2, n2, x2, t2, y2⟩ = cvoidB ⟨nm2, op2, k2, n2, x2, t2, y2⟩ := rfl
  generalize impliesB ⟨nm1, op1, k1, n1, x1, t1, y1⟩ ⟨nm2, op2, k2, n2, x2, t2, y2⟩ = R at *
  generalize holdsB ⟨nm2, op2, k2, n2, x2, t2, y2⟩ ⟨k1, n1, x1, t1, y1⟩ = hv at *
  generalize sameB ⟨k1, n1, x1, t1, y1⟩ ⟨k2, n2, x2, t2, y2⟩ = sm at *
  generalize cmpOk ⟨k1, n1, x1, t1, y1⟩ ⟨k2, n2, x2, t2, y2⟩ = ok at *
  generalize cmp1 ⟨k1, n1, x1, t1, y1⟩ ⟨k2, n2, x2, t2, y2⟩ = c at *
  generalize pre t1 t2 = p1 at *
  generalize pre t2 t1 = p2 at *
  generalize hva : cvoidB ⟨nm1, op1, k1, n1, x1, t1, y1⟩ = va at hr hsc
  generalize hvb : cvoidB ⟨nm2, op2, k2, n2, x2, t2, y2⟩ = vb at hr hsc
  clear ea eb
  have EA := Lib.hid hva; have EB := Lib.hid hvb; have EP := Lib.hid ep; have EQ := Lib.hid eq
  have HHO := Lib.hid hho; have HSM := Lib.hid hsm; have HCM := Lib.hid hcm; have HR := Lib.hid hr; have HSC := Lib.hid hsc
  clear hva hvb ep eq hho hsm hcm hr hsc
  cases hn : (nm1 == nm2)
  · go_enter Tryz.func69, Tryz.ntmps69
    go_wp2
    go_ret
    exact ⟨ret_bool (by rw [HR.out, hn]; rfl), by repeat (first | assumption | (with_reducible exact Below.refl _ _) | exact balloc _ _ | exact balloc2 _ _ _ | refine btrans ?_ (by assumption) | refine btrans ?_ (balloc _ _))⟩
  cases va
  rotate_left
  · go_enter Tryz.func69, Tryz.ntmps69
    go_wp2_with (first | (go_at_call 67; refine (cvoid_any _ _ _ _ _ _ _ _).mono ?_; rintro e w2 ⟨rfl, hb2⟩; (first | rw [EA.out] | rw [EB.out]); (first | (replace hb1 := btrans hb1 hb2; clear hb2 hc1 hf1; obtain ⟨hc1, hf1⟩ := bcell hb1) | (have hb1 := hb2; clear hb2; obtain ⟨hc1, hf1⟩ := bcell hb1))) | fail)
    go_ret
    exact ⟨ret_bool (by rw [HR.out, hn]; rfl), by repeat (first | assumption | (with_reducible exact Below.refl _ _) | exact balloc _ _ | exact balloc2 _ _ _ | refine btrans ?_ (by assumption) | refine btrans ?_ (balloc _ _))⟩
  cases b7 : (op2 == 7)
  rotate_left
  · go_enter Tryz.func69, Tryz.ntmps69
    go_wp2_with (first | (go_at_call 67; refine (cvoid_any _ _ _ _ _ _ _ _).mono ?_; rintro e w2 ⟨rfl, hb2⟩; (first | rw [EA.out] | rw [EB.out]); (first | (replace hb1 := btrans hb1 hb2; clear hb2 hc1 hf1; obtain ⟨hc1, hf1⟩ := bcell hb1) | (have hb1 := hb2; clear hb2; obtain ⟨hc1, hf1⟩ := bcell hb1))) | fail)
    go_ret
    exact ⟨ret_bool (by rw [HR.out, hn, b7]; rfl), by repeat (first | assumption | (with_reducible exact Below.refl _ _) | exact balloc _ _ | exact balloc2 _ _ _ | refine btrans ?_ (by assumption) | refine btrans ?_ (balloc _ _))⟩
  by_cases h7 : op1 = 7
  · subst h7
    go_enter Tryz.func69, Tryz.ntmps69
    go_wp2_with (first | (go_at_call 67; refine (cvoid_any _ _ _ _ _ _ _ _).mono ?_; rintro e w2 ⟨rfl, hb2⟩; (first | rw [EA.out] | rw [EB.out]); (first | (replace hb1 := btrans hb1 hb2; clear hb2 hc1 hf1; obtain ⟨hc1, hf1⟩ := bcell hb1) | (have hb1 := hb2; clear hb2; obtain ⟨hc1, hf1⟩ := bcell hb1))) | fail)
    go_ret
    exact ⟨ret_bool (by rw [HR.out, hn, b7]; rfl), by repeat (first | assumption | (with_reducible exact Below.refl _ _) | exact balloc _ _ | exact balloc2 _ _ _ | refine btrans ?_ (by assumption) | refine btrans ?_ (balloc _ _))⟩
  have g7 : (op1 == 7) = false := by simpa using h7
  cases vb
  rotate_left
  · go_enter Tryz.func69, Tryz.ntmps69
    go_wp2_with (first | (go_at_call 67; refine (cvoid_any _ _ _ _ _ _ _ _).mono ?_; rintro e w2 ⟨rfl, hb2⟩; (first | rw [EA.out] | rw [EB.out]); (first | (replace hb1 := btrans hb1 hb2; clear hb2 hc1 hf1; obtain ⟨hc1, hf1⟩ := bcell hb1) | (have hb1 := hb2; clear hb2; obtain ⟨hc1, hf1⟩ := bcell hb1))) | fail)
    go_ret
    exact ⟨ret_bool (by rw [HR.out, hn, b7, g7]; rfl), by repeat (first | assumption | (with_reducible exact Below.refl _ _) | exact balloc _ _ | exact balloc2 _ _ _ | refine btrans ?_ (by assumption) | refine btrans ?_ (balloc _ _))⟩
  cases hk : (k1 != k2)
  rotate_left
  · go_enter Tryz.func69, Tryz.ntmps69
    go_wp2_with (first | (go_at_call 67; refine (cvoid_any _ _ _ _ _ _ _ _).mono ?_; rintro e w2 ⟨rfl, hb2⟩; (first | rw [EA.out] | rw [EB.out]); (first | (replace hb1 := btrans hb1 hb2; clear hb2 hc1 hf1; obtain ⟨hc1, hf1⟩ := bcell hb1) | (have hb1 := hb2; clear hb2; obtain ⟨hc1, hf1⟩ := bcell hb1))) | fail)
    go_ret
    exact ⟨ret_bool (by rw [HR.out, hn, b7, g7, hk]; rfl), by repeat (first | assumption | (with_reducible exact Below.refl _ _) | exact balloc _ _ | exact balloc2 _ _ _ | refine btrans ?_ (by assumption) | refine btrans ?_ (balloc _ _))⟩
  have HS : Hid (sm = (c == 0)) := Lib.hid (HSC.out rfl rfl h7 (by simpa using b7) (by simpa using hk))
  have hr1 := HR.out
  rw [hn, b7, g7, hk] at hr1
  simp only [Bool.false_eq_true, if_false, Bool.or_self] at hr1
  clear HR HSC
  rcases eight a0 a7 h7 with rfl | rfl | rfl | rfl | rfl | rfl | rfl
  all_goals clear g7 h7 a0 a7
  · have HR : Hid (R = hv) := Lib.hid hr1
    clear hr1
    go_enter Tryz.func69, Tryz.ntmps69
    go_wp2_with (first | (go_at_call 67; refine (cvoid_any _ _ _ _ _ _ _ _).mono ?_; rintro e w2 ⟨rfl, hb2⟩; (first | rw [EA.out] | rw [EB.out]); (first | (replace hb1 := btrans hb1 hb2; clear hb2 hc1 hf1; obtain ⟨hc1, hf1⟩ := bcell hb1) | (have hb1 := hb2; clear hb2; obtain ⟨hc1, hf1⟩ := bcell hb1))) | (go_at_call 31; refine (HHO.out _).mono ?_; rintro e w2 ⟨rfl, hb2⟩; (first | (replace hb1 := btrans hb1 hb2; clear hb2 hc1 hf1; obtain ⟨hc1, hf1⟩ := bcell hb1) | (have hb1 := hb2; clear hb2; obtain ⟨hc1, hf1⟩ := bcell hb1))) | fail)
    go_ret
    exact ⟨ret_bool HR.out.symm, by repeat (first | assumption | (with_reducible exact Below.refl _ _) | exact balloc _ _ | exact balloc2 _ _ _ | refine btrans ?_ (by assumption) | refine btrans ?_ (balloc _ _))⟩
  · have HR : Hid (R = (op2 == 1 && c == 0)) := Lib.hid hr1
    clear hr1
    cases o1 : (op2 == 1)
    all_goals
      go_enter Tryz.func69, Tryz.ntmps69
      go_wp2_with (first | (go_at_call 67; refine (cvoid_any _ _ _ _ _ _ _ _).mono ?_; rintro e w2 ⟨rfl, hb2⟩; (first | rw [EA.out] | rw [EB.out]); (first | (replace hb1 := btrans hb1 hb2; clear hb2 hc1 hf1; obtain ⟨hc1, hf1⟩ := bcell hb1) | (have hb1 := hb2; clear hb2; obtain ⟨hc1, hf1⟩ := bcell hb1))) | (go_at_call 22; refine (HSM.out _).mono ?_; rintro e w2 ⟨rfl, hb2⟩; (first | (replace hb1 := btrans hb1 hb2; clear hb2 hc1 hf1; obtain ⟨hc1, hf1⟩ := bcell hb1) | (have hb1 := hb2; clear hb2; obtain ⟨hc1, hf1⟩ := bcell hb1))) | fail)
      go_ret
      exact ⟨ret_bool (by rw [HR.out, o1]; first | rfl | exact HS.out), by repeat (first | assumption | (with_reducible exact Below.refl _ _) | exact balloc _ _ | exact balloc2 _ _ _ | refine btrans ?_ (by assumption) | refine btrans ?_ (balloc _ _))⟩
  · have HR : Hid (R = lowB c 2 op2) := Lib.hid hr1
    clear hr1
    go_enter Tryz.func69, Tryz.ntmps69
    go_wp2_with (first | (go_at_call 67; refine (cvoid_any _ _ _ _ _ _ _ _).mono ?_; rintro e w2 ⟨rfl, hb2⟩; (first | rw [EA.out] | rw [EB.out]); (first | (replace hb1 := btrans hb1 hb2; clear hb2 hc1 hf1; obtain ⟨hc1, hf1⟩ := bcell hb1) | (have hb1 := hb2; clear hb2; obtain ⟨hc1, hf1⟩ := bcell hb1))) | fail)
    refine (HCM.out _).mono ?_; rintro e w2 ⟨rfl, hb2⟩; (first | (replace hb1 := btrans hb1 hb2; clear hb2 hc1 hf1; obtain ⟨hc1, hf1⟩ := bcell hb1) | (have hb1 := hb2; clear hb2; obtain ⟨hc1, hf1⟩ := bcell hb1))
    rcases low_ways op2 2 3 (by decide) (by decide) (by decide) with ⟨o1, o2, o3⟩ | ⟨o1, o2, o3⟩ | ⟨o1, o2, o3⟩ | ⟨o1, o2, o3⟩ <;> rcases cmp3_ways c with ⟨q1, q2, q3⟩ | ⟨q1, q2, q3⟩ | ⟨q1, q2, q3⟩
    all_goals
      go_wp2_with (first | (go_at_call 90; refine (below_any _ _).mono ?_; rintro e w' ⟨rfl, rfl⟩) | fail)
      go_ret
      exact ⟨ret_bool (by rw [HR.out]; unfold lowB; rw [o1, o2, o3, q1, q2]; rfl), by repeat (first | assumption | (with_reducible exact Below.refl _ _) | exact balloc _ _ | exact balloc2 _ _ _ | refine btrans ?_ (by assumption) | refine btrans ?_ (balloc _ _))⟩
  · have HR : Hid (R = lowB c 3 op2) := Lib.hid hr1
    clear hr1
    go_enter Tryz.func69, Tryz.ntmps69
    go_wp2_with (first | (go_at_call 67; refine (cvoid_any _ _ _ _ _ _ _ _).mono ?_; rintro e w2 ⟨rfl, hb2⟩; (first | rw [EA.out] | rw [EB.out]); (first | (replace hb1 := btrans hb1 hb2; clear hb2 hc1 hf1; obtain ⟨hc1, hf1⟩ := bcell hb1) | (have hb1 := hb2; clear hb2; obtain ⟨hc1, hf1⟩ := bcell hb1))) | fail)
    refine (HCM.out _).mono ?_; rintro e w2 ⟨rfl, hb2⟩; (first | (replace hb1 := btrans hb1 hb2; clear hb2 hc1 hf1; obtain ⟨hc1, hf1⟩ := bcell hb1) | (have hb1 := hb2; clear hb2; obtain ⟨hc1, hf1⟩ := bcell hb1))
    rcases low_ways op2 2 3 (by decide) (by decide) (by decide) with ⟨o1, o2, o3⟩ | ⟨o1, o2, o3⟩ | ⟨o1, o2, o3⟩ | ⟨o1, o2, o3⟩ <;> rcases cmp3_ways c with ⟨q1, q2, q3⟩ | ⟨q1, q2, q3⟩ | ⟨q1, q2, q3⟩
    all_goals
      go_wp2_with (first | (go_at_call 90; refine (below_any _ _).mono ?_; rintro e w' ⟨rfl, rfl⟩) | fail)
      go_ret
      exact ⟨ret_bool (by rw [HR.out]; unfold lowB; rw [o1, o2, o3, q1, q2]; rfl), by repeat (first | assumption | (with_reducible exact Below.refl _ _) | exact balloc _ _ | exact balloc2 _ _ _ | refine btrans ?_ (by assumption) | refine btrans ?_ (balloc _ _))⟩
  · have HR : Hid (R = uppB c 4 op2) := Lib.hid hr1
    clear hr1
    go_enter Tryz.func69, Tryz.ntmps69
    go_wp2_with (first | (go_at_call 67; refine (cvoid_any _ _ _ _ _ _ _ _).mono ?_; rintro e w2 ⟨rfl, hb2⟩; (first | rw [EA.out] | rw [EB.out]); (first | (replace hb1 := btrans hb1 hb2; clear hb2 hc1 hf1; obtain ⟨hc1, hf1⟩ := bcell hb1) | (have hb1 := hb2; clear hb2; obtain ⟨hc1, hf1⟩ := bcell hb1))) | fail)
    refine (HCM.out _).mono ?_; rintro e w2 ⟨rfl, hb2⟩; (first | (replace hb1 := btrans hb1 hb2; clear hb2 hc1 hf1; obtain ⟨hc1, hf1⟩ := bcell hb1) | (have hb1 := hb2; clear hb2; obtain ⟨hc1, hf1⟩ := bcell hb1))
    rcases low_ways op2 4 5 (by decide) (by decide) (by decide) with ⟨o1, o2, o3⟩ | ⟨o1, o2, o3⟩ | ⟨o1, o2, o3⟩ | ⟨o1, o2, o3⟩ <;> rcases cmp3_ways c with ⟨q1, q2, q3⟩ | ⟨q1, q2, q3⟩ | ⟨q1, q2, q3⟩
    all_goals
      go_wp2_with (first | (go_at_call 90; refine (below_any _ _).mono ?_; rintro e w' ⟨rfl, rfl⟩) | (go_at_call 91; refine (above_any _ _).mono ?_; rintro e w' ⟨rfl, rfl⟩) | fail)
      go_ret
      exact ⟨ret_bool (by rw [HR.out]; unfold uppB; rw [o1, o2, o3, q2, q3]; rfl), by repeat (first | assumption | (with_reducible exact Below.refl _ _) | exact balloc _ _ | exact balloc2 _ _ _ | refine btrans ?_ (by assumption) | refine btrans ?_ (balloc _ _))⟩
  · have HR : Hid (R = uppB c 5 op2) := Lib.hid hr1
    clear hr1
    go_enter Tryz.func69, Tryz.ntmps69
    go_wp2_with (first | (go_at_call 67; refine (cvoid_any _ _ _ _ _ _ _ _).mono ?_; rintro e w2 ⟨rfl, hb2⟩; (first | rw [EA.out] | rw [EB.out]); (first | (replace hb1 := btrans hb1 hb2; clear hb2 hc1 hf1; obtain ⟨hc1, hf1⟩ := bcell hb1) | (have hb1 := hb2; clear hb2; obtain ⟨hc1, hf1⟩ := bcell hb1))) | fail)
    refine (HCM.out _).mono ?_; rintro e w2 ⟨rfl, hb2⟩; (first | (replace hb1 := btrans hb1 hb2; clear hb2 hc1 hf1; obtain ⟨hc1, hf1⟩ := bcell hb1) | (have hb1 := hb2; clear hb2; obtain ⟨hc1, hf1⟩ := bcell hb1))
    rcases low_ways op2 4 5 (by decide) (by decide) (by decide) with ⟨o1, o2, o3⟩ | ⟨o1, o2, o3⟩ | ⟨o1, o2, o3⟩ | ⟨o1, o2, o3⟩ <;> rcases cmp3_ways c with ⟨q1, q2, q3⟩ | ⟨q1, q2, q3⟩ | ⟨q1, q2, q3⟩
    all_goals
      go_wp2_with (first | (go_at_call 90; refine (below_any _ _).mono ?_; rintro e w' ⟨rfl, rfl⟩) | (go_at_call 91; refine (above_any _ _).mono ?_; rintro e w' ⟨rfl, rfl⟩) | fail)
      go_ret
      exact ⟨ret_bool (by rw [HR.out]; unfold uppB; rw [o1, o2, o3, q2, q3]; rfl), by repeat (first | assumption | (with_reducible exact Below.refl _ _) | exact balloc _ _ | exact balloc2 _ _ _ | refine btrans ?_ (by assumption) | refine btrans ?_ (balloc _ _))⟩
  · have HR : Hid (R = ((op2 == 6 && p1) || (op2 == 1 && !p2))) := Lib.hid hr1
    clear hr1
    have o61 : ((op2 == 6) = true ∧ (op2 == 1) = false) ∨ ((op2 == 6) = false ∧ (op2 == 1) = true) ∨ ((op2 == 6) = false ∧ (op2 == 1) = false) := by
      cases h1 : (op2 == 6) <;> cases h2 : (op2 == 1) <;> simp_all
    rcases o61 with ⟨o1, o2⟩ | ⟨o1, o2⟩ | ⟨o1, o2⟩
    all_goals
      cases p1
      all_goals
        go_enter Tryz.func69, Tryz.ntmps69
        go_wp2_with (first | (go_at_call 67; refine (cvoid_any _ _ _ _ _ _ _ _).mono ?_; rintro e w2 ⟨rfl, hb2⟩; (first | rw [EA.out] | rw [EB.out]); (first | (replace hb1 := btrans hb1 hb2; clear hb2 hc1 hf1; obtain ⟨hc1, hf1⟩ := bcell hb1) | (have hb1 := hb2; clear hb2; obtain ⟨hc1, hf1⟩ := bcell hb1))) | (go_at_call 61; refine (Tryz.strings_HasPrefix _ _ _).mono ?_; rintro e w' ⟨rfl, rfl⟩; (first | rw [EP.out] | rw [EQ.out])) | fail)
        go_ret
        exact ⟨ret_bool (by rw [HR.out, o1, o2]; simp), by repeat (first | assumption | (with_reducible exact Below.refl _ _) | exact balloc _ _ | exact balloc2 _ _ _ | refine btrans ?_ (by assumption) | refine btrans ?_ (balloc _ _))⟩
end Go.Proofs.YtdggofleokjmcaaGreatDoor.Val
