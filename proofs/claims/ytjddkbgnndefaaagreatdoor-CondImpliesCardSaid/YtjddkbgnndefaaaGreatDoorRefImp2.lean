/- THE WALK OF THE DOCUMENT's Implies. -/
import Derived.Test.YtjddkbgnndefaaaGreatDoorRefImpl
namespace Go.Proofs.YtjddkbgnndefaaaGreatDoor.Val
open Go.RowKit Flt
set_option maxRecDepth 20000 in
set_option maxHeartbeats 4000000 in
theorem rimplies_any (nm1 : List UInt8) (op1 k1 n1 : Int) (x1 : Nat) (t1 : List UInt8) (y1 : Bool) (nm2 : List UInt8) (op2 k2 n2 : Int) (x2 : Nat) (t2 : List UInt8) (y2 : Bool) (w : World)
    (a0 : 0 ≤ op1) (a7 : op1 ≤ 7) (ht : t1.length ≤ 140737488351232) :
    Calls Tryz.prog 26 #[cond nm1 op1 k1 n1 x1 t1 y1, cond nm2 op2 k2 n2 x2 t2 y2] w fun e w' => e = .returned (.bool (impliesB ⟨nm1, op1, k1, n1, x1, t1, y1⟩ ⟨nm2, op2, k2, n2, x2, t2, y2⟩)) ∧ Below w.heap.size w w' := by
  have hr : impliesB ⟨nm1, op1, k1, n1, x1, t1, y1⟩ ⟨nm2, op2, k2, n2, x2, t2, y2⟩ = (if !(nm1 == nm2) then false else if cvoidB ⟨nm1, op1, k1, n1, x1, t1, y1⟩ || op2 == 7 then true else if op1 == 7 || cvoidB ⟨nm2, op2, k2, n2, x2, t2, y2⟩ || k1 != k2 then false
    else if op1 == 0 then holdsB ⟨nm2, op2, k2, n2, x2, t2, y2⟩ ⟨k1, n1, x1, t1, y1⟩ else if op1 == 1 then op2 == 1 && cmp1 ⟨k1, n1, x1, t1, y1⟩ ⟨k2, n2, x2, t2, y2⟩ == 0
    else if op1 == 6 then (op2 == 6 && pre t1 t2) || (op2 == 1 && !pre t2 t1)
    else if op1 == 2 || op1 == 3 then lowB (cmp1 ⟨k1, n1, x1, t1, y1⟩ ⟨k2, n2, x2, t2, y2⟩) op1 op2 else uppB (cmp1 ⟨k1, n1, x1, t1, y1⟩ ⟨k2, n2, x2, t2, y2⟩) op1 op2) := rfl
  have hsc : cvoidB ⟨nm1, op1, k1, n1, x1, t1, y1⟩ = false → cvoidB ⟨nm2, op2, k2, n2, x2, t2, y2⟩ = false → op1 ≠ 7 → op2 ≠ 7 → k1 = k2 → cmpOk ⟨k1, n1, x1, t1, y1⟩ ⟨k2, n2, x2, t2, y2⟩ = true :=
    fun h1 h2 h3 h4 h5 => cmpOk_of h5 (cvoid_at h1 h3) (cvoid_at h2 h4)
  have hlo (ho : op1 = 2 ∨ op1 = 3) (w : World) := rlow_any nm1 op1 k1 n1 x1 t1 y1 nm2 op2 k2 n2 x2 t2 y2 w ht ho
  have hup (ho : op1 = 4 ∨ op1 = 5) (w : World) := rupp_any nm1 op1 k1 n1 x1 t1 y1 nm2 op2 k2 n2 x2 t2 y2 w ht ho
  have hho (w : World) := rholds_any nm2 op2 k2 n2 x2 t2 y2 k1 n1 x1 t1 y1 w ht
  have hcm (w : World) := rcompare_any k1 n1 x1 t1 y1 k2 n2 x2 t2 y2 w ht
  clear ht
  have ep : pre t1 t2 = pre t1 t2 := rfl
  have eq : pre t2 t1 = pre t2 t1 := rfl
  have ea : cvoidB ⟨nm1, op1, k1, n1, x1, t1, y1⟩ = cvoidB ⟨nm1, op1, k1, n1, x1, t1, y1⟩ := rfl
  have eb : cvoidB ⟨nm2, op2, k2, n2, x2, t2, y2⟩ = cvoidB ⟨nm2, op2, k2, n2, x2, t2, y2⟩ := rfl
  generalize impliesB ⟨nm1, op1, k1, n1, x1, t1, y1⟩ ⟨nm2, op2, k2, n2, x2, t2, y2⟩ = R at *
  generalize holdsB ⟨nm2, op2, k2, n2, x2, t2, y2⟩ ⟨k1, n1, x1, t1, y1⟩ = hv at *
  generalize cmpOk ⟨k1, n1, x1, t1, y1⟩ ⟨k2, n2, x2, t2, y2⟩ = ok at *
  generalize cmp1 ⟨k1, n1, x1, t1, y1⟩ ⟨k2, n2, x2, t2, y2⟩ = c at *
  clear ep eq
  generalize ep : pre t1 t2 = p1 at hr
  generalize eq : pre t2 t1 = p2 at hr
  generalize hva : cvoidB ⟨nm1, op1, k1, n1, x1, t1, y1⟩ = va at hr hsc
  generalize hvb : cvoidB ⟨nm2, op2, k2, n2, x2, t2, y2⟩ = vb at hr hsc
  clear ea eb
  have EA := Lib.hid hva; have EB := Lib.hid hvb; have EP := Lib.hid ep; have EQ := Lib.hid eq
  have HHO := Lib.hid hho; have HLO := Lib.hid hlo; have HUP := Lib.hid hup; have HCM := Lib.hid hcm; have HR := Lib.hid hr; have HSC := Lib.hid hsc
  clear hva hvb ep eq hho hlo hup hcm hr hsc
  cases hn : (nm1 == nm2)
  · go_enter Tryz.func26, Tryz.ntmps26
    go_wp2
    go_ret
    exact ⟨ret_bool (by rw [HR.out, hn]; rfl), by repeat (first | assumption | exact balloc _ _ | exact balloc2 _ _ _ | refine btrans ?_ (by assumption) | refine btrans ?_ (balloc _ _))⟩
  cases va
  rotate_left
  · go_enter Tryz.func26, Tryz.ntmps26
    go_wp2_with (first | (go_at_call 19; refine (rcvoid_any _ _ _ _ _ _ _ _).mono ?_; rintro e w2 ⟨rfl, hb2⟩; (first | rw [EA.out] | rw [EB.out]); (first | (replace hb1 := btrans hb1 hb2; clear hb2 hc1 hf1; obtain ⟨hc1, hf1⟩ := bcell hb1) | (have hb1 := hb2; clear hb2; obtain ⟨hc1, hf1⟩ := bcell hb1))) | fail)
    go_ret
    exact ⟨ret_bool (by rw [HR.out, hn]; rfl), by repeat (first | assumption | exact balloc _ _ | exact balloc2 _ _ _ | refine btrans ?_ (by assumption) | refine btrans ?_ (balloc _ _))⟩
  cases b7 : (op2 == 7)
  rotate_left
  · go_enter Tryz.func26, Tryz.ntmps26
    go_wp2_with (first | (go_at_call 19; refine (rcvoid_any _ _ _ _ _ _ _ _).mono ?_; rintro e w2 ⟨rfl, hb2⟩; (first | rw [EA.out] | rw [EB.out]); (first | (replace hb1 := btrans hb1 hb2; clear hb2 hc1 hf1; obtain ⟨hc1, hf1⟩ := bcell hb1) | (have hb1 := hb2; clear hb2; obtain ⟨hc1, hf1⟩ := bcell hb1))) | fail)
    go_ret
    exact ⟨ret_bool (by rw [HR.out, hn, b7]; rfl), by repeat (first | assumption | exact balloc _ _ | exact balloc2 _ _ _ | refine btrans ?_ (by assumption) | refine btrans ?_ (balloc _ _))⟩
  by_cases h7 : op1 = 7
  · subst h7
    go_enter Tryz.func26, Tryz.ntmps26
    go_wp2_with (first | (go_at_call 19; refine (rcvoid_any _ _ _ _ _ _ _ _).mono ?_; rintro e w2 ⟨rfl, hb2⟩; (first | rw [EA.out] | rw [EB.out]); (first | (replace hb1 := btrans hb1 hb2; clear hb2 hc1 hf1; obtain ⟨hc1, hf1⟩ := bcell hb1) | (have hb1 := hb2; clear hb2; obtain ⟨hc1, hf1⟩ := bcell hb1))) | fail)
    go_ret
    exact ⟨ret_bool (by rw [HR.out, hn, b7]; rfl), by repeat (first | assumption | exact balloc _ _ | exact balloc2 _ _ _ | refine btrans ?_ (by assumption) | refine btrans ?_ (balloc _ _))⟩
  have g7 : (op1 == 7) = false := by simpa using h7
  cases vb
  rotate_left
  · go_enter Tryz.func26, Tryz.ntmps26
    go_wp2_with (first | (go_at_call 19; refine (rcvoid_any _ _ _ _ _ _ _ _).mono ?_; rintro e w2 ⟨rfl, hb2⟩; (first | rw [EA.out] | rw [EB.out]); (first | (replace hb1 := btrans hb1 hb2; clear hb2 hc1 hf1; obtain ⟨hc1, hf1⟩ := bcell hb1) | (have hb1 := hb2; clear hb2; obtain ⟨hc1, hf1⟩ := bcell hb1))) | fail)
    go_ret
    exact ⟨ret_bool (by rw [HR.out, hn, b7, g7]; rfl), by repeat (first | assumption | exact balloc _ _ | exact balloc2 _ _ _ | refine btrans ?_ (by assumption) | refine btrans ?_ (balloc _ _))⟩
  cases hk : (k1 != k2)
  rotate_left
  · go_enter Tryz.func26, Tryz.ntmps26
    go_wp2_with (first | (go_at_call 19; refine (rcvoid_any _ _ _ _ _ _ _ _).mono ?_; rintro e w2 ⟨rfl, hb2⟩; (first | rw [EA.out] | rw [EB.out]); (first | (replace hb1 := btrans hb1 hb2; clear hb2 hc1 hf1; obtain ⟨hc1, hf1⟩ := bcell hb1) | (have hb1 := hb2; clear hb2; obtain ⟨hc1, hf1⟩ := bcell hb1))) | fail)
    go_ret
    exact ⟨ret_bool (by rw [HR.out, hn, b7, g7, hk]; rfl), by repeat (first | assumption | exact balloc _ _ | exact balloc2 _ _ _ | refine btrans ?_ (by assumption) | refine btrans ?_ (balloc _ _))⟩
  have hok : ok = true := HSC.out rfl rfl h7 (by simpa using b7) (by simpa using hk)
  subst hok
  have hr1 := HR.out
  rw [hn, b7, g7, hk] at hr1
  simp only [Bool.false_eq_true, if_false, Bool.or_self] at hr1
  clear HR HSC
  rcases eight a0 a7 h7 with rfl | rfl | rfl | rfl | rfl | rfl | rfl
  all_goals clear g7 h7 a0 a7
  · have HR : Hid (R = hv) := Lib.hid hr1
    clear hr1 HLO HUP
    go_enter Tryz.func26, Tryz.ntmps26
    go_wp2_with (first | (go_at_call 19; refine (rcvoid_any _ _ _ _ _ _ _ _).mono ?_; rintro e w2 ⟨rfl, hb2⟩; (first | rw [EA.out] | rw [EB.out]); (first | (replace hb1 := btrans hb1 hb2; clear hb2 hc1 hf1; obtain ⟨hc1, hf1⟩ := bcell hb1) | (have hb1 := hb2; clear hb2; obtain ⟨hc1, hf1⟩ := bcell hb1))) | (go_at_call 32; refine (HCM.out _).mono ?_; rintro e w2 ⟨rfl, hb2⟩; (first | (replace hb1 := btrans hb1 hb2; clear hb2 hc1 hf1; obtain ⟨hc1, hf1⟩ := bcell hb1) | (have hb1 := hb2; clear hb2; obtain ⟨hc1, hf1⟩ := bcell hb1))) | (go_at_call 17; refine (HHO.out _).mono ?_; rintro e w2 ⟨rfl, hb2⟩; (first | (replace hb1 := btrans hb1 hb2; clear hb2 hc1 hf1; obtain ⟨hc1, hf1⟩ := bcell hb1) | (have hb1 := hb2; clear hb2; obtain ⟨hc1, hf1⟩ := bcell hb1))) | fail)
    go_ret
    exact ⟨ret_bool HR.out.symm, by repeat (first | assumption | exact balloc _ _ | exact balloc2 _ _ _ | refine btrans ?_ (by assumption) | refine btrans ?_ (balloc _ _))⟩
  · have HR : Hid (R = (op2 == 1 && c == 0)) := Lib.hid hr1
    clear hr1 HLO HUP
    cases o1 : (op2 == 1)
    all_goals
      go_enter Tryz.func26, Tryz.ntmps26
      go_wp2_with (first | (go_at_call 19; refine (rcvoid_any _ _ _ _ _ _ _ _).mono ?_; rintro e w2 ⟨rfl, hb2⟩; (first | rw [EA.out] | rw [EB.out]); (first | (replace hb1 := btrans hb1 hb2; clear hb2 hc1 hf1; obtain ⟨hc1, hf1⟩ := bcell hb1) | (have hb1 := hb2; clear hb2; obtain ⟨hc1, hf1⟩ := bcell hb1))) | (go_at_call 32; refine (HCM.out _).mono ?_; rintro e w2 ⟨rfl, hb2⟩; (first | (replace hb1 := btrans hb1 hb2; clear hb2 hc1 hf1; obtain ⟨hc1, hf1⟩ := bcell hb1) | (have hb1 := hb2; clear hb2; obtain ⟨hc1, hf1⟩ := bcell hb1))) | fail)
      go_ret
      exact ⟨ret_bool (by rw [HR.out, o1]; rfl), by repeat (first | assumption | exact balloc _ _ | exact balloc2 _ _ _ | refine btrans ?_ (by assumption) | refine btrans ?_ (balloc _ _))⟩
  · have HR : Hid (R = lowB c 2 op2) := Lib.hid hr1
    have HSI := Lib.hid (HLO.out (Or.inl rfl))
    clear hr1 HLO HUP
    go_enter Tryz.func26, Tryz.ntmps26
    go_wp2_with (first | (go_at_call 19; refine (rcvoid_any _ _ _ _ _ _ _ _).mono ?_; rintro e w2 ⟨rfl, hb2⟩; (first | rw [EA.out] | rw [EB.out]); (first | (replace hb1 := btrans hb1 hb2; clear hb2 hc1 hf1; obtain ⟨hc1, hf1⟩ := bcell hb1) | (have hb1 := hb2; clear hb2; obtain ⟨hc1, hf1⟩ := bcell hb1))) | (go_at_call 32; refine (HCM.out _).mono ?_; rintro e w2 ⟨rfl, hb2⟩; (first | (replace hb1 := btrans hb1 hb2; clear hb2 hc1 hf1; obtain ⟨hc1, hf1⟩ := bcell hb1) | (have hb1 := hb2; clear hb2; obtain ⟨hc1, hf1⟩ := bcell hb1))) | (go_at_call 45; refine (HSI.out _).mono ?_; rintro e w2 ⟨rfl, hb2⟩; (first | (replace hb1 := btrans hb1 hb2; clear hb2 hc1 hf1; obtain ⟨hc1, hf1⟩ := bcell hb1) | (have hb1 := hb2; clear hb2; obtain ⟨hc1, hf1⟩ := bcell hb1))) | fail)
    go_ret
    exact ⟨ret_bool HR.out.symm, by repeat (first | assumption | exact balloc _ _ | exact balloc2 _ _ _ | refine btrans ?_ (by assumption) | refine btrans ?_ (balloc _ _))⟩
  · have HR : Hid (R = lowB c 3 op2) := Lib.hid hr1
    have HSI := Lib.hid (HLO.out (Or.inr rfl))
    clear hr1 HLO HUP
    go_enter Tryz.func26, Tryz.ntmps26
    go_wp2_with (first | (go_at_call 19; refine (rcvoid_any _ _ _ _ _ _ _ _).mono ?_; rintro e w2 ⟨rfl, hb2⟩; (first | rw [EA.out] | rw [EB.out]); (first | (replace hb1 := btrans hb1 hb2; clear hb2 hc1 hf1; obtain ⟨hc1, hf1⟩ := bcell hb1) | (have hb1 := hb2; clear hb2; obtain ⟨hc1, hf1⟩ := bcell hb1))) | (go_at_call 32; refine (HCM.out _).mono ?_; rintro e w2 ⟨rfl, hb2⟩; (first | (replace hb1 := btrans hb1 hb2; clear hb2 hc1 hf1; obtain ⟨hc1, hf1⟩ := bcell hb1) | (have hb1 := hb2; clear hb2; obtain ⟨hc1, hf1⟩ := bcell hb1))) | (go_at_call 45; refine (HSI.out _).mono ?_; rintro e w2 ⟨rfl, hb2⟩; (first | (replace hb1 := btrans hb1 hb2; clear hb2 hc1 hf1; obtain ⟨hc1, hf1⟩ := bcell hb1) | (have hb1 := hb2; clear hb2; obtain ⟨hc1, hf1⟩ := bcell hb1))) | fail)
    go_ret
    exact ⟨ret_bool HR.out.symm, by repeat (first | assumption | exact balloc _ _ | exact balloc2 _ _ _ | refine btrans ?_ (by assumption) | refine btrans ?_ (balloc _ _))⟩
  · have HR : Hid (R = uppB c 4 op2) := Lib.hid hr1
    have HSI := Lib.hid (HUP.out (Or.inl rfl))
    clear hr1 HLO HUP
    go_enter Tryz.func26, Tryz.ntmps26
    go_wp2_with (first | (go_at_call 19; refine (rcvoid_any _ _ _ _ _ _ _ _).mono ?_; rintro e w2 ⟨rfl, hb2⟩; (first | rw [EA.out] | rw [EB.out]); (first | (replace hb1 := btrans hb1 hb2; clear hb2 hc1 hf1; obtain ⟨hc1, hf1⟩ := bcell hb1) | (have hb1 := hb2; clear hb2; obtain ⟨hc1, hf1⟩ := bcell hb1))) | (go_at_call 32; refine (HCM.out _).mono ?_; rintro e w2 ⟨rfl, hb2⟩; (first | (replace hb1 := btrans hb1 hb2; clear hb2 hc1 hf1; obtain ⟨hc1, hf1⟩ := bcell hb1) | (have hb1 := hb2; clear hb2; obtain ⟨hc1, hf1⟩ := bcell hb1))) | (go_at_call 45; refine (HSI.out _).mono ?_; rintro e w2 ⟨rfl, hb2⟩; (first | (replace hb1 := btrans hb1 hb2; clear hb2 hc1 hf1; obtain ⟨hc1, hf1⟩ := bcell hb1) | (have hb1 := hb2; clear hb2; obtain ⟨hc1, hf1⟩ := bcell hb1))) | fail)
    go_ret
    exact ⟨ret_bool HR.out.symm, by repeat (first | assumption | exact balloc _ _ | exact balloc2 _ _ _ | refine btrans ?_ (by assumption) | refine btrans ?_ (balloc _ _))⟩
  · have HR : Hid (R = uppB c 5 op2) := Lib.hid hr1
    have HSI := Lib.hid (HUP.out (Or.inr rfl))
    clear hr1 HLO HUP
    go_enter Tryz.func26, Tryz.ntmps26
    go_wp2_with (first | (go_at_call 19; refine (rcvoid_any _ _ _ _ _ _ _ _).mono ?_; rintro e w2 ⟨rfl, hb2⟩; (first | rw [EA.out] | rw [EB.out]); (first | (replace hb1 := btrans hb1 hb2; clear hb2 hc1 hf1; obtain ⟨hc1, hf1⟩ := bcell hb1) | (have hb1 := hb2; clear hb2; obtain ⟨hc1, hf1⟩ := bcell hb1))) | (go_at_call 32; refine (HCM.out _).mono ?_; rintro e w2 ⟨rfl, hb2⟩; (first | (replace hb1 := btrans hb1 hb2; clear hb2 hc1 hf1; obtain ⟨hc1, hf1⟩ := bcell hb1) | (have hb1 := hb2; clear hb2; obtain ⟨hc1, hf1⟩ := bcell hb1))) | (go_at_call 45; refine (HSI.out _).mono ?_; rintro e w2 ⟨rfl, hb2⟩; (first | (replace hb1 := btrans hb1 hb2; clear hb2 hc1 hf1; obtain ⟨hc1, hf1⟩ := bcell hb1) | (have hb1 := hb2; clear hb2; obtain ⟨hc1, hf1⟩ := bcell hb1))) | fail)
    go_ret
    exact ⟨ret_bool HR.out.symm, by repeat (first | assumption | exact balloc _ _ | exact balloc2 _ _ _ | refine btrans ?_ (by assumption) | refine btrans ?_ (balloc _ _))⟩
  · have HR : Hid (R = ((op2 == 6 && p1) || (op2 == 1 && !p2))) := Lib.hid hr1
    clear hr1 HLO HUP
    have o61 : ((op2 == 6) = true ∧ (op2 == 1) = false) ∨ ((op2 == 6) = false ∧ (op2 == 1) = true) ∨ ((op2 == 6) = false ∧ (op2 == 1) = false) := by
      cases h1 : (op2 == 6) <;> cases h2 : (op2 == 1) <;> simp_all
    rcases o61 with ⟨o1, o2⟩ | ⟨o1, o2⟩ | ⟨o1, o2⟩
    all_goals
      go_enter Tryz.func26, Tryz.ntmps26
      go_wp2_with (first | (go_at_call 19; refine (rcvoid_any _ _ _ _ _ _ _ _).mono ?_; rintro e w2 ⟨rfl, hb2⟩; (first | rw [EA.out] | rw [EB.out]); (first | (replace hb1 := btrans hb1 hb2; clear hb2 hc1 hf1; obtain ⟨hc1, hf1⟩ := bcell hb1) | (have hb1 := hb2; clear hb2; obtain ⟨hc1, hf1⟩ := bcell hb1))) | (go_at_call 32; refine (HCM.out _).mono ?_; rintro e w2 ⟨rfl, hb2⟩; (first | (replace hb1 := btrans hb1 hb2; clear hb2 hc1 hf1; obtain ⟨hc1, hf1⟩ := bcell hb1) | (have hb1 := hb2; clear hb2; obtain ⟨hc1, hf1⟩ := bcell hb1))) | (go_at_call 33; refine (rbegins_l _ _ _).mono ?_; rintro e w' ⟨rfl, ⟨nd, rfl⟩⟩; (first | rw [EP.out] | rw [EQ.out])) | fail)
      go_ret
      exact ⟨ret_bool (by rw [HR.out, o1, o2]; simp), by first | exact bdrewN (btrans (balloc2 _ _ _) hb1) _ | exact btrans (balloc2 _ _ _) hb1⟩
end Go.Proofs.YtjddkbgnndefaaaGreatDoor.Val
