/- THE WALKS OF THE DOCUMENT's side AND Implies. -/
import Derived.Test.YtjddkbgnndefaaaGreatDoorImpl
namespace Go.Proofs.YtjddkbgnndefaaaGreatDoor.Val
open Go.RowKit Flt
set_option maxRecDepth 20000 in
set_option maxHeartbeats 4000000 in
theorem rlow_any (nm1 : List UInt8) (op1 k1 n1 : Int) (x1 : Nat) (t1 : List UInt8) (y1 : Bool) (nm2 : List UInt8) (op2 k2 n2 : Int) (x2 : Nat) (t2 : List UInt8) (y2 : Bool) (w : World)
    (ht : t1.length ≤ 140737488351232) (ho : op1 = 2 ∨ op1 = 3) :
    Calls Tryz.prog 45 #[.bool true, .int .i64 2, .int .i64 3, cond nm1 op1 k1 n1 x1 t1 y1, cond nm2 op2 k2 n2 x2 t2 y2] w fun e w' => e = .returned (.bool (lowB (cmp1 ⟨k1, n1, x1, t1, y1⟩ ⟨k2, n2, x2, t2, y2⟩) op1 op2)) ∧ Below w.heap.size w w' := by
  have hcm (w : World) := rcompare_any k1 n1 x1 t1 y1 k2 n2 x2 t2 y2 w ht
  have HCM := Lib.hid hcm; clear hcm ht
  generalize cmpOk ⟨k1, n1, x1, t1, y1⟩ ⟨k2, n2, x2, t2, y2⟩ = ok at *
  generalize cmp1 ⟨k1, n1, x1, t1, y1⟩ ⟨k2, n2, x2, t2, y2⟩ = c at *
  rcases ho with rfl | rfl
  all_goals
    rcases low_ways op2 2 3 (by decide) (by decide) (by decide) with ⟨o1, o2, o3⟩ | ⟨o1, o2, o3⟩ | ⟨o1, o2, o3⟩ | ⟨o1, o2, o3⟩ <;> rcases cmp3_ways c with ⟨q1, q2, q3⟩ | ⟨q1, q2, q3⟩ | ⟨q1, q2, q3⟩
    all_goals
      go_enter Tryz.func45, Tryz.ntmps45
      go_wp2_with (first | (go_at_call 32; refine (HCM.out _).mono ?_; rintro e w2 ⟨rfl, hb2⟩; (first | (replace hb1 := btrans hb1 hb2; clear hb2 hc1 hf1; obtain ⟨hc1, hf1⟩ := bcell hb1) | (have hb1 := hb2; clear hb2; obtain ⟨hc1, hf1⟩ := bcell hb1))) | fail)
      go_ret
      exact ⟨ret_bool (by unfold lowB; rw [o1, o2, o3, q1, q2]; rfl), by repeat (first | assumption | exact balloc _ _ | exact balloc2 _ _ _ | refine btrans ?_ (by assumption) | refine btrans ?_ (balloc _ _))⟩
theorem cmp_range (a b : V) : -1 ≤ cmp1 a b ∧ cmp1 a b ≤ 1 := by
  have hs : ∀ l m, -1 ≤ sgn l m ∧ sgn l m ≤ 1 := fun l m => by unfold sgn; cases l <;> cases m <;> decide
  have hc : ∀ s t : List UInt8, -1 ≤ Lib.compareBytes s t ∧ Lib.compareBytes s t ≤ 1 := by
    intro s
    induction s with
    | nil => intro t; cases t <;> simp [Lib.compareBytes]
    | cons c s ih =>
      intro t
      cases t with
      | nil => simp [Lib.compareBytes]
      | cons d t =>
        unfold Lib.compareBytes
        split
        · decide
        · split
          · decide
          · exact ih t
  unfold cmp1 cmp
  split
  · split
    · exact hs _ _
    · split
      · exact hs _ _
      · split
        · exact hc _ _
        · exact hs _ _
  · decide
set_option maxRecDepth 20000 in
set_option maxHeartbeats 4000000 in
theorem rupp_any (nm1 : List UInt8) (op1 k1 n1 : Int) (x1 : Nat) (t1 : List UInt8) (y1 : Bool) (nm2 : List UInt8) (op2 k2 n2 : Int) (x2 : Nat) (t2 : List UInt8) (y2 : Bool) (w : World)
    (ht : t1.length ≤ 140737488351232) (ho : op1 = 4 ∨ op1 = 5) :
    Calls Tryz.prog 45 #[.bool false, .int .i64 4, .int .i64 5, cond nm1 op1 k1 n1 x1 t1 y1, cond nm2 op2 k2 n2 x2 t2 y2] w fun e w' => e = .returned (.bool (uppB (cmp1 ⟨k1, n1, x1, t1, y1⟩ ⟨k2, n2, x2, t2, y2⟩) op1 op2)) ∧ Below w.heap.size w w' := by
  have hcm (w : World) := rcompare_any k1 n1 x1 t1 y1 k2 n2 x2 t2 y2 w ht
  have hrg := cmp_range ⟨k1, n1, x1, t1, y1⟩ ⟨k2, n2, x2, t2, y2⟩
  have HCM := Lib.hid hcm; clear hcm ht
  generalize cmpOk ⟨k1, n1, x1, t1, y1⟩ ⟨k2, n2, x2, t2, y2⟩ = ok at *
  generalize cmp1 ⟨k1, n1, x1, t1, y1⟩ ⟨k2, n2, x2, t2, y2⟩ = c at *
  have hc : c = -1 ∨ c = 0 ∨ c = 1 := by omega
  clear hrg
  rcases ho with rfl | rfl
  all_goals
    rcases low_ways op2 4 5 (by decide) (by decide) (by decide) with ⟨o1, o2, o3⟩ | ⟨o1, o2, o3⟩ | ⟨o1, o2, o3⟩ | ⟨o1, o2, o3⟩ <;> rcases hc with rfl | rfl | rfl
    all_goals
      go_enter Tryz.func45, Tryz.ntmps45
      go_wp2_with (first | (go_at_call 32; refine (HCM.out _).mono ?_; rintro e w2 ⟨rfl, hb2⟩; (first | (replace hb1 := btrans hb1 hb2; clear hb2 hc1 hf1; obtain ⟨hc1, hf1⟩ := bcell hb1) | (have hb1 := hb2; clear hb2; obtain ⟨hc1, hf1⟩ := bcell hb1))) | fail)
      go_ret
      exact ⟨ret_bool (by unfold uppB; rw [o1, o2, o3]; rfl), by repeat (first | assumption | exact balloc _ _ | exact balloc2 _ _ _ | refine btrans ?_ (by assumption) | refine btrans ?_ (balloc _ _))⟩
end Go.Proofs.YtjddkbgnndefaaaGreatDoor.Val
