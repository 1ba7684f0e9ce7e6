/- THE WALK OF filter.Print, over whatever cond.Print writes. -/
import Derived.Test.YtdggofleokjmcaaGreatDoorFil
import Derived.Test.YtdggofleokjmcaaGreatDoorCondFit
namespace Go.Proofs.YtdggofleokjmcaaGreatDoor.Val
open Go.RowKit Flt
attribute [local go_sem] run_store_flt
def fprK (sc : List UInt8) (l : List C) (pr : C → List UInt8) : Nat → List UInt8
  | 0 => sc ++ [58]
  | k + 1 => (fprK sc l pr k ++ (if k = 0 then [] else [32, 38])) ++ ([32] ++ pr l[k]!)
theorem fprK_len (sc : List UInt8) (l : List C) (pr : C → List UInt8) (B : Nat) (k : Nat) (h : ∀ i, i < k → (pr l[i]!).length ≤ B) : (fprK sc l pr k).length ≤ sc.length + 1 + k * (B + 3) := by
  induction k with
  | zero => simp [fprK]
  | succ k ih =>
    have h1 := ih (fun i hi => h i (by omega))
    have h2 := h k (by omega)
    unfold fprK
    simp only [List.length_append, List.length_cons, List.length_nil]
    have h3 : (if k = 0 then ([] : List UInt8) else [32, 38]).length ≤ 2 := by split <;> simp
    rw [Nat.succ_mul]
    omega
set_option maxHeartbeats 2000000 in
theorem fprint_any (sf : List UInt8) (a0 : Option Addr) (cap : Nat) (l : List C) (pr : C → List UInt8) (w : World) (hw : Words w) (hl : Conds w a0 l) (hlm : l.length ≤ 20) (hsf : sf.length ≤ 1000000) (hpl : ∀ c ∈ l, (pr c).length ≤ 100000)
    (hp : ∀ c ∈ l, ∀ W, Words W → Below w.heap.size w W → Calls Tryz.prog 59 #[cc c] W fun e w' => e = .returned (.string ⟨(pr c).toArray⟩) ∧ Below W.heap.size W w') :
    Calls Tryz.prog 63 #[ev sf a0 l.length cap] w fun e w' => e = .returned (.string ⟨(fprK sf l pr l.length).toArray⟩) ∧ Below w.heap.size w w' := by
  have hfl (k : Nat) (h : k ≤ l.length) : (fprK sf l pr k).length ≤ 3000100 := by
    have := fprK_len sf l pr 100000 k (fun i hi => by
      rw [getElem!_pos l i (by omega)]; exact hpl _ (List.getElem_mem _))
    have h2 : k * 100003 ≤ 20 * 100003 := Nat.mul_le_mul_right _ (by omega)
    omega
  have h0 : fprK sf l pr 0 = sf ++ [58] := rfl
  have hst (k : Nat) (h : k < l.length) : fprK sf l pr (k + 1) = (fprK sf l pr k ++ (if k = 0 then [] else [32, 38])) ++ ([32] ++ pr l[k]) := by
    conv => lhs; unfold fprK
    rw [getElem!_pos l k h]
  have HL := Lib.hid hl; have HP := Lib.hid hp; have HW := Lib.hid hw; have HFL := Lib.hid hfl; have HST := Lib.hid hst; have HPL := Lib.hid hpl
  clear hl hp hw hfl hst hpl
  generalize hF : fprK sf l pr = F at *
  have r1 : ∀ w, (Op.stringOp .add ⟨sf.toArray⟩ ⟨#[58]⟩).run Tryz.prog w = .ok (.string ⟨(F 0).toArray⟩) w := fun w => by rw [h0]; exact run_string_add_lists w sf [58] (by omega) (by simp)
  clear hF h0
  go_enter Tryz.func63, Tryz.ntmps63
  go_wp2_with fail
  have hx1 := box2_new w sf a0 l.length cap 63
  have hbw := balloc w (.cells #[.string ⟨sf.toArray⟩, .slice a0 l.length cap] 63)
  have HX1 := Lib.hid hx1; have HBW := Lib.hid hbw
  clear hx1 hbw r1
  generalize w.alloc _ = W0 at *
  go_loopw [3, 12] (fun vs vi wr => ∃ k : Nat, k ≤ l.length ∧ vs = .string ⟨(F k).toArray⟩ ∧ vi = .int .i64 k ∧ Below W0.heap.size W0 wr) (fun _ vi _ => l.length - (intOf vi).toNat)
  case atStart => exact ⟨0, Nat.zero_le _, rfl, rfl, Below.refl _ _⟩
  case round =>
    obtain ⟨k, hk, rfl, rfl, hbr⟩ := hrel
    have hbz := btrans HBW.out hbr
    have HBZ := Lib.hid hbz; have HBR := Lib.hid hbr
    clear hbz hbr
    by_cases hlt : k < l.length
    · have i1 : (k : Int) < (l.length : Int) := by omega
      have i0 : (0 : Int) ≤ (k : Int) := by omega
      have hl1 := HFL.out k hk
      have hl2 := HPL.out _ (List.getElem_mem hlt)
      have hs := HST.out k hlt
      obtain ⟨a, rfl, v0, v1, v2, v3, v4, v5, v6⟩ := (HL.out.below HBZ.out) k hlt
      have hpc := HP.out _ (List.getElem_mem hlt)
      generalize hT : F (k + 1) = T at *
      have HT := Lib.hid hT; clear hT
      generalize F k = S at *
      generalize pr l[k] = p at *
      have HPC := Lib.hid hpc
      clear hpc
      obtain ⟨y1, hy1⟩ : ∃ y, y = [32] ++ p := ⟨_, rfl⟩
      have r1 : ∀ w, (Op.stringOp .add ⟨#[32]⟩ ⟨p.toArray⟩).run Tryz.prog w = .ok (.string ⟨y1.toArray⟩) w := fun w => by rw [hy1]; exact run_string_add_lists w [32] p (by simp) (by omega)
      have l1 : y1.length = p.length + 1 := by rw [hy1]; simp
      rw [← hy1] at hs
      by_cases hk0 : k = 0
      · rw [if_pos hk0, List.append_nil] at hs
        have k0 : ¬ (0 : Int) < (k : Int) := by omega
        clear hk0
        have r2 : ∀ w, (Op.stringOp .add ⟨S.toArray⟩ ⟨y1.toArray⟩).run Tryz.prog w = .ok (.string ⟨T.toArray⟩) w := fun w => by rw [hs]; exact run_string_add_lists w S y1 (by omega) (by omega)
        clear hy1 hs l1
        go_wp2_with (go_at_call 59; refine (HPC.out _ ((HW.out.below HBZ.out).below (balloc _ _)) (btrans HBZ.out (balloc _ _))).mono ?_; rintro e w5 ⟨rfl, hb5⟩)
        exact ⟨⟨k + 1, by omega, by rw [HT.out], by go_num, btrans (btrans HBR.out (balloc _ _)) hb5⟩, by simp [intOf]; go_num⟩
      · rw [if_neg hk0] at hs
        have k0 : (0 : Int) < (k : Int) := by omega
        obtain ⟨y2, hy2⟩ : ∃ y, y = S ++ [32, 38] := ⟨_, rfl⟩
        have r2 : ∀ w, (Op.stringOp .add ⟨S.toArray⟩ ⟨#[32, 38]⟩).run Tryz.prog w = .ok (.string ⟨y2.toArray⟩) w := fun w => by rw [hy2]; exact run_string_add_lists w S [32, 38] (by omega) (by simp)
        have l2 : y2.length = S.length + 2 := by rw [hy2]; simp
        rw [← hy2] at hs
        have r3 : ∀ w, (Op.stringOp .add ⟨y2.toArray⟩ ⟨y1.toArray⟩).run Tryz.prog w = .ok (.string ⟨T.toArray⟩) w := fun w => by rw [hs]; exact run_string_add_lists w y2 y1 (by omega) (by omega)
        clear hy1 hy2 hs l1 l2
        go_wp2_with (go_at_call 59; refine (HPC.out _ ((HW.out.below HBZ.out).below (balloc _ _)) (btrans HBZ.out (balloc _ _))).mono ?_; rintro e w5 ⟨rfl, hb5⟩)
        exact ⟨⟨k + 1, by omega, by rw [HT.out], by go_num, btrans (btrans HBR.out (balloc _ _)) hb5⟩, by simp [intOf]; go_num⟩
    · obtain rfl : k = l.length := by omega
      go_wp2
      go_ret
      exact ⟨rfl, HBZ.out⟩
end Go.Proofs.YtdggofleokjmcaaGreatDoor.Val
