/- THE WALKS OF filter.Match, filter.Right, filter.Covers. -/
import Derived.Test.YtpbdgbejcdncgaaFil
namespace Go.Proofs.Ytpbdgbejcdncgaa.Val
open Go.RowKit Flt
attribute [local go_sem] run_store_flt
set_option maxHeartbeats 2000000 in
theorem fright_any (sf : List UInt8) (a0 : Option Addr) (cap : Nat) (l : List C) (w : World) (hl : Conds w a0 l) (hlm : l.length ≤ 1000000)
    (hsf : sf.length ≤ 140737488351232) (hok : ∀ c ∈ l, c.name.length ≤ 140737488351232 ∧ c.val.text.length ≤ 140737488351232) :
    Calls Try.prog 12 #[ev sf a0 l.length cap] w fun e w' => e = .returned (.bool (fRight sf l)) ∧ Below w.heap.size w w' := by
  have hrt (W : World) := Sc.right_l sf W hsf
  have hr : fRight sf l = (l.all cRight && (Sc.rightB sf && decide (l.length ≤ 6))) := rfl
  have HL := Lib.hid hl; have HRT := Lib.hid hrt; have HR := Lib.hid hr; have HOK := Lib.hid hok
  clear hl hrt hr hsf hok
  generalize Sc.rightB sf = U at *
  generalize fRight sf l = R at *
  go_enter Try.func12, Try.ntmps12
  go_wp2_with fail
  have hx1 := box2_new w sf a0 l.length cap 26
  have hbw := balloc w (.cells #[.string ⟨sf.toArray⟩, .slice a0 l.length cap] 26)
  have HX1 := Lib.hid hx1; have HBW := Lib.hid hbw
  clear hx1 hbw
  generalize w.alloc _ = W0 at *
  go_loopw [8] (fun vi wr => ∃ k : Nat, k ≤ l.length ∧ vi = .int .i64 k ∧ Hid ((l.take k).all cRight = true) ∧ Below W0.heap.size W0 wr) (fun vi _ => l.length - (intOf vi).toNat)
  case atStart => exact ⟨0, Nat.zero_le _, rfl, Lib.hid rfl, Below.refl _ _⟩
  case round =>
    obtain ⟨k, hk, rfl, HP, hbr⟩ := hrel
    have hbz := btrans HBW.out hbr
    have hy1 := HX1.out.below hbr
    have hs1 := hy1.lt
    obtain ⟨f0, f1⟩ := hy1
    have HBZ := Lib.hid hbz; have HBR := Lib.hid hbr
    clear hbz hbr
    by_cases hlt : k < l.length
    · have i1 : (k : Int) < (l.length : Int) := by omega
      have i0 : (0 : Int) ≤ (k : Int) := by omega
      have hts := all_take_succ' cRight l k hlt
      have hno := all_miss cRight l k hlt
      rw [HP.out, Bool.true_and] at hts
      have hx := HOK.out _ (List.getElem_mem hlt)
      obtain ⟨a, rfl, v0, v1, v2, v3, v4, v5, v6⟩ := (HL.out.below HBZ.out) k hlt
      have hmc (W : World) : Calls Try.prog 34 #[cc l[k]] W fun e w' => e = .returned (.bool (cRight l[k])) ∧ Below W.heap.size W w' := cright_any _ _ _ _ _ _ _ W hx.1 hx.2
      clear hx
      generalize cRight l[k] = M at *
      have HTS := Lib.hid hts; have HNO := Lib.hid hno; have HMC := Lib.hid hmc
      clear hts hno hmc HP
      cases M
      · go_wp2_with (go_at_call 34; refine (HMC.out _).mono ?_; rintro e w5 ⟨rfl, hb5⟩)
        go_ret
        exact ⟨ret_bool (by rw [HR.out, HNO.out (by trivial)]; rfl), btrans (btrans HBZ.out (balloc _ _)) hb5⟩
      · go_wp2_with (go_at_call 34; refine (HMC.out _).mono ?_; rintro e w5 ⟨rfl, hb5⟩)
        exact ⟨⟨k + 1, by omega, by go_num, Lib.hid HTS.out, btrans (btrans HBR.out (balloc _ _)) hb5⟩, by simp [intOf]; go_num⟩
    · obtain rfl : k = l.length := by omega
      have hP := HP.out
      rw [List.take_length] at hP
      have HQ := Lib.hid hP; clear hP
      cases U
      · go_wp2_with (go_at_call 18; refine (HRT.out _).mono ?_; rintro e w5 ⟨rfl, ⟨nd, rfl⟩⟩)
        go_ret
        exact ⟨ret_bool (by rw [HR.out, HQ.out]; rfl), bdrewN HBZ.out _⟩
      · go_wp2_with (go_at_call 18; refine (HRT.out _).mono ?_; rintro e w5 ⟨rfl, ⟨nd, rfl⟩⟩)
        go_ret
        exact ⟨ret_bool (by rw [HR.out, HQ.out, Bool.true_and, Bool.true_and, Bool.eq_iff_iff]; simp; omega), bdrewN HBZ.out _⟩
end Go.Proofs.Ytpbdgbejcdncgaa.Val
