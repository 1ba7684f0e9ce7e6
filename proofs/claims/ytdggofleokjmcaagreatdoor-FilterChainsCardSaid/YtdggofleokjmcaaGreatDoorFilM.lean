/- THE WALKS OF filter.Match, filter.Right, filter.Covers. -/
import Derived.Test.YtdggofleokjmcaaGreatDoorFil
namespace Go.Proofs.YtdggofleokjmcaaGreatDoor.Val
open Go.RowKit Flt
attribute [local go_sem] run_store_flt
set_option maxHeartbeats 2000000 in
theorem fmatch_any (sf : List UInt8) (a0 : Option Addr) (cap : Nat) (l : List C) (se : List UInt8) (b0 : Option Addr) (cp : Nat) (al : List A) (w : World) (hl : Conds w a0 l) (ha : Attrs w b0 al) (hlm : l.length ≤ 1000000) (ham : al.length ≤ 1000000)
    (hsf : sf.length ≤ 140737488351232) (hse : se.length ≤ 140737488351232) :
    Calls Tryz.prog 38 #[ev sf a0 l.length cap, ev se b0 al.length cp] w fun e w' => e = .returned (.bool (fMatch sf l se al)) ∧ Below w.heap.size w w' := by
  have hmt (W : World) (h : Attrs W b0 al) (c : C) := match_any c se b0 cp al W h ham
  have hun (W : World) := Sc.under_l se sf W hse hsf
  have hr : fMatch sf l se al = (l.all (fun c => matchB c al) && Sc.underB se sf) := rfl
  have HL := Lib.hid hl; have HA := Lib.hid ha; have HMT := Lib.hid hmt; have HUN := Lib.hid hun; have HR := Lib.hid hr
  clear hl ha hmt hun hr ham hsf hse
  generalize Sc.underB se sf = U at *
  generalize fMatch sf l se al = R at *
  go_enter Tryz.func38, Tryz.ntmps38
  go_wp2_with fail
  have hx1 := (box2_new w sf a0 l.length cap 63).below (balloc _ (.cells #[.string ⟨se.toArray⟩, .slice b0 al.length cp] 26))
  have hx2 := box2_new (w.alloc (.cells #[.string ⟨sf.toArray⟩, .slice a0 l.length cap] 63)) se b0 al.length cp 26
  rw [World.size_alloc] at hx2
  have hbw := balloc2 w (.cells #[.string ⟨sf.toArray⟩, .slice a0 l.length cap] 63) (.cells #[.string ⟨se.toArray⟩, .slice b0 al.length cp] 26)
  have HX1 := Lib.hid hx1; have HX2 := Lib.hid hx2; have HBW := Lib.hid hbw
  clear hx1 hx2 hbw
  generalize (w.alloc _).alloc _ = W0 at *
  go_loopw [10] (fun vi wr => ∃ k : Nat, k ≤ l.length ∧ vi = .int .i64 k ∧ Hid ((l.take k).all (fun c => matchB c al) = true) ∧ Below W0.heap.size W0 wr) (fun vi _ => l.length - (intOf vi).toNat)
  case atStart => exact ⟨0, Nat.zero_le _, rfl, Lib.hid rfl, Below.refl _ _⟩
  case round =>
    obtain ⟨k, hk, rfl, HP, hbr⟩ := hrel
    have hbz := btrans HBW.out hbr
    have hy1 := HX1.out.below hbr
    have hy2 := HX2.out.below hbr
    have hs1 := hy1.lt
    have hs2 := hy2.lt
    obtain ⟨f0, f1⟩ := hy1
    obtain ⟨e0, e1⟩ := hy2
    have HBZ := Lib.hid hbz; have HBR := Lib.hid hbr
    clear hbz hbr
    by_cases hlt : k < l.length
    · have i1 : (k : Int) < (l.length : Int) := by omega
      have i0 : (0 : Int) ≤ (k : Int) := by omega
      have hts := all_take_succ' (fun c => matchB c al) l k hlt
      have hno := all_miss (fun c => matchB c al) l k hlt
      rw [HP.out, Bool.true_and] at hts
      obtain ⟨a, rfl, v0, v1, v2, v3, v4, v5, v6⟩ := (HL.out.below HBZ.out) k hlt
      have hmc (W : World) (h : Attrs W b0 al) := HMT.out W h l[k]
      (try dsimp only at hts); (try dsimp only at hno)
      generalize matchB l[k] al = M at *
      have HTS := Lib.hid hts; have HNO := Lib.hid hno; have HMC := Lib.hid hmc
      clear hts hno hmc HP
      cases M
      · go_wp2_with (go_at_call 32; refine (HMC.out _ (HA.out.below (btrans HBZ.out (balloc _ _)))).mono ?_; rintro e w5 ⟨rfl, hb5⟩)
        go_ret
        exact ⟨ret_bool (by rw [HR.out, HNO.out (by trivial)]; rfl), btrans (btrans HBZ.out (balloc _ _)) hb5⟩
      · go_wp2_with (go_at_call 32; refine (HMC.out _ (HA.out.below (btrans HBZ.out (balloc _ _)))).mono ?_; rintro e w5 ⟨rfl, hb5⟩)
        exact ⟨⟨k + 1, by omega, by go_num, Lib.hid HTS.out, btrans (btrans HBR.out (balloc _ _)) hb5⟩, by simp [intOf]; go_num⟩
    · obtain rfl : k = l.length := by omega
      have hP := HP.out
      rw [List.take_length] at hP
      have HQ := Lib.hid hP; clear hP
      go_wp2_with (go_at_call 39; refine (HUN.out _).mono ?_; rintro e w5 ⟨rfl, rfl⟩)
      go_ret
      exact ⟨ret_bool (by rw [HR.out, HQ.out]; rfl), HBZ.out⟩
set_option maxHeartbeats 2000000 in
theorem fright_any (sf : List UInt8) (a0 : Option Addr) (cap : Nat) (l : List C) (w : World) (hl : Conds w a0 l) (hlm : l.length ≤ 1000000)
    (hsf : sf.length ≤ 140737488351232) (hok : ∀ c ∈ l, c.name.length ≤ 140737488351232 ∧ c.val.text.length ≤ 140737488351232) :
    Calls Tryz.prog 43 #[ev sf a0 l.length cap] w fun e w' => e = .returned (.bool (fRight sf l)) ∧ Below w.heap.size w w' := by
  have hrt (W : World) := Sc.right_l sf W hsf
  have hr : fRight sf l = (l.all cRight && (Sc.rightB sf && decide (l.length ≤ 6))) := rfl
  have HL := Lib.hid hl; have HRT := Lib.hid hrt; have HR := Lib.hid hr; have HOK := Lib.hid hok
  clear hl hrt hr hsf hok
  generalize Sc.rightB sf = U at *
  generalize fRight sf l = R at *
  go_enter Tryz.func43, Tryz.ntmps43
  go_wp2_with fail
  have hx1 := box2_new w sf a0 l.length cap 63
  have hbw := balloc w (.cells #[.string ⟨sf.toArray⟩, .slice a0 l.length cap] 63)
  have HX1 := Lib.hid hx1; have HBW := Lib.hid hbw
  clear hx1 hbw
  generalize w.alloc _ = W0 at *
  go_loopw [8] (fun vi wr => ∃ k : Nat, k ≤ l.length ∧ vi = .int .i64 k ∧ Hid ((l.take k).all cRight = true) ∧ Below W0.heap.size W0 wr) (fun vi _ => l.length - (intOf vi).toNat)
  case atStart => exact ⟨0, Nat.zero_le _, rfl, Lib.hid rfl, Below.refl _ _⟩
  case round =>
    obtain ⟨k, hk, rfl, HP, hbr⟩ := hrel
    have hbz := btrans HBW.out hbr
    have hy1 := HX1.out.below hbr
    have hs1 := hy1.lt
    obtain ⟨f0, f1⟩ := hy1
    have HBZ := Lib.hid hbz; have HBR := Lib.hid hbr
    clear hbz hbr
    by_cases hlt : k < l.length
    · have i1 : (k : Int) < (l.length : Int) := by omega
      have i0 : (0 : Int) ≤ (k : Int) := by omega
      have hts := all_take_succ' cRight l k hlt
      have hno := all_miss cRight l k hlt
      rw [HP.out, Bool.true_and] at hts
      have hx := HOK.out _ (List.getElem_mem hlt)
      obtain ⟨a, rfl, v0, v1, v2, v3, v4, v5, v6⟩ := (HL.out.below HBZ.out) k hlt
      have hmc (W : World) : Calls Tryz.prog 30 #[cc l[k]] W fun e w' => e = .returned (.bool (cRight l[k])) ∧ Below W.heap.size W w' := cright_any _ _ _ _ _ _ _ W hx.1 hx.2
      clear hx
      generalize cRight l[k] = M at *
      have HTS := Lib.hid hts; have HNO := Lib.hid hno; have HMC := Lib.hid hmc
      clear hts hno hmc HP
      cases M
      · go_wp2_with (go_at_call 30; refine (HMC.out _).mono ?_; rintro e w5 ⟨rfl, hb5⟩)
        go_ret
        exact ⟨ret_bool (by rw [HR.out, HNO.out (by trivial)]; rfl), btrans (btrans HBZ.out (balloc _ _)) hb5⟩
      · go_wp2_with (go_at_call 30; refine (HMC.out _).mono ?_; rintro e w5 ⟨rfl, hb5⟩)
        exact ⟨⟨k + 1, by omega, by go_num, Lib.hid HTS.out, btrans (btrans HBR.out (balloc _ _)) hb5⟩, by simp [intOf]; go_num⟩
    · obtain rfl : k = l.length := by omega
      have hP := HP.out
      rw [List.take_length] at hP
      have HQ := Lib.hid hP; clear hP
      cases U
      · go_wp2_with (go_at_call 35; refine (HRT.out _).mono ?_; rintro e w5 ⟨rfl, ⟨nd, rfl⟩⟩)
        go_ret
        exact ⟨ret_bool (by rw [HR.out, HQ.out]; rfl), bdrewN HBZ.out _⟩
      · go_wp2_with (go_at_call 35; refine (HRT.out _).mono ?_; rintro e w5 ⟨rfl, ⟨nd, rfl⟩⟩)
        go_ret
        exact ⟨ret_bool (by rw [HR.out, HQ.out, Bool.true_and, Bool.true_and, Bool.eq_iff_iff]; simp; omega), bdrewN HBZ.out _⟩
set_option maxRecDepth 20000 in
set_option maxHeartbeats 2000000 in
theorem fcovers_any (sf : List UInt8) (a0 : Option Addr) (cap : Nat) (l : List C) (sg : List UInt8) (b0 : Option Addr) (cp : Nat) (m : List C) (w : World) (hl : Conds w a0 l) (hm : Conds w b0 m) (hlm : l.length ≤ 1000000) (hmm : m.length ≤ 1000000)
    (hsf : sf.length ≤ 140737488351232) (hsg : sg.length ≤ 140737488351232) (hop : ∀ c ∈ m, 0 ≤ c.op ∧ c.op ≤ 7) (hnm : ∀ c ∈ m, c.val.num < 18446744073709551616) (hnl : ∀ c ∈ l, c.val.num < 18446744073709551616) :
    Calls Tryz.prog 41 #[ev sf a0 l.length cap, ev sg b0 m.length cp] w fun e w' => e = .returned (.bool (fCovers sf l sg m)) ∧ Below w.heap.size w w' := by
  have hvo (W : World) (h : Conds W b0 m) := fvoid_any sg b0 cp m W h hmm
  have hun (W : World) := Sc.under_l sg sf W hsg hsf
  have hr : fCovers sf l sg m = (fVoid m || (l.all (fun c => fSome c m) && Sc.underB sg sf)) := rfl
  have hco (c : C) (hc : c.val.num < 18446744073709551616) (b : Nat) (W : World) (h : Conds W b0 m) (hb : CAt W ⟨b, 0, none⟩ c) : Calls Tryz.prog 66 #[.slice b0 m.length cp, .func (.func 68) #[] #[.pointer (some ⟨b, 0, none⟩)]] W fun e w' => e = .returned (.bool (fSome c m)) ∧ Below W.heap.size W w' :=
    containsf_any _ enters_covers1 #[.pointer (some ⟨b, 0, none⟩)] (fun d => impliesB d c) b0 cp m W h hmm (fun V hV d hd => covers1_any d c b V (hb.below hV) (hop d hd) (hnm d hd) hc)
  have hmf : ∀ (fn : Fn) (first cap : Array Value) (w : World), (Instr.makeFunc fn first cap).run Tryz.prog w = .ok (.func fn first cap) w := fun _ _ _ _ => rfl
  have HL := Lib.hid hl; have HM := Lib.hid hm; have HVO := Lib.hid hvo; have HUN := Lib.hid hun; have HR := Lib.hid hr; have HCO := Lib.hid hco; have HNL := Lib.hid hnl
  clear hl hm hvo hun hr hco hsf hsg hop hnm hnl
  generalize Sc.underB sg sf = U at *
  generalize fCovers sf l sg m = R at *
  generalize fVoid m = V at *
  cases V
  rotate_left
  · go_enter Tryz.func41, Tryz.ntmps41
    go_wp2_with (go_at_call 40; refine (HVO.out _ (HM.out.below (balloc2 _ _ _))).mono ?_; rintro e w5 ⟨rfl, hb5⟩)
    go_ret
    exact ⟨ret_bool (by rw [HR.out]; rfl), btrans (balloc2 _ _ _) hb5⟩
  rw [Bool.false_or] at HR
  go_enter Tryz.func41, Tryz.ntmps41
  go_wp2_with fail
  refine (HVO.out _ (HM.out.below (balloc2 _ _ _))).mono ?_
  rintro e w5 ⟨rfl, hb5⟩
  have hx1 := ((box2_new w sf a0 l.length cap 63).below (balloc _ (.cells #[.string ⟨sg.toArray⟩, .slice b0 m.length cp] 63))).below hb5
  have hx2 := box2_new (w.alloc (.cells #[.string ⟨sf.toArray⟩, .slice a0 l.length cap] 63)) sg b0 m.length cp 63
  rw [World.size_alloc] at hx2
  replace hx2 := hx2.below hb5
  have hbw := btrans (balloc2 w (.cells #[.string ⟨sf.toArray⟩, .slice a0 l.length cap] 63) (.cells #[.string ⟨sg.toArray⟩, .slice b0 m.length cp] 63)) hb5
  have hs1 := hx1.lt
  have hs2 := hx2.lt
  have HX1 := Lib.hid hx1; have HX2 := Lib.hid hx2; have HBW := Lib.hid hbw
  obtain ⟨f0, f1⟩ := hx1
  obtain ⟨e0, e1⟩ := hx2
  clear hbw hb5
  go_wp2_with fail
  clear f0 f1 e0 e1 hs1 hs2
  go_loopw [12] (fun vi wr => ∃ k : Nat, k ≤ l.length ∧ vi = .int .i64 k ∧ Hid ((l.take k).all (fun c => fSome c m) = true) ∧ Below w5.heap.size w5 wr) (fun vi _ => l.length - (intOf vi).toNat)
  case atStart => exact ⟨0, Nat.zero_le _, rfl, Lib.hid rfl, Below.refl _ _⟩
  case round =>
    obtain ⟨k, hk, rfl, HP, hbr⟩ := hrel
    have hbz := btrans HBW.out hbr
    have hy1 := HX1.out.below hbr
    have hy2 := HX2.out.below hbr
    have hs1 := hy1.lt
    have hs2 := hy2.lt
    obtain ⟨f0, f1⟩ := hy1
    obtain ⟨e0, e1⟩ := hy2
    have HBZ := Lib.hid hbz; have HBR := Lib.hid hbr
    clear hbz hbr
    by_cases hlt : k < l.length
    · have i1 : (k : Int) < (l.length : Int) := by omega
      have i0 : (0 : Int) ≤ (k : Int) := by omega
      have hts := all_take_succ' (fun c => fSome c m) l k hlt
      have hno := all_miss (fun c => fSome c m) l k hlt
      rw [HP.out, Bool.true_and] at hts
      obtain ⟨a, rfl, v0, v1, v2, v3, v4, v5, v6⟩ := (HL.out.below HBZ.out) k hlt
      have hmc (b : Nat) (W : World) := HCO.out l[k] (HNL.out _ (List.getElem_mem hlt)) b W
      (try dsimp only at hts); (try dsimp only at hno)
      generalize fSome l[k] m = M at *
      have HTS := Lib.hid hts; have HNO := Lib.hid hno; have HMC := Lib.hid hmc
      clear hts hno hmc HP
      cases M
      · go_wp2_with (go_at_call 66; refine (HMC.out _ _ (HM.out.below (btrans HBZ.out (balloc _ _))) (cat_new _ _ _)).mono ?_; rintro e w6 ⟨rfl, hb6⟩)
        go_ret
        exact ⟨ret_bool (by rw [HR.out, HNO.out (by trivial)]; rfl), btrans (btrans HBZ.out (balloc _ _)) hb6⟩
      · go_wp2_with (go_at_call 66; refine (HMC.out _ _ (HM.out.below (btrans HBZ.out (balloc _ _))) (cat_new _ _ _)).mono ?_; rintro e w6 ⟨rfl, hb6⟩)
        exact ⟨⟨k + 1, by omega, by go_num, Lib.hid HTS.out, btrans (btrans HBR.out (balloc _ _)) hb6⟩, by simp [intOf]; go_num⟩
    · obtain rfl : k = l.length := by omega
      have hP := HP.out
      rw [List.take_length] at hP
      have HQ := Lib.hid hP; clear hP
      go_wp2_with (go_at_call 39; refine (HUN.out _).mono ?_; rintro e w6 ⟨rfl, rfl⟩)
      go_ret
      exact ⟨ret_bool (by rw [HR.out, HQ.out]; rfl), HBZ.out⟩
end Go.Proofs.YtdggofleokjmcaaGreatDoor.Val
