/- THE WALK OF the law FilterScopes. -/
import Derived.Test.YtdggofleokjmcaaGreatDoorEvL
import Derived.Test.YtdggofleokjmcaaGreatDoorFit07
import Derived.Deep.DeepCutAuto
import Derived.Deep.LoopGhost
namespace Go.Proofs.YtdggofleokjmcaaGreatDoor.Val
open Go.RowKit Flt
attribute [local go_sem] run_store_flt
def cA : C := ⟨[97], 6, ⟨0, 0, 0, [], false⟩⟩
theorem rs_move (a b : List UInt8) (al : List A) : fMatch a [] b al = Sc.underB b a := by unfold fMatch; simp
theorem cA_void : cvoidB cA = true := by decide
theorem cA_match (a b : List UInt8) (al : List A) : fMatch a [cA] b al = false := void_not (by unfold fVoid; simp [cA_void])
structure FSt (w W : World) (p7 p8 p9 p10 : Nat) (a b : List UInt8) (g : Nat) (e0 : Option Addr) (ecp : Nat) (el : List A) : Prop where
  bf : Box2 W p7 a none 0 0
  bg : Box2 W p8 a (some ⟨g, 0, none⟩) 1 1
  be : Box2 W p9 b e0 el.length ecp
  bh : Box2 W p10 b none 0 0
  cs : Conds W (some ⟨g, 0, none⟩) [cA]
  at6 : Attrs W e0 el
  own : Below w.heap.size w W
theorem FSt.below {w W W2 : World} {p7 p8 p9 p10 : Nat} {a b : List UInt8} {g : Nat} {e0 : Option Addr} {ecp : Nat} {el : List A} (s : FSt w W p7 p8 p9 p10 a b g e0 ecp el) (hb : Below W.heap.size W W2) : FSt w W2 p7 p8 p9 p10 a b g e0 ecp el :=
  ⟨s.bf.below hb, s.bg.below hb, s.be.below hb, s.bh.below hb, s.cs.below hb, s.at6.below hb, btrans s.own hb⟩
theorem cA_op : ∀ c ∈ [cA], 0 ≤ c.op ∧ c.op ≤ 7 := fun c hc => by rw [List.mem_singleton.1 hc]; exact ⟨by decide, by decide⟩
theorem cA_num : ∀ c ∈ [cA], c.val.num < 18446744073709551616 := fun c hc => by rw [List.mem_singleton.1 hc]; decide
set_option maxRecDepth 20000 in
set_option maxHeartbeats 4000000 in
theorem fscopes_law (a b : List UInt8) (a0 : Option Addr) (cap : Nat) (l : List A) (w : World) (hw : Words w) (hl : Attrs w a0 l) (hok : ∀ x ∈ l, Open.AOk x) (hcm : l.length ≤ maxLen) (ha : a.length ≤ 140737488351232) (hb : b.length ≤ 140737488351232) :
    Calls Tryz.prog 11 #[.string ⟨a.toArray⟩, .string ⟨b.toArray⟩, .slice a0 l.length cap] w fun e w' => e = .returned (.bool true) ∧ Below w.heap.size w w' := by
  have HW := Lib.hid hw; have HL := Lib.hid hl; have HOK := Lib.hid hok
  clear hw hl hok
  have d2 : IntKind.i64.wrap ((a.length : Int) + (b.length : Int)) = (a.length : Int) + (b.length : Int) := by rw [IntKind.wrap_i64]; omega
  by_cases h200 : a.length + b.length ≤ 200
  rotate_left
  · have d1 : (200 : Int) < (a.length : Int) + (b.length : Int) := by omega
    go_enter Tryz.func11, Tryz.ntmps11
    go_wp2_with (go_at_call 34; refine (fit07_any _ HW.out).mono ?_; rintro e w1 ⟨rfl, hb1⟩)
    go_ret
    exact ⟨rfl, hb1⟩
  have d1 : ¬ (200 : Int) < (a.length : Int) + (b.length : Int) := by omega
  have hra (W : World) := Sc.right_l a W ha
  have hrb (W : World) := Sc.right_l b W hb
  have hfw (W : World) (h : Attrs W a0 l) := few07_any a0 cap l W h hcm
  generalize hA : Sc.rightB a = ra at *
  have HA := Lib.hid hA; clear hA
  have HRA := Lib.hid hra; have HRB := Lib.hid hrb; have HFW := Lib.hid hfw
  clear hra hrb hfw
  cases ra
  · go_enter Tryz.func11, Tryz.ntmps11
    go_wp2_with (first | (go_at_call 34; refine (fit07_any _ HW.out).mono ?_; rintro e w1 ⟨rfl, hb1⟩) | (go_at_call 35; refine (HRA.out _).mono ?_; rintro e w2 ⟨rfl, ⟨nd, rfl⟩⟩))
    go_ret
    exact ⟨rfl, bdrewN hb1 _⟩
  generalize hB : Sc.rightB b = rb at *
  have HB := Lib.hid hB; clear hB
  cases rb
  · go_enter Tryz.func11, Tryz.ntmps11
    go_wp2_with (go_at_call 34; refine (fit07_any _ HW.out).mono ?_; rintro e w1 ⟨rfl, hb1⟩)
    refine (HRA.out _).mono ?_; rintro e w2 ⟨rfl, ⟨nd, rfl⟩⟩
    go_wp2_with fail
    refine (HRB.out _).mono ?_; rintro e w2 ⟨rfl, ⟨nd2, rfl⟩⟩
    go_wp2_with fail
    go_ret
    exact ⟨rfl, bdrewN hb1 _⟩
  go_enter Tryz.func11, Tryz.ntmps11
  go_wp2_with (go_at_call 34; refine (fit07_any _ HW.out).mono ?_; rintro e w1 ⟨rfl, hb1⟩)
  refine (HRA.out _).mono ?_; rintro e w2 ⟨rfl, ⟨nd, rfl⟩⟩
  go_wp2_with fail
  refine (HRB.out _).mono ?_; rintro e w2 ⟨rfl, ⟨nd2, rfl⟩⟩
  have hbz := bdrewN (bdrewN hb1 nd) nd2
  have HBZ := Lib.hid hbz
  clear hbz hb1
  generalize World.drewN _ _ = w3 at *
  go_wp2_with fail
  refine (HFW.out _ (HL.out.below HBZ.out)).mono ?_; rintro e w4 ⟨⟨fb, rfl, hfl⟩, hb4⟩
  have hbz := btrans HBZ.out hb4
  have HB4 := Lib.hid hbz
  clear hbz hb4 HBZ
  cases fb
  · go_wp2_with fail
    go_ret
    exact ⟨rfl, HB4.out⟩
  have hl20 := hfl rfl
  have hev (W : World) (h : Attrs W a0 l) := event07_any b a0 cap l W h (by omega) hb HOK.out
  have hes : evS b = b := by unfold evS; rw [HB.out]; rfl
  rw [hes] at hev
  have hel : (evL l).length ≤ 8 := by unfold evL; rw [List.length_take]; omega
  have HEV := Lib.hid hev
  clear hev hes hfl hcm
  generalize evL l = el at *
  go_wp2_with fail
  have hbw5 := btrans (balloc2 w4 (.cells #[.string ⟨#[97]⟩, .int .i64 6, .int .i64 0, .int .i64 0, .float .f64 0, .string ⟨#[]⟩, .bool false] 55) (.cells #[.string ⟨a.toArray⟩, .slice none 0 0] 63)) (balloc _ (.cells #[.string ⟨a.toArray⟩, .slice (some ⟨w4.heap.size, 0, none⟩) 1 1] 63))
  have hcs := ((conds_one w4 cA 55).below (balloc2 _ (.cells #[.string ⟨a.toArray⟩, .slice none 0 0] 63) (.cells #[.string ⟨a.toArray⟩, .slice (some ⟨w4.heap.size, 0, none⟩) 1 1] 63)))
  have hbf := box2_new (w4.alloc (.cells #[.string ⟨#[97]⟩, .int .i64 6, .int .i64 0, .int .i64 0, .float .f64 0, .string ⟨#[]⟩, .bool false] 55)) a none 0 0 63
  rw [World.size_alloc] at hbf
  replace hbf := hbf.below (balloc _ (.cells #[.string ⟨a.toArray⟩, .slice (some ⟨w4.heap.size, 0, none⟩) 1 1] 63))
  have hbg := box2_new ((w4.alloc (.cells #[.string ⟨#[97]⟩, .int .i64 6, .int .i64 0, .int .i64 0, .float .f64 0, .string ⟨#[]⟩, .bool false] 55)).alloc (.cells #[.string ⟨a.toArray⟩, .slice none 0 0] 63)) a (some ⟨w4.heap.size, 0, none⟩) 1 1 63
  rw [World.size_alloc, World.size_alloc] at hbg
  refine (HEV.out _ (HL.out.below (btrans HB4.out hbw5))).mono ?_
  rintro e w6 ⟨e0, ecp, rfl, hat6, hb6⟩
  have hb46 := btrans (btrans HB4.out hbw5) hb6
  replace hcs := hcs.below hb6
  replace hbf := hbf.below hb6
  replace hbg := hbg.below hb6
  have he9 := (box2_new w6 b e0 el.length ecp 26).below (balloc _ (.cells #[.string ⟨b.toArray⟩, .slice none 0 0] 63))
  have hh10 := box2_new (w6.alloc (.cells #[.string ⟨b.toArray⟩, .slice e0 el.length ecp] 26)) b none 0 0 63
  rw [World.size_alloc] at hh10
  have hb8 := balloc2 w6 (.cells #[.string ⟨b.toArray⟩, .slice e0 el.length ecp] 26) (.cells #[.string ⟨b.toArray⟩, .slice none 0 0] 63)
  have hS : FSt w ((w6.alloc (.cells #[.string ⟨b.toArray⟩, .slice e0 el.length ecp] 26)).alloc (.cells #[.string ⟨b.toArray⟩, .slice none 0 0] 63)) (w4.heap.size + 1) (w4.heap.size + 1 + 1) w6.heap.size (w6.heap.size + 1) a b w4.heap.size e0 ecp el :=
    ⟨hbf.below hb8, hbg.below hb8, he9, hh10, hcs.below hb8, hat6.below hb8, btrans hb46 hb8⟩
  have HS := Lib.hid hS
  clear hS hcs hbf hbg hat6 hb6 hb46 he9 hh10 hb8 hbw5 HEV HL HB4
  go_upto_region 8 with fail
  generalize (w6.alloc _).alloc _ = W7 at *
  generalize w4.heap.size = g at *
  generalize w6.heap.size = p at *
  have hm1 (W : World) (h : Attrs W e0 el) : Calls Tryz.prog 38 #[ev a none 0 0, ev b e0 el.length ecp] W fun e w' => e = .returned (.bool (Sc.underB b a)) ∧ Below W.heap.size W w' := by
    have := fmatch_any a none 0 [] b e0 ecp el W (conds_nil W none) h (by decide) (by omega) ha hb
    rw [rs_move] at this; exact this
  have hm2 (W : World) (h : Attrs W e0 el) (hc : Conds W (some ⟨g, 0, none⟩) [cA]) : Calls Tryz.prog 38 #[ev a (some ⟨g, 0, none⟩) 1 1, ev b e0 el.length ecp] W fun e w' => e = .returned (.bool false) ∧ Below W.heap.size W w' := by
    have := fmatch_any a (some ⟨g, 0, none⟩) 1 [cA] b e0 ecp el W hc h (by decide) (by omega) ha hb
    rw [cA_match] at this; exact this
  have hu (W : World) := Sc.under_l b a W hb ha
  have hv1 (W : World) (hc : Conds W (some ⟨g, 0, none⟩) [cA]) : Calls Tryz.prog 40 #[ev a (some ⟨g, 0, none⟩) 1 1] W fun e w' => e = .returned (.bool true) ∧ Below W.heap.size W w' := fvoid_any a (some ⟨g, 0, none⟩) 1 [cA] W hc (by decide)
  have hv2 (W : World) : Calls Tryz.prog 40 #[ev a none 0 0] W fun e w' => e = .returned (.bool false) ∧ Below W.heap.size W w' := fvoid_any a none 0 [] W (conds_nil W none) (by decide)
  have hc1 (W : World) : Calls Tryz.prog 41 #[ev a none 0 0, ev b none 0 0] W fun e w' => e = .returned (.bool (Sc.underB b a)) ∧ Below W.heap.size W w' := by
    have := fcovers_any a none 0 [] b none 0 [] W (conds_nil W none) (conds_nil W none) (by decide) (by decide) ha hb (fun _ h => absurd h (by simp)) (fun _ h => absurd h (by simp)) (fun _ h => absurd h (by simp))
    rw [show fCovers a [] b [] = Sc.underB b a by unfold fCovers fVoid; simp] at this; exact this
  have hc2 (W : World) (hc : Conds W (some ⟨g, 0, none⟩) [cA]) : Calls Tryz.prog 41 #[ev b none 0 0, ev a (some ⟨g, 0, none⟩) 1 1] W fun e w' => e = .returned (.bool true) ∧ Below W.heap.size W w' := by
    have := fcovers_any b none 0 [] a (some ⟨g, 0, none⟩) 1 [cA] W (conds_nil W none) hc (by decide) (by decide) hb ha cA_op cA_num (fun _ h => absurd h (by simp))
    rw [show fCovers b [] a [cA] = true by unfold fCovers fVoid; simp [cA_void]] at this; exact this
  have hc3 (W : World) (hc : Conds W (some ⟨g, 0, none⟩) [cA]) : Calls Tryz.prog 41 #[ev a (some ⟨g, 0, none⟩) 1 1, ev b none 0 0] W fun e w' => e = .returned (.bool false) ∧ Below W.heap.size W w' := by
    have := fcovers_any a (some ⟨g, 0, none⟩) 1 [cA] b none 0 [] W hc (conds_nil W none) (by decide) (by decide) ha hb (fun _ h => absurd h (by simp)) (fun _ h => absurd h (by simp)) cA_num
    rw [show fCovers a [cA] b [] = false by unfold fCovers fVoid fSome; simp] at this; exact this
  generalize Sc.underB b a = U at *
  have HM1 := Lib.hid hm1; have HM2 := Lib.hid hm2; have HU := Lib.hid hu; have HV1 := Lib.hid hv1; have HV2 := Lib.hid hv2; have HC1 := Lib.hid hc1; have HC2 := Lib.hid hc2; have HC3 := Lib.hid hc3
  clear hm1 hm2 hu hv1 hv2 hc1 hc2 hc3
  obtain ⟨f0, f1⟩ := HS.out.bf
  obtain ⟨g0, g1⟩ := HS.out.bg
  obtain ⟨e1, e2⟩ := HS.out.be
  obtain ⟨h0, h1⟩ := HS.out.bh
  cases U
  all_goals
    go_wp2_with fail
    refine (HM1.out _ HS.out.at6).mono ?_; rintro e wn ⟨rfl, hbn⟩; (replace HS := Lib.hid (HS.out.below hbn); clear hbn f0 f1 g0 g1 e1 e2 h0 h1; obtain ⟨f0, f1⟩ := HS.out.bf; obtain ⟨g0, g1⟩ := HS.out.bg; obtain ⟨e1, e2⟩ := HS.out.be; obtain ⟨h0, h1⟩ := HS.out.bh)
    go_wp2_with fail
    refine (HU.out _).mono ?_; rintro e wn ⟨rfl, rfl⟩
    go_wp2_with fail
    refine (HM2.out _ HS.out.at6 HS.out.cs).mono ?_; rintro e wn ⟨rfl, hbn⟩; (replace HS := Lib.hid (HS.out.below hbn); clear hbn f0 f1 g0 g1 e1 e2 h0 h1; obtain ⟨f0, f1⟩ := HS.out.bf; obtain ⟨g0, g1⟩ := HS.out.bg; obtain ⟨e1, e2⟩ := HS.out.be; obtain ⟨h0, h1⟩ := HS.out.bh)
    go_wp2_with fail
    refine (HV1.out _ HS.out.cs).mono ?_; rintro e wn ⟨rfl, hbn⟩; (replace HS := Lib.hid (HS.out.below hbn); clear hbn f0 f1 g0 g1 e1 e2 h0 h1; obtain ⟨f0, f1⟩ := HS.out.bf; obtain ⟨g0, g1⟩ := HS.out.bg; obtain ⟨e1, e2⟩ := HS.out.be; obtain ⟨h0, h1⟩ := HS.out.bh)
    go_wp2_with fail
    refine (HV2.out _).mono ?_; rintro e wn ⟨rfl, hbn⟩; (replace HS := Lib.hid (HS.out.below hbn); clear hbn f0 f1 g0 g1 e1 e2 h0 h1; obtain ⟨f0, f1⟩ := HS.out.bf; obtain ⟨g0, g1⟩ := HS.out.bg; obtain ⟨e1, e2⟩ := HS.out.be; obtain ⟨h0, h1⟩ := HS.out.bh)
    go_wp2_with fail
    refine (HC1.out _).mono ?_; rintro e wn ⟨rfl, hbn⟩; (replace HS := Lib.hid (HS.out.below hbn); clear hbn f0 f1 g0 g1 e1 e2 h0 h1; obtain ⟨f0, f1⟩ := HS.out.bf; obtain ⟨g0, g1⟩ := HS.out.bg; obtain ⟨e1, e2⟩ := HS.out.be; obtain ⟨h0, h1⟩ := HS.out.bh)
    go_wp2_with fail
    refine (HU.out _).mono ?_; rintro e wn ⟨rfl, rfl⟩
    go_wp2_with fail
    refine (HC2.out _ HS.out.cs).mono ?_; rintro e wn ⟨rfl, hbn⟩; (replace HS := Lib.hid (HS.out.below hbn); clear hbn f0 f1 g0 g1 e1 e2 h0 h1; obtain ⟨f0, f1⟩ := HS.out.bf; obtain ⟨g0, g1⟩ := HS.out.bg; obtain ⟨e1, e2⟩ := HS.out.be; obtain ⟨h0, h1⟩ := HS.out.bh)
    go_wp2_with fail
    refine (HC3.out _ HS.out.cs).mono ?_; rintro e wn ⟨rfl, hbn⟩; (replace HS := Lib.hid (HS.out.below hbn); clear hbn f0 f1 g0 g1 e1 e2 h0 h1; obtain ⟨f0, f1⟩ := HS.out.bf; obtain ⟨g0, g1⟩ := HS.out.bg; obtain ⟨e1, e2⟩ := HS.out.be; obtain ⟨h0, h1⟩ := HS.out.bh)
    go_wp2_with fail
    go_ret
    exact ⟨rfl, HS.out.own⟩
end Go.Proofs.YtdggofleokjmcaaGreatDoor.Val
