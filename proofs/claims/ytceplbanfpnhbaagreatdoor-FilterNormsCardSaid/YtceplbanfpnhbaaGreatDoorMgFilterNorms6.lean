/- MERGED BY A PROGRAM OF MINE (mg.py) out of my own texts, in their order: FNorms. -/
import Derived.Test.YtceplbanfpnhbaaGreatDoorMgFilterNorms5

section
/- THE WALK OF the law FilterNorms. -/
namespace Go.Proofs.YtceplbanfpnhbaaGreatDoor.Val
open Go.RowKit Flt
attribute [local go_sem] run_store_flt
theorem sn_below {W0 w1 w2 : World} {sf se : List UInt8} {a0 n0 e0 : Option Addr} {l N : List C} {el : List A} {pf pn pe cap ncp ecp : Nat} (hb : Below w1.heap.size w1 w2) (h : (fun w' => w'.cell? ⟨pf, 0, none⟩ = some (.string ⟨sf.toArray⟩) ∧ w'.cell? ⟨pf, 1, none⟩ = some (.slice a0 l.length cap) ∧ w'.cell? ⟨pn, 0, none⟩ = some (.string ⟨sf.toArray⟩) ∧ w'.cell? ⟨pn, 1, none⟩ = some (.slice n0 N.length ncp) ∧ w'.cell? ⟨pe, 0, none⟩ = some (.string ⟨se.toArray⟩) ∧ w'.cell? ⟨pe, 1, none⟩ = some (.slice e0 el.length ecp) ∧ Below W0.heap.size W0 w' ∧ (pf < w'.heap.size ∧ pn < w'.heap.size ∧ pe < w'.heap.size)) w1) : (fun w' => w'.cell? ⟨pf, 0, none⟩ = some (.string ⟨sf.toArray⟩) ∧ w'.cell? ⟨pf, 1, none⟩ = some (.slice a0 l.length cap) ∧ w'.cell? ⟨pn, 0, none⟩ = some (.string ⟨sf.toArray⟩) ∧ w'.cell? ⟨pn, 1, none⟩ = some (.slice n0 N.length ncp) ∧ w'.cell? ⟨pe, 0, none⟩ = some (.string ⟨se.toArray⟩) ∧ w'.cell? ⟨pe, 1, none⟩ = some (.slice e0 el.length ecp) ∧ Below W0.heap.size W0 w' ∧ (pf < w'.heap.size ∧ pn < w'.heap.size ∧ pe < w'.heap.size)) w2 := by
  obtain ⟨h0, h1, h2, h3, h4, h5, hB, l1, l2, l3⟩ := h
  have c : ∀ q o, q < w1.heap.size → w2.cell? ⟨q, o, none⟩ = w1.cell? ⟨q, o, none⟩ := fun q o hq => hb.cell (p := ⟨q, o, none⟩) hq
  exact ⟨by rw [c _ _ l1]; exact h0, by rw [c _ _ l1]; exact h1, by rw [c _ _ l2]; exact h2, by rw [c _ _ l2]; exact h3, by rw [c _ _ l3]; exact h4, by rw [c _ _ l3]; exact h5, btrans hB hb, Nat.lt_of_lt_of_le l1 hb.size, Nat.lt_of_lt_of_le l2 hb.size, Nat.lt_of_lt_of_le l3 hb.size⟩
theorem sn_own {W0 w1 : World} {sf se : List UInt8} {a0 n0 e0 : Option Addr} {l N : List C} {el : List A} {pf pn pe cap ncp ecp : Nat} (h : (fun w' => w'.cell? ⟨pf, 0, none⟩ = some (.string ⟨sf.toArray⟩) ∧ w'.cell? ⟨pf, 1, none⟩ = some (.slice a0 l.length cap) ∧ w'.cell? ⟨pn, 0, none⟩ = some (.string ⟨sf.toArray⟩) ∧ w'.cell? ⟨pn, 1, none⟩ = some (.slice n0 N.length ncp) ∧ w'.cell? ⟨pe, 0, none⟩ = some (.string ⟨se.toArray⟩) ∧ w'.cell? ⟨pe, 1, none⟩ = some (.slice e0 el.length ecp) ∧ Below W0.heap.size W0 w' ∧ (pf < w'.heap.size ∧ pn < w'.heap.size ∧ pe < w'.heap.size)) w1) : Below W0.heap.size W0 w1 := h.2.2.2.2.2.2.1
def SP (an : Addr) (pn pc j : Nat) (N : List C) (ncp : Nat) (x y : C) (W0 w' : World) : Prop := w'.cell? ⟨pn, 1, none⟩ = some (.slice (some an) N.length ncp) ∧ CAt w' (an.add (j * 7)) x ∧ CAt w' ⟨pc, 0, none⟩ y ∧ Below W0.heap.size W0 w' ∧ pn < w'.heap.size
theorem SP.below {an : Addr} {pn pc j : Nat} {N : List C} {ncp : Nat} {x y : C} {W0 w1 w2 : World} (h : SP an pn pc j N ncp x y W0 w1) (hb : Below w1.heap.size w1 w2) : SP an pn pc j N ncp x y W0 w2 := by
  obtain ⟨h0, h1, h2, hB, l1⟩ := h
  exact ⟨(hb.cell (p := ⟨pn, 1, none⟩) l1).trans h0, h1.below hb, h2.below hb, btrans hB hb, Nat.lt_of_lt_of_le l1 hb.size⟩
theorem SP.flat {an : Addr} {pn pc j : Nat} {N : List C} {ncp : Nat} {x y : C} {W0 w1 : World} (h : SP an pn pc j N ncp x y W0 w1) : (fun w' => w'.cell? ⟨pn, 1, none⟩ = some (.slice (some an) N.length ncp) ∧ w'.cell? (an.add (j * 7)) = some (.string ⟨x.name.toArray⟩) ∧ w'.cell? ⟨(an.add (j * 7)).block, (an.add (j * 7)).off + 1, none⟩ = some (.int .i64 x.op) ∧ w'.cell? ⟨(an.add (j * 7)).block, (an.add (j * 7)).off + 2, none⟩ = some (.int .i64 x.val.kind) ∧ w'.cell? ⟨(an.add (j * 7)).block, (an.add (j * 7)).off + 3, none⟩ = some (.int .i64 x.val.int) ∧ w'.cell? ⟨(an.add (j * 7)).block, (an.add (j * 7)).off + 4, none⟩ = some (.float .f64 x.val.num) ∧ w'.cell? ⟨(an.add (j * 7)).block, (an.add (j * 7)).off + 5, none⟩ = some (.string ⟨x.val.text.toArray⟩) ∧ w'.cell? ⟨(an.add (j * 7)).block, (an.add (j * 7)).off + 6, none⟩ = some (.bool x.val.yes) ∧ w'.cell? ⟨pc, 0, none⟩ = some (.string ⟨y.name.toArray⟩) ∧ w'.cell? ⟨pc, 1, none⟩ = some (.int .i64 y.op) ∧ w'.cell? ⟨pc, 2, none⟩ = some (.int .i64 y.val.kind) ∧ w'.cell? ⟨pc, 3, none⟩ = some (.int .i64 y.val.int) ∧ w'.cell? ⟨pc, 4, none⟩ = some (.float .f64 y.val.num) ∧ w'.cell? ⟨pc, 5, none⟩ = some (.string ⟨y.val.text.toArray⟩) ∧ w'.cell? ⟨pc, 6, none⟩ = some (.bool y.val.yes) ∧ Below W0.heap.size W0 w' ∧ pn < w'.heap.size) w1 := by
  obtain ⟨h0, ⟨a0, a1, a2, a3, a4, a5, a6⟩, ⟨b0, b1, b2, b3, b4, b5, b6⟩, hB, l1⟩ := h
  exact ⟨h0, a0, a1, a2, a3, a4, a5, a6, b0, (Nat.zero_add 1 ▸ b1 :), (Nat.zero_add 2 ▸ b2 :), (Nat.zero_add 3 ▸ b3 :), (Nat.zero_add 4 ▸ b4 :), (Nat.zero_add 5 ▸ b5 :), (Nat.zero_add 6 ▸ b6 :), hB, l1⟩
theorem sp_fold {an : Addr} {pn pc j : Nat} {N : List C} {ncp : Nat} {x y : C} {W0 w1 : World} (h : (fun w' => w'.cell? ⟨pn, 1, none⟩ = some (.slice (some an) N.length ncp) ∧ w'.cell? (an.add (j * 7)) = some (.string ⟨x.name.toArray⟩) ∧ w'.cell? ⟨(an.add (j * 7)).block, (an.add (j * 7)).off + 1, none⟩ = some (.int .i64 x.op) ∧ w'.cell? ⟨(an.add (j * 7)).block, (an.add (j * 7)).off + 2, none⟩ = some (.int .i64 x.val.kind) ∧ w'.cell? ⟨(an.add (j * 7)).block, (an.add (j * 7)).off + 3, none⟩ = some (.int .i64 x.val.int) ∧ w'.cell? ⟨(an.add (j * 7)).block, (an.add (j * 7)).off + 4, none⟩ = some (.float .f64 x.val.num) ∧ w'.cell? ⟨(an.add (j * 7)).block, (an.add (j * 7)).off + 5, none⟩ = some (.string ⟨x.val.text.toArray⟩) ∧ w'.cell? ⟨(an.add (j * 7)).block, (an.add (j * 7)).off + 6, none⟩ = some (.bool x.val.yes) ∧ w'.cell? ⟨pc, 0, none⟩ = some (.string ⟨y.name.toArray⟩) ∧ w'.cell? ⟨pc, 1, none⟩ = some (.int .i64 y.op) ∧ w'.cell? ⟨pc, 2, none⟩ = some (.int .i64 y.val.kind) ∧ w'.cell? ⟨pc, 3, none⟩ = some (.int .i64 y.val.int) ∧ w'.cell? ⟨pc, 4, none⟩ = some (.float .f64 y.val.num) ∧ w'.cell? ⟨pc, 5, none⟩ = some (.string ⟨y.val.text.toArray⟩) ∧ w'.cell? ⟨pc, 6, none⟩ = some (.bool y.val.yes) ∧ Below W0.heap.size W0 w' ∧ pn < w'.heap.size) w1) : SP an pn pc j N ncp x y W0 w1 := by
  obtain ⟨h0, a0, a1, a2, a3, a4, a5, a6, b0, b1, b2, b3, b4, b5, b6, hB, l1⟩ := h
  exact ⟨h0, ⟨a0, a1, a2, a3, a4, a5, a6⟩, ⟨b0, (Nat.zero_add 1).symm ▸ b1, (Nat.zero_add 2).symm ▸ b2, (Nat.zero_add 3).symm ▸ b3, (Nat.zero_add 4).symm ▸ b4, (Nat.zero_add 5).symm ▸ b5, (Nat.zero_add 6).symm ▸ b6⟩, hB, l1⟩
/-- what the law's loop asks of what a filter is brought to -/
structure NOk (N : List C) : Prop where
  small : ∀ c ∈ N, CSmall c ∧ 0 ≤ c.op ∧ c.op ≤ 7
  rises : ∀ i (h0 : 0 < i) (hi : i < N.length), Op.bytesLess (cT (N[i - 1]'(by omega))) (cT N[i]) = true
  apart : ∀ i k (hi : i < N.length) (hk : k < N.length), k ≠ i → impliesB N[k] N[i] = false
set_option maxRecDepth 20000 in
set_option maxHeartbeats 40000000 in
theorem fnorms_law (sf : List UInt8) (a0 : Option Addr) (cap : Nat) (l : List C) (s : List UInt8) (b0 : Option Addr) (bcap : Nat) (al : List A) (w : World) (hw : Words w) (hT : Tab.Tabs w) (hl : Conds w a0 l) (hok : ∀ x ∈ l, Open.COk x) (hlm : l.length ≤ maxLen) (hsf : sf.length ≤ 140737488351232)
    (hs : s.length ≤ 140737488351232) (ha : Attrs w b0 al) (hoka : ∀ x ∈ al, Open.AOk x) (ham : al.length ≤ maxLen) :
    Calls Tryz.prog 8 #[ev sf a0 l.length cap, .string ⟨s.toArray⟩, .slice b0 al.length bcap] w fun e w' => e = .returned (.bool true) ∧ Below w.heap.size w w' := by
  have hli (W : World) (h : Conds W a0 l) := light07_any sf a0 cap l W h hlm
  have hri (W : World) (h : Conds W a0 l) (hm : l.length ≤ 1000000) := fright_any sf a0 cap l W h hm hsf (fun c hc => ⟨(hok c hc).1, (hok c hc).2.2.2.2.2⟩)
  have hfw (W : World) (h : Attrs W b0 al) := few07_any b0 bcap al W h ham
  have hev (W : World) (h : Attrs W b0 al) (hm : al.length ≤ 20) := event07_any s b0 bcap al W h (by omega) hs hoka
  have hel : (evL al).length ≤ 8 := by unfold evL; rw [List.length_take]; omega
  have hss : (evS s).length ≤ 140737488351232 := by unfold evS; split <;> simp [hs]
  have hsm : fRight sf l = true → _ := fun h : fRight sf l = true => fright_small h hok (fun c hc => (hok c hc).2.2.2.2.1)
  have hnr : LOk l → fRight sf l = true → fRight sf (normL l) = true := fun h1 h2 => norm_right h1 h2
  generalize fRight sf l = fr at *
  generalize evL al = el at *
  generalize hse : evS s = se at *
  have HW := Lib.hid hw; have HT := Lib.hid hT; have HL := Lib.hid hl; have HA := Lib.hid ha; have HLI := Lib.hid hli; have HRI := Lib.hid hri; have HFW := Lib.hid hfw; have HEV := Lib.hid hev; have HSM := Lib.hid hsm; have HNR := Lib.hid hnr
  clear hw hT hl hok ha hoka hli hri hfw hev hlm ham hs hse hsm hnr
  go_enter Tryz.func8, Tryz.ntmps8
  go_wp2_with fail
  refine (fit07_any _ (HW.out.below (balloc _ _))).mono ?_; rintro e w1 ⟨rfl, hb1⟩
  have hbx := (box2_new w sf a0 l.length cap 24).below hb1
  have hbr := btrans (balloc w (.cells #[.string ⟨sf.toArray⟩, .slice a0 l.length cap] 24)) hb1
  have HBX := Lib.hid hbx; have HBR := Lib.hid hbr
  obtain ⟨f0, f1⟩ := hbx
  clear hbr hb1
  go_wp2_with fail
  refine (HLI.out _ (HL.out.below HBR.out)).mono ?_; rintro e w2 ⟨⟨fb, rfl, hfl⟩, hbn⟩; (replace HBX := Lib.hid (HBX.out.below hbn); replace HBR := Lib.hid (btrans HBR.out hbn); clear hbn f0 f1; obtain ⟨f0, f1⟩ := HBX.out)
  cases fb
  · go_wp2_with fail
    go_ret
    exact ⟨rfl, HBR.out⟩
  have hl20 := hfl rfl
  clear hfl
  go_wp2_with fail
  refine (HFW.out _ (HA.out.below HBR.out)).mono ?_; rintro e w4 ⟨⟨fb, rfl, hfl⟩, hbn⟩; (replace HBX := Lib.hid (HBX.out.below hbn); replace HBR := Lib.hid (btrans HBR.out hbn); clear hbn f0 f1; obtain ⟨f0, f1⟩ := HBX.out)
  cases fb
  · go_wp2_with fail
    go_ret
    exact ⟨rfl, HBR.out⟩
  have ha20 := hfl rfl
  clear hfl
  by_cases h100 : s.length ≤ 100
  rotate_left
  · have d1 : (100 : Int) < (s.length : Int) := by omega
    go_wp2_with fail
    go_ret
    exact ⟨rfl, HBR.out⟩
  have d1 : ¬ (100 : Int) < (s.length : Int) := by omega
  go_wp2_with fail
  refine (HRI.out _ (HL.out.below HBR.out) (by omega)).mono ?_; rintro e w3 ⟨rfl, hbn⟩; (replace HBX := Lib.hid (HBX.out.below hbn); replace HBR := Lib.hid (btrans HBR.out hbn); clear hbn f0 f1; obtain ⟨f0, f1⟩ := HBX.out)
  cases fr
  · go_wp2_with fail
    go_ret
    exact ⟨rfl, HBR.out⟩
  obtain ⟨z1, z2, z3, z4⟩ := HSM.out rfl
  have HOK := Lib.hid z3; have HSC := Lib.hid z4; have HNRT := Lib.hid (HNR.out z3 rfl)
  clear z3 z4 HSM HLI HRI HNR
  have hnl := normL_len l
  have hno (W : World) (hb : Below w.heap.size w W) := norm_any sf a0 cap l W (HL.out.below hb) (by omega) (HW.out.below hb) (HT.out.below hb (Nat.le_refl _)) HSC.out
  have hnn : NOk (normL l) := by
    refine ⟨fun c hc => ?_, fun i h0 hi => ?_, fun i k hi hk hne => norm_apart HOK.out i k hi hk hne⟩
    · obtain ⟨d, hd, rfl⟩ := normL_mem l c hc
      exact canon_small (HSC.out d hd)
    · rw [less_cmp]; exact decide_eq_true (norm_rises HOK.out i h0 hi)
  have hma := @norm_match sf se l el HOK.out
  have hke := @norm_key sf l HOK.out
  have hvo := norm_void HOK.out
  have hpt : fprK sf (normL l) cT (normL l).length = keyT sf l := rfl
  have hnop := HOK.out.norm.op
  have HNO := Lib.hid hno; have HNN := Lib.hid hnn; have HMA := Lib.hid hma; have HKE := Lib.hid hke; have HVO := Lib.hid hvo; have HPT := Lib.hid hpt
  clear hno hnn hma hke hvo hpt hnop
  generalize normL l = N at *
  have hnl6 : N.length ≤ 6 := by omega
  go_wp2_with fail
  refine (HNO.out _ HBR.out).mono ?_; rintro e w5 ⟨n0, ncp, rfl, hcn5, hbn⟩; (replace HBX := Lib.hid (HBX.out.below hbn); replace HBR := Lib.hid (btrans HBR.out hbn); clear hbn f0 f1; obtain ⟨f0, f1⟩ := HBX.out)
  have hbn0 := box2_new w5 sf n0 N.length ncp 24
  have HBN := Lib.hid hbn0; have HCN := Lib.hid (hcn5.below (balloc w5 (.cells #[.string ⟨sf.toArray⟩, .slice n0 N.length ncp] 24))); have HBX5 := Lib.hid (HBX.out.below (balloc w5 (.cells #[.string ⟨sf.toArray⟩, .slice n0 N.length ncp] 24))); have HBR5 := Lib.hid (btrans HBR.out (balloc w5 (.cells #[.string ⟨sf.toArray⟩, .slice n0 N.length ncp] 24)))
  clear hbn0 hcn5 HBX HBR HNO
  go_upto_region 6 with fail
  clear f0 f1
  generalize w5.alloc _ = W5 at *
  generalize w5.heap.size = pn at *
  go_wp2_with fail
  refine (HEV.out _ (HA.out.below HBR5.out) ha20).mono ?_
  rintro e w6 ⟨e0, ecp, rfl, hat6, hbn⟩
  have HX := Lib.hid ((HBX5.out.below hbn).below (balloc w6 (.cells #[.string ⟨se.toArray⟩, .slice e0 el.length ecp] 57))); have HN := Lib.hid ((HBN.out.below hbn).below (balloc w6 (.cells #[.string ⟨se.toArray⟩, .slice e0 el.length ecp] 57))); have HE := Lib.hid (box2_new w6 se e0 el.length ecp 57)
  have HCN6 := Lib.hid ((HCN.out.below hbn).below (balloc w6 (.cells #[.string ⟨se.toArray⟩, .slice e0 el.length ecp] 57))); have HAT := Lib.hid (hat6.below (balloc w6 (.cells #[.string ⟨se.toArray⟩, .slice e0 el.length ecp] 57))); have HBR6 := Lib.hid (btrans (btrans HBR5.out hbn) (balloc w6 (.cells #[.string ⟨se.toArray⟩, .slice e0 el.length ecp] 57)))
  clear hat6 hbn HBX5 HBN HBR5 HCN HEV HFW HA
  go_upto_region 7 with fail
  generalize w6.alloc _ = W0 at *
  generalize w6.heap.size = pe at *
  have hst : (fun w' => w'.cell? ⟨w.heap.size, 0, none⟩ = some (.string ⟨sf.toArray⟩) ∧ w'.cell? ⟨w.heap.size, 1, none⟩ = some (.slice a0 l.length cap) ∧ w'.cell? ⟨pn, 0, none⟩ = some (.string ⟨sf.toArray⟩) ∧ w'.cell? ⟨pn, 1, none⟩ = some (.slice n0 N.length ncp) ∧ w'.cell? ⟨pe, 0, none⟩ = some (.string ⟨se.toArray⟩) ∧ w'.cell? ⟨pe, 1, none⟩ = some (.slice e0 el.length ecp) ∧ Below W0.heap.size W0 w' ∧ (w.heap.size < w'.heap.size ∧ pn < w'.heap.size ∧ pe < w'.heap.size)) W0 := by
    obtain ⟨x0, x1⟩ := HX.out
    obtain ⟨y0, y1⟩ := HN.out
    obtain ⟨u0, u1⟩ := HE.out
    exact ⟨x0, x1, y0, y1, u0, u1, Below.refl _ _, HX.out.lt, HN.out.lt, HE.out.lt⟩
  have HS := Lib.hid hst
  clear hst HX HE
  go_cut [86] (fun v wx => v = .bool false ∧ Hid (Below W0.heap.size W0 wx))
  case first => as_aux_lemma =>
    have hm1 : ∀ W, Below W0.heap.size W0 W → Calls Tryz.prog 30 #[ev sf n0 N.length ncp, ev se e0 el.length ecp] W fun e w' => e = .returned (.bool (fMatch sf l se el)) ∧ Below W.heap.size W w' := fun W hb => by
      have := fmatch_any sf n0 ncp N se e0 ecp el W (HCN6.out.below hb) (HAT.out.below hb) (by omega) (by omega) hsf hss
      rw [HMA.out] at this; exact this
    have hm2 : ∀ W, Below W0.heap.size W0 W → Calls Tryz.prog 30 #[ev sf a0 l.length cap, ev se e0 el.length ecp] W fun e w' => e = .returned (.bool (fMatch sf l se el)) ∧ Below W.heap.size W w' := fun W hb =>
      fmatch_any sf a0 cap l se e0 ecp el W (HL.out.below (btrans HBR6.out hb)) (HAT.out.below hb) (by omega) (by omega) hsf hss
    have hrn : ∀ W, Below W0.heap.size W0 W → Calls Tryz.prog 17 #[ev sf n0 N.length ncp] W fun e w' => e = .returned (.bool true) ∧ Below W.heap.size W w' := fun W hb => by
      have := fright_any sf n0 ncp N W (HCN6.out.below hb) (by omega) hsf (fun c hc => by
        obtain ⟨⟨q1, q2, _⟩, _⟩ := HNN.out.small c hc
        exact ⟨by omega, by omega⟩)
      rw [HNRT.out] at this; exact this
    have hk1 : ∀ W, Below W0.heap.size W0 W → Calls Tryz.prog 18 #[ev sf n0 N.length ncp] W fun e w' => e = .returned (.string ⟨(keyT sf l).toArray⟩) ∧ Below W.heap.size W w' := fun W hb => by
      have := key_any sf n0 ncp N W (HCN6.out.below hb) (by omega) (HW.out.below (btrans HBR6.out hb)) (HT.out.below (btrans HBR6.out hb) (Nat.le_refl _)) HNN.out.small (by omega)
      rw [HKE.out] at this; exact this
    have hk2 : ∀ W, Below W0.heap.size W0 W → Calls Tryz.prog 18 #[ev sf a0 l.length cap] W fun e w' => e = .returned (.string ⟨(keyT sf l).toArray⟩) ∧ Below W.heap.size W w' := fun W hb =>
      key_any sf a0 cap l W (HL.out.below (btrans HBR6.out hb)) (by omega) (HW.out.below (btrans HBR6.out hb)) (HT.out.below (btrans HBR6.out hb) (Nat.le_refl _)) HSC.out (by omega)
    have hpn : ∀ W, Below W0.heap.size W0 W → Calls Tryz.prog 32 #[ev sf n0 N.length ncp] W fun e w' => e = .returned (.string ⟨(keyT sf l).toArray⟩) ∧ Below W.heap.size W w' := fun W hb => by
      have := fprint_any sf n0 ncp N cT W (HW.out.below (btrans HBR6.out hb)) (HCN6.out.below hb) (by omega) (by omega) (fun c hc2 => by
          obtain ⟨⟨q1, q2, q3, q4, q5⟩, _⟩ := HNN.out.small c hc2
          have := vT_len c.val q4 q5
          have h3 := wordB_len c.op
          unfold cT hasT
          split
          · simp only [List.length_append, List.length_cons, List.length_nil]; omega
          · simp only [List.length_append, List.length_cons, List.length_nil]; omega) (fun c hc2 W2 hw2 hb2 => by
          obtain ⟨⟨q1, q2, q3, q4, q5⟩, _⟩ := HNN.out.small c hc2
          exact cprint_any c.name c.op c.val.kind c.val.int c.val.num c.val.text c.val.yes W2 hw2 (HT.out.below (btrans (btrans HBR6.out hb) hb2) (Nat.le_refl _)) (by omega) (by omega) q3 q4 q5)
      rw [HPT.out] at this; exact this
    have hv1 : ∀ W, Below W0.heap.size W0 W → Calls Tryz.prog 33 #[ev sf n0 N.length ncp] W fun e w' => e = .returned (.bool (fVoid l)) ∧ Below W.heap.size W w' := fun W hb => by
      have := fvoid_any sf n0 ncp N W (HCN6.out.below hb) (by omega)
      rw [HVO.out] at this; exact this
    have hv2 : ∀ W, Below W0.heap.size W0 W → Calls Tryz.prog 33 #[ev sf a0 l.length cap] W fun e w' => e = .returned (.bool (fVoid l)) ∧ Below W.heap.size W w' := fun W hb =>
      fvoid_any sf a0 cap l W (HL.out.below (btrans HBR6.out hb)) (by omega)
    have HM1 := Lib.hid hm1; have HM2 := Lib.hid hm2; have HRN := Lib.hid hrn; have HK1 := Lib.hid hk1; have HK2 := Lib.hid hk2; have HPN := Lib.hid hpn; have HV1 := Lib.hid hv1; have HV2 := Lib.hid hv2
    clear hm1 hm2 hrn hk1 hk2 hpn hv1 hv2 HN HAT HCN6 HNN HSC HOK HMA HKE HVO HPT HNRT HW HT HL HBR6
    generalize fMatch sf l se el = MV at *
    generalize fVoid l = VV at *
    generalize keyT sf l = KV at *
    have d5 : ¬ (l.length : Int) < (N.length : Int) := by omega
    have d6 : decide (l.length < N.length) = false := by rw [decide_eq_false_iff_not]; omega
    have d7 : decide ((l.length : Int) < (N.length : Int)) = false := by rw [decide_eq_false_iff_not]; omega
    go_wp2_with fail
    refine wp_region_held_drew (S := (fun w' => w'.cell? ⟨w.heap.size, 0, none⟩ = some (.string ⟨sf.toArray⟩) ∧ w'.cell? ⟨w.heap.size, 1, none⟩ = some (.slice a0 l.length cap) ∧ w'.cell? ⟨pn, 0, none⟩ = some (.string ⟨sf.toArray⟩) ∧ w'.cell? ⟨pn, 1, none⟩ = some (.slice n0 N.length ncp) ∧ w'.cell? ⟨pe, 0, none⟩ = some (.string ⟨se.toArray⟩) ∧ w'.cell? ⟨pe, 1, none⟩ = some (.slice e0 el.length ecp) ∧ Below W0.heap.size W0 w' ∧ (w.heap.size < w'.heap.size ∧ pn < w'.heap.size ∧ pe < w'.heap.size))) (by kernel_rfl) ?_ (fun hq0 => ?_)
    · ((try dsimp only); (first | exact sn_below (bdrewN (Below.refl _ _) 1) HS.out | assumption | exact sn_below (by assumption) (by assumption)))
    (refine wpAnyH_take (i := 0) (oi := ?_) (v := ?_) ?_ (by kernel_rfl) (by kernel_rfl) (by kernel_rfl) ?_ (Or.inl ⟨?_, ?_⟩) (by assumption) ?_; rotate_left 2; (· (simp only [List.getElem?_toArray, List.getElem?_cons_zero]; first | done | rfl)); (· exact (fun _ _ _ h => h)); (· rfl); (· (intro w hSw; (try dsimp only at hSw); go_simp; (try with_reducible rfl))))
    (try simp only [Act.put, List.setIfInBounds_toArray, List.set_cons_zero, List.set_cons_succ])
    (refine wpAnyH_take (i := 1) (oi := ?_) (v := ?_) ?_ (by kernel_rfl) (by kernel_rfl) (by kernel_rfl) ?_ (Or.inl ⟨?_, ?_⟩) (by assumption) ?_; rotate_left 2; (· (simp only [List.getElem?_toArray, List.getElem?_cons_succ, List.getElem?_cons_zero]; first | done | rfl)); (· exact (fun _ _ _ h => h)); (· rfl); (· (intro w hSw; (try dsimp only at hSw); go_simp; (try with_reducible rfl))))
    (try simp only [Act.put, List.setIfInBounds_toArray, List.set_cons_zero, List.set_cons_succ])
    (refine wpAnyH_take (i := 3) (oi := ?_) (v := ?_) ?_ (by kernel_rfl) (by kernel_rfl) (by kernel_rfl) ?_ (Or.inl ⟨?_, ?_⟩) (by assumption) ?_; rotate_left 2; (· (simp only [List.getElem?_toArray, List.getElem?_cons_succ, List.getElem?_cons_zero]; first | done | rfl)); (· exact (fun _ _ _ h => h)); (· rfl); (· (intro w hSw; (try dsimp only at hSw); go_simp; (try with_reducible rfl))))
    (try simp only [Act.put, List.setIfInBounds_toArray, List.set_cons_zero, List.set_cons_succ])
    (refine wpAnyH_take (i := 4) (oi := ?_) (v := ?_) ?_ (by kernel_rfl) (by kernel_rfl) (by kernel_rfl) ?_ (Or.inl ⟨?_, ?_⟩) (by assumption) ?_; rotate_left 2; (· (simp only [List.getElem?_toArray, List.getElem?_cons_succ, List.getElem?_cons_zero]; first | done | rfl)); (· exact (fun _ _ _ h => h)); (· rfl); (· (intro w hSw; (try dsimp only at hSw); go_simp; (try with_reducible rfl))))
    (try simp only [Act.put, List.setIfInBounds_toArray, List.set_cons_zero, List.set_cons_succ])
    refine wpAnyH_ready (rs := [2]) (by kernel_rfl) (by simp) ?_
    refine AllReadyH.cons (o := ?_) ?_ (fun K hK => ?_) AllReadyH.nil
    rotate_left 1
    · (simp only [List.getElem?_toArray, List.getElem?_cons_succ, List.getElem?_cons_zero]; first | done | rfl)
    go_simp
    first | (refine hK.out _ _ ?_ (fun hq1 => ?_)) | ((first | (go_at_call 30; ((with_reducible refine (HM1.out _ (sn_own (by assumption))).mono ?_); rintro e w9 ⟨rfl, hb9⟩)) | (go_at_call 30; ((with_reducible refine (HM2.out _ (sn_own (by assumption))).mono ?_); rintro e w9 ⟨rfl, hb9⟩)) | (go_at_call 17; ((with_reducible refine (HRN.out _ (sn_own (by assumption))).mono ?_); rintro e w9 ⟨rfl, hb9⟩)) | (go_at_call 18; ((with_reducible refine (HK1.out _ (sn_own (by assumption))).mono ?_); rintro e w9 ⟨rfl, hb9⟩)) | (go_at_call 18; ((with_reducible refine (HK2.out _ (sn_own (by assumption))).mono ?_); rintro e w9 ⟨rfl, hb9⟩)) | (go_at_call 32; ((with_reducible refine (HPN.out _ (sn_own (by assumption))).mono ?_); rintro e w9 ⟨rfl, hb9⟩)) | (go_at_call 33; ((with_reducible refine (HV1.out _ (sn_own (by assumption))).mono ?_); rintro e w9 ⟨rfl, hb9⟩)) | (go_at_call 33; ((with_reducible refine (HV2.out _ (sn_own (by assumption))).mono ?_); rintro e w9 ⟨rfl, hb9⟩))); refine hK.out _ _ ?_ (fun hq1 => ?_)) | ((first | (go_at_call 30; ((with_reducible refine (HM1.out _ (sn_own (by assumption))).mono ?_); rintro e w9 ⟨rfl, hb9⟩)) | (go_at_call 30; ((with_reducible refine (HM2.out _ (sn_own (by assumption))).mono ?_); rintro e w9 ⟨rfl, hb9⟩)) | (go_at_call 17; ((with_reducible refine (HRN.out _ (sn_own (by assumption))).mono ?_); rintro e w9 ⟨rfl, hb9⟩)) | (go_at_call 18; ((with_reducible refine (HK1.out _ (sn_own (by assumption))).mono ?_); rintro e w9 ⟨rfl, hb9⟩)) | (go_at_call 18; ((with_reducible refine (HK2.out _ (sn_own (by assumption))).mono ?_); rintro e w9 ⟨rfl, hb9⟩)) | (go_at_call 32; ((with_reducible refine (HPN.out _ (sn_own (by assumption))).mono ?_); rintro e w9 ⟨rfl, hb9⟩)) | (go_at_call 33; ((with_reducible refine (HV1.out _ (sn_own (by assumption))).mono ?_); rintro e w9 ⟨rfl, hb9⟩)) | (go_at_call 33; ((with_reducible refine (HV2.out _ (sn_own (by assumption))).mono ?_); rintro e w9 ⟨rfl, hb9⟩))); go_wp2_with fail; refine hK.out _ _ ?_ (fun hq1 => ?_)) | fail
    · ((try dsimp only); (first | exact sn_below (bdrewN (Below.refl _ _) 1) HS.out | assumption | exact sn_below (by assumption) (by assumption)))
    clear hK K
    (try simp only [Act.put, List.setIfInBounds_toArray, List.set_cons_zero, List.set_cons_succ])
    clear hq0
    refine wpAnyH_ready (rs := [5]) (by kernel_rfl) (by simp) ?_
    refine AllReadyH.cons (o := ?_) ?_ (fun K hK => ?_) AllReadyH.nil
    rotate_left 1
    · (simp only [List.getElem?_toArray, List.getElem?_cons_succ, List.getElem?_cons_zero]; first | done | rfl)
    go_simp
    first | (refine hK.out _ _ ?_ (fun hq2 => ?_)) | ((first | (go_at_call 30; ((with_reducible refine (HM1.out _ (sn_own (by assumption))).mono ?_); rintro e w9 ⟨rfl, hb9⟩)) | (go_at_call 30; ((with_reducible refine (HM2.out _ (sn_own (by assumption))).mono ?_); rintro e w9 ⟨rfl, hb9⟩)) | (go_at_call 17; ((with_reducible refine (HRN.out _ (sn_own (by assumption))).mono ?_); rintro e w9 ⟨rfl, hb9⟩)) | (go_at_call 18; ((with_reducible refine (HK1.out _ (sn_own (by assumption))).mono ?_); rintro e w9 ⟨rfl, hb9⟩)) | (go_at_call 18; ((with_reducible refine (HK2.out _ (sn_own (by assumption))).mono ?_); rintro e w9 ⟨rfl, hb9⟩)) | (go_at_call 32; ((with_reducible refine (HPN.out _ (sn_own (by assumption))).mono ?_); rintro e w9 ⟨rfl, hb9⟩)) | (go_at_call 33; ((with_reducible refine (HV1.out _ (sn_own (by assumption))).mono ?_); rintro e w9 ⟨rfl, hb9⟩)) | (go_at_call 33; ((with_reducible refine (HV2.out _ (sn_own (by assumption))).mono ?_); rintro e w9 ⟨rfl, hb9⟩))); refine hK.out _ _ ?_ (fun hq2 => ?_)) | ((first | (go_at_call 30; ((with_reducible refine (HM1.out _ (sn_own (by assumption))).mono ?_); rintro e w9 ⟨rfl, hb9⟩)) | (go_at_call 30; ((with_reducible refine (HM2.out _ (sn_own (by assumption))).mono ?_); rintro e w9 ⟨rfl, hb9⟩)) | (go_at_call 17; ((with_reducible refine (HRN.out _ (sn_own (by assumption))).mono ?_); rintro e w9 ⟨rfl, hb9⟩)) | (go_at_call 18; ((with_reducible refine (HK1.out _ (sn_own (by assumption))).mono ?_); rintro e w9 ⟨rfl, hb9⟩)) | (go_at_call 18; ((with_reducible refine (HK2.out _ (sn_own (by assumption))).mono ?_); rintro e w9 ⟨rfl, hb9⟩)) | (go_at_call 32; ((with_reducible refine (HPN.out _ (sn_own (by assumption))).mono ?_); rintro e w9 ⟨rfl, hb9⟩)) | (go_at_call 33; ((with_reducible refine (HV1.out _ (sn_own (by assumption))).mono ?_); rintro e w9 ⟨rfl, hb9⟩)) | (go_at_call 33; ((with_reducible refine (HV2.out _ (sn_own (by assumption))).mono ?_); rintro e w9 ⟨rfl, hb9⟩))); go_wp2_with fail; refine hK.out _ _ ?_ (fun hq2 => ?_)) | fail
    · ((try dsimp only); (first | exact sn_below (bdrewN (Below.refl _ _) 1) HS.out | assumption | exact sn_below (by assumption) (by assumption)))
    clear hK K
    (try simp only [Act.put, List.setIfInBounds_toArray, List.set_cons_zero, List.set_cons_succ])
    clear hq1
    (refine wpAnyH_take (i := 6) (oi := ?_) (v := ?_) ?_ (by kernel_rfl) (by kernel_rfl) (by kernel_rfl) ?_ (Or.inl ⟨?_, ?_⟩) (by assumption) ?_; rotate_left 2; (· (simp only [List.getElem?_toArray, List.getElem?_cons_succ, List.getElem?_cons_zero]; first | done | rfl)); (· exact (fun _ _ _ h => h)); (· rfl); (· (intro w hSw; (try dsimp only at hSw); go_simp; (try with_reducible rfl))))
    (try simp only [Act.put, List.setIfInBounds_toArray, List.set_cons_zero, List.set_cons_succ])
    (refine wpAnyH_take (i := 7) (oi := ?_) (v := ?_) ?_ (by kernel_rfl) (by kernel_rfl) (by kernel_rfl) ?_ (Or.inl ⟨?_, ?_⟩) (by assumption) ?_; rotate_left 2; (· (simp only [List.getElem?_toArray, List.getElem?_cons_succ, List.getElem?_cons_zero]; first | done | rfl)); (· exact (fun _ _ _ h => h)); (· rfl); (· (intro w hSw; (try dsimp only at hSw); go_simp; (try with_reducible rfl))))
    (try simp only [Act.put, List.setIfInBounds_toArray, List.set_cons_zero, List.set_cons_succ])
    (refine wpAnyH_take (i := 8) (oi := ?_) (v := ?_) ?_ (by kernel_rfl) (by kernel_rfl) (by kernel_rfl) ?_ (Or.inl ⟨?_, ?_⟩) (by assumption) ?_; rotate_left 2; (· (simp only [List.getElem?_toArray, List.getElem?_cons_succ, List.getElem?_cons_zero]; first | done | rfl)); (· exact (fun _ _ _ h => h)); (· rfl); (· (intro w hSw; (try dsimp only at hSw); go_simp; (try with_reducible rfl))))
    (try simp only [Act.put, List.setIfInBounds_toArray, List.set_cons_zero, List.set_cons_succ])
    (refine wpAnyH_take (i := 9) (oi := ?_) (v := ?_) ?_ (by kernel_rfl) (by kernel_rfl) (by kernel_rfl) ?_ (Or.inl ⟨?_, ?_⟩) (by assumption) ?_; rotate_left 2; (· (simp only [List.getElem?_toArray, List.getElem?_cons_succ, List.getElem?_cons_zero]; first | done | rfl)); (· exact (fun _ _ _ h => h)); (· rfl); (· (intro w hSw; (try dsimp only at hSw); go_simp; (try with_reducible rfl))))
    (try simp only [Act.put, List.setIfInBounds_toArray, List.set_cons_zero, List.set_cons_succ])
    (refine wpAnyH_take (i := 10) (oi := ?_) (v := ?_) ?_ (by kernel_rfl) (by kernel_rfl) (by kernel_rfl) ?_ (Or.inl ⟨?_, ?_⟩) (by assumption) ?_; rotate_left 2; (· (simp only [List.getElem?_toArray, List.getElem?_cons_succ, List.getElem?_cons_zero]; first | done | rfl)); (· exact (fun _ _ _ h => h)); (· rfl); (· (intro w hSw; (try dsimp only at hSw); go_simp; (try with_reducible rfl))))
    (try simp only [Act.put, List.setIfInBounds_toArray, List.set_cons_zero, List.set_cons_succ])
    (refine wpAnyH_take (i := 11) (oi := ?_) (v := ?_) ?_ (by kernel_rfl) (by kernel_rfl) (by kernel_rfl) ?_ (Or.inl ⟨?_, ?_⟩) (by assumption) ?_; rotate_left 2; (· (simp only [List.getElem?_toArray, List.getElem?_cons_succ, List.getElem?_cons_zero]; first | done | rfl)); (· exact (fun _ _ _ h => h)); (· rfl); (· (intro w hSw; (try dsimp only at hSw); go_simp; (try with_reducible rfl))))
    (try simp only [Act.put, List.setIfInBounds_toArray, List.set_cons_zero, List.set_cons_succ])
    (refine wpAnyH_take (i := 12) (oi := ?_) (v := ?_) ?_ (by kernel_rfl) (by kernel_rfl) (by kernel_rfl) ?_ (Or.inl ⟨?_, ?_⟩) (by assumption) ?_; rotate_left 2; (· (simp only [List.getElem?_toArray, List.getElem?_cons_succ, List.getElem?_cons_zero]; first | done | rfl)); (· exact (fun _ _ _ h => h)); (· rfl); (· (intro w hSw; (try dsimp only at hSw); go_simp; (try with_reducible rfl))))
    (try simp only [Act.put, List.setIfInBounds_toArray, List.set_cons_zero, List.set_cons_succ])
    (refine wpAnyH_take (i := 13) (oi := ?_) (v := ?_) ?_ (by kernel_rfl) (by kernel_rfl) (by kernel_rfl) ?_ (Or.inl ⟨?_, ?_⟩) (by assumption) ?_; rotate_left 2; (· (simp only [List.getElem?_toArray, List.getElem?_cons_succ, List.getElem?_cons_zero]; first | done | rfl)); (· exact (fun _ _ _ h => h)); (· rfl); (· (intro w hSw; (try dsimp only at hSw); go_simp; (try with_reducible rfl))))
    (try simp only [Act.put, List.setIfInBounds_toArray, List.set_cons_zero, List.set_cons_succ])
    (refine wpAnyH_take (i := 14) (oi := ?_) (v := ?_) ?_ (by kernel_rfl) (by kernel_rfl) (by kernel_rfl) ?_ (Or.inl ⟨?_, ?_⟩) (by assumption) ?_; rotate_left 2; (· (simp only [List.getElem?_toArray, List.getElem?_cons_succ, List.getElem?_cons_zero]; first | done | rfl)); (· exact (fun _ _ _ h => h)); (· rfl); (· (intro w hSw; (try dsimp only at hSw); go_simp; (try with_reducible rfl))))
    (try simp only [Act.put, List.setIfInBounds_toArray, List.set_cons_zero, List.set_cons_succ])
    (refine wpAnyH_take (i := 15) (oi := ?_) (v := ?_) ?_ (by kernel_rfl) (by kernel_rfl) (by kernel_rfl) ?_ (Or.inl ⟨?_, ?_⟩) (by assumption) ?_; rotate_left 2; (· (simp only [List.getElem?_toArray, List.getElem?_cons_succ, List.getElem?_cons_zero]; first | done | rfl)); (· exact (fun _ _ _ h => h)); (· rfl); (· (intro w hSw; (try dsimp only at hSw); go_simp; (try with_reducible rfl))))
    (try simp only [Act.put, List.setIfInBounds_toArray, List.set_cons_zero, List.set_cons_succ])
    (refine wpAnyH_take (i := 16) (oi := ?_) (v := ?_) ?_ (by kernel_rfl) (by kernel_rfl) (by kernel_rfl) ?_ (Or.inl ⟨?_, ?_⟩) (by assumption) ?_; rotate_left 2; (· (simp only [List.getElem?_toArray, List.getElem?_cons_succ, List.getElem?_cons_zero]; first | done | rfl)); (· exact (fun _ _ _ h => h)); (· rfl); (· (intro w hSw; (try dsimp only at hSw); go_simp; (try with_reducible rfl))))
    (try simp only [Act.put, List.setIfInBounds_toArray, List.set_cons_zero, List.set_cons_succ])
    (refine wpAnyH_take (i := 17) (oi := ?_) (v := ?_) ?_ (by kernel_rfl) (by kernel_rfl) (by kernel_rfl) ?_ (Or.inl ⟨?_, ?_⟩) (by assumption) ?_; rotate_left 2; (· (simp only [List.getElem?_toArray, List.getElem?_cons_succ, List.getElem?_cons_zero]; first | done | rfl)); (· exact (fun _ _ _ h => h)); (· rfl); (· (intro w hSw; (try dsimp only at hSw); go_simp; (try with_reducible rfl))))
    (try simp only [Act.put, List.setIfInBounds_toArray, List.set_cons_zero, List.set_cons_succ])
    (refine wpAnyH_take (i := 18) (oi := ?_) (v := ?_) ?_ (by kernel_rfl) (by kernel_rfl) (by kernel_rfl) ?_ (Or.inl ⟨?_, ?_⟩) (by assumption) ?_; rotate_left 2; (· (simp only [List.getElem?_toArray, List.getElem?_cons_succ, List.getElem?_cons_zero]; first | done | rfl)); (· exact (fun _ _ _ h => h)); (· rfl); (· (intro w hSw; (try dsimp only at hSw); go_simp; (try with_reducible rfl))))
    (try simp only [Act.put, List.setIfInBounds_toArray, List.set_cons_zero, List.set_cons_succ])
    (refine wpAnyH_take (i := 19) (oi := ?_) (v := ?_) ?_ (by kernel_rfl) (by kernel_rfl) (by kernel_rfl) ?_ (Or.inl ⟨?_, ?_⟩) (by assumption) ?_; rotate_left 2; (· (simp only [List.getElem?_toArray, List.getElem?_cons_succ, List.getElem?_cons_zero]; first | done | rfl)); (· exact (fun _ _ _ h => h)); (· rfl); (· (intro w hSw; (try dsimp only at hSw); go_simp; (try with_reducible rfl))))
    (try simp only [Act.put, List.setIfInBounds_toArray, List.set_cons_zero, List.set_cons_succ])
    (refine wpAnyH_take (i := 20) (oi := ?_) (v := ?_) ?_ (by kernel_rfl) (by kernel_rfl) (by kernel_rfl) ?_ (Or.inl ⟨?_, ?_⟩) (by assumption) ?_; rotate_left 2; (· (simp only [List.getElem?_toArray, List.getElem?_cons_succ, List.getElem?_cons_zero]; first | done | rfl)); (· exact (fun _ _ _ h => h)); (· rfl); (· (intro w hSw; (try dsimp only at hSw); go_simp; (try with_reducible rfl))))
    (try simp only [Act.put, List.setIfInBounds_toArray, List.set_cons_zero, List.set_cons_succ])
    (refine wpAnyH_take (i := 21) (oi := ?_) (v := ?_) ?_ (by kernel_rfl) (by kernel_rfl) (by kernel_rfl) ?_ (Or.inl ⟨?_, ?_⟩) (by assumption) ?_; rotate_left 2; (· (simp only [List.getElem?_toArray, List.getElem?_cons_succ, List.getElem?_cons_zero]; first | done | rfl)); (· exact (fun _ _ _ h => h)); (· rfl); (· (intro w hSw; (try dsimp only at hSw); go_simp; (try with_reducible rfl))))
    (try simp only [Act.put, List.setIfInBounds_toArray, List.set_cons_zero, List.set_cons_succ])
    (refine wpAnyH_take (i := 22) (oi := ?_) (v := ?_) ?_ (by kernel_rfl) (by kernel_rfl) (by kernel_rfl) ?_ (Or.inl ⟨?_, ?_⟩) (by assumption) ?_; rotate_left 2; (· (simp only [List.getElem?_toArray, List.getElem?_cons_succ, List.getElem?_cons_zero]; first | done | rfl)); (· exact (fun _ _ _ h => h)); (· rfl); (· (intro w hSw; (try dsimp only at hSw); go_simp; (try with_reducible rfl))))
    (try simp only [Act.put, List.setIfInBounds_toArray, List.set_cons_zero, List.set_cons_succ])
    (refine wpAnyH_take (i := 23) (oi := ?_) (v := ?_) ?_ (by kernel_rfl) (by kernel_rfl) (by kernel_rfl) ?_ (Or.inl ⟨?_, ?_⟩) (by assumption) ?_; rotate_left 2; (· (simp only [List.getElem?_toArray, List.getElem?_cons_succ, List.getElem?_cons_zero]; first | done | rfl)); (· exact (fun _ _ _ h => h)); (· rfl); (· (intro w hSw; (try dsimp only at hSw); go_simp; (try with_reducible rfl))))
    (try simp only [Act.put, List.setIfInBounds_toArray, List.set_cons_zero, List.set_cons_succ])
    (refine wpAnyH_take (i := 24) (oi := ?_) (v := ?_) ?_ (by kernel_rfl) (by kernel_rfl) (by kernel_rfl) ?_ (Or.inl ⟨?_, ?_⟩) (by assumption) ?_; rotate_left 2; (· (simp only [List.getElem?_toArray, List.getElem?_cons_succ, List.getElem?_cons_zero]; first | done | rfl)); (· exact (fun _ _ _ h => h)); (· rfl); (· (intro w hSw; (try dsimp only at hSw); go_simp; (try with_reducible rfl))))
    (try simp only [Act.put, List.setIfInBounds_toArray, List.set_cons_zero, List.set_cons_succ])
    refine wpAnyH_ready (rs := [25]) (by kernel_rfl) (by simp) ?_
    refine AllReadyH.cons (o := ?_) ?_ (fun K hK => ?_) AllReadyH.nil
    rotate_left 1
    · (simp only [List.getElem?_toArray, List.getElem?_cons_succ, List.getElem?_cons_zero]; first | done | rfl)
    go_simp
    first | (refine hK.out _ _ ?_ (fun hq3 => ?_)) | ((first | (go_at_call 30; ((with_reducible refine (HM1.out _ (sn_own (by assumption))).mono ?_); rintro e w9 ⟨rfl, hb9⟩)) | (go_at_call 30; ((with_reducible refine (HM2.out _ (sn_own (by assumption))).mono ?_); rintro e w9 ⟨rfl, hb9⟩)) | (go_at_call 17; ((with_reducible refine (HRN.out _ (sn_own (by assumption))).mono ?_); rintro e w9 ⟨rfl, hb9⟩)) | (go_at_call 18; ((with_reducible refine (HK1.out _ (sn_own (by assumption))).mono ?_); rintro e w9 ⟨rfl, hb9⟩)) | (go_at_call 18; ((with_reducible refine (HK2.out _ (sn_own (by assumption))).mono ?_); rintro e w9 ⟨rfl, hb9⟩)) | (go_at_call 32; ((with_reducible refine (HPN.out _ (sn_own (by assumption))).mono ?_); rintro e w9 ⟨rfl, hb9⟩)) | (go_at_call 33; ((with_reducible refine (HV1.out _ (sn_own (by assumption))).mono ?_); rintro e w9 ⟨rfl, hb9⟩)) | (go_at_call 33; ((with_reducible refine (HV2.out _ (sn_own (by assumption))).mono ?_); rintro e w9 ⟨rfl, hb9⟩))); refine hK.out _ _ ?_ (fun hq3 => ?_)) | ((first | (go_at_call 30; ((with_reducible refine (HM1.out _ (sn_own (by assumption))).mono ?_); rintro e w9 ⟨rfl, hb9⟩)) | (go_at_call 30; ((with_reducible refine (HM2.out _ (sn_own (by assumption))).mono ?_); rintro e w9 ⟨rfl, hb9⟩)) | (go_at_call 17; ((with_reducible refine (HRN.out _ (sn_own (by assumption))).mono ?_); rintro e w9 ⟨rfl, hb9⟩)) | (go_at_call 18; ((with_reducible refine (HK1.out _ (sn_own (by assumption))).mono ?_); rintro e w9 ⟨rfl, hb9⟩)) | (go_at_call 18; ((with_reducible refine (HK2.out _ (sn_own (by assumption))).mono ?_); rintro e w9 ⟨rfl, hb9⟩)) | (go_at_call 32; ((with_reducible refine (HPN.out _ (sn_own (by assumption))).mono ?_); rintro e w9 ⟨rfl, hb9⟩)) | (go_at_call 33; ((with_reducible refine (HV1.out _ (sn_own (by assumption))).mono ?_); rintro e w9 ⟨rfl, hb9⟩)) | (go_at_call 33; ((with_reducible refine (HV2.out _ (sn_own (by assumption))).mono ?_); rintro e w9 ⟨rfl, hb9⟩))); go_wp2_with fail; refine hK.out _ _ ?_ (fun hq3 => ?_)) | fail
    · ((try dsimp only); (first | exact sn_below (bdrewN (Below.refl _ _) 1) HS.out | assumption | exact sn_below (by assumption) (by assumption)))
    clear hK K
    (try simp only [Act.put, List.setIfInBounds_toArray, List.set_cons_zero, List.set_cons_succ])
    clear hq2
    (refine wpAnyH_take (i := 26) (oi := ?_) (v := ?_) ?_ (by kernel_rfl) (by kernel_rfl) (by kernel_rfl) ?_ (Or.inl ⟨?_, ?_⟩) (by assumption) ?_; rotate_left 2; (· (simp only [List.getElem?_toArray, List.getElem?_cons_succ, List.getElem?_cons_zero]; first | done | rfl)); (· exact (fun _ _ _ h => h)); (· rfl); (· (intro w hSw; (try dsimp only at hSw); go_simp; (try with_reducible rfl))))
    (try simp only [Act.put, List.setIfInBounds_toArray, List.set_cons_zero, List.set_cons_succ])
    (refine wpAnyH_take (i := 27) (oi := ?_) (v := ?_) ?_ (by kernel_rfl) (by kernel_rfl) (by kernel_rfl) ?_ (Or.inl ⟨?_, ?_⟩) (by assumption) ?_; rotate_left 2; (· (simp only [List.getElem?_toArray, List.getElem?_cons_succ, List.getElem?_cons_zero]; first | done | rfl)); (· exact (fun _ _ _ h => h)); (· rfl); (· (intro w hSw; (try dsimp only at hSw); go_simp; (try with_reducible rfl))))
    (try simp only [Act.put, List.setIfInBounds_toArray, List.set_cons_zero, List.set_cons_succ])
    (refine wpAnyH_take (i := 28) (oi := ?_) (v := ?_) ?_ (by kernel_rfl) (by kernel_rfl) (by kernel_rfl) ?_ (Or.inl ⟨?_, ?_⟩) (by assumption) ?_; rotate_left 2; (· (simp only [List.getElem?_toArray, List.getElem?_cons_succ, List.getElem?_cons_zero]; first | done | rfl)); (· exact (fun _ _ _ h => h)); (· rfl); (· (intro w hSw; (try dsimp only at hSw); go_simp; (try with_reducible rfl))))
    (try simp only [Act.put, List.setIfInBounds_toArray, List.set_cons_zero, List.set_cons_succ])
    (refine wpAnyH_take (i := 29) (oi := ?_) (v := ?_) ?_ (by kernel_rfl) (by kernel_rfl) (by kernel_rfl) ?_ (Or.inl ⟨?_, ?_⟩) (by assumption) ?_; rotate_left 2; (· (simp only [List.getElem?_toArray, List.getElem?_cons_succ, List.getElem?_cons_zero]; first | done | rfl)); (· exact (fun _ _ _ h => h)); (· rfl); (· (intro w hSw; (try dsimp only at hSw); go_simp; (try with_reducible rfl))))
    (try simp only [Act.put, List.setIfInBounds_toArray, List.set_cons_zero, List.set_cons_succ])
    (refine wpAnyH_take (i := 31) (oi := ?_) (v := ?_) ?_ (by kernel_rfl) (by kernel_rfl) (by kernel_rfl) ?_ (Or.inl ⟨?_, ?_⟩) (by assumption) ?_; rotate_left 2; (· (simp only [List.getElem?_toArray, List.getElem?_cons_succ, List.getElem?_cons_zero]; first | done | rfl)); (· exact (fun _ _ _ h => h)); (· rfl); (· (intro w hSw; (try dsimp only at hSw); go_simp; (try with_reducible rfl))))
    (try simp only [Act.put, List.setIfInBounds_toArray, List.set_cons_zero, List.set_cons_succ])
    refine wpAnyH_ready (rs := [30]) (by kernel_rfl) (by simp) ?_
    refine AllReadyH.cons (o := ?_) ?_ (fun K hK => ?_) AllReadyH.nil
    rotate_left 1
    · (simp only [List.getElem?_toArray, List.getElem?_cons_succ, List.getElem?_cons_zero]; first | done | rfl)
    go_simp
    first | (refine hK.out _ _ ?_ (fun hq4 => ?_)) | ((first | (go_at_call 30; ((with_reducible refine (HM1.out _ (sn_own (by assumption))).mono ?_); rintro e w9 ⟨rfl, hb9⟩)) | (go_at_call 30; ((with_reducible refine (HM2.out _ (sn_own (by assumption))).mono ?_); rintro e w9 ⟨rfl, hb9⟩)) | (go_at_call 17; ((with_reducible refine (HRN.out _ (sn_own (by assumption))).mono ?_); rintro e w9 ⟨rfl, hb9⟩)) | (go_at_call 18; ((with_reducible refine (HK1.out _ (sn_own (by assumption))).mono ?_); rintro e w9 ⟨rfl, hb9⟩)) | (go_at_call 18; ((with_reducible refine (HK2.out _ (sn_own (by assumption))).mono ?_); rintro e w9 ⟨rfl, hb9⟩)) | (go_at_call 32; ((with_reducible refine (HPN.out _ (sn_own (by assumption))).mono ?_); rintro e w9 ⟨rfl, hb9⟩)) | (go_at_call 33; ((with_reducible refine (HV1.out _ (sn_own (by assumption))).mono ?_); rintro e w9 ⟨rfl, hb9⟩)) | (go_at_call 33; ((with_reducible refine (HV2.out _ (sn_own (by assumption))).mono ?_); rintro e w9 ⟨rfl, hb9⟩))); refine hK.out _ _ ?_ (fun hq4 => ?_)) | ((first | (go_at_call 30; ((with_reducible refine (HM1.out _ (sn_own (by assumption))).mono ?_); rintro e w9 ⟨rfl, hb9⟩)) | (go_at_call 30; ((with_reducible refine (HM2.out _ (sn_own (by assumption))).mono ?_); rintro e w9 ⟨rfl, hb9⟩)) | (go_at_call 17; ((with_reducible refine (HRN.out _ (sn_own (by assumption))).mono ?_); rintro e w9 ⟨rfl, hb9⟩)) | (go_at_call 18; ((with_reducible refine (HK1.out _ (sn_own (by assumption))).mono ?_); rintro e w9 ⟨rfl, hb9⟩)) | (go_at_call 18; ((with_reducible refine (HK2.out _ (sn_own (by assumption))).mono ?_); rintro e w9 ⟨rfl, hb9⟩)) | (go_at_call 32; ((with_reducible refine (HPN.out _ (sn_own (by assumption))).mono ?_); rintro e w9 ⟨rfl, hb9⟩)) | (go_at_call 33; ((with_reducible refine (HV1.out _ (sn_own (by assumption))).mono ?_); rintro e w9 ⟨rfl, hb9⟩)) | (go_at_call 33; ((with_reducible refine (HV2.out _ (sn_own (by assumption))).mono ?_); rintro e w9 ⟨rfl, hb9⟩))); go_wp2_with fail; refine hK.out _ _ ?_ (fun hq4 => ?_)) | fail
    · ((try dsimp only); (first | exact sn_below (bdrewN (Below.refl _ _) 1) HS.out | assumption | exact sn_below (by assumption) (by assumption)))
    clear hK K
    (try simp only [Act.put, List.setIfInBounds_toArray, List.set_cons_zero, List.set_cons_succ])
    clear hq3
    refine wpAnyH_ready (rs := [32]) (by kernel_rfl) (by simp) ?_
    refine AllReadyH.cons (o := ?_) ?_ (fun K hK => ?_) AllReadyH.nil
    rotate_left 1
    · (simp only [List.getElem?_toArray, List.getElem?_cons_succ, List.getElem?_cons_zero]; first | done | rfl)
    go_simp
    first | (refine hK.out _ _ ?_ (fun hq5 => ?_)) | ((first | (go_at_call 30; ((with_reducible refine (HM1.out _ (sn_own (by assumption))).mono ?_); rintro e w9 ⟨rfl, hb9⟩)) | (go_at_call 30; ((with_reducible refine (HM2.out _ (sn_own (by assumption))).mono ?_); rintro e w9 ⟨rfl, hb9⟩)) | (go_at_call 17; ((with_reducible refine (HRN.out _ (sn_own (by assumption))).mono ?_); rintro e w9 ⟨rfl, hb9⟩)) | (go_at_call 18; ((with_reducible refine (HK1.out _ (sn_own (by assumption))).mono ?_); rintro e w9 ⟨rfl, hb9⟩)) | (go_at_call 18; ((with_reducible refine (HK2.out _ (sn_own (by assumption))).mono ?_); rintro e w9 ⟨rfl, hb9⟩)) | (go_at_call 32; ((with_reducible refine (HPN.out _ (sn_own (by assumption))).mono ?_); rintro e w9 ⟨rfl, hb9⟩)) | (go_at_call 33; ((with_reducible refine (HV1.out _ (sn_own (by assumption))).mono ?_); rintro e w9 ⟨rfl, hb9⟩)) | (go_at_call 33; ((with_reducible refine (HV2.out _ (sn_own (by assumption))).mono ?_); rintro e w9 ⟨rfl, hb9⟩))); refine hK.out _ _ ?_ (fun hq5 => ?_)) | ((first | (go_at_call 30; ((with_reducible refine (HM1.out _ (sn_own (by assumption))).mono ?_); rintro e w9 ⟨rfl, hb9⟩)) | (go_at_call 30; ((with_reducible refine (HM2.out _ (sn_own (by assumption))).mono ?_); rintro e w9 ⟨rfl, hb9⟩)) | (go_at_call 17; ((with_reducible refine (HRN.out _ (sn_own (by assumption))).mono ?_); rintro e w9 ⟨rfl, hb9⟩)) | (go_at_call 18; ((with_reducible refine (HK1.out _ (sn_own (by assumption))).mono ?_); rintro e w9 ⟨rfl, hb9⟩)) | (go_at_call 18; ((with_reducible refine (HK2.out _ (sn_own (by assumption))).mono ?_); rintro e w9 ⟨rfl, hb9⟩)) | (go_at_call 32; ((with_reducible refine (HPN.out _ (sn_own (by assumption))).mono ?_); rintro e w9 ⟨rfl, hb9⟩)) | (go_at_call 33; ((with_reducible refine (HV1.out _ (sn_own (by assumption))).mono ?_); rintro e w9 ⟨rfl, hb9⟩)) | (go_at_call 33; ((with_reducible refine (HV2.out _ (sn_own (by assumption))).mono ?_); rintro e w9 ⟨rfl, hb9⟩))); go_wp2_with fail; refine hK.out _ _ ?_ (fun hq5 => ?_)) | fail
    · ((try dsimp only); (first | exact sn_below (bdrewN (Below.refl _ _) 1) HS.out | assumption | exact sn_below (by assumption) (by assumption)))
    clear hK K
    (try simp only [Act.put, List.setIfInBounds_toArray, List.set_cons_zero, List.set_cons_succ])
    clear hq4
    (refine wpAnyH_take (i := 33) (oi := ?_) (v := ?_) ?_ (by kernel_rfl) (by kernel_rfl) (by kernel_rfl) ?_ (Or.inl ⟨?_, ?_⟩) (by assumption) ?_; rotate_left 2; (· (simp only [List.getElem?_toArray, List.getElem?_cons_succ, List.getElem?_cons_zero]; first | done | rfl)); (· exact (fun _ _ _ h => h)); (· rfl); (· (intro w hSw; (try dsimp only at hSw); go_simp; (try with_reducible rfl))))
    (try simp only [Act.put, List.setIfInBounds_toArray, List.set_cons_zero, List.set_cons_succ])
    (refine wpAnyH_take (i := 34) (oi := ?_) (v := ?_) ?_ (by kernel_rfl) (by kernel_rfl) (by kernel_rfl) ?_ (Or.inl ⟨?_, ?_⟩) (by assumption) ?_; rotate_left 2; (· (simp only [List.getElem?_toArray, List.getElem?_cons_succ, List.getElem?_cons_zero]; first | done | rfl)); (· exact (fun _ _ _ h => h)); (· rfl); (· (intro w hSw; (try dsimp only at hSw); go_simp; (try with_reducible rfl))))
    (try simp only [Act.put, List.setIfInBounds_toArray, List.set_cons_zero, List.set_cons_succ])
    (refine wpAnyH_take (i := 35) (oi := ?_) (v := ?_) ?_ (by kernel_rfl) (by kernel_rfl) (by kernel_rfl) ?_ (Or.inl ⟨?_, ?_⟩) (by assumption) ?_; rotate_left 2; (· (simp only [List.getElem?_toArray, List.getElem?_cons_succ, List.getElem?_cons_zero]; first | done | rfl)); (· exact (fun _ _ _ h => h)); (· rfl); (· (intro w hSw; (try dsimp only at hSw); go_simp; (try with_reducible rfl))))
    (try simp only [Act.put, List.setIfInBounds_toArray, List.set_cons_zero, List.set_cons_succ])
    (refine wpAnyH_take (i := 36) (oi := ?_) (v := ?_) ?_ (by kernel_rfl) (by kernel_rfl) (by kernel_rfl) ?_ (Or.inl ⟨?_, ?_⟩) (by assumption) ?_; rotate_left 2; (· (simp only [List.getElem?_toArray, List.getElem?_cons_succ, List.getElem?_cons_zero]; first | done | rfl)); (· exact (fun _ _ _ h => h)); (· rfl); (· (intro w hSw; (try dsimp only at hSw); go_simp; (try with_reducible rfl))))
    (try simp only [Act.put, List.setIfInBounds_toArray, List.set_cons_zero, List.set_cons_succ])
    (refine wpAnyH_take (i := 38) (oi := ?_) (v := ?_) ?_ (by kernel_rfl) (by kernel_rfl) (by kernel_rfl) ?_ (Or.inl ⟨?_, ?_⟩) (by assumption) ?_; rotate_left 2; (· (simp only [List.getElem?_toArray, List.getElem?_cons_succ, List.getElem?_cons_zero]; first | done | rfl)); (· exact (fun _ _ _ h => h)); (· rfl); (· (intro w hSw; (try dsimp only at hSw); go_simp; (try with_reducible rfl))))
    (try simp only [Act.put, List.setIfInBounds_toArray, List.set_cons_zero, List.set_cons_succ])
    refine wpAnyH_ready (rs := [37]) (by kernel_rfl) (by simp) ?_
    refine AllReadyH.cons (o := ?_) ?_ (fun K hK => ?_) AllReadyH.nil
    rotate_left 1
    · (simp only [List.getElem?_toArray, List.getElem?_cons_succ, List.getElem?_cons_zero]; first | done | rfl)
    go_simp
    first | (refine hK.out _ _ ?_ (fun hq6 => ?_)) | ((first | (go_at_call 30; ((with_reducible refine (HM1.out _ (sn_own (by assumption))).mono ?_); rintro e w9 ⟨rfl, hb9⟩)) | (go_at_call 30; ((with_reducible refine (HM2.out _ (sn_own (by assumption))).mono ?_); rintro e w9 ⟨rfl, hb9⟩)) | (go_at_call 17; ((with_reducible refine (HRN.out _ (sn_own (by assumption))).mono ?_); rintro e w9 ⟨rfl, hb9⟩)) | (go_at_call 18; ((with_reducible refine (HK1.out _ (sn_own (by assumption))).mono ?_); rintro e w9 ⟨rfl, hb9⟩)) | (go_at_call 18; ((with_reducible refine (HK2.out _ (sn_own (by assumption))).mono ?_); rintro e w9 ⟨rfl, hb9⟩)) | (go_at_call 32; ((with_reducible refine (HPN.out _ (sn_own (by assumption))).mono ?_); rintro e w9 ⟨rfl, hb9⟩)) | (go_at_call 33; ((with_reducible refine (HV1.out _ (sn_own (by assumption))).mono ?_); rintro e w9 ⟨rfl, hb9⟩)) | (go_at_call 33; ((with_reducible refine (HV2.out _ (sn_own (by assumption))).mono ?_); rintro e w9 ⟨rfl, hb9⟩))); refine hK.out _ _ ?_ (fun hq6 => ?_)) | ((first | (go_at_call 30; ((with_reducible refine (HM1.out _ (sn_own (by assumption))).mono ?_); rintro e w9 ⟨rfl, hb9⟩)) | (go_at_call 30; ((with_reducible refine (HM2.out _ (sn_own (by assumption))).mono ?_); rintro e w9 ⟨rfl, hb9⟩)) | (go_at_call 17; ((with_reducible refine (HRN.out _ (sn_own (by assumption))).mono ?_); rintro e w9 ⟨rfl, hb9⟩)) | (go_at_call 18; ((with_reducible refine (HK1.out _ (sn_own (by assumption))).mono ?_); rintro e w9 ⟨rfl, hb9⟩)) | (go_at_call 18; ((with_reducible refine (HK2.out _ (sn_own (by assumption))).mono ?_); rintro e w9 ⟨rfl, hb9⟩)) | (go_at_call 32; ((with_reducible refine (HPN.out _ (sn_own (by assumption))).mono ?_); rintro e w9 ⟨rfl, hb9⟩)) | (go_at_call 33; ((with_reducible refine (HV1.out _ (sn_own (by assumption))).mono ?_); rintro e w9 ⟨rfl, hb9⟩)) | (go_at_call 33; ((with_reducible refine (HV2.out _ (sn_own (by assumption))).mono ?_); rintro e w9 ⟨rfl, hb9⟩))); go_wp2_with fail; refine hK.out _ _ ?_ (fun hq6 => ?_)) | fail
    · ((try dsimp only); (first | exact sn_below (bdrewN (Below.refl _ _) 1) HS.out | assumption | exact sn_below (by assumption) (by assumption)))
    clear hK K
    (try simp only [Act.put, List.setIfInBounds_toArray, List.set_cons_zero, List.set_cons_succ])
    clear hq5
    refine wpAnyH_ready (rs := [39]) (by kernel_rfl) (by simp) ?_
    refine AllReadyH.cons (o := ?_) ?_ (fun K hK => ?_) AllReadyH.nil
    rotate_left 1
    · (simp only [List.getElem?_toArray, List.getElem?_cons_succ, List.getElem?_cons_zero]; first | done | rfl)
    go_simp
    first | (refine hK.out _ _ ?_ (fun hq7 => ?_)) | ((first | (go_at_call 30; ((with_reducible refine (HM1.out _ (sn_own (by assumption))).mono ?_); rintro e w9 ⟨rfl, hb9⟩)) | (go_at_call 30; ((with_reducible refine (HM2.out _ (sn_own (by assumption))).mono ?_); rintro e w9 ⟨rfl, hb9⟩)) | (go_at_call 17; ((with_reducible refine (HRN.out _ (sn_own (by assumption))).mono ?_); rintro e w9 ⟨rfl, hb9⟩)) | (go_at_call 18; ((with_reducible refine (HK1.out _ (sn_own (by assumption))).mono ?_); rintro e w9 ⟨rfl, hb9⟩)) | (go_at_call 18; ((with_reducible refine (HK2.out _ (sn_own (by assumption))).mono ?_); rintro e w9 ⟨rfl, hb9⟩)) | (go_at_call 32; ((with_reducible refine (HPN.out _ (sn_own (by assumption))).mono ?_); rintro e w9 ⟨rfl, hb9⟩)) | (go_at_call 33; ((with_reducible refine (HV1.out _ (sn_own (by assumption))).mono ?_); rintro e w9 ⟨rfl, hb9⟩)) | (go_at_call 33; ((with_reducible refine (HV2.out _ (sn_own (by assumption))).mono ?_); rintro e w9 ⟨rfl, hb9⟩))); refine hK.out _ _ ?_ (fun hq7 => ?_)) | ((first | (go_at_call 30; ((with_reducible refine (HM1.out _ (sn_own (by assumption))).mono ?_); rintro e w9 ⟨rfl, hb9⟩)) | (go_at_call 30; ((with_reducible refine (HM2.out _ (sn_own (by assumption))).mono ?_); rintro e w9 ⟨rfl, hb9⟩)) | (go_at_call 17; ((with_reducible refine (HRN.out _ (sn_own (by assumption))).mono ?_); rintro e w9 ⟨rfl, hb9⟩)) | (go_at_call 18; ((with_reducible refine (HK1.out _ (sn_own (by assumption))).mono ?_); rintro e w9 ⟨rfl, hb9⟩)) | (go_at_call 18; ((with_reducible refine (HK2.out _ (sn_own (by assumption))).mono ?_); rintro e w9 ⟨rfl, hb9⟩)) | (go_at_call 32; ((with_reducible refine (HPN.out _ (sn_own (by assumption))).mono ?_); rintro e w9 ⟨rfl, hb9⟩)) | (go_at_call 33; ((with_reducible refine (HV1.out _ (sn_own (by assumption))).mono ?_); rintro e w9 ⟨rfl, hb9⟩)) | (go_at_call 33; ((with_reducible refine (HV2.out _ (sn_own (by assumption))).mono ?_); rintro e w9 ⟨rfl, hb9⟩))); go_wp2_with fail; refine hK.out _ _ ?_ (fun hq7 => ?_)) | fail
    · ((try dsimp only); (first | exact sn_below (bdrewN (Below.refl _ _) 1) HS.out | assumption | exact sn_below (by assumption) (by assumption)))
    clear hK K
    (try simp only [Act.put, List.setIfInBounds_toArray, List.set_cons_zero, List.set_cons_succ])
    clear hq6
    (refine wpAnyH_take (i := 40) (oi := ?_) (v := ?_) ?_ (by kernel_rfl) (by kernel_rfl) (by kernel_rfl) ?_ (Or.inl ⟨?_, ?_⟩) (by assumption) ?_; rotate_left 2; (· (simp only [List.getElem?_toArray, List.getElem?_cons_succ, List.getElem?_cons_zero]; first | done | rfl)); (· exact (fun _ _ _ h => h)); (· rfl); (· (intro w hSw; (try dsimp only at hSw); go_simp; (try with_reducible rfl))))
    (try simp only [Act.put, List.setIfInBounds_toArray, List.set_cons_zero, List.set_cons_succ])
    (refine wpAnyH_take (i := 41) (oi := ?_) (v := ?_) ?_ (by kernel_rfl) (by kernel_rfl) (by kernel_rfl) ?_ (Or.inl ⟨?_, ?_⟩) (by assumption) ?_; rotate_left 2; (· (simp only [List.getElem?_toArray, List.getElem?_cons_succ, List.getElem?_cons_zero]; first | done | rfl)); (· exact (fun _ _ _ h => h)); (· rfl); (· (intro w hSw; (try dsimp only at hSw); go_simp; (try with_reducible rfl))))
    (try simp only [Act.put, List.setIfInBounds_toArray, List.set_cons_zero, List.set_cons_succ])
    (refine wpAnyH_take (i := 42) (oi := ?_) (v := ?_) ?_ (by kernel_rfl) (by kernel_rfl) (by kernel_rfl) ?_ (Or.inl ⟨?_, ?_⟩) (by assumption) ?_; rotate_left 2; (· (simp only [List.getElem?_toArray, List.getElem?_cons_succ, List.getElem?_cons_zero]; first | done | rfl)); (· exact (fun _ _ _ h => h)); (· rfl); (· (intro w hSw; (try dsimp only at hSw); go_simp; (try with_reducible rfl))))
    (try simp only [Act.put, List.setIfInBounds_toArray, List.set_cons_zero, List.set_cons_succ])
    (refine wpAnyH_take (i := 43) (oi := ?_) (v := ?_) ?_ (by kernel_rfl) (by kernel_rfl) (by kernel_rfl) ?_ (Or.inl ⟨?_, ?_⟩) (by assumption) ?_; rotate_left 2; (· (simp only [List.getElem?_toArray, List.getElem?_cons_succ, List.getElem?_cons_zero]; first | done | rfl)); (· exact (fun _ _ _ h => h)); (· rfl); (· (intro w hSw; (try dsimp only at hSw); go_simp; (try with_reducible rfl))))
    (try simp only [Act.put, List.setIfInBounds_toArray, List.set_cons_zero, List.set_cons_succ])
    (refine wpAnyH_take (i := 45) (oi := ?_) (v := ?_) ?_ (by kernel_rfl) (by kernel_rfl) (by kernel_rfl) ?_ (Or.inl ⟨?_, ?_⟩) (by assumption) ?_; rotate_left 2; (· (simp only [List.getElem?_toArray, List.getElem?_cons_succ, List.getElem?_cons_zero]; first | done | rfl)); (· exact (fun _ _ _ h => h)); (· rfl); (· (intro w hSw; (try dsimp only at hSw); go_simp; (try with_reducible rfl))))
    (try simp only [Act.put, List.setIfInBounds_toArray, List.set_cons_zero, List.set_cons_succ])
    refine wpAnyH_ready (rs := [44]) (by kernel_rfl) (by simp) ?_
    refine AllReadyH.cons (o := ?_) ?_ (fun K hK => ?_) AllReadyH.nil
    rotate_left 1
    · (simp only [List.getElem?_toArray, List.getElem?_cons_succ, List.getElem?_cons_zero]; first | done | rfl)
    go_simp
    first | (refine hK.out _ _ ?_ (fun hq8 => ?_)) | ((first | (go_at_call 30; ((with_reducible refine (HM1.out _ (sn_own (by assumption))).mono ?_); rintro e w9 ⟨rfl, hb9⟩)) | (go_at_call 30; ((with_reducible refine (HM2.out _ (sn_own (by assumption))).mono ?_); rintro e w9 ⟨rfl, hb9⟩)) | (go_at_call 17; ((with_reducible refine (HRN.out _ (sn_own (by assumption))).mono ?_); rintro e w9 ⟨rfl, hb9⟩)) | (go_at_call 18; ((with_reducible refine (HK1.out _ (sn_own (by assumption))).mono ?_); rintro e w9 ⟨rfl, hb9⟩)) | (go_at_call 18; ((with_reducible refine (HK2.out _ (sn_own (by assumption))).mono ?_); rintro e w9 ⟨rfl, hb9⟩)) | (go_at_call 32; ((with_reducible refine (HPN.out _ (sn_own (by assumption))).mono ?_); rintro e w9 ⟨rfl, hb9⟩)) | (go_at_call 33; ((with_reducible refine (HV1.out _ (sn_own (by assumption))).mono ?_); rintro e w9 ⟨rfl, hb9⟩)) | (go_at_call 33; ((with_reducible refine (HV2.out _ (sn_own (by assumption))).mono ?_); rintro e w9 ⟨rfl, hb9⟩))); refine hK.out _ _ ?_ (fun hq8 => ?_)) | ((first | (go_at_call 30; ((with_reducible refine (HM1.out _ (sn_own (by assumption))).mono ?_); rintro e w9 ⟨rfl, hb9⟩)) | (go_at_call 30; ((with_reducible refine (HM2.out _ (sn_own (by assumption))).mono ?_); rintro e w9 ⟨rfl, hb9⟩)) | (go_at_call 17; ((with_reducible refine (HRN.out _ (sn_own (by assumption))).mono ?_); rintro e w9 ⟨rfl, hb9⟩)) | (go_at_call 18; ((with_reducible refine (HK1.out _ (sn_own (by assumption))).mono ?_); rintro e w9 ⟨rfl, hb9⟩)) | (go_at_call 18; ((with_reducible refine (HK2.out _ (sn_own (by assumption))).mono ?_); rintro e w9 ⟨rfl, hb9⟩)) | (go_at_call 32; ((with_reducible refine (HPN.out _ (sn_own (by assumption))).mono ?_); rintro e w9 ⟨rfl, hb9⟩)) | (go_at_call 33; ((with_reducible refine (HV1.out _ (sn_own (by assumption))).mono ?_); rintro e w9 ⟨rfl, hb9⟩)) | (go_at_call 33; ((with_reducible refine (HV2.out _ (sn_own (by assumption))).mono ?_); rintro e w9 ⟨rfl, hb9⟩))); go_wp2_with fail; refine hK.out _ _ ?_ (fun hq8 => ?_)) | fail
    · ((try dsimp only); (first | exact sn_below (bdrewN (Below.refl _ _) 1) HS.out | assumption | exact sn_below (by assumption) (by assumption)))
    clear hK K
    (try simp only [Act.put, List.setIfInBounds_toArray, List.set_cons_zero, List.set_cons_succ])
    clear hq7
    refine wpAnyH_ready (rs := [46]) (by kernel_rfl) (by simp) ?_
    refine AllReadyH.cons (o := ?_) ?_ (fun K hK => ?_) AllReadyH.nil
    rotate_left 1
    · (simp only [List.getElem?_toArray, List.getElem?_cons_succ, List.getElem?_cons_zero]; first | done | rfl)
    go_simp
    first | (refine hK.out _ _ ?_ (fun hq9 => ?_)) | ((first | (go_at_call 30; ((with_reducible refine (HM1.out _ (sn_own (by assumption))).mono ?_); rintro e w9 ⟨rfl, hb9⟩)) | (go_at_call 30; ((with_reducible refine (HM2.out _ (sn_own (by assumption))).mono ?_); rintro e w9 ⟨rfl, hb9⟩)) | (go_at_call 17; ((with_reducible refine (HRN.out _ (sn_own (by assumption))).mono ?_); rintro e w9 ⟨rfl, hb9⟩)) | (go_at_call 18; ((with_reducible refine (HK1.out _ (sn_own (by assumption))).mono ?_); rintro e w9 ⟨rfl, hb9⟩)) | (go_at_call 18; ((with_reducible refine (HK2.out _ (sn_own (by assumption))).mono ?_); rintro e w9 ⟨rfl, hb9⟩)) | (go_at_call 32; ((with_reducible refine (HPN.out _ (sn_own (by assumption))).mono ?_); rintro e w9 ⟨rfl, hb9⟩)) | (go_at_call 33; ((with_reducible refine (HV1.out _ (sn_own (by assumption))).mono ?_); rintro e w9 ⟨rfl, hb9⟩)) | (go_at_call 33; ((with_reducible refine (HV2.out _ (sn_own (by assumption))).mono ?_); rintro e w9 ⟨rfl, hb9⟩))); refine hK.out _ _ ?_ (fun hq9 => ?_)) | ((first | (go_at_call 30; ((with_reducible refine (HM1.out _ (sn_own (by assumption))).mono ?_); rintro e w9 ⟨rfl, hb9⟩)) | (go_at_call 30; ((with_reducible refine (HM2.out _ (sn_own (by assumption))).mono ?_); rintro e w9 ⟨rfl, hb9⟩)) | (go_at_call 17; ((with_reducible refine (HRN.out _ (sn_own (by assumption))).mono ?_); rintro e w9 ⟨rfl, hb9⟩)) | (go_at_call 18; ((with_reducible refine (HK1.out _ (sn_own (by assumption))).mono ?_); rintro e w9 ⟨rfl, hb9⟩)) | (go_at_call 18; ((with_reducible refine (HK2.out _ (sn_own (by assumption))).mono ?_); rintro e w9 ⟨rfl, hb9⟩)) | (go_at_call 32; ((with_reducible refine (HPN.out _ (sn_own (by assumption))).mono ?_); rintro e w9 ⟨rfl, hb9⟩)) | (go_at_call 33; ((with_reducible refine (HV1.out _ (sn_own (by assumption))).mono ?_); rintro e w9 ⟨rfl, hb9⟩)) | (go_at_call 33; ((with_reducible refine (HV2.out _ (sn_own (by assumption))).mono ?_); rintro e w9 ⟨rfl, hb9⟩))); go_wp2_with fail; refine hK.out _ _ ?_ (fun hq9 => ?_)) | fail
    · ((try dsimp only); (first | exact sn_below (bdrewN (Below.refl _ _) 1) HS.out | assumption | exact sn_below (by assumption) (by assumption)))
    clear hK K
    (try simp only [Act.put, List.setIfInBounds_toArray, List.set_cons_zero, List.set_cons_succ])
    clear hq8
    (refine wpAnyH_take (i := 47) (oi := ?_) (v := ?_) ?_ (by kernel_rfl) (by kernel_rfl) (by kernel_rfl) ?_ (Or.inl ⟨?_, ?_⟩) (by assumption) ?_; rotate_left 2; (· (simp only [List.getElem?_toArray, List.getElem?_cons_succ, List.getElem?_cons_zero]; first | done | rfl)); (· exact (fun _ _ _ h => h)); (· rfl); (· (intro w hSw; (try dsimp only at hSw); go_simp; (try with_reducible rfl))))
    (try simp only [Act.put, List.setIfInBounds_toArray, List.set_cons_zero, List.set_cons_succ])
    (refine wpAnyH_take (i := 48) (oi := ?_) (v := ?_) ?_ (by kernel_rfl) (by kernel_rfl) (by kernel_rfl) ?_ (Or.inl ⟨?_, ?_⟩) (by assumption) ?_; rotate_left 2; (· (simp only [List.getElem?_toArray, List.getElem?_cons_succ, List.getElem?_cons_zero]; first | done | rfl)); (· exact (fun _ _ _ h => h)); (· rfl); (· (intro w hSw; (try dsimp only at hSw); go_simp; (try with_reducible rfl))))
    (try simp only [Act.put, List.setIfInBounds_toArray, List.set_cons_zero, List.set_cons_succ])
    refine wpAnyH_done (by kernel_rfl) ?_ _
    go_wp2_with fail
    go_meet
    exact ⟨rfl, Lib.hid (sn_own (by assumption))⟩
  case rest => as_aux_lemma =>
    obtain ⟨rfl, HWC⟩ := hcut
    have HNC := Lib.hid (HN.out.below HWC.out)
    have HCC := Lib.hid (HCN6.out.below HWC.out)
    have HBC := Lib.hid (btrans HBR6.out HWC.out)
    have hprt : ∀ (y : C), y ∈ N → ∀ W, Below w.heap.size w W → Calls Tryz.prog 34 #[.agg #[.string ⟨y.name.toArray⟩, .int .i64 y.op, .int .i64 y.val.kind, .int .i64 y.val.int, .float .f64 y.val.num, .string ⟨y.val.text.toArray⟩, .bool y.val.yes]] W fun e w' => e = .returned (.string ⟨(cT y).toArray⟩) ∧ Below W.heap.size W w' := fun y hy W hb => by
      obtain ⟨⟨q1, q2, q3, q4, q5⟩, _⟩ := HNN.out.small y hy
      exact cprint_any y.name y.op y.val.kind y.val.int y.val.num y.val.text y.val.yes W (HW.out.below hb) (HT.out.below hb (Nat.le_refl _)) (by omega) (by omega) q3 q4 q5
    have HPRT := Lib.hid hprt
    clear hprt HN HCN6 HBR6 HWC HS HAT HSC HOK HMA HKE HVO HPT HNRT HW HT HL
    obtain ⟨n1, n2⟩ := HNC.out
    go_wp2_with fail
    clear n1 n2
    go_loopw [90] (fun vi wr => ∃ k : Nat, k ≤ N.length ∧ vi = .int .i64 k ∧ Below wc.heap.size wc wr) (fun vi _ => N.length - (intOf vi).toNat)
    case atStart => exact ⟨0, Nat.zero_le _, rfl, Below.refl _ _⟩
    case round =>
      obtain ⟨k, hk, rfl, hbr⟩ := hrel
      have HBK := Lib.hid hbr
      clear hbr
      by_cases hlt : k < N.length
      · have i1 : (k : Int) < (N.length : Int) := by omega
        have i0 : (0 : Int) ≤ (k : Int) := by omega
        have hck := HCC.out.below HBK.out
        obtain ⟨an, rfl, hcy⟩ := hck k hlt
        have hal : ∀ j (hj : j < N.length), CAt wr (an.add (j * 7)) N[j] := fun j hj => by
          obtain ⟨an', e, h⟩ := hck j hj
          cases e; exact h
        have hpy := HPRT.out N[k] (List.getElem_mem hlt)
        have hap : ∀ j (hj : j < N.length), j ≠ k → impliesB N[j] N[k] = false := fun j hj hne => HNN.out.apart k j hlt hj hne
        have hri : ∀ j, k = j + 1 → ∀ hj : j < N.length, Op.bytesLess (cT N[j]) (cT N[k]) = true := fun j e hj => by
          subst e; exact HNN.out.rises (j + 1) (by omega) hlt
        have hop := (HNN.out.small N[k] (List.getElem_mem hlt)).2
        have hnm := (HNN.out.small N[k] (List.getElem_mem hlt)).1.2.2.1
        have HAL := Lib.hid hal; have HPY := Lib.hid hpy; have HAP := Lib.hid hap; have HRIS := Lib.hid hri; have HOPY := Lib.hid hop; have HNMY := Lib.hid hnm
        clear hck hal hpy hap hri hop hnm
        generalize (N[k]) = y at *
        obtain ⟨v0, v1, v2, v3, v4, v5, v6⟩ := hcy
        obtain ⟨n1, n2⟩ := HNC.out.below HBK.out
        have hn3 := (HNC.out.below HBK.out).lt
        have HBY := Lib.hid (cat_new wr y 31)
        have HBK2 := Lib.hid (btrans HBK.out (balloc wr (.cells #[.string ⟨y.name.toArray⟩, .int .i64 y.op, .int .i64 y.val.kind, .int .i64 y.val.int, .float .f64 y.val.num, .string ⟨y.val.text.toArray⟩, .bool y.val.yes] 31)))
        go_upto_region 12 with fail
        clear v0 v1 v2 v3 v4 v5 v6
        have HAL2 : Hid (∀ j (hj : j < N.length), CAt (wr.alloc (.cells #[.string ⟨y.name.toArray⟩, .int .i64 y.op, .int .i64 y.val.kind, .int .i64 y.val.int, .float .f64 y.val.num, .string ⟨y.val.text.toArray⟩, .bool y.val.yes] 31)) (an.add (j * 7)) N[j]) := Lib.hid (fun j hj => (HAL.out j hj).below (balloc _ _))
        have HN2 := Lib.hid ((HNC.out.below HBK.out).below (balloc wr (.cells #[.string ⟨y.name.toArray⟩, .int .i64 y.op, .int .i64 y.val.kind, .int .i64 y.val.int, .float .f64 y.val.num, .string ⟨y.val.text.toArray⟩, .bool y.val.yes] 31)))
        clear HBK HAL n1 n2 hn3
        generalize wr.alloc _ = W1 at *
        generalize wr.heap.size = pc at *
        go_cut [108] (fun v wx => v = .bool false ∧ Hid (Below W1.heap.size W1 wx))
        case first => as_aux_lemma =>
          cases k with
          | zero =>
            have z1 : ¬ (0 : Int) < ((0 : Nat) : Int) := by omega
            have z4 : decide ((0 : Int) < ((0 : Nat) : Int)) = false := by decide
            go_wp2_with fail
            refine wp_region_held_drew (S := (fun w' => Below W1.heap.size W1 w')) (by kernel_rfl) ?_ (fun hq0 => ?_)
            · ((try dsimp only); (first | exact bdrewN (Below.refl _ _) 1 | assumption))
            (refine wpAnyH_take (i := 0) (oi := ?_) (v := ?_) ?_ (by kernel_rfl) (by kernel_rfl) (by kernel_rfl) ?_ (Or.inl ⟨?_, ?_⟩) (by assumption) ?_; rotate_left 2; (· (simp only [List.getElem?_toArray, List.getElem?_cons_zero]; first | done | rfl)); (· exact (fun _ _ _ h => h)); (· rfl); (· (intro w hSw; (try dsimp only at hSw); go_simp; (try with_reducible rfl))))
            (try simp only [Act.put, List.setIfInBounds_toArray, List.set_cons_zero, List.set_cons_succ])
            (refine wpAnyH_take (i := 1) (oi := ?_) (v := ?_) ?_ (by kernel_rfl) (by kernel_rfl) (by kernel_rfl) ?_ (Or.inl ⟨?_, ?_⟩) (by assumption) ?_; rotate_left 2; (· (simp only [List.getElem?_toArray, List.getElem?_cons_succ, List.getElem?_cons_zero]; first | done | rfl)); (· exact (fun _ _ _ h => h)); (· rfl); (· (intro w hSw; (try dsimp only at hSw); go_simp; (try with_reducible rfl))))
            (try simp only [Act.put, List.setIfInBounds_toArray, List.set_cons_zero, List.set_cons_succ])
            (refine wpAnyH_take (i := 2) (oi := ?_) (v := ?_) ?_ (by kernel_rfl) (by kernel_rfl) (by kernel_rfl) ?_ (Or.inl ⟨?_, ?_⟩) (by assumption) ?_; rotate_left 2; (· (simp only [List.getElem?_toArray, List.getElem?_cons_succ, List.getElem?_cons_zero]; first | done | rfl)); (· exact (fun _ _ _ h => h)); (· rfl); (· (intro w hSw; (try dsimp only at hSw); go_simp; (try with_reducible rfl))))
            (try simp only [Act.put, List.setIfInBounds_toArray, List.set_cons_zero, List.set_cons_succ])
            (refine wpAnyH_take (i := 3) (oi := ?_) (v := ?_) ?_ (by kernel_rfl) (by kernel_rfl) (by kernel_rfl) ?_ (Or.inr ⟨?_, ?_⟩) (by assumption) ?_; rotate_left 2; (· (simp only [List.getElem?_toArray, List.getElem?_cons_succ, List.getElem?_cons_zero]; first | done | rfl)); (· exact (fun _ _ _ h => h)); (· rfl); (· rfl))
            (try simp only [Act.put, List.setIfInBounds_toArray, List.set_cons_zero, List.set_cons_succ])
            (refine wpAnyH_take (i := 4) (oi := ?_) (v := ?_) ?_ (by kernel_rfl) (by kernel_rfl) (by kernel_rfl) ?_ (Or.inr ⟨?_, ?_⟩) (by assumption) ?_; rotate_left 2; (· (simp only [List.getElem?_toArray, List.getElem?_cons_succ, List.getElem?_cons_zero]; first | done | rfl)); (· exact (fun _ _ _ h => h)); (· rfl); (· rfl))
            (try simp only [Act.put, List.setIfInBounds_toArray, List.set_cons_zero, List.set_cons_succ])
            (refine wpAnyH_take (i := 5) (oi := ?_) (v := ?_) ?_ (by kernel_rfl) (by kernel_rfl) (by kernel_rfl) ?_ (Or.inr ⟨?_, ?_⟩) (by assumption) ?_; rotate_left 2; (· (simp only [List.getElem?_toArray, List.getElem?_cons_succ, List.getElem?_cons_zero]; first | done | rfl)); (· exact (fun _ _ _ h => h)); (· rfl); (· rfl))
            (try simp only [Act.put, List.setIfInBounds_toArray, List.set_cons_zero, List.set_cons_succ])
            (refine wpAnyH_take (i := 6) (oi := ?_) (v := ?_) ?_ (by kernel_rfl) (by kernel_rfl) (by kernel_rfl) ?_ (Or.inr ⟨?_, ?_⟩) (by assumption) ?_; rotate_left 2; (· (simp only [List.getElem?_toArray, List.getElem?_cons_succ, List.getElem?_cons_zero]; first | done | rfl)); (· exact (fun _ _ _ h => h)); (· rfl); (· rfl))
            (try simp only [Act.put, List.setIfInBounds_toArray, List.set_cons_zero, List.set_cons_succ])
            (refine wpAnyH_take (i := 7) (oi := ?_) (v := ?_) ?_ (by kernel_rfl) (by kernel_rfl) (by kernel_rfl) ?_ (Or.inr ⟨?_, ?_⟩) (by assumption) ?_; rotate_left 2; (· (simp only [List.getElem?_toArray, List.getElem?_cons_succ, List.getElem?_cons_zero]; first | done | rfl)); (· exact (fun _ _ _ h => h)); (· rfl); (· rfl))
            (try simp only [Act.put, List.setIfInBounds_toArray, List.set_cons_zero, List.set_cons_succ])
            (refine wpAnyH_take (i := 8) (oi := ?_) (v := ?_) ?_ (by kernel_rfl) (by kernel_rfl) (by kernel_rfl) ?_ (Or.inr ⟨?_, ?_⟩) (by assumption) ?_; rotate_left 2; (· (simp only [List.getElem?_toArray, List.getElem?_cons_succ, List.getElem?_cons_zero]; first | done | rfl)); (· exact (fun _ _ _ h => h)); (· rfl); (· rfl))
            (try simp only [Act.put, List.setIfInBounds_toArray, List.set_cons_zero, List.set_cons_succ])
            (refine wpAnyH_take (i := 9) (oi := ?_) (v := ?_) ?_ (by kernel_rfl) (by kernel_rfl) (by kernel_rfl) ?_ (Or.inr ⟨?_, ?_⟩) (by assumption) ?_; rotate_left 2; (· (simp only [List.getElem?_toArray, List.getElem?_cons_succ, List.getElem?_cons_zero]; first | done | rfl)); (· exact (fun _ _ _ h => h)); (· rfl); (· rfl))
            (try simp only [Act.put, List.setIfInBounds_toArray, List.set_cons_zero, List.set_cons_succ])
            (refine wpAnyH_take (i := 10) (oi := ?_) (v := ?_) ?_ (by kernel_rfl) (by kernel_rfl) (by kernel_rfl) ?_ (Or.inr ⟨?_, ?_⟩) (by assumption) ?_; rotate_left 2; (· (simp only [List.getElem?_toArray, List.getElem?_cons_succ, List.getElem?_cons_zero]; first | done | rfl)); (· exact (fun _ _ _ h => h)); (· rfl); (· rfl))
            (try simp only [Act.put, List.setIfInBounds_toArray, List.set_cons_zero, List.set_cons_succ])
            (refine wpAnyH_take (i := 11) (oi := ?_) (v := ?_) ?_ (by kernel_rfl) (by kernel_rfl) (by kernel_rfl) ?_ (Or.inr ⟨?_, ?_⟩) (by assumption) ?_; rotate_left 2; (· (simp only [List.getElem?_toArray, List.getElem?_cons_succ, List.getElem?_cons_zero]; first | done | rfl)); (· exact (fun _ _ _ h => h)); (· rfl); (· rfl))
            (try simp only [Act.put, List.setIfInBounds_toArray, List.set_cons_zero, List.set_cons_succ])
            (refine wpAnyH_take (i := 12) (oi := ?_) (v := ?_) ?_ (by kernel_rfl) (by kernel_rfl) (by kernel_rfl) ?_ (Or.inr ⟨?_, ?_⟩) (by assumption) ?_; rotate_left 2; (· (simp only [List.getElem?_toArray, List.getElem?_cons_succ, List.getElem?_cons_zero]; first | done | rfl)); (· exact (fun _ _ _ h => h)); (· rfl); (· rfl))
            (try simp only [Act.put, List.setIfInBounds_toArray, List.set_cons_zero, List.set_cons_succ])
            (refine wpAnyH_take (i := 13) (oi := ?_) (v := ?_) ?_ (by kernel_rfl) (by kernel_rfl) (by kernel_rfl) ?_ (Or.inl ⟨?_, ?_⟩) (by assumption) ?_; rotate_left 2; (· (simp only [List.getElem?_toArray, List.getElem?_cons_succ, List.getElem?_cons_zero]; first | done | rfl)); (· exact (fun _ _ _ h => h)); (· rfl); (· (intro w hSw; (try dsimp only at hSw); go_simp; (try with_reducible rfl))))
            (try simp only [Act.put, List.setIfInBounds_toArray, List.set_cons_zero, List.set_cons_succ])
            refine wpAnyH_done (by kernel_rfl) ?_ _
            go_wp2_with fail
            go_meet
            exact ⟨rfl, Lib.hid (by assumption)⟩
          | succ j =>
            have hj : j < N.length := by omega
            have hx := HPRT.out N[j] (List.getElem_mem hj)
            have hrs := HRIS.out j rfl hj
            have hst := (show SP an pn pc j N ncp N[j] y W1 W1 from ⟨HN2.out.2, HAL2.out j hj, HBY.out, Below.refl _ _, HN2.out.lt⟩)
            have HPX := Lib.hid hx; have HST := Lib.hid hst.flat
            clear hx hst HAL2
            generalize (N[j]) = x at *
            generalize hPX : cT x = PX at *
            generalize hPY : cT y = PY at *
            clear hPX hPY
            have j0 : (0 : Int) ≤ (j : Int) := by omega
            have j1 : (j : Int) < (N.length : Int) := by omega
            have j2 : (0 : Int) < (j : Int) + 1 := by omega
            have j3 : IntKind.i64.wrap ((j : Int) + 1 - 1) = (j : Int) := by rw [IntKind.wrap_i64]; omega
            have j4 : IntKind.i64.wrap (j : Int) = (j : Int) := by rw [IntKind.wrap_i64]; omega
            go_wp2_with fail
            refine wp_region_held_drew (S := (fun w' => w'.cell? ⟨pn, 1, none⟩ = some (.slice (some an) N.length ncp) ∧ w'.cell? (an.add (j * 7)) = some (.string ⟨x.name.toArray⟩) ∧ w'.cell? ⟨(an.add (j * 7)).block, (an.add (j * 7)).off + 1, none⟩ = some (.int .i64 x.op) ∧ w'.cell? ⟨(an.add (j * 7)).block, (an.add (j * 7)).off + 2, none⟩ = some (.int .i64 x.val.kind) ∧ w'.cell? ⟨(an.add (j * 7)).block, (an.add (j * 7)).off + 3, none⟩ = some (.int .i64 x.val.int) ∧ w'.cell? ⟨(an.add (j * 7)).block, (an.add (j * 7)).off + 4, none⟩ = some (.float .f64 x.val.num) ∧ w'.cell? ⟨(an.add (j * 7)).block, (an.add (j * 7)).off + 5, none⟩ = some (.string ⟨x.val.text.toArray⟩) ∧ w'.cell? ⟨(an.add (j * 7)).block, (an.add (j * 7)).off + 6, none⟩ = some (.bool x.val.yes) ∧ w'.cell? ⟨pc, 0, none⟩ = some (.string ⟨y.name.toArray⟩) ∧ w'.cell? ⟨pc, 1, none⟩ = some (.int .i64 y.op) ∧ w'.cell? ⟨pc, 2, none⟩ = some (.int .i64 y.val.kind) ∧ w'.cell? ⟨pc, 3, none⟩ = some (.int .i64 y.val.int) ∧ w'.cell? ⟨pc, 4, none⟩ = some (.float .f64 y.val.num) ∧ w'.cell? ⟨pc, 5, none⟩ = some (.string ⟨y.val.text.toArray⟩) ∧ w'.cell? ⟨pc, 6, none⟩ = some (.bool y.val.yes) ∧ Below W1.heap.size W1 w' ∧ pn < w'.heap.size)) (by kernel_rfl) ?_ (fun hq0 => ?_)
            · ((try dsimp only); (first | exact (SP.below (sp_fold HST.out) (bdrewN (Below.refl _ _) 1)).flat | assumption | exact (SP.below (sp_fold (by assumption)) (by assumption)).flat))
            (refine wpAnyH_take (i := 0) (oi := ?_) (v := ?_) ?_ (by kernel_rfl) (by kernel_rfl) (by kernel_rfl) ?_ (Or.inl ⟨?_, ?_⟩) (by assumption) ?_; rotate_left 2; (· (simp only [List.getElem?_toArray, List.getElem?_cons_zero]; first | done | rfl)); (· exact (fun _ _ _ h => h)); (· rfl); (· (intro w hSw; (try dsimp only at hSw); go_simp; (try with_reducible rfl))))
            (try simp only [Act.put, List.setIfInBounds_toArray, List.set_cons_zero, List.set_cons_succ])
            (refine wpAnyH_take (i := 1) (oi := ?_) (v := ?_) ?_ (by kernel_rfl) (by kernel_rfl) (by kernel_rfl) ?_ (Or.inl ⟨?_, ?_⟩) (by assumption) ?_; rotate_left 2; (· (simp only [List.getElem?_toArray, List.getElem?_cons_succ, List.getElem?_cons_zero]; first | done | rfl)); (· exact (fun _ _ _ h => h)); (· rfl); (· (intro w hSw; (try dsimp only at hSw); go_simp; (try with_reducible rfl))))
            (try simp only [Act.put, List.setIfInBounds_toArray, List.set_cons_zero, List.set_cons_succ])
            (refine wpAnyH_take (i := 2) (oi := ?_) (v := ?_) ?_ (by kernel_rfl) (by kernel_rfl) (by kernel_rfl) ?_ (Or.inl ⟨?_, ?_⟩) (by assumption) ?_; rotate_left 2; (· (simp only [List.getElem?_toArray, List.getElem?_cons_succ, List.getElem?_cons_zero]; first | done | rfl)); (· exact (fun _ _ _ h => h)); (· rfl); (· (intro w hSw; (try dsimp only at hSw); go_simp; (try with_reducible rfl))))
            (try simp only [Act.put, List.setIfInBounds_toArray, List.set_cons_zero, List.set_cons_succ])
            (refine wpAnyH_take (i := 3) (oi := ?_) (v := ?_) ?_ (by kernel_rfl) (by kernel_rfl) (by kernel_rfl) ?_ (Or.inl ⟨?_, ?_⟩) (by assumption) ?_; rotate_left 2; (· (simp only [List.getElem?_toArray, List.getElem?_cons_succ, List.getElem?_cons_zero]; first | done | rfl)); (· exact (fun _ _ _ h => h)); (· rfl); (· (intro w hSw; (try dsimp only at hSw); go_simp; (try with_reducible rfl))))
            (try simp only [Act.put, List.setIfInBounds_toArray, List.set_cons_zero, List.set_cons_succ])
            (refine wpAnyH_take (i := 4) (oi := ?_) (v := ?_) ?_ (by kernel_rfl) (by kernel_rfl) (by kernel_rfl) ?_ (Or.inl ⟨?_, ?_⟩) (by assumption) ?_; rotate_left 2; (· (simp only [List.getElem?_toArray, List.getElem?_cons_succ, List.getElem?_cons_zero]; first | done | rfl)); (· exact (fun _ _ _ h => h)); (· rfl); (· (intro w hSw; (try dsimp only at hSw); go_simp; (try with_reducible rfl))))
            (try simp only [Act.put, List.setIfInBounds_toArray, List.set_cons_zero, List.set_cons_succ])
            (refine wpAnyH_take (i := 5) (oi := ?_) (v := ?_) ?_ (by kernel_rfl) (by kernel_rfl) (by kernel_rfl) ?_ (Or.inl ⟨?_, ?_⟩) (by assumption) ?_; rotate_left 2; (· (simp only [List.getElem?_toArray, List.getElem?_cons_succ, List.getElem?_cons_zero]; first | done | rfl)); (· exact (fun _ _ _ h => h)); (· rfl); (· (intro w hSw; (try dsimp only at hSw); go_simp; (try with_reducible rfl))))
            (try simp only [Act.put, List.setIfInBounds_toArray, List.set_cons_zero, List.set_cons_succ])
            (refine wpAnyH_take (i := 6) (oi := ?_) (v := ?_) ?_ (by kernel_rfl) (by kernel_rfl) (by kernel_rfl) ?_ (Or.inl ⟨?_, ?_⟩) (by assumption) ?_; rotate_left 2; (· (simp only [List.getElem?_toArray, List.getElem?_cons_succ, List.getElem?_cons_zero]; first | done | rfl)); (· exact (fun _ _ _ h => h)); (· rfl); (· (intro w hSw; (try dsimp only at hSw); go_simp; (try with_reducible rfl))))
            (try simp only [Act.put, List.setIfInBounds_toArray, List.set_cons_zero, List.set_cons_succ])
            (refine wpAnyH_take (i := 7) (oi := ?_) (v := ?_) ?_ (by kernel_rfl) (by kernel_rfl) (by kernel_rfl) ?_ (Or.inl ⟨?_, ?_⟩) (by assumption) ?_; rotate_left 2; (· (simp only [List.getElem?_toArray, List.getElem?_cons_succ, List.getElem?_cons_zero]; first | done | rfl)); (· exact (fun _ _ _ h => h)); (· rfl); (· (intro w hSw; (try dsimp only at hSw); go_simp; (try with_reducible rfl))))
            (try simp only [Act.put, List.setIfInBounds_toArray, List.set_cons_zero, List.set_cons_succ])
            (refine wpAnyH_take (i := 8) (oi := ?_) (v := ?_) ?_ (by kernel_rfl) (by kernel_rfl) (by kernel_rfl) ?_ (Or.inl ⟨?_, ?_⟩) (by assumption) ?_; rotate_left 2; (· (simp only [List.getElem?_toArray, List.getElem?_cons_succ, List.getElem?_cons_zero]; first | done | rfl)); (· exact (fun _ _ _ h => h)); (· rfl); (· (intro w hSw; (try dsimp only at hSw); go_simp; (try with_reducible rfl))))
            (try simp only [Act.put, List.setIfInBounds_toArray, List.set_cons_zero, List.set_cons_succ])
            (refine wpAnyH_take (i := 10) (oi := ?_) (v := ?_) ?_ (by kernel_rfl) (by kernel_rfl) (by kernel_rfl) ?_ (Or.inl ⟨?_, ?_⟩) (by assumption) ?_; rotate_left 2; (· (simp only [List.getElem?_toArray, List.getElem?_cons_succ, List.getElem?_cons_zero]; first | done | rfl)); (· exact (fun _ _ _ h => h)); (· rfl); (· (intro w hSw; (try dsimp only at hSw); go_simp; (try with_reducible rfl))))
            (try simp only [Act.put, List.setIfInBounds_toArray, List.set_cons_zero, List.set_cons_succ])
            refine wpAnyH_ready (rs := [9]) (by kernel_rfl) (by simp) ?_
            refine AllReadyH.cons (o := ?_) ?_ (fun K hK => ?_) AllReadyH.nil
            rotate_left 1
            · (simp only [List.getElem?_toArray, List.getElem?_cons_succ, List.getElem?_cons_zero]; first | done | rfl)
            go_simp
            first | (refine hK.out _ _ ?_ (fun hq1 => ?_)) | ((first | (go_at_call 34; (with_reducible refine (HPX.out _ ?_).mono ?_); (· exact btrans HBC.out (btrans HBK2.out (sp_fold (by assumption)).2.2.2.1)); rintro e w9 ⟨rfl, hb9⟩) | (go_at_call 34; (with_reducible refine (HPY.out _ ?_).mono ?_); (· exact btrans HBC.out (btrans HBK2.out (sp_fold (by assumption)).2.2.2.1)); rintro e w9 ⟨rfl, hb9⟩)); refine hK.out _ _ ?_ (fun hq1 => ?_)) | ((first | (go_at_call 34; (with_reducible refine (HPX.out _ ?_).mono ?_); (· exact btrans HBC.out (btrans HBK2.out (sp_fold (by assumption)).2.2.2.1)); rintro e w9 ⟨rfl, hb9⟩) | (go_at_call 34; (with_reducible refine (HPY.out _ ?_).mono ?_); (· exact btrans HBC.out (btrans HBK2.out (sp_fold (by assumption)).2.2.2.1)); rintro e w9 ⟨rfl, hb9⟩)); go_wp2_with fail; refine hK.out _ _ ?_ (fun hq1 => ?_)) | fail
            · ((try dsimp only); (first | exact (SP.below (sp_fold HST.out) (bdrewN (Below.refl _ _) 1)).flat | assumption | exact (SP.below (sp_fold (by assumption)) (by assumption)).flat))
            clear hK K
            (try simp only [Act.put, List.setIfInBounds_toArray, List.set_cons_zero, List.set_cons_succ])
            clear hq0
            refine wpAnyH_ready (rs := [11]) (by kernel_rfl) (by simp) ?_
            refine AllReadyH.cons (o := ?_) ?_ (fun K hK => ?_) AllReadyH.nil
            rotate_left 1
            · (simp only [List.getElem?_toArray, List.getElem?_cons_succ, List.getElem?_cons_zero]; first | done | rfl)
            go_simp
            first | (refine hK.out _ _ ?_ (fun hq2 => ?_)) | ((first | (go_at_call 34; (with_reducible refine (HPX.out _ ?_).mono ?_); (· exact btrans HBC.out (btrans HBK2.out (sp_fold (by assumption)).2.2.2.1)); rintro e w9 ⟨rfl, hb9⟩) | (go_at_call 34; (with_reducible refine (HPY.out _ ?_).mono ?_); (· exact btrans HBC.out (btrans HBK2.out (sp_fold (by assumption)).2.2.2.1)); rintro e w9 ⟨rfl, hb9⟩)); refine hK.out _ _ ?_ (fun hq2 => ?_)) | ((first | (go_at_call 34; (with_reducible refine (HPX.out _ ?_).mono ?_); (· exact btrans HBC.out (btrans HBK2.out (sp_fold (by assumption)).2.2.2.1)); rintro e w9 ⟨rfl, hb9⟩) | (go_at_call 34; (with_reducible refine (HPY.out _ ?_).mono ?_); (· exact btrans HBC.out (btrans HBK2.out (sp_fold (by assumption)).2.2.2.1)); rintro e w9 ⟨rfl, hb9⟩)); go_wp2_with fail; refine hK.out _ _ ?_ (fun hq2 => ?_)) | fail
            · ((try dsimp only); (first | exact (SP.below (sp_fold HST.out) (bdrewN (Below.refl _ _) 1)).flat | assumption | exact (SP.below (sp_fold (by assumption)) (by assumption)).flat))
            clear hK K
            (try simp only [Act.put, List.setIfInBounds_toArray, List.set_cons_zero, List.set_cons_succ])
            clear hq1
            (refine wpAnyH_take (i := 12) (oi := ?_) (v := ?_) ?_ (by kernel_rfl) (by kernel_rfl) (by kernel_rfl) ?_ (Or.inl ⟨?_, ?_⟩) (by assumption) ?_; rotate_left 2; (· (simp only [List.getElem?_toArray, List.getElem?_cons_succ, List.getElem?_cons_zero]; first | done | rfl)); (· exact (fun _ _ _ h => h)); (· rfl); (· (intro w hSw; (try dsimp only at hSw); go_simp; (try with_reducible rfl))))
            (try simp only [Act.put, List.setIfInBounds_toArray, List.set_cons_zero, List.set_cons_succ])
            (refine wpAnyH_take (i := 13) (oi := ?_) (v := ?_) ?_ (by kernel_rfl) (by kernel_rfl) (by kernel_rfl) ?_ (Or.inl ⟨?_, ?_⟩) (by assumption) ?_; rotate_left 2; (· (simp only [List.getElem?_toArray, List.getElem?_cons_succ, List.getElem?_cons_zero]; first | done | rfl)); (· exact (fun _ _ _ h => h)); (· rfl); (· (intro w hSw; (try dsimp only at hSw); go_simp; (try with_reducible rfl))))
            (try simp only [Act.put, List.setIfInBounds_toArray, List.set_cons_zero, List.set_cons_succ])
            refine wpAnyH_done (by kernel_rfl) ?_ _
            go_wp2_with fail
            go_meet
            exact ⟨rfl, Lib.hid (sp_fold (by assumption)).2.2.2.1⟩
        case rest => as_aux_lemma =>
          obtain ⟨rfl, HW2⟩ := hcut
          have HAL3 : Hid (∀ j (hj : j < N.length), CAt wc (an.add (j * 7)) N[j]) := Lib.hid (fun j hj => (HAL2.out j hj).below HW2.out)
          have HN3 := Lib.hid (HN2.out.below HW2.out)
          have HBY3 := Lib.hid (HBY.out.below HW2.out)
          have HBK3 := Lib.hid (btrans HBK2.out HW2.out)
          clear HAL2 HN2 HBY HBK2 HW2 HRIS HPY HPRT
          obtain ⟨n1, n2⟩ := HN3.out
          go_wp2_with fail
          clear n1 n2
          go_loopw [112] (fun vi wr => ∃ j : Nat, j ≤ N.length ∧ vi = .int .i64 j ∧ Below wc.heap.size wc wr) (fun vi _ => N.length - (intOf vi).toNat)
          case atStart => exact ⟨0, Nat.zero_le _, rfl, Below.refl _ _⟩
          case round =>
            obtain ⟨j, hj, rfl, hbr⟩ := hrel
            by_cases hltj : j < N.length
            · have i2 : (j : Int) < (N.length : Int) := by omega
              have i3 : (0 : Int) ≤ (j : Int) := by omega
              have hcx := (HAL3.out j hltj).below hbr
              have hap := HAP.out j hltj
              have hops := (HNN.out.small N[j] (List.getElem_mem hltj)).2
              have hnms := (HNN.out.small N[j] (List.getElem_mem hltj)).1.2.2.1
              have HAPJ := Lib.hid hap
              clear hap
              generalize (N[j]) = x at *
              have himp (h : j ≠ k) (W : World) : Calls Tryz.prog 35 #[cond x.name x.op x.val.kind x.val.int x.val.num x.val.text x.val.yes, cond y.name y.op y.val.kind y.val.int y.val.num y.val.text y.val.yes] W fun e w' => e = .returned (.bool false) ∧ Below W.heap.size W w' := by
                have := implies_any x.name x.op x.val.kind x.val.int x.val.num x.val.text x.val.yes y.name y.op y.val.kind y.val.int y.val.num y.val.text y.val.yes W hops.1 hops.2 hnms HNMY.out
                have e : impliesB ⟨x.name, x.op, ⟨x.val.kind, x.val.int, x.val.num, x.val.text, x.val.yes⟩⟩ ⟨y.name, y.op, ⟨y.val.kind, y.val.int, y.val.num, y.val.text, y.val.yes⟩⟩ = false := HAPJ.out h
                rw [e] at this; exact this
              have hcy := (HBY3.out.below hbr).below (balloc wr (.cells #[.string ⟨x.name.toArray⟩, .int .i64 x.op, .int .i64 x.val.kind, .int .i64 x.val.int, .float .f64 x.val.num, .string ⟨x.val.text.toArray⟩, .bool x.val.yes] 31))
              have hcyl := World.block_lt_of_cell? _ _ (HBY3.out.below hbr).1
              have HIMP := Lib.hid himp; have HBJ := Lib.hid (btrans hbr (balloc wr (.cells #[.string ⟨x.name.toArray⟩, .int .i64 x.op, .int .i64 x.val.kind, .int .i64 x.val.int, .float .f64 x.val.num, .string ⟨x.val.text.toArray⟩, .bool x.val.yes] 31)))
              clear himp hops hnms hbr
              obtain ⟨v0, v1, v2, v3, v4, v5, v6⟩ := hcx
              by_cases hjk : j = k
              · subst hjk
                go_wp2_with fail
                exact ⟨⟨j + 1, by omega, by go_num, HBJ.out⟩, by simp [intOf]; go_num⟩
              · have q1 : ¬ (j : Int) = (k : Int) := by omega
                have q2 : ((j : Int) == (k : Int)) = false := by rw [beq_eq_false_iff_ne]; exact q1
                have q3 : ((j : Int) != (k : Int)) = true := by rw [bne, q2]; rfl
                obtain ⟨u0, u1, u2, u3, u4, u5, u6⟩ := hcy
                simp only [Nat.zero_add] at u1 u2 u3 u4 u5 u6
                go_wp2_with fail
                refine (HIMP.out hjk _).mono ?_; rintro e w9 ⟨rfl, hb9⟩
                go_wp2_with fail
                exact ⟨⟨j + 1, by omega, by go_num, btrans HBJ.out hb9⟩, by simp [intOf]; go_num⟩
            · obtain rfl : j = N.length := by omega
              have HBJ := Lib.hid hbr
              clear hbr
              go_wp2_with fail
              exact ⟨⟨k + 1, by omega, by go_num, btrans HBK3.out HBJ.out⟩, by simp [intOf]; go_num⟩
      · obtain rfl : k = N.length := by omega
        go_wp2_with fail
        go_ret
        exact ⟨rfl, btrans HBC.out HBK.out⟩
end Go.Proofs.YtceplbanfpnhbaaGreatDoor.Val
end
