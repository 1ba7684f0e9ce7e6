/- THE WALK OF the law FilterHides. -/
import Derived.Test.YtdggofleokjmcaaGreatDoorEvL
import Derived.Test.YtdggofleokjmcaaGreatDoorFit07
import Derived.Test.YtdggofleokjmcaaGreatDoorGets
import Derived.Test.YtdggofleokjmcaaGreatDoorOpenF
import Derived.Deep.DeepCutAuto
import Derived.Deep.LoopGhost
namespace Go.Proofs.YtdggofleokjmcaaGreatDoor.Val
open Go.RowKit Flt
attribute [local go_sem] run_store_flt
theorem hR_below {p3 p7 : Nat} {sf se : List UInt8} {a0 e0 : Option Addr} {l : List C} {el : List A} {cap ecp : Nat} {pk : Addr} {y0 : Value} {W0 w1 w2 : World} (hb : Below w1.heap.size w1 w2) (h : (fun w' => w'.cell? ⟨p3, 0, none⟩ = some (.string ⟨sf.toArray⟩) ∧ w'.cell? ⟨p3, 1, none⟩ = some (.slice a0 l.length cap) ∧ w'.cell? ⟨p7, 0, none⟩ = some (.string ⟨se.toArray⟩) ∧ w'.cell? ⟨p7, 1, none⟩ = some (.slice e0 el.length ecp) ∧ w'.cell? pk = some y0 ∧ Conds w' a0 l ∧ Attrs w' e0 el ∧ Below W0.heap.size W0 w' ∧ p3 < w'.heap.size ∧ p7 < w'.heap.size ∧ pk.block < w'.heap.size) w1) : (fun w' => w'.cell? ⟨p3, 0, none⟩ = some (.string ⟨sf.toArray⟩) ∧ w'.cell? ⟨p3, 1, none⟩ = some (.slice a0 l.length cap) ∧ w'.cell? ⟨p7, 0, none⟩ = some (.string ⟨se.toArray⟩) ∧ w'.cell? ⟨p7, 1, none⟩ = some (.slice e0 el.length ecp) ∧ w'.cell? pk = some y0 ∧ Conds w' a0 l ∧ Attrs w' e0 el ∧ Below W0.heap.size W0 w' ∧ p3 < w'.heap.size ∧ p7 < w'.heap.size ∧ pk.block < w'.heap.size) w2 := by
  obtain ⟨h0, h1, h2, h3, h4, hc, ha, hB, l3, l7, lk⟩ := h
  have c : ∀ o, w2.cell? ⟨p3, o, none⟩ = w1.cell? ⟨p3, o, none⟩ := fun o => hb.cell (p := ⟨p3, o, none⟩) l3
  have d : ∀ o, w2.cell? ⟨p7, o, none⟩ = w1.cell? ⟨p7, o, none⟩ := fun o => hb.cell (p := ⟨p7, o, none⟩) l7
  exact ⟨by rw [c]; exact h0, by rw [c]; exact h1, by rw [d]; exact h2, by rw [d]; exact h3, (hb.cell (p := pk) lk).trans h4, hc.below hb, ha.below hb, btrans hB hb, Nat.lt_of_lt_of_le l3 hb.size, Nat.lt_of_lt_of_le l7 hb.size, Nat.lt_of_lt_of_le lk hb.size⟩
theorem hR_attrs {p3 p7 : Nat} {sf se : List UInt8} {a0 e0 : Option Addr} {l : List C} {el : List A} {cap ecp : Nat} {pk : Addr} {y0 : Value} {W0 w1 : World} (h : (fun w' => w'.cell? ⟨p3, 0, none⟩ = some (.string ⟨sf.toArray⟩) ∧ w'.cell? ⟨p3, 1, none⟩ = some (.slice a0 l.length cap) ∧ w'.cell? ⟨p7, 0, none⟩ = some (.string ⟨se.toArray⟩) ∧ w'.cell? ⟨p7, 1, none⟩ = some (.slice e0 el.length ecp) ∧ w'.cell? pk = some y0 ∧ Conds w' a0 l ∧ Attrs w' e0 el ∧ Below W0.heap.size W0 w' ∧ p3 < w'.heap.size ∧ p7 < w'.heap.size ∧ pk.block < w'.heap.size) w1) : Attrs w1 e0 el := h.2.2.2.2.2.2.1
theorem box2_set (w : World) (b : Nat) (s : List UInt8) (a0 : Option Addr) (n cap : Nat) (h0 : (w.cell? ⟨b, 0, none⟩).isSome = true) (h1 : (w.cell? ⟨b, 1, none⟩).isSome = true) :
    Box2 ((w.setCell ⟨b, 0, none⟩ (.string ⟨s.toArray⟩)).setCell ⟨b, 1, none⟩ (.slice a0 n cap)) b s a0 n cap := by
  obtain ⟨u0, hu0⟩ := Option.isSome_iff_exists.1 h0
  obtain ⟨u1, hu1⟩ := Option.isSome_iff_exists.1 h1
  exact ⟨(World.cell?_setCell_other _ _ _ _ (by simp)).trans (World.cell?_setCell_same _ _ _ hu0), World.cell?_setCell_same _ _ _ ((World.cell?_setCell_other _ _ _ _ (by simp)).trans hu1)⟩
theorem attrs_set2 {w7 : World} {N cp1 : Nat} {b1 : Option Addr} {kb : List A} (how : w7.ownsRow N 32 6 (.slice b1 kb.length cp1) kb.length (flatA kb)) (b : Nat) (hb : b < N) (v0 v1 : Value) :
    Attrs ((w7.setCell ⟨b, 0, none⟩ v0).setCell ⟨b, 1, none⟩ v1) b1 kb := by
  have ow := ownsRow_setCell_below (a := ⟨b, 1, none⟩) (ownsRow_setCell_below (a := ⟨b, 0, none⟩) how hb v0) hb v1
  obtain ⟨b9, cp9, he, hat⟩ := own_attrs ow
  cases he
  exact hat
set_option maxRecDepth 20000 in
set_option maxHeartbeats 4000000 in
theorem fhides_law (sf : List UInt8) (a0 : Option Addr) (cap : Nat) (l : List C) (s : List UInt8) (b0 : Option Addr) (bcap : Nat) (al : List A) (w : World) (hw : Words w) (hl : Conds w a0 l) (hok : ∀ x ∈ l, Open.COk x) (hlm : l.length ≤ maxLen) (hsf : sf.length ≤ 140737488351232)
    (hs : s.length ≤ 140737488351232) (ha : Attrs w b0 al) (hoka : ∀ x ∈ al, Open.AOk x) (ham : al.length ≤ maxLen) :
    Calls Tryz.prog 14 #[ev sf a0 l.length cap, .string ⟨s.toArray⟩, .slice b0 al.length bcap] w fun e w' => e = .returned (.bool true) ∧ Below w.heap.size w w' := by
  have hli (W : World) (h : Conds W a0 l) := light07_any sf a0 cap l W h hlm
  have hri (W : World) (h : Conds W a0 l) (hm : l.length ≤ 1000000) := fright_any sf a0 cap l W h hm hsf (fun c hc => ⟨(hok c hc).1, (hok c hc).2.2.2.2.2⟩)
  have hfw (W : World) (h : Attrs W b0 al) := few07_any b0 bcap al W h ham
  have hev (W : World) (h : Attrs W b0 al) (hm : al.length ≤ 20) := event07_any s b0 bcap al W h (by omega) hs hoka
  have hel : (evL al).length ≤ 8 := by unfold evL; rw [List.length_take]; omega
  have hris := evL_rising al
  have hss : (evS s).length ≤ 140737488351232 := by unfold evS; split <;> simp [hs]
  generalize fRight sf l = fr at *
  generalize evL al = el at *
  generalize hse : evS s = se at *
  have HW := Lib.hid hw; have HL := Lib.hid hl; have HA := Lib.hid ha; have HLI := Lib.hid hli; have HRI := Lib.hid hri; have HFW := Lib.hid hfw; have HEV := Lib.hid hev; have HRIS := Lib.hid hris
  clear hw hl hok ha hoka hli hri hfw hev hris hlm ham hs hse
  go_enter Tryz.func14, Tryz.ntmps14
  go_wp2_with fail
  refine (fit07_any _ (HW.out.below (balloc _ _))).mono ?_; rintro e w1 ⟨rfl, hb1⟩
  have hbx := (box2_new w sf a0 l.length cap 63).below hb1
  have hbr := btrans (balloc w (.cells #[.string ⟨sf.toArray⟩, .slice a0 l.length cap] 63)) hb1
  have HBX := Lib.hid hbx; have HBR := Lib.hid hbr
  obtain ⟨f0, f1⟩ := hbx
  clear hbr hb1
  go_wp2_with fail
  refine (HLI.out _ (HL.out.below HBR.out)).mono ?_; rintro e w2 ⟨⟨fb, rfl, hfl⟩, hbn⟩; (replace HBX := Lib.hid (HBX.out.below hbn); replace HBR := Lib.hid (btrans HBR.out hbn); clear hbn f0 f1; obtain ⟨f0, f1⟩ := HBX.out)
  cases fb
  · go_wp2_with fail
    go_ret
    exact ⟨rfl, HBR.out⟩
  have hl20 := hfl rfl
  clear hfl
  go_wp2_with fail
  refine (HRI.out _ (HL.out.below HBR.out) (by omega)).mono ?_; rintro e w3 ⟨rfl, hbn⟩; (replace HBX := Lib.hid (HBX.out.below hbn); replace HBR := Lib.hid (btrans HBR.out hbn); clear hbn f0 f1; obtain ⟨f0, f1⟩ := HBX.out)
  cases fr
  · go_wp2_with fail
    go_ret
    exact ⟨rfl, HBR.out⟩
  go_wp2_with fail
  refine (HFW.out _ (HA.out.below HBR.out)).mono ?_; rintro e w4 ⟨⟨fb, rfl, hfl⟩, hbn⟩; (replace HBX := Lib.hid (HBX.out.below hbn); replace HBR := Lib.hid (btrans HBR.out hbn); clear hbn f0 f1; obtain ⟨f0, f1⟩ := HBX.out)
  cases fb
  · go_wp2_with fail
    go_ret
    exact ⟨rfl, HBR.out⟩
  have ha20 := hfl rfl
  clear hfl
  by_cases h100 : s.length ≤ 100
  rotate_left
  · have d1 : (100 : Int) < (s.length : Int) := by omega
    go_wp2_with fail
    go_ret
    exact ⟨rfl, HBR.out⟩
  have d1 : ¬ (100 : Int) < (s.length : Int) := by omega
  go_wp2_with fail
  refine (HEV.out _ (HA.out.below HBR.out) ha20).mono ?_
  rintro e w6 ⟨e0, ecp, rfl, hat6, hbn⟩; (replace HBX := Lib.hid (HBX.out.below hbn); replace HBR := Lib.hid (btrans HBR.out hbn); clear hbn f0 f1; obtain ⟨f0, f1⟩ := HBX.out)
  have hbx0 := HBX.out.below (balloc w6 (.cells #[.string ⟨se.toArray⟩, .slice e0 el.length ecp] 26))
  have hbe0 := box2_new w6 se e0 el.length ecp 26
  have hcs0 := (HL.out.below HBR.out).below (balloc w6 (.cells #[.string ⟨se.toArray⟩, .slice e0 el.length ecp] 26))
  have hat0 := hat6.below (balloc w6 (.cells #[.string ⟨se.toArray⟩, .slice e0 el.length ecp] 26))
  have hbr0 := btrans HBR.out (balloc w6 (.cells #[.string ⟨se.toArray⟩, .slice e0 el.length ecp] 26))
  go_upto_region 6 with fail
  clear f0 f1 hat6
  generalize w6.alloc _ = W0 at *
  generalize w6.heap.size = p7 at *
  have HX0 := Lib.hid hbx0; have HE0 := Lib.hid hbe0; have HC0 := Lib.hid hcs0; have HA0 := Lib.hid hat0; have HB0 := Lib.hid hbr0
  obtain ⟨e1, e2⟩ := hbe0
  clear hbx0 hcs0 hat0 hbr0 HEV HFW HRI HLI HL HA HBX HBR
  go_wp2_with fail
  clear e1 e2
  go_loopw [36] (fun vi wr => ∃ k : Nat, k ≤ el.length ∧ vi = .int .i64 k ∧ Below W0.heap.size W0 wr) (fun vi _ => el.length - (intOf vi).toNat)
  case atStart => exact ⟨0, Nat.zero_le _, rfl, Below.refl _ _⟩
  case round =>
    obtain ⟨k, hk, rfl, hwr⟩ := hrel
    by_cases hlt : k < el.length
    · have i1 : (k : Int) < (el.length : Int) := by omega
      have i0 : (0 : Int) ≤ (k : Int) := by omega
      obtain ⟨ad, rfl, v0, v1, v2, v3, v4, v5⟩ := (HA0.out.below hwr) k hlt
      have hst : (fun w' => w'.cell? ⟨w.heap.size, 0, none⟩ = some (.string ⟨sf.toArray⟩) ∧ w'.cell? ⟨w.heap.size, 1, none⟩ = some (.slice a0 l.length cap) ∧ w'.cell? ⟨p7, 0, none⟩ = some (.string ⟨se.toArray⟩) ∧ w'.cell? ⟨p7, 1, none⟩ = some (.slice (some ad) el.length ecp) ∧ w'.cell? (ad.add (k * 6)) = some (.string ⟨(el[k]).name.toArray⟩) ∧ Conds w' a0 l ∧ Attrs w' (some ad) el ∧ Below W0.heap.size W0 w' ∧ w.heap.size < w'.heap.size ∧ p7 < w'.heap.size ∧ (ad.add (k * 6)).block < w'.heap.size) wr := by
        obtain ⟨x0, x1⟩ := HX0.out.below hwr
        obtain ⟨y0, y1⟩ := HE0.out.below hwr
        exact ⟨x0, x1, y0, y1, v0, HC0.out.below hwr, HA0.out.below hwr, hwr, World.block_lt_of_cell? _ _ x0, World.block_lt_of_cell? _ _ y0, World.block_lt_of_cell? _ _ v0⟩
      have hwi (W : World) (b : Nat) (h : Attrs W (some ad) el) (hz : Names W b 0 [⟨(el[k]).name.toArray⟩]) := without_any se (some ad) ecp el b 0 1 [⟨(el[k]).name.toArray⟩] W h (by omega) hz (by simp)
      have hkl : (keepB [⟨(el[k]).name.toArray⟩] el).length ≤ el.length := List.length_filter_le _ _
      have himp := @hides sf se l [⟨(el[k]).name.toArray⟩] el HRIS.out
      generalize keepB [⟨(el[k]).name.toArray⟩] el = kb at *
      have hm1 (W : World) (b1 : Option Addr) (cp1 : Nat) (hc : Conds W a0 l) (h : Attrs W b1 kb) := fmatch_any sf a0 cap l se b1 cp1 kb W hc h (by omega) (by omega) hsf hss
      have hm2 (W : World) (hc : Conds W a0 l) (h : Attrs W (some ad) el) := fmatch_any sf a0 cap l se (some ad) ecp el W hc h (by omega) (by omega) hsf hss
      generalize fMatch sf l se kb = M1 at *
      generalize fMatch sf l se el = M2 at *
      have HST := Lib.hid hst; have HWI := Lib.hid hwi; have HM1 := Lib.hid hm1; have HM2 := Lib.hid hm2
      clear v0 v1 v2 v3 v4 v5 hst hwi hm1 hm2 hwr
      go_upto_region 9 with fail
      go_cut [9] (fun v wx => ∃ (p9 : Nat) (b1 : Option Addr) (cp1 : Nat), v = .pointer (some ⟨p9, 0, none⟩) ∧ Hid (Box2 wx p9 se b1 kb.length cp1) ∧ Hid (Attrs wx b1 kb) ∧ Hid (Below wr.heap.size wr wx))
      case first => as_aux_lemma =>
        obtain ⟨f0, f1, e1, e2, v0, _, hatr, _, l3, l7, lk⟩ := HST.out
        have HATR := Lib.hid hatr
        clear hatr HM1 HM2 HST
        go_region_with (first | (go_at_call 25; refine (HWI.out _ _ (HATR.out.below (by first | exact bdrewN (balloc _ _) 1 | exact bdrewN (balloc2 _ _ _) 1)) (by first | exact one_name wr _ _ _ (by simp) | exact one_name (wr.alloc _) _ _ _ (by simp) | exact Names.below (one_name wr _ _ _ rfl) (bdrewN (balloc _ _) 1))).mono ?_; rintro e w7 ⟨b1, cp1, rfl, hat7, how7, hb7⟩; obtain ⟨hc7, hf7⟩ := bcell hb7))
        all_goals
          go_wp2_with fail
          go_meet
          first
          | exact ⟨_, b1, cp1, rfl, Lib.hid (box2_new w7 _ _ _ _ _), Lib.hid (hat7.below (balloc _ _)), Lib.hid (btrans (btrans (bdrewN (balloc _ _) 1) hb7) (balloc _ _))⟩
          | exact ⟨_, b1, cp1, rfl, Lib.hid (box2_set _ _ _ _ _ _ (by rw [hc7 _ _ (by simp <;> omega)]; simp [go_sem]) (by rw [hc7 _ _ (by simp <;> omega)]; simp [go_sem])), Lib.hid (attrs_set2 how7 _ (by simp <;> omega) _ _), Lib.hid (((btrans (bdrewN (balloc2 _ _ _) 1) hb7).setCell (p := ⟨_, 0, none⟩) (by simp <;> omega) _).setCell (p := ⟨_, 1, none⟩) (by simp <;> omega) _)⟩
      case rest => as_aux_lemma =>
        obtain ⟨p9, b1, cp1, rfl, HB9, HA9, HBW9⟩ := hcut
        have hS := hR_below HBW9.out HST.out
        obtain ⟨f0, f1, e1, e2, _, hcx, hax, hBx, l3, l7, _⟩ := hS
        obtain ⟨g0, g1⟩ := HB9.out
        have l9 := HB9.out.lt
        have HCX := Lib.hid hcx; have HBX := Lib.hid hBx
        clear hcx hax hBx
        cases M1
        · go_wp2_with fail
          refine (HM1.out _ b1 cp1 HCX.out HA9.out).mono ?_; rintro e wn ⟨rfl, hbn⟩
          go_wp2_with fail
          exact ⟨⟨k + 1, by omega, by go_num, btrans HBX.out hbn⟩, by simp [intOf]; go_num⟩
        · obtain rfl : M2 = true := himp rfl
          go_wp2_with fail
          refine (HM1.out _ b1 cp1 HCX.out HA9.out).mono ?_; rintro e wn ⟨rfl, hbn⟩
          have hS := hR_below hbn (hR_below HBW9.out HST.out)
          clear f0 f1 e1 e2 g0 g1 l3 l7 l9
          obtain ⟨f0, f1, e1, e2, _, hcx, hax, hBx, l3, l7, _⟩ := hS
          have HCN := Lib.hid hcx; have HAN := Lib.hid hax; have HBN := Lib.hid hBx
          clear hcx hax hBx
          go_wp2_with fail
          refine (HM2.out _ HCN.out HAN.out).mono ?_; rintro e wm ⟨rfl, hbm⟩
          go_wp2_with fail
          exact ⟨⟨k + 1, by omega, by go_num, btrans HBN.out hbm⟩, by simp [intOf]; go_num⟩
    · obtain rfl : k = el.length := by omega
      go_wp2_with fail
      go_ret
      exact ⟨rfl, btrans HB0.out hwr⟩
end Go.Proofs.YtdggofleokjmcaaGreatDoor.Val
