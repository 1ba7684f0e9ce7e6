/- THE WALK OF the law FilterMatches. -/
import Derived.Test.YtdggofleokjmcaaGreatDoorEvL
import Derived.Test.YtdggofleokjmcaaGreatDoorFit07
import Derived.Test.YtdggofleokjmcaaGreatDoorFRef
import Derived.Test.YtdggofleokjmcaaGreatDoorOpenF
namespace Go.Proofs.YtdggofleokjmcaaGreatDoor.Val
open Go.RowKit Flt
attribute [local go_sem] run_store_flt
theorem mM_below {p3 p7 : Nat} {u0 u1 u2 u3 : Value} {a0 e0 : Option Addr} {l : List C} {el : List A} {w w1 w2 : World} (hb : Below w1.heap.size w1 w2) (h : (fun w' => w'.cell? ⟨p3, 0, none⟩ = some u0 ∧ w'.cell? ⟨p3, 1, none⟩ = some u1 ∧ w'.cell? ⟨p7, 0, none⟩ = some u2 ∧ w'.cell? ⟨p7, 1, none⟩ = some u3 ∧ Conds w' a0 l ∧ Attrs w' e0 el ∧ Below w.heap.size w w' ∧ p3 < w'.heap.size ∧ p7 < w'.heap.size) w1) : (fun w' => w'.cell? ⟨p3, 0, none⟩ = some u0 ∧ w'.cell? ⟨p3, 1, none⟩ = some u1 ∧ w'.cell? ⟨p7, 0, none⟩ = some u2 ∧ w'.cell? ⟨p7, 1, none⟩ = some u3 ∧ Conds w' a0 l ∧ Attrs w' e0 el ∧ Below w.heap.size w w' ∧ p3 < w'.heap.size ∧ p7 < w'.heap.size) w2 := by
  obtain ⟨h0, h1, h2, h3, hc, ha, hB, l3, l7⟩ := h
  have c : ∀ o, w2.cell? ⟨p3, o, none⟩ = w1.cell? ⟨p3, o, none⟩ := fun o => hb.cell (p := ⟨p3, o, none⟩) l3
  have d : ∀ o, w2.cell? ⟨p7, o, none⟩ = w1.cell? ⟨p7, o, none⟩ := fun o => hb.cell (p := ⟨p7, o, none⟩) l7
  exact ⟨by rw [c]; exact h0, by rw [c]; exact h1, by rw [d]; exact h2, by rw [d]; exact h3, hc.below hb, ha.below hb, btrans hB hb, Nat.lt_of_lt_of_le l3 hb.size, Nat.lt_of_lt_of_le l7 hb.size⟩
theorem mM_conds {p3 p7 : Nat} {u0 u1 u2 u3 : Value} {a0 e0 : Option Addr} {l : List C} {el : List A} {w w1 : World} (h : (fun w' => w'.cell? ⟨p3, 0, none⟩ = some u0 ∧ w'.cell? ⟨p3, 1, none⟩ = some u1 ∧ w'.cell? ⟨p7, 0, none⟩ = some u2 ∧ w'.cell? ⟨p7, 1, none⟩ = some u3 ∧ Conds w' a0 l ∧ Attrs w' e0 el ∧ Below w.heap.size w w' ∧ p3 < w'.heap.size ∧ p7 < w'.heap.size) w1) : Conds w1 a0 l := h.2.2.2.2.1
theorem mM_attrs {p3 p7 : Nat} {u0 u1 u2 u3 : Value} {a0 e0 : Option Addr} {l : List C} {el : List A} {w w1 : World} (h : (fun w' => w'.cell? ⟨p3, 0, none⟩ = some u0 ∧ w'.cell? ⟨p3, 1, none⟩ = some u1 ∧ w'.cell? ⟨p7, 0, none⟩ = some u2 ∧ w'.cell? ⟨p7, 1, none⟩ = some u3 ∧ Conds w' a0 l ∧ Attrs w' e0 el ∧ Below w.heap.size w w' ∧ p3 < w'.heap.size ∧ p7 < w'.heap.size) w1) : Attrs w1 e0 el := h.2.2.2.2.2.1
theorem mM_own {p3 p7 : Nat} {u0 u1 u2 u3 : Value} {a0 e0 : Option Addr} {l : List C} {el : List A} {w w1 : World} (h : (fun w' => w'.cell? ⟨p3, 0, none⟩ = some u0 ∧ w'.cell? ⟨p3, 1, none⟩ = some u1 ∧ w'.cell? ⟨p7, 0, none⟩ = some u2 ∧ w'.cell? ⟨p7, 1, none⟩ = some u3 ∧ Conds w' a0 l ∧ Attrs w' e0 el ∧ Below w.heap.size w w' ∧ p3 < w'.heap.size ∧ p7 < w'.heap.size) w1) : Below w.heap.size w w1 := h.2.2.2.2.2.2.1
set_option maxRecDepth 20000 in
set_option maxHeartbeats 4000000 in
theorem fmatches_law (sf : List UInt8) (a0 : Option Addr) (cap : Nat) (l : List C) (s : List UInt8) (b0 : Option Addr) (bcap : Nat) (al : List A) (w : World) (hw : Words w) (hl : Conds w a0 l) (hok : ∀ x ∈ l, Open.COk x) (hlm : l.length ≤ maxLen) (hsf : sf.length ≤ 140737488351232)
    (hs : s.length ≤ 140737488351232) (ha : Attrs w b0 al) (hoka : ∀ x ∈ al, Open.AOk x) (ham : al.length ≤ maxLen) :
    Calls Tryz.prog 12 #[ev sf a0 l.length cap, .string ⟨s.toArray⟩, .slice b0 al.length bcap] w fun e w' => e = .returned (.bool true) ∧ Below w.heap.size w w' := by
  have hli (W : World) (h : Conds W a0 l) := light07_any sf a0 cap l W h hlm
  have hri (W : World) (h : Conds W a0 l) (hm : l.length ≤ 1000000) := fright_any sf a0 cap l W h hm hsf (fun c hc => ⟨(hok c hc).1, (hok c hc).2.2.2.2.2⟩)
  have hcr (W : World) (c : C) (hc : c ∈ l) : Calls Tryz.prog 30 #[cc c] W fun e w' => e = .returned (.bool (cRight c)) ∧ Below W.heap.size W w' := cright_any _ _ _ _ _ _ _ W (hok c hc).1 (hok c hc).2.2.2.2.2
  have hrt (W : World) := Sc.right_l sf W hsf
  have hfw (W : World) (h : Attrs W b0 al) := few07_any b0 bcap al W h ham
  have hev (W : World) (h : Attrs W b0 al) (hm : al.length ≤ 20) := event07_any s b0 bcap al W h (by omega) hs hoka
  have hel : (evL al).length ≤ 8 := by unfold evL; rw [List.length_take]; omega
  have hris := evL_rising al
  have hsm : ∀ a ∈ evL al, a.val.text.length ≤ 140737488351232 := fun a h => (newB_small hoka a ((evL_sub al).subset h)).2
  have hss : (evS s).length ≤ 140737488351232 := by unfold evS; split <;> simp [hs]
  have hfr : fRight sf l = (l.all cRight && (Sc.rightB sf && decide (l.length ≤ 6))) := rfl
  generalize hU : Sc.rightB sf = U at *
  generalize fRight sf l = fr at *
  generalize evL al = el at *
  generalize hse : evS s = se at *
  have HW := Lib.hid hw; have HL := Lib.hid hl; have HA := Lib.hid ha; have HLI := Lib.hid hli; have HRI := Lib.hid hri; have HFW := Lib.hid hfw; have HEV := Lib.hid hev; have HRIS := Lib.hid hris; have HCR := Lib.hid hcr; have HRT := Lib.hid hrt; have HSM := Lib.hid hsm; have HFR := Lib.hid hfr
  clear hw hl hok ha hoka hli hri hfw hev hris hcr hrt hsm hfr hlm ham hs hse hU
  go_enter Tryz.func12, Tryz.ntmps12
  go_wp2_with fail
  refine (fit07_any _ (HW.out.below (balloc _ _))).mono ?_; rintro e w1 ⟨rfl, hb1⟩
  have hbx := (box2_new w sf a0 l.length cap 63).below hb1
  have hbr := btrans (balloc w (.cells #[.string ⟨sf.toArray⟩, .slice a0 l.length cap] 63)) hb1
  have HBX := Lib.hid hbx; have HBR := Lib.hid hbr
  obtain ⟨f0, f1⟩ := hbx
  clear hbr hb1
  go_wp2_with fail
  refine (HLI.out _ (HL.out.below HBR.out)).mono ?_; rintro e w2 ⟨⟨fb, rfl, hfl⟩, hbn⟩; (replace HBX := Lib.hid (HBX.out.below hbn); replace HBR := Lib.hid (btrans HBR.out hbn); clear hbn f0 f1; obtain ⟨f0, f1⟩ := HBX.out)
  cases fb
  · go_wp2_with fail
    go_ret
    exact ⟨rfl, HBR.out⟩
  have hl20 := hfl rfl
  clear hfl
  go_wp2_with fail
  refine (HFW.out _ (HA.out.below HBR.out)).mono ?_; rintro e w4 ⟨⟨fb, rfl, hfl⟩, hbn⟩; (replace HBX := Lib.hid (HBX.out.below hbn); replace HBR := Lib.hid (btrans HBR.out hbn); clear hbn f0 f1; obtain ⟨f0, f1⟩ := HBX.out)
  cases fb
  · go_wp2_with fail
    go_ret
    exact ⟨rfl, HBR.out⟩
  have ha20 := hfl rfl
  clear hfl
  by_cases h100 : s.length ≤ 100
  rotate_left
  · have d1 : (100 : Int) < (s.length : Int) := by omega
    go_wp2_with fail
    go_ret
    exact ⟨rfl, HBR.out⟩
  have d1 : ¬ (100 : Int) < (s.length : Int) := by omega
  go_upto_region 5 with fail
  generalize hWV : (U && decide (l.length ≤ 6)) = V at *
  have HWV := Lib.hid hWV; clear hWV
  go_cut [7] (fun v wx => v = .bool V ∧ Hid (Below w.heap.size w wx) ∧ Hid (Box2 wx w.heap.size sf a0 l.length cap))
  case first => as_aux_lemma =>
    by_cases h6 : l.length ≤ 6
    · have d6 : decide ((l.length : Int) ≤ 6) = true := by simp; omega
      cases U
      all_goals
        go_wp2_with (go_at_call 35; refine (HRT.out _).mono ?_; rintro e w5 ⟨rfl, ⟨nd, rfl⟩⟩)
        go_meet
        exact ⟨by rw [← HWV.out]; simp [h6], Lib.hid (bdrewN HBR.out _), Lib.hid (HBX.out.below (bdrewN (Below.refl _ _) _))⟩
    · have d6 : decide ((l.length : Int) ≤ 6) = false := by simp; omega
      cases U
      all_goals
        go_wp2_with (go_at_call 35; refine (HRT.out _).mono ?_; rintro e w5 ⟨rfl, ⟨nd, rfl⟩⟩)
        go_meet
        exact ⟨by rw [← HWV.out]; simp [h6], Lib.hid (bdrewN HBR.out _), Lib.hid (HBX.out.below (bdrewN (Below.refl _ _) _))⟩
  case rest =>
  obtain ⟨rfl, HBW, HXW⟩ := hcut
  have hFR := HFR.out
  have HFR2 := Lib.hid hFR
  clear hFR HFR HWV HRT HBR HBX f0 f1 HFW HLI HW
  obtain ⟨f0, f1⟩ := HXW.out
  go_wp2_with fail
  clear f0 f1
  go_loopw [7, 38] (fun vb vi wr => ∃ k : Nat, k ≤ l.length ∧ vi = .int .i64 k ∧ vb = .bool (V && (l.take k).all cRight) ∧ Below wc.heap.size wc wr) (fun _ vi _ => l.length - (intOf vi).toNat)
  case atStart => exact ⟨0, Nat.zero_le _, rfl, by simp, Below.refl _ _⟩
  case round =>
    obtain ⟨k, hk, rfl, rfl, hbr⟩ := hrel
    have HBZ := Lib.hid (btrans HBW.out hbr)
    have hy := HXW.out.below hbr
    by_cases hlt : k < l.length
    · have i1 : (k : Int) < (l.length : Int) := by omega
      have i0 : (0 : Int) ≤ (k : Int) := by omega
      have hts := all_take_succ' cRight l k hlt
      obtain ⟨a, rfl, v0, v1, v2, v3, v4, v5, v6⟩ := (HL.out.below HBZ.out) k hlt
      have hmc (W : World) := HCR.out W l[k] (List.getElem_mem hlt)
      have HBR := Lib.hid hbr
      have HTS := Lib.hid hts; have HMC := Lib.hid hmc
      clear hts hmc hbr hy
      generalize hb : (V && (l.take k).all cRight) = B at *
      have HB := Lib.hid hb; clear hb
      cases B
      · go_wp2_with fail
        exact ⟨⟨k + 1, by omega, by go_num, congrArg _ (by rw [HTS.out, ← Bool.and_assoc, HB.out]; rfl), btrans HBR.out (balloc _ _)⟩, by simp [intOf]; go_num⟩
      · go_wp2_with (go_at_call 30; refine (HMC.out _).mono ?_; rintro e w5 ⟨rfl, hb5⟩)
        exact ⟨⟨k + 1, by omega, by go_num, congrArg _ (by rw [HTS.out, ← Bool.and_assoc, HB.out]; simp), btrans (btrans HBR.out (balloc _ _)) hb5⟩, by simp [intOf]; go_num⟩
    · obtain rfl : k = l.length := by omega
      rw [List.take_length, show (V && l.all cRight) = fr by rw [HFR2.out, Bool.and_comm]]
      obtain ⟨f0, f1⟩ := hy
      have hlt0 := World.block_lt_of_cell? _ _ f0
      have HXR := Lib.hid (HXW.out.below hbr)
      clear hbr HFR2 hlt0
      go_wp2_with fail
      refine (HRI.out _ (HL.out.below HBZ.out) (by omega)).mono ?_; rintro e w6 ⟨rfl, hb6⟩
      have HB6 := Lib.hid (btrans HBZ.out hb6)
      have HX6 := Lib.hid (HXR.out.below hb6)
      clear hb6 f0 f1
      cases fr
      · go_wp2_with fail
        refine (HEV.out _ (HA.out.below HB6.out) ha20).mono ?_
        rintro e w7 ⟨e0, ecp, rfl, hat7, hb7⟩
        have hst : (fun w' => w'.cell? ⟨w.heap.size, 0, none⟩ = some (.string ⟨sf.toArray⟩) ∧ w'.cell? ⟨w.heap.size, 1, none⟩ = some (.slice a0 l.length cap) ∧ w'.cell? ⟨w7.heap.size, 0, none⟩ = some (.string ⟨se.toArray⟩) ∧ w'.cell? ⟨w7.heap.size, 1, none⟩ = some (.slice e0 el.length ecp) ∧ Conds w' a0 l ∧ Attrs w' e0 el ∧ Below w.heap.size w w' ∧ w.heap.size < w'.heap.size ∧ w7.heap.size < w'.heap.size) (w7.alloc (.cells #[.string ⟨se.toArray⟩, .slice e0 el.length ecp] 26)) := by
          obtain ⟨x0, x1⟩ := (HX6.out.below hb7).below (balloc w7 (.cells #[.string ⟨se.toArray⟩, .slice e0 el.length ecp] 26))
          obtain ⟨y0, y1⟩ := box2_new w7 se e0 el.length ecp 26
          exact ⟨x0, x1, y0, y1, ((HL.out.below HB6.out).below hb7).below (balloc _ _), hat7.below (balloc _ _), btrans (btrans HB6.out hb7) (balloc _ _), World.block_lt_of_cell? _ _ x0, World.block_lt_of_cell? _ _ y0⟩
        have HST := Lib.hid hst
        clear hst hat7 hb7
        go_upto_region 14 with fail
        generalize w7.alloc _ = W8 at *
        generalize w7.heap.size = p7 at *
        refine wp_region_held_drew (S := (fun w' => w'.cell? ⟨w.heap.size, 0, none⟩ = some (.string ⟨sf.toArray⟩) ∧ w'.cell? ⟨w.heap.size, 1, none⟩ = some (.slice a0 l.length cap) ∧ w'.cell? ⟨p7, 0, none⟩ = some (.string ⟨se.toArray⟩) ∧ w'.cell? ⟨p7, 1, none⟩ = some (.slice e0 el.length ecp) ∧ Conds w' a0 l ∧ Attrs w' e0 el ∧ Below w.heap.size w w' ∧ w.heap.size < w'.heap.size ∧ p7 < w'.heap.size)) (by kernel_rfl) ?_ (fun hq0 => ?_)
        · ((try dsimp only); (first | exact mM_below (bdrewN (Below.refl _ _) 1) HST.out | assumption))
        first | (refine wpAnyH_take (i := 0) (oi := ?_) (v := ?_) ?_ (by kernel_rfl) (by kernel_rfl) (by kernel_rfl) ?_ (Or.inl ⟨?_, ?_⟩) (by assumption) ?_; rotate_left 2; (· (simp only [List.getElem?_toArray, List.getElem?_cons_zero]; first | done | rfl)); (· exact (fun _ _ _ h => h)); (· rfl); (· (intro w hSw; (try dsimp only at hSw); go_simp; (try with_reducible rfl)))) | (refine wpAnyH_take (i := 0) (oi := ?_) (v := ?_) ?_ (by kernel_rfl) (by kernel_rfl) (by kernel_rfl) ?_ (Or.inr ⟨?_, ?_⟩) (by assumption) ?_; rotate_left 2; (· (simp only [List.getElem?_toArray, List.getElem?_cons_zero]; first | done | rfl)); (· exact (fun _ _ _ h => h)); (· rfl); (· rfl)) | fail
        (try simp only [Act.put, List.setIfInBounds_toArray, List.set_cons_zero, List.set_cons_succ])
        first | (refine wpAnyH_take (i := 1) (oi := ?_) (v := ?_) ?_ (by kernel_rfl) (by kernel_rfl) (by kernel_rfl) ?_ (Or.inl ⟨?_, ?_⟩) (by assumption) ?_; rotate_left 2; (· (simp only [List.getElem?_toArray, List.getElem?_cons_succ, List.getElem?_cons_zero]; first | done | rfl)); (· exact (fun _ _ _ h => h)); (· rfl); (· (intro w hSw; (try dsimp only at hSw); go_simp; (try with_reducible rfl)))) | (refine wpAnyH_take (i := 1) (oi := ?_) (v := ?_) ?_ (by kernel_rfl) (by kernel_rfl) (by kernel_rfl) ?_ (Or.inr ⟨?_, ?_⟩) (by assumption) ?_; rotate_left 2; (· (simp only [List.getElem?_toArray, List.getElem?_cons_succ, List.getElem?_cons_zero]; first | done | rfl)); (· exact (fun _ _ _ h => h)); (· rfl); (· rfl)) | fail
        (try simp only [Act.put, List.setIfInBounds_toArray, List.set_cons_zero, List.set_cons_succ])
        first | (refine wpAnyH_take (i := 2) (oi := ?_) (v := ?_) ?_ (by kernel_rfl) (by kernel_rfl) (by kernel_rfl) ?_ (Or.inl ⟨?_, ?_⟩) (by assumption) ?_; rotate_left 2; (· (simp only [List.getElem?_toArray, List.getElem?_cons_succ, List.getElem?_cons_zero]; first | done | rfl)); (· exact (fun _ _ _ h => h)); (· rfl); (· (intro w hSw; (try dsimp only at hSw); go_simp; (try with_reducible rfl)))) | (refine wpAnyH_take (i := 2) (oi := ?_) (v := ?_) ?_ (by kernel_rfl) (by kernel_rfl) (by kernel_rfl) ?_ (Or.inr ⟨?_, ?_⟩) (by assumption) ?_; rotate_left 2; (· (simp only [List.getElem?_toArray, List.getElem?_cons_succ, List.getElem?_cons_zero]; first | done | rfl)); (· exact (fun _ _ _ h => h)); (· rfl); (· rfl)) | fail
        (try simp only [Act.put, List.setIfInBounds_toArray, List.set_cons_zero, List.set_cons_succ])
        first | (refine wpAnyH_take (i := 3) (oi := ?_) (v := ?_) ?_ (by kernel_rfl) (by kernel_rfl) (by kernel_rfl) ?_ (Or.inr ⟨?_, ?_⟩) (by assumption) ?_; rotate_left 2; (· (simp only [List.getElem?_toArray, List.getElem?_cons_succ, List.getElem?_cons_zero]; first | done | rfl)); (· exact (fun _ _ _ h => h)); (· rfl); (· rfl)) | fail
        (try simp only [Act.put, List.setIfInBounds_toArray, List.set_cons_zero, List.set_cons_succ])
        first | (refine wpAnyH_take (i := 4) (oi := ?_) (v := ?_) ?_ (by kernel_rfl) (by kernel_rfl) (by kernel_rfl) ?_ (Or.inr ⟨?_, ?_⟩) (by assumption) ?_; rotate_left 2; (· (simp only [List.getElem?_toArray, List.getElem?_cons_succ, List.getElem?_cons_zero]; first | done | rfl)); (· exact (fun _ _ _ h => h)); (· rfl); (· rfl)) | fail
        (try simp only [Act.put, List.setIfInBounds_toArray, List.set_cons_zero, List.set_cons_succ])
        first | (refine wpAnyH_take (i := 6) (oi := ?_) (v := ?_) ?_ (by kernel_rfl) (by kernel_rfl) (by kernel_rfl) ?_ (Or.inr ⟨?_, ?_⟩) (by assumption) ?_; rotate_left 2; (· (simp only [List.getElem?_toArray, List.getElem?_cons_succ, List.getElem?_cons_zero]; first | done | rfl)); (· exact (fun _ _ _ h => h)); (· rfl); (· rfl)) | fail
        (try simp only [Act.put, List.setIfInBounds_toArray, List.set_cons_zero, List.set_cons_succ])
        first | (refine wpAnyH_take (i := 7) (oi := ?_) (v := ?_) ?_ (by kernel_rfl) (by kernel_rfl) (by kernel_rfl) ?_ (Or.inr ⟨?_, ?_⟩) (by assumption) ?_; rotate_left 2; (· (simp only [List.getElem?_toArray, List.getElem?_cons_succ, List.getElem?_cons_zero]; first | done | rfl)); (· exact (fun _ _ _ h => h)); (· rfl); (· rfl)) | fail
        (try simp only [Act.put, List.setIfInBounds_toArray, List.set_cons_zero, List.set_cons_succ])
        first | (refine wpAnyH_take (i := 5) (oi := ?_) (v := ?_) ?_ (by kernel_rfl) (by kernel_rfl) (by kernel_rfl) ?_ (Or.inr ⟨?_, ?_⟩) (by assumption) ?_; rotate_left 2; (· (simp only [List.getElem?_toArray, List.getElem?_cons_succ, List.getElem?_cons_zero]; first | done | rfl)); (· exact (fun _ _ _ h => h)); (· rfl); (· rfl)) | fail
        (try simp only [Act.put, List.setIfInBounds_toArray, List.set_cons_zero, List.set_cons_succ])
        first | (refine wpAnyH_take (i := 8) (oi := ?_) (v := ?_) ?_ (by kernel_rfl) (by kernel_rfl) (by kernel_rfl) ?_ (Or.inr ⟨?_, ?_⟩) (by assumption) ?_; rotate_left 2; (· (simp only [List.getElem?_toArray, List.getElem?_cons_succ, List.getElem?_cons_zero]; first | done | rfl)); (· exact (fun _ _ _ h => h)); (· rfl); (· rfl)) | fail
        (try simp only [Act.put, List.setIfInBounds_toArray, List.set_cons_zero, List.set_cons_succ])
        first | (refine wpAnyH_take (i := 9) (oi := ?_) (v := ?_) ?_ (by kernel_rfl) (by kernel_rfl) (by kernel_rfl) ?_ (Or.inr ⟨?_, ?_⟩) (by assumption) ?_; rotate_left 2; (· (simp only [List.getElem?_toArray, List.getElem?_cons_succ, List.getElem?_cons_zero]; first | done | rfl)); (· exact (fun _ _ _ h => h)); (· rfl); (· rfl)) | fail
        (try simp only [Act.put, List.setIfInBounds_toArray, List.set_cons_zero, List.set_cons_succ])
        first | (refine wpAnyH_take (i := 10) (oi := ?_) (v := ?_) ?_ (by kernel_rfl) (by kernel_rfl) (by kernel_rfl) ?_ (Or.inl ⟨?_, ?_⟩) (by assumption) ?_; rotate_left 2; (· (simp only [List.getElem?_toArray, List.getElem?_cons_succ, List.getElem?_cons_zero]; first | done | rfl)); (· exact (fun _ _ _ h => h)); (· rfl); (· (intro w hSw; (try dsimp only at hSw); go_simp; (try with_reducible rfl)))) | (refine wpAnyH_take (i := 10) (oi := ?_) (v := ?_) ?_ (by kernel_rfl) (by kernel_rfl) (by kernel_rfl) ?_ (Or.inr ⟨?_, ?_⟩) (by assumption) ?_; rotate_left 2; (· (simp only [List.getElem?_toArray, List.getElem?_cons_succ, List.getElem?_cons_zero]; first | done | rfl)); (· exact (fun _ _ _ h => h)); (· rfl); (· rfl)) | fail
        (try simp only [Act.put, List.setIfInBounds_toArray, List.set_cons_zero, List.set_cons_succ])
        first | (refine wpAnyH_take (i := 11) (oi := ?_) (v := ?_) ?_ (by kernel_rfl) (by kernel_rfl) (by kernel_rfl) ?_ (Or.inl ⟨?_, ?_⟩) (by assumption) ?_; rotate_left 2; (· (simp only [List.getElem?_toArray, List.getElem?_cons_succ, List.getElem?_cons_zero]; first | done | rfl)); (· exact (fun _ _ _ h => h)); (· rfl); (· (intro w hSw; (try dsimp only at hSw); go_simp; (try with_reducible rfl)))) | (refine wpAnyH_take (i := 11) (oi := ?_) (v := ?_) ?_ (by kernel_rfl) (by kernel_rfl) (by kernel_rfl) ?_ (Or.inr ⟨?_, ?_⟩) (by assumption) ?_; rotate_left 2; (· (simp only [List.getElem?_toArray, List.getElem?_cons_succ, List.getElem?_cons_zero]; first | done | rfl)); (· exact (fun _ _ _ h => h)); (· rfl); (· rfl)) | fail
        (try simp only [Act.put, List.setIfInBounds_toArray, List.set_cons_zero, List.set_cons_succ])
        refine wpAnyH_done (by kernel_rfl) ?_ _
        go_wp2_with fail
        go_ret
        exact ⟨rfl, mM_own (by assumption)⟩
      · go_wp2_with fail
        refine (HEV.out _ (HA.out.below HB6.out) ha20).mono ?_
        rintro e w7 ⟨e0, ecp, rfl, hat7, hb7⟩
        have hst : (fun w' => w'.cell? ⟨w.heap.size, 0, none⟩ = some (.string ⟨sf.toArray⟩) ∧ w'.cell? ⟨w.heap.size, 1, none⟩ = some (.slice a0 l.length cap) ∧ w'.cell? ⟨w7.heap.size, 0, none⟩ = some (.string ⟨se.toArray⟩) ∧ w'.cell? ⟨w7.heap.size, 1, none⟩ = some (.slice e0 el.length ecp) ∧ Conds w' a0 l ∧ Attrs w' e0 el ∧ Below w.heap.size w w' ∧ w.heap.size < w'.heap.size ∧ w7.heap.size < w'.heap.size) (w7.alloc (.cells #[.string ⟨se.toArray⟩, .slice e0 el.length ecp] 26)) := by
          obtain ⟨x0, x1⟩ := (HX6.out.below hb7).below (balloc w7 (.cells #[.string ⟨se.toArray⟩, .slice e0 el.length ecp] 26))
          obtain ⟨y0, y1⟩ := box2_new w7 se e0 el.length ecp 26
          exact ⟨x0, x1, y0, y1, ((HL.out.below HB6.out).below hb7).below (balloc _ _), hat7.below (balloc _ _), btrans (btrans HB6.out hb7) (balloc _ _), World.block_lt_of_cell? _ _ x0, World.block_lt_of_cell? _ _ y0⟩
        have HST := Lib.hid hst
        clear hst hat7 hb7
        have hm1 (W : World) (h1 : Conds W a0 l) (h2 : Attrs W e0 el) := fmatch_any sf a0 cap l se e0 ecp el W h1 h2 (by omega) (by omega) hsf hss
        have hm2 (W : World) (h1 : Conds W a0 l) (h2 : Attrs W e0 el) := rfmatch_any sf a0 cap l se e0 ecp el W h1 h2 (by omega) (by omega) hsf hss HSM.out
        rw [rmatch_match HRIS.out] at hm2
        generalize fMatch sf l se el = M at *
        have HM1 := Lib.hid hm1; have HM2 := Lib.hid hm2
        clear hm1 hm2
        go_upto_region 14 with fail
        generalize w7.alloc _ = W8 at *
        generalize w7.heap.size = p7 at *
        cases M
        all_goals
          refine wp_region_held_drew (S := (fun w' => w'.cell? ⟨w.heap.size, 0, none⟩ = some (.string ⟨sf.toArray⟩) ∧ w'.cell? ⟨w.heap.size, 1, none⟩ = some (.slice a0 l.length cap) ∧ w'.cell? ⟨p7, 0, none⟩ = some (.string ⟨se.toArray⟩) ∧ w'.cell? ⟨p7, 1, none⟩ = some (.slice e0 el.length ecp) ∧ Conds w' a0 l ∧ Attrs w' e0 el ∧ Below w.heap.size w w' ∧ w.heap.size < w'.heap.size ∧ p7 < w'.heap.size)) (by kernel_rfl) ?_ (fun hq0 => ?_)
          · ((try dsimp only); (first | exact mM_below (bdrewN (Below.refl _ _) 1) HST.out | assumption | exact mM_below (by assumption) (by assumption)))
          first | (refine wpAnyH_take (i := 0) (oi := ?_) (v := ?_) ?_ (by kernel_rfl) (by kernel_rfl) (by kernel_rfl) ?_ (Or.inl ⟨?_, ?_⟩) (by assumption) ?_; rotate_left 2; (· (simp only [List.getElem?_toArray, List.getElem?_cons_zero]; first | done | rfl)); (· exact (fun _ _ _ h => h)); (· rfl); (· (intro w hSw; (try dsimp only at hSw); go_simp; (try with_reducible rfl)))) | (refine wpAnyH_take (i := 0) (oi := ?_) (v := ?_) ?_ (by kernel_rfl) (by kernel_rfl) (by kernel_rfl) ?_ (Or.inr ⟨?_, ?_⟩) (by assumption) ?_; rotate_left 2; (· (simp only [List.getElem?_toArray, List.getElem?_cons_zero]; first | done | rfl)); (· exact (fun _ _ _ h => h)); (· rfl); (· rfl)) | fail
          (try simp only [Act.put, List.setIfInBounds_toArray, List.set_cons_zero, List.set_cons_succ])
          first | (refine wpAnyH_take (i := 1) (oi := ?_) (v := ?_) ?_ (by kernel_rfl) (by kernel_rfl) (by kernel_rfl) ?_ (Or.inl ⟨?_, ?_⟩) (by assumption) ?_; rotate_left 2; (· (simp only [List.getElem?_toArray, List.getElem?_cons_succ, List.getElem?_cons_zero]; first | done | rfl)); (· exact (fun _ _ _ h => h)); (· rfl); (· (intro w hSw; (try dsimp only at hSw); go_simp; (try with_reducible rfl)))) | (refine wpAnyH_take (i := 1) (oi := ?_) (v := ?_) ?_ (by kernel_rfl) (by kernel_rfl) (by kernel_rfl) ?_ (Or.inr ⟨?_, ?_⟩) (by assumption) ?_; rotate_left 2; (· (simp only [List.getElem?_toArray, List.getElem?_cons_succ, List.getElem?_cons_zero]; first | done | rfl)); (· exact (fun _ _ _ h => h)); (· rfl); (· rfl)) | fail
          (try simp only [Act.put, List.setIfInBounds_toArray, List.set_cons_zero, List.set_cons_succ])
          first | (refine wpAnyH_take (i := 2) (oi := ?_) (v := ?_) ?_ (by kernel_rfl) (by kernel_rfl) (by kernel_rfl) ?_ (Or.inl ⟨?_, ?_⟩) (by assumption) ?_; rotate_left 2; (· (simp only [List.getElem?_toArray, List.getElem?_cons_succ, List.getElem?_cons_zero]; first | done | rfl)); (· exact (fun _ _ _ h => h)); (· rfl); (· (intro w hSw; (try dsimp only at hSw); go_simp; (try with_reducible rfl)))) | (refine wpAnyH_take (i := 2) (oi := ?_) (v := ?_) ?_ (by kernel_rfl) (by kernel_rfl) (by kernel_rfl) ?_ (Or.inr ⟨?_, ?_⟩) (by assumption) ?_; rotate_left 2; (· (simp only [List.getElem?_toArray, List.getElem?_cons_succ, List.getElem?_cons_zero]; first | done | rfl)); (· exact (fun _ _ _ h => h)); (· rfl); (· rfl)) | fail
          (try simp only [Act.put, List.setIfInBounds_toArray, List.set_cons_zero, List.set_cons_succ])
          first | (refine wpAnyH_take (i := 3) (oi := ?_) (v := ?_) ?_ (by kernel_rfl) (by kernel_rfl) (by kernel_rfl) ?_ (Or.inl ⟨?_, ?_⟩) (by assumption) ?_; rotate_left 2; (· (simp only [List.getElem?_toArray, List.getElem?_cons_succ, List.getElem?_cons_zero]; first | done | rfl)); (· exact (fun _ _ _ h => h)); (· rfl); (· (intro w hSw; (try dsimp only at hSw); go_simp; (try with_reducible rfl)))) | (refine wpAnyH_take (i := 3) (oi := ?_) (v := ?_) ?_ (by kernel_rfl) (by kernel_rfl) (by kernel_rfl) ?_ (Or.inr ⟨?_, ?_⟩) (by assumption) ?_; rotate_left 2; (· (simp only [List.getElem?_toArray, List.getElem?_cons_succ, List.getElem?_cons_zero]; first | done | rfl)); (· exact (fun _ _ _ h => h)); (· rfl); (· rfl)) | fail
          (try simp only [Act.put, List.setIfInBounds_toArray, List.set_cons_zero, List.set_cons_succ])
          first | (refine wpAnyH_take (i := 4) (oi := ?_) (v := ?_) ?_ (by kernel_rfl) (by kernel_rfl) (by kernel_rfl) ?_ (Or.inl ⟨?_, ?_⟩) (by assumption) ?_; rotate_left 2; (· (simp only [List.getElem?_toArray, List.getElem?_cons_succ, List.getElem?_cons_zero]; first | done | rfl)); (· exact (fun _ _ _ h => h)); (· rfl); (· (intro w hSw; (try dsimp only at hSw); go_simp; (try with_reducible rfl)))) | (refine wpAnyH_take (i := 4) (oi := ?_) (v := ?_) ?_ (by kernel_rfl) (by kernel_rfl) (by kernel_rfl) ?_ (Or.inr ⟨?_, ?_⟩) (by assumption) ?_; rotate_left 2; (· (simp only [List.getElem?_toArray, List.getElem?_cons_succ, List.getElem?_cons_zero]; first | done | rfl)); (· exact (fun _ _ _ h => h)); (· rfl); (· rfl)) | fail
          (try simp only [Act.put, List.setIfInBounds_toArray, List.set_cons_zero, List.set_cons_succ])
          first | (refine wpAnyH_take (i := 6) (oi := ?_) (v := ?_) ?_ (by kernel_rfl) (by kernel_rfl) (by kernel_rfl) ?_ (Or.inl ⟨?_, ?_⟩) (by assumption) ?_; rotate_left 2; (· (simp only [List.getElem?_toArray, List.getElem?_cons_succ, List.getElem?_cons_zero]; first | done | rfl)); (· exact (fun _ _ _ h => h)); (· rfl); (· (intro w hSw; (try dsimp only at hSw); go_simp; (try with_reducible rfl)))) | (refine wpAnyH_take (i := 6) (oi := ?_) (v := ?_) ?_ (by kernel_rfl) (by kernel_rfl) (by kernel_rfl) ?_ (Or.inr ⟨?_, ?_⟩) (by assumption) ?_; rotate_left 2; (· (simp only [List.getElem?_toArray, List.getElem?_cons_succ, List.getElem?_cons_zero]; first | done | rfl)); (· exact (fun _ _ _ h => h)); (· rfl); (· rfl)) | fail
          (try simp only [Act.put, List.setIfInBounds_toArray, List.set_cons_zero, List.set_cons_succ])
          first | (refine wpAnyH_take (i := 7) (oi := ?_) (v := ?_) ?_ (by kernel_rfl) (by kernel_rfl) (by kernel_rfl) ?_ (Or.inl ⟨?_, ?_⟩) (by assumption) ?_; rotate_left 2; (· (simp only [List.getElem?_toArray, List.getElem?_cons_succ, List.getElem?_cons_zero]; first | done | rfl)); (· exact (fun _ _ _ h => h)); (· rfl); (· (intro w hSw; (try dsimp only at hSw); go_simp; (try with_reducible rfl)))) | (refine wpAnyH_take (i := 7) (oi := ?_) (v := ?_) ?_ (by kernel_rfl) (by kernel_rfl) (by kernel_rfl) ?_ (Or.inr ⟨?_, ?_⟩) (by assumption) ?_; rotate_left 2; (· (simp only [List.getElem?_toArray, List.getElem?_cons_succ, List.getElem?_cons_zero]; first | done | rfl)); (· exact (fun _ _ _ h => h)); (· rfl); (· rfl)) | fail
          (try simp only [Act.put, List.setIfInBounds_toArray, List.set_cons_zero, List.set_cons_succ])
          refine wpAnyH_ready (rs := [5]) (by kernel_rfl) (by simp) ?_
          refine AllReadyH.cons (o := ?_) ?_ (fun K hK => ?_) AllReadyH.nil
          rotate_left 1
          · (simp only [List.getElem?_toArray, List.getElem?_cons_succ, List.getElem?_cons_zero]; first | done | rfl)
          go_simp
          first | (refine hK.out _ _ ?_ (fun hq1 => ?_)) | ((first | (go_at_call 38; refine (HM1.out _ (mM_conds (by assumption)) (mM_attrs (by assumption))).mono ?_; rintro e w9 ⟨rfl, hb9⟩) | (go_at_call 44; refine (HM2.out _ (mM_conds (by assumption)) (mM_attrs (by assumption))).mono ?_; rintro e w9 ⟨rfl, hb9⟩)); refine hK.out _ _ ?_ (fun hq1 => ?_)) | ((first | (go_at_call 38; refine (HM1.out _ (mM_conds (by assumption)) (mM_attrs (by assumption))).mono ?_; rintro e w9 ⟨rfl, hb9⟩) | (go_at_call 44; refine (HM2.out _ (mM_conds (by assumption)) (mM_attrs (by assumption))).mono ?_; rintro e w9 ⟨rfl, hb9⟩)); go_wp2_with fail; refine hK.out _ _ ?_ (fun hq1 => ?_)) | fail
          · ((try dsimp only); (first | exact mM_below (bdrewN (Below.refl _ _) 1) HST.out | assumption | exact mM_below (by assumption) (by assumption)))
          clear hK K
          (try simp only [Act.put, List.setIfInBounds_toArray, List.set_cons_zero, List.set_cons_succ])
          clear hq0
          refine wpAnyH_ready (rs := [8]) (by kernel_rfl) (by simp) ?_
          refine AllReadyH.cons (o := ?_) ?_ (fun K hK => ?_) AllReadyH.nil
          rotate_left 1
          · (simp only [List.getElem?_toArray, List.getElem?_cons_succ, List.getElem?_cons_zero]; first | done | rfl)
          go_simp
          first | (refine hK.out _ _ ?_ (fun hq2 => ?_)) | ((first | (go_at_call 38; refine (HM1.out _ (mM_conds (by assumption)) (mM_attrs (by assumption))).mono ?_; rintro e w9 ⟨rfl, hb9⟩) | (go_at_call 44; refine (HM2.out _ (mM_conds (by assumption)) (mM_attrs (by assumption))).mono ?_; rintro e w9 ⟨rfl, hb9⟩)); refine hK.out _ _ ?_ (fun hq2 => ?_)) | ((first | (go_at_call 38; refine (HM1.out _ (mM_conds (by assumption)) (mM_attrs (by assumption))).mono ?_; rintro e w9 ⟨rfl, hb9⟩) | (go_at_call 44; refine (HM2.out _ (mM_conds (by assumption)) (mM_attrs (by assumption))).mono ?_; rintro e w9 ⟨rfl, hb9⟩)); go_wp2_with fail; refine hK.out _ _ ?_ (fun hq2 => ?_)) | fail
          · ((try dsimp only); (first | exact mM_below (bdrewN (Below.refl _ _) 1) HST.out | assumption | exact mM_below (by assumption) (by assumption)))
          clear hK K
          (try simp only [Act.put, List.setIfInBounds_toArray, List.set_cons_zero, List.set_cons_succ])
          clear hq1
          first | (refine wpAnyH_take (i := 9) (oi := ?_) (v := ?_) ?_ (by kernel_rfl) (by kernel_rfl) (by kernel_rfl) ?_ (Or.inl ⟨?_, ?_⟩) (by assumption) ?_; rotate_left 2; (· (simp only [List.getElem?_toArray, List.getElem?_cons_succ, List.getElem?_cons_zero]; first | done | rfl)); (· exact (fun _ _ _ h => h)); (· rfl); (· (intro w hSw; (try dsimp only at hSw); go_simp; (try with_reducible rfl)))) | (refine wpAnyH_take (i := 9) (oi := ?_) (v := ?_) ?_ (by kernel_rfl) (by kernel_rfl) (by kernel_rfl) ?_ (Or.inr ⟨?_, ?_⟩) (by assumption) ?_; rotate_left 2; (· (simp only [List.getElem?_toArray, List.getElem?_cons_succ, List.getElem?_cons_zero]; first | done | rfl)); (· exact (fun _ _ _ h => h)); (· rfl); (· rfl)) | fail
          (try simp only [Act.put, List.setIfInBounds_toArray, List.set_cons_zero, List.set_cons_succ])
          first | (refine wpAnyH_take (i := 10) (oi := ?_) (v := ?_) ?_ (by kernel_rfl) (by kernel_rfl) (by kernel_rfl) ?_ (Or.inl ⟨?_, ?_⟩) (by assumption) ?_; rotate_left 2; (· (simp only [List.getElem?_toArray, List.getElem?_cons_succ, List.getElem?_cons_zero]; first | done | rfl)); (· exact (fun _ _ _ h => h)); (· rfl); (· (intro w hSw; (try dsimp only at hSw); go_simp; (try with_reducible rfl)))) | (refine wpAnyH_take (i := 10) (oi := ?_) (v := ?_) ?_ (by kernel_rfl) (by kernel_rfl) (by kernel_rfl) ?_ (Or.inr ⟨?_, ?_⟩) (by assumption) ?_; rotate_left 2; (· (simp only [List.getElem?_toArray, List.getElem?_cons_succ, List.getElem?_cons_zero]; first | done | rfl)); (· exact (fun _ _ _ h => h)); (· rfl); (· rfl)) | fail
          (try simp only [Act.put, List.setIfInBounds_toArray, List.set_cons_zero, List.set_cons_succ])
          first | (refine wpAnyH_take (i := 11) (oi := ?_) (v := ?_) ?_ (by kernel_rfl) (by kernel_rfl) (by kernel_rfl) ?_ (Or.inl ⟨?_, ?_⟩) (by assumption) ?_; rotate_left 2; (· (simp only [List.getElem?_toArray, List.getElem?_cons_succ, List.getElem?_cons_zero]; first | done | rfl)); (· exact (fun _ _ _ h => h)); (· rfl); (· (intro w hSw; (try dsimp only at hSw); go_simp; (try with_reducible rfl)))) | (refine wpAnyH_take (i := 11) (oi := ?_) (v := ?_) ?_ (by kernel_rfl) (by kernel_rfl) (by kernel_rfl) ?_ (Or.inr ⟨?_, ?_⟩) (by assumption) ?_; rotate_left 2; (· (simp only [List.getElem?_toArray, List.getElem?_cons_succ, List.getElem?_cons_zero]; first | done | rfl)); (· exact (fun _ _ _ h => h)); (· rfl); (· rfl)) | fail
          (try simp only [Act.put, List.setIfInBounds_toArray, List.set_cons_zero, List.set_cons_succ])
          refine wpAnyH_done (by kernel_rfl) ?_ _
          go_wp2_with fail
          go_ret
          exact ⟨rfl, mM_own (by assumption)⟩
end Go.Proofs.YtdggofleokjmcaaGreatDoor.Val
