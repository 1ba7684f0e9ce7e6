/- The statement EventPrints is proved by its card: events that are unlike have unlike texts; those that are the same have one. Conditions: none beyond the given row's own. -/
import Derived.Test.YthdihhkadaafcaaGreatDoorMgEventPrints3
import Derived.Test.YthdihhkadaafcaaGreatDoorFrameC
namespace Go.Proofs.YthdihhkadaafcaaGreatDoor.Val
open Go.RowKit Flt Go.ChangeShapes Go.WideShapes Go.ChangeAt
attribute [local go_sem] run_store_flt
theorem tabs_ofEPrints {W : World} (h : laidMetH Tryz.prog Rows.eventPrintsRow.laid W) : Tab.Tabs W :=
  Tab.tabs_of (l := Rows.eventPrintsRow.laid) ⟨by kernel_rfl, by kernel_rfl, by kernel_rfl, by kernel_rfl, by kernel_rfl, by kernel_rfl, by kernel_rfl, by kernel_rfl, by kernel_rfl⟩ h
theorem es_below {be : Nat} {t : List UInt8} {v1 v2 : Value} {W1 w1 w2 : World} (hs : be + 1 < W1.heap.size) (hb : Below w1.heap.size w1 w2)
    (h : w1.cell? ⟨be, 0, none⟩ = some (.string ⟨t.toArray⟩) ∧ w1.cell? ⟨be, 1, none⟩ = some v1 ∧ w1.cell? ⟨be + 1, 0, none⟩ = some (.string ⟨t.toArray⟩) ∧ w1.cell? ⟨be + 1, 1, none⟩ = some v2 ∧ Below W1.heap.size W1 w1) :
    w2.cell? ⟨be, 0, none⟩ = some (.string ⟨t.toArray⟩) ∧ w2.cell? ⟨be, 1, none⟩ = some v1 ∧ w2.cell? ⟨be + 1, 0, none⟩ = some (.string ⟨t.toArray⟩) ∧ w2.cell? ⟨be + 1, 1, none⟩ = some v2 ∧ Below W1.heap.size W1 w2 := by
  obtain ⟨h0, h1, h2, h3, hB⟩ := h
  have hsz := hB.size
  have c : ∀ b o, b < w1.heap.size → w2.cell? ⟨b, o, none⟩ = w1.cell? ⟨b, o, none⟩ := fun b o h => hb.cell (p := ⟨b, o, none⟩) h
  exact ⟨(c _ _ (by omega)).trans h0, (c _ _ (by omega)).trans h1, (c _ _ (by omega)).trans h2, (c _ _ (by omega)).trans h3, btrans hB hb⟩
theorem es_start {be : Nat} {t : List UInt8} {v1 v2 : Value} {W1 w1 : World} (hs : be + 1 < W1.heap.size) (hb : Below W1.heap.size W1 w1)
    (h : W1.cell? ⟨be, 0, none⟩ = some (.string ⟨t.toArray⟩) ∧ W1.cell? ⟨be, 1, none⟩ = some v1 ∧ W1.cell? ⟨be + 1, 0, none⟩ = some (.string ⟨t.toArray⟩) ∧ W1.cell? ⟨be + 1, 1, none⟩ = some v2) :
    w1.drew.cell? ⟨be, 0, none⟩ = some (.string ⟨t.toArray⟩) ∧ w1.drew.cell? ⟨be, 1, none⟩ = some v1 ∧ w1.drew.cell? ⟨be + 1, 0, none⟩ = some (.string ⟨t.toArray⟩) ∧ w1.drew.cell? ⟨be + 1, 1, none⟩ = some v2 ∧ Below W1.heap.size W1 w1.drew :=
  es_below hs (bdrewN hb 1) ⟨h.1, h.2.1, h.2.2.1, h.2.2.2, Below.refl _ _⟩
theorem es_own {be : Nat} {t : List UInt8} {v1 v2 : Value} {W1 w1 : World} (h : w1.cell? ⟨be, 0, none⟩ = some (.string ⟨t.toArray⟩) ∧ w1.cell? ⟨be, 1, none⟩ = some v1 ∧ w1.cell? ⟨be + 1, 0, none⟩ = some (.string ⟨t.toArray⟩) ∧ w1.cell? ⟨be + 1, 1, none⟩ = some v2 ∧ Below W1.heap.size W1 w1) : Below W1.heap.size W1 w1 := h.2.2.2.2
theorem ev_text {l : List A} (h : ∀ x ∈ l, Open.AOk x) : ∀ x ∈ newB l, x.name.length ≤ 140737488351232 ∧ x.val.text.length ≤ 140737488351232 ∧ -9223372036854775808 ≤ x.val.int ∧ x.val.int ≤ 9223372036854775807 := fun x hx => by
  obtain ⟨y, hy, h1, h2⟩ := mem_newB hx
  obtain ⟨q1, q2, q3, q4, q5⟩ := h y hy
  rw [← h1, h2]
  unfold canonV
  split
  · exact ⟨q1, by show 0 ≤ _; omega, q3.1, q3.2⟩
  · split
    · exact ⟨q1, by show 0 ≤ _; omega, by show _ ≤ (0 : Int); omega, by show (0 : Int) ≤ _; omega⟩
    · split
      · exact ⟨q1, q5, by show _ ≤ (0 : Int); omega, by show (0 : Int) ≤ _; omega⟩
      · split <;> exact ⟨q1, by show 0 ≤ _; omega, by show _ ≤ (0 : Int); omega, by show (0 : Int) ≤ _; omega⟩
/-- what is right is small -/
theorem ev_small {l : List A} (hr : rightL l = true) (hn : NumOk l) (hx : ∀ x ∈ l, x.name.length ≤ 140737488351232 ∧ x.val.text.length ≤ 140737488351232 ∧ -9223372036854775808 ≤ x.val.int ∧ x.val.int ≤ 9223372036854775807) :
    l.length ≤ 8 ∧ Small l ∧ ∀ x ∈ l, NmOk x.name ∧ VOk x.val := by
  obtain ⟨h8, h⟩ := rightL_ok l hr
  refine ⟨h8, fun x hx2 => ?_, fun x hx2 => ?_⟩
  · obtain ⟨_, a2, _, _, a5⟩ := h x hx2
    exact ⟨by omega, by omega, hn x hx2, (hx x hx2).2.2.1, (hx x hx2).2.2.2⟩
  · obtain ⟨a1, _, a3, a4, _⟩ := h x hx2
    exact ⟨a1, a3, a4, hn x hx2⟩
set_option maxRecDepth 20000 in
set_option maxHeartbeats 8000000 in
theorem eprints_law (a0 : Option Addr) (c1 : Nat) (l : List A) (b0 : Option Addr) (c2 : Nat) (m : List A) (t : List UInt8) (w : World) (hl : Attrs w a0 l) (hj : Attrs w b0 m) (hok : ∀ x ∈ l, Open.AOk x) (hoj : ∀ x ∈ m, Open.AOk x)
    (hm : l.length ≤ maxLen) (hmj : m.length ≤ maxLen) (ht : t.length ≤ 140737488351232) (hT : Tab.Tabs w) :
    Calls Tryz.prog 4 #[.slice a0 l.length c1, .slice b0 m.length c2, .string ⟨t.toArray⟩] w fun e w' => e = .returned (.bool true) ∧ Below w.heap.size w w' := by
  have hli (w : World) (h : Attrs w a0 l) := light03_any a0 c1 l w h hok hm
  have hlj (w : World) (h : Attrs w b0 m) := light03_any b0 c2 m w h hoj hmj
  have HL := Lib.hid hl; have HJ := Lib.hid hj; have HLI := Lib.hid hli; have HLJ := Lib.hid hlj; have HT := Lib.hid hT
  clear hl hj hli hlj hT
  have l30 : ∀ l : List A, lightB l = true → l.length ≤ 30 := fun l h => by
    unfold lightB at h; simp at h; exact h.2
  have hways : lightB l = false ∨ (lightB l = true ∧ lightB m = false) ∨ (lightB l = true ∧ lightB m = true ∧ 100 < t.length) ∨ (lightB l = true ∧ lightB m = true ∧ t.length ≤ 100) := by
    cases lightB l <;> cases lightB m <;> simp <;> omega
  rcases hways with h1 | ⟨h1, h2⟩ | ⟨h1, h2, h3⟩ | ⟨h1, h2, h3⟩
  · rw [h1] at HLI
    clear l30
    go_enter Tryz.func4, Tryz.ntmps4
    go_wp2_with (first | (go_at_call 19; refine (fit03_any _).mono ?_; rintro e w1 ⟨rfl, hb1⟩) | (go_at_call 20; (first | (with_reducible refine (HLI.out _ ?_).mono ?_; (· exact HL.out.below (by repeat (first | assumption | (with_reducible exact Below.refl _ _) | exact balloc _ _ | exact balloc2 _ _ _ | refine btrans ?_ (by assumption) | refine btrans ?_ (balloc _ _)))); rintro e w2 ⟨rfl, hb2⟩) | (with_reducible refine (HLJ.out _ ?_).mono ?_; (· exact HJ.out.below (by repeat (first | assumption | (with_reducible exact Below.refl _ _) | exact balloc _ _ | exact balloc2 _ _ _ | refine btrans ?_ (by assumption) | refine btrans ?_ (balloc _ _)))); rintro e w2 ⟨rfl, hb3⟩))) | fail)
    go_ret
    exact ⟨rfl, by repeat (first | assumption | (with_reducible exact Below.refl _ _) | exact balloc _ _ | exact balloc2 _ _ _ | refine btrans ?_ (by assumption) | refine btrans ?_ (balloc _ _))⟩
  · rw [h1] at HLI
    rw [h2] at HLJ
    clear l30
    go_enter Tryz.func4, Tryz.ntmps4
    go_wp2_with (first | (go_at_call 19; refine (fit03_any _).mono ?_; rintro e w1 ⟨rfl, hb1⟩) | (go_at_call 20; (first | (with_reducible refine (HLI.out _ ?_).mono ?_; (· exact HL.out.below (by repeat (first | assumption | (with_reducible exact Below.refl _ _) | exact balloc _ _ | exact balloc2 _ _ _ | refine btrans ?_ (by assumption) | refine btrans ?_ (balloc _ _)))); rintro e w2 ⟨rfl, hb2⟩) | (with_reducible refine (HLJ.out _ ?_).mono ?_; (· exact HJ.out.below (by repeat (first | assumption | (with_reducible exact Below.refl _ _) | exact balloc _ _ | exact balloc2 _ _ _ | refine btrans ?_ (by assumption) | refine btrans ?_ (balloc _ _)))); rintro e w2 ⟨rfl, hb3⟩))) | fail)
    go_ret
    exact ⟨rfl, by repeat (first | assumption | (with_reducible exact Below.refl _ _) | exact balloc _ _ | exact balloc2 _ _ _ | refine btrans ?_ (by assumption) | refine btrans ?_ (balloc _ _))⟩
  · rw [h1] at HLI
    rw [h2] at HLJ
    have d1 : decide (100 < (t.length : Int)) = true := by rw [decide_eq_true_iff]; omega
    clear l30
    go_enter Tryz.func4, Tryz.ntmps4
    go_wp2_with (first | (go_at_call 19; refine (fit03_any _).mono ?_; rintro e w1 ⟨rfl, hb1⟩) | (go_at_call 20; (first | (with_reducible refine (HLI.out _ ?_).mono ?_; (· exact HL.out.below (by repeat (first | assumption | (with_reducible exact Below.refl _ _) | exact balloc _ _ | exact balloc2 _ _ _ | refine btrans ?_ (by assumption) | refine btrans ?_ (balloc _ _)))); rintro e w2 ⟨rfl, hb2⟩) | (with_reducible refine (HLJ.out _ ?_).mono ?_; (· exact HJ.out.below (by repeat (first | assumption | (with_reducible exact Below.refl _ _) | exact balloc _ _ | exact balloc2 _ _ _ | refine btrans ?_ (by assumption) | refine btrans ?_ (balloc _ _)))); rintro e w2 ⟨rfl, hb3⟩))) | fail)
    go_ret
    exact ⟨rfl, by repeat (first | assumption | (with_reducible exact Below.refl _ _) | exact balloc _ _ | exact balloc2 _ _ _ | refine btrans ?_ (by assumption) | refine btrans ?_ (balloc _ _))⟩
  have hl30 := l30 l h1
  have hm30 := l30 m h2
  rw [h1] at HLI
  rw [h2] at HLJ
  have d1 : decide (100 < (t.length : Int)) = false := by rw [decide_eq_false_iff_not]; omega
  clear l30 h1 h2
  obtain ⟨H, hH⟩ : ∃ H, H = [91] ++ t ++ [93] := ⟨_, rfl⟩
  have hHl : H.length ≤ 102 := by rw [hH]; simp; omega
  obtain ⟨y1, hy1⟩ : ∃ y, y = [91] ++ t := ⟨_, rfl⟩
  have hy1l : y1.length = t.length + 1 := by rw [hy1]; simp
  have ra : ∀ w, (Op.stringOp .add ⟨#[91]⟩ ⟨t.toArray⟩).run Tryz.prog w = .ok (.string ⟨y1.toArray⟩) w := fun w => by rw [hy1]; exact run_string_add_lists w [91] t (by decide) (by omega)
  have rb : ∀ w, (Op.stringOp .add ⟨y1.toArray⟩ ⟨#[93]⟩).run Tryz.prog w = .ok (.string ⟨H.toArray⟩) w := fun w => by rw [hH, ← hy1]; exact run_string_add_lists w y1 [93] (by omega) (by decide)
  clear hy1 hy1l
  have hnew (w : World) (h : Attrs w a0 l) := new_any t a0 c1 l w h (by omega)
  have hnej (w : World) (h : Attrs w b0 m) := new_any t b0 c2 m w h (by omega)
  have n1 := newB_len l; have n2 := newB_len m
  have u1 := newB_num hok; have u2 := newB_num hoj
  have x1 := ev_text hok; have x2 := ev_text hoj
  clear hok hoj
  generalize newB l = nb at *
  generalize newB m = mb at *
  have HNEW := Lib.hid hnew; have HNEJ := Lib.hid hnej; have U1 := Lib.hid u1; have U2 := Lib.hid u2; have X1 := Lib.hid x1; have X2 := Lib.hid x2
  clear hnew hnej u1 u2 x1 x2
  go_enter Tryz.func4, Tryz.ntmps4
  go_wp2_with (first | (go_at_call 19; refine (fit03_any _).mono ?_; rintro e w1 ⟨rfl, hb1⟩) | (go_at_call 20; (first | (with_reducible refine (HLI.out _ ?_).mono ?_; (· exact HL.out.below (by repeat (first | assumption | (with_reducible exact Below.refl _ _) | exact balloc _ _ | exact balloc2 _ _ _ | refine btrans ?_ (by assumption) | refine btrans ?_ (balloc _ _)))); rintro e w2 ⟨rfl, hb2⟩) | (with_reducible refine (HLJ.out _ ?_).mono ?_; (· exact HJ.out.below (by repeat (first | assumption | (with_reducible exact Below.refl _ _) | exact balloc _ _ | exact balloc2 _ _ _ | refine btrans ?_ (by assumption) | refine btrans ?_ (balloc _ _)))); rintro e w2 ⟨rfl, hb3⟩))) | (go_at_call 21; (first | (with_reducible refine (HNEW.out _ ?_).mono ?_; (· exact HL.out.below (by repeat (first | assumption | (with_reducible exact Below.refl _ _) | exact balloc _ _ | exact balloc2 _ _ _ | refine btrans ?_ (by assumption) | refine btrans ?_ (balloc _ _)))); rintro e w3 ⟨p0, p1, rfl, hat3, _, hb3⟩; have HAT3 := Lib.hid hat3; clear hat3) | (with_reducible refine (HNEJ.out _ ?_).mono ?_; (· exact HJ.out.below (by repeat (first | assumption | (with_reducible exact Below.refl _ _) | exact balloc _ _ | exact balloc2 _ _ _ | refine btrans ?_ (by assumption) | refine btrans ?_ (balloc _ _)))); rintro e w4 ⟨r0, r1, rfl, hat4, _, hb4⟩; have HAT4 := Lib.hid hat4; clear hat4))) | fail)
  have hb4w : Below w.heap.size w w4 := by repeat (first | assumption | (with_reducible exact Below.refl _ _) | exact balloc _ _ | exact balloc2 _ _ _ | refine btrans ?_ (by assumption) | refine btrans ?_ (balloc _ _))
  have hE : ((w4.alloc (.cells #[.string ⟨t.toArray⟩, .slice p0 nb.length p1] 38)).alloc (.cells #[.string ⟨t.toArray⟩, .slice r0 mb.length r1] 38)).cell? ⟨w4.heap.size, 0, none⟩ = some (.string ⟨t.toArray⟩) ∧ ((w4.alloc (.cells #[.string ⟨t.toArray⟩, .slice p0 nb.length p1] 38)).alloc (.cells #[.string ⟨t.toArray⟩, .slice r0 mb.length r1] 38)).cell? ⟨w4.heap.size, 1, none⟩ = some (.slice p0 nb.length p1) ∧ ((w4.alloc (.cells #[.string ⟨t.toArray⟩, .slice p0 nb.length p1] 38)).alloc (.cells #[.string ⟨t.toArray⟩, .slice r0 mb.length r1] 38)).cell? ⟨w4.heap.size + 1, 0, none⟩ = some (.string ⟨t.toArray⟩) ∧ ((w4.alloc (.cells #[.string ⟨t.toArray⟩, .slice p0 nb.length p1] 38)).alloc (.cells #[.string ⟨t.toArray⟩, .slice r0 mb.length r1] 38)).cell? ⟨w4.heap.size + 1, 1, none⟩ = some (.slice r0 mb.length r1) ∧ Attrs ((w4.alloc (.cells #[.string ⟨t.toArray⟩, .slice p0 nb.length p1] 38)).alloc (.cells #[.string ⟨t.toArray⟩, .slice r0 mb.length r1] 38)) p0 nb ∧ Attrs ((w4.alloc (.cells #[.string ⟨t.toArray⟩, .slice p0 nb.length p1] 38)).alloc (.cells #[.string ⟨t.toArray⟩, .slice r0 mb.length r1] 38)) r0 mb ∧ Below w.heap.size w ((w4.alloc (.cells #[.string ⟨t.toArray⟩, .slice p0 nb.length p1] 38)).alloc (.cells #[.string ⟨t.toArray⟩, .slice r0 mb.length r1] 38)) ∧ w4.heap.size + 1 < ((w4.alloc (.cells #[.string ⟨t.toArray⟩, .slice p0 nb.length p1] 38)).alloc (.cells #[.string ⟨t.toArray⟩, .slice r0 mb.length r1] 38)).heap.size := by
    have e1 : ∀ o, ((w4.alloc (.cells #[.string ⟨t.toArray⟩, .slice p0 nb.length p1] 38)).alloc (.cells #[.string ⟨t.toArray⟩, .slice r0 mb.length r1] 38)).cell? ⟨w4.heap.size, o, none⟩ = #[.string ⟨t.toArray⟩, .slice p0 nb.length p1][o]? := fun o => ((balloc (w4.alloc (.cells #[.string ⟨t.toArray⟩, .slice p0 nb.length p1] 38)) _).cell (p := ⟨w4.heap.size, o, none⟩) (by simp)).trans (World.cell?_alloc_at _ _ _ _ rfl)
    have e2 : ∀ o, ((w4.alloc (.cells #[.string ⟨t.toArray⟩, .slice p0 nb.length p1] 38)).alloc (.cells #[.string ⟨t.toArray⟩, .slice r0 mb.length r1] 38)).cell? ⟨w4.heap.size + 1, o, none⟩ = #[.string ⟨t.toArray⟩, .slice r0 mb.length r1][o]? := fun o => World.cell?_alloc_at _ _ _ _ (by simp)
    exact ⟨e1 0, e1 1, e2 0, e2 1, (HAT3.out.below hb4).below (balloc2 _ _ _), HAT4.out.below (balloc2 _ _ _), btrans hb4w (balloc2 _ _ _), by simp⟩
  have HE := Lib.hid hE
  clear hE hb4w hb1 hb2 hb3 hb4 HAT3 HAT4 HNEW HNEJ HLI HLJ HL HJ d1
  have hre (W : World) (h : Attrs W p0 nb) := eright_any t p0 p1 nb W h (by omega) (fun x hx => ⟨(X1.out x hx).1, (X1.out x hx).2.1⟩)
  have hrf (W : World) (h : Attrs W r0 mb) := eright_any t r0 r1 mb W h (by omega) (fun x hx => ⟨(X2.out x hx).1, (X2.out x hx).2.1⟩)
  clear hl30 hm30
  generalize World.alloc _ _ = W1 at *
  generalize w4.heap.size = be at *
  obtain ⟨f1, f2, f3, f4, hat1, hat2, hbw, hbs⟩ := HE.out
  have HF := Lib.hid (And.intro f1 (And.intro f2 (And.intro f3 f4)))
  have HA1 := Lib.hid hat1; have HA2 := Lib.hid hat2; have HBW := Lib.hid hbw
  have hbs0 : be < W1.heap.size := by omega
  clear hat1 hat2 hbw HE
  cases hr1 : rightL nb
  · rw [hr1] at hre
    have HRE := Lib.hid hre; clear hre hrf
    go_wp2_with (first | (go_at_call 22; refine (HRE.out _ HA1.out).mono ?_; rintro e w5 ⟨rfl, hb5⟩; obtain ⟨hc5, hf5⟩ := bcell hb5) | fail)
    go_ret
    exact ⟨rfl, btrans HBW.out hb5⟩
  cases hr2 : rightL mb
  · rw [hr1] at hre
    rw [hr2] at hrf
    have HRE := Lib.hid hre; have HRF := Lib.hid hrf; clear hre hrf
    go_wp2_with fail
    refine (HRE.out _ HA1.out).mono ?_; rintro e w5 ⟨rfl, hb5⟩; obtain ⟨hc5, hf5⟩ := bcell hb5
    go_wp2_with fail
    refine (HRF.out _ (HA2.out.below hb5)).mono ?_; rintro e w6 ⟨rfl, hb6⟩
    go_wp2_with fail
    go_ret
    exact ⟨rfl, btrans (btrans HBW.out hb5) hb6⟩
  rw [hr1] at hre
  rw [hr2] at hrf
  have HRE := Lib.hid hre; have HRF := Lib.hid hrf; clear hre hrf
  go_wp2_with fail
  refine (HRE.out _ HA1.out).mono ?_; rintro e w5 ⟨rfl, hb5⟩; obtain ⟨hc5, hf5⟩ := bcell hb5
  go_wp2_with fail
  refine (HRF.out _ (HA2.out.below hb5)).mono ?_; rintro e w6 ⟨rfl, hb6⟩
  have hb56 := btrans hb5 hb6
  obtain ⟨hc6, hf6⟩ := bcell hb56
  clear hc5 hf5 hb5 hb6
  obtain ⟨n8, sm1, ok1⟩ := ev_small hr1 U1.out X1.out
  obtain ⟨m8, sm2, ok2⟩ := ev_small hr2 U2.out X2.out
  have hev : evT t nb = H ++ asT (nb.take nb.length) := by rw [List.take_length, hH]; rfl
  have hsum : ∀ k, k ≤ nb.length → (H ++ asT (nb.take k)).length ≤ 800000 := fun k hk => by
    have h := asT_len (nb.take k) (fun x hx => sm1 x (List.mem_of_mem_take hx))
    rw [List.length_take, Nat.min_eq_left hk] at h
    rw [List.length_append]
    omega
  have SM1 := Lib.hid sm1; have SM2 := Lib.hid sm2; have OK1 := Lib.hid ok1; have OK2 := Lib.hid ok2; have HSUM := Lib.hid hsum; have HEV := Lib.hid hev
  have HBQ6 := Lib.hid hb56
  clear sm1 sm2 ok1 ok2 hsum hev HRE HRF
  go_wp2_with fail
  clear hc6 hf6 f1 f2 f3 f4
  have hpe : ∀ W, Below W1.heap.size W1 W → Calls Tryz.prog 23 #[ev t p0 nb.length p1] W fun e w' => e = .returned (.string ⟨(evT t nb).toArray⟩) ∧ Below W.heap.size W w' :=
    fun W hb => eprint_any t p0 p1 nb W (HA1.out.below hb) (by omega) SM1.out (by omega) (HT.out.below (btrans HBW.out hb) (Nat.le_refl _))
  have hpf : ∀ W, Below W1.heap.size W1 W → Calls Tryz.prog 23 #[ev t r0 mb.length r1] W fun e w' => e = .returned (.string ⟨(evT t mb).toArray⟩) ∧ Below W.heap.size W w' :=
    fun W hb => eprint_any t r0 r1 mb W (HA2.out.below hb) (by omega) SM2.out (by omega) (HT.out.below (btrans HBW.out hb) (Nat.le_refl _))
  have hsa : ∀ W, Below W1.heap.size W1 W → Calls Tryz.prog 24 #[ev t p0 nb.length p1, ev t r0 mb.length r1] W fun e w' => e = .returned (.bool (sameL nb mb)) ∧ Below W.heap.size W w' :=
    fun W hb => (esame_any t t p0 r0 p1 r1 nb mb W (HA1.out.below hb) (HA2.out.below hb) (by omega) (by omega) U1.out U2.out).mono fun e w' ⟨h1, h2⟩ => ⟨by rw [h1]; simp, h2⟩
  have hq := evT_same t nb mb OK1.out OK2.out
  have HQ := Lib.hid hq; have HPE := Lib.hid hpe; have HPF := Lib.hid hpf; have HSA := Lib.hid hsa
  clear hq hpe hpf hsa U1 U2 X1 X2 OK1 OK2 SM2
  go_loopw [9, 47] (fun vs vi wr => ∃ k : Nat, k ≤ nb.length ∧ vs = .string ⟨(H ++ asT (nb.take k)).toArray⟩ ∧ vi = .int .i64 k ∧ Below W1.heap.size W1 wr) (fun _ vi _ => nb.length - (intOf vi).toNat)
  case atStart => exact ⟨0, Nat.zero_le _, by rw [hH]; simp [asT], rfl, hb56⟩
  case round =>
    obtain ⟨k, hk, rfl, rfl, hbq⟩ := hrel
    have HBQ := Lib.hid hbq
    have hbr : Below w.heap.size w wr := btrans HBW.out hbq
    have HBR := Lib.hid hbr
    by_cases hlt : k < nb.length
    · have i1 : (k : Int) < (nb.length : Int) := by omega
      have i0 : (0 : Int) ≤ (k : Int) := by omega
      obtain ⟨a, rfl, v0, v1, v2, v3, v4, v5⟩ := (HA1.out.below hbq) k hlt
      have hstep := asT_take nb k hlt
      have hs1 := HSUM.out k (by omega)
      obtain ⟨q1, q2, q3, q4, q5⟩ := SM1.out _ (List.getElem_mem hlt)
      have hpl := vT_len2 (nb[k]).val q4 q5
      have hvp : ∀ w1, Below wr.heap.size wr w1 → Calls Tryz.prog 15 #[val (nb[k]).val.kind (nb[k]).val.int (nb[k]).val.num (nb[k]).val.text (nb[k]).val.yes] w1 fun e w' => e = .returned (.string ⟨(vT ⟨(nb[k]).val.kind, (nb[k]).val.int, (nb[k]).val.num, (nb[k]).val.text, (nb[k]).val.yes⟩).toArray⟩) ∧ Below w1.heap.size w1 w' :=
        fun w1 hb => vprint_any _ _ _ _ _ w1 q3 q4 q5 (by omega) (HT.out.below (btrans HBR.out hb) (Nat.le_refl _))
      have haT : aT nb[k] = [32] ++ (nb[k]).name ++ [61] ++ vT ⟨(nb[k]).val.kind, (nb[k]).val.int, (nb[k]).val.num, (nb[k]).val.text, (nb[k]).val.yes⟩ := rfl
      rw [haT] at hstep
      clear haT hbr hbq
      have hpl2 : (vT ⟨(nb[k]).val.kind, (nb[k]).val.int, (nb[k]).val.num, (nb[k]).val.text, (nb[k]).val.yes⟩).length ≤ 10 * (nb[k]).val.text.length + 2000 := hpl
      clear hpl
      generalize vT ⟨(nb[k]).val.kind, (nb[k]).val.int, (nb[k]).val.num, (nb[k]).val.text, (nb[k]).val.yes⟩ = pv at *
      generalize nb[k] = x at *
      obtain ⟨nm, vk, vn, vx, vt, vy⟩ := x
      simp only at *
      generalize hS0 : H ++ asT (nb.take k) = S0 at *
      obtain ⟨z1, hz1⟩ : ∃ z, z = [32] ++ nm := ⟨_, rfl⟩
      obtain ⟨z2, hz2⟩ : ∃ z, z = z1 ++ [61] := ⟨_, rfl⟩
      obtain ⟨z3, hz3⟩ : ∃ z, z = z2 ++ pv := ⟨_, rfl⟩
      obtain ⟨z4, hz4⟩ : ∃ z, z = S0 ++ z3 := ⟨_, rfl⟩
      have hnext : H ++ asT (nb.take (k + 1)) = z4 := by rw [hstep, hz4, hz3, hz2, hz1, ← hS0]; simp
      have l1 : z1.length = nm.length + 1 := by rw [hz1]; simp
      have l2 : z2.length = z1.length + 1 := by rw [hz2]; simp
      have l3 : z3.length = z2.length + pv.length := by rw [hz3]; simp
      have t1 : ∀ w, (Op.stringOp .add ⟨#[32]⟩ ⟨nm.toArray⟩).run Tryz.prog w = .ok (.string ⟨z1.toArray⟩) w := fun w => by rw [hz1]; exact run_string_add_lists w [32] nm (by decide) (by omega)
      have t2 : ∀ w, (Op.stringOp .add ⟨z1.toArray⟩ ⟨#[61]⟩).run Tryz.prog w = .ok (.string ⟨z2.toArray⟩) w := fun w => by rw [hz2]; exact run_string_add_lists w z1 [61] (by omega) (by decide)
      have t3 : ∀ w, (Op.stringOp .add ⟨z2.toArray⟩ ⟨pv.toArray⟩).run Tryz.prog w = .ok (.string ⟨z3.toArray⟩) w := fun w => by rw [hz3]; exact run_string_add_lists w z2 pv (by omega) (by omega)
      have t4 : ∀ w, (Op.stringOp .add ⟨S0.toArray⟩ ⟨z3.toArray⟩).run Tryz.prog w = .ok (.string ⟨z4.toArray⟩) w := fun w => by rw [hz4]; exact run_string_add_lists w S0 z3 (by omega) (by omega)
      have HVP := Lib.hid hvp; have HNX := Lib.hid hnext
      clear hvp hnext hz1 hz2 hz3 hz4 l1 l2 l3 hS0 hs1 hpl2 q1 q2 q3 q4 q5 hstep
      go_wp2_with fail
      go_region_held3 (fun w' => w'.cell? ⟨wr.heap.size, 0, none⟩ = some (.string ⟨nm.toArray⟩) ∧ w'.cell? ⟨wr.heap.size, 1, none⟩ = some (.int .i64 vk) ∧ w'.cell? ⟨wr.heap.size, 2, none⟩ = some (.int .i64 vn) ∧ w'.cell? ⟨wr.heap.size, 3, none⟩ = some (.float .f64 vx) ∧ w'.cell? ⟨wr.heap.size, 4, none⟩ = some (.string ⟨vt.toArray⟩) ∧ w'.cell? ⟨wr.heap.size, 5, none⟩ = some (.bool vy) ∧ Below wr.heap.size wr w' ∧ wr.heap.size < w'.heap.size)
        (first | exact ps_start | assumption | exact ps_below (by assumption) (by assumption))
        (first | (go_at_call 15; refine (HVP.out _ (ps_own (by assumption))).mono ?_; rintro e w3 ⟨rfl, hb3⟩))
      go_goals
      go_wp2_with fail
      rename_i hheld
      exact ⟨⟨k + 1, by omega, by rw [HNX.out], by go_num, btrans HBQ.out (ps_own hheld)⟩, by simp [intOf]; go_num⟩
    · have i1 : ¬ (k : Int) < (nb.length : Int) := by omega
      obtain rfl : k = nb.length := by omega
      rw [← HEV.out]
      generalize evT t nb = pe at *
      generalize evT t mb = pf at *
      have hq := HQ.out
      clear HQ HEV HSUM
      have hway : (pe = pf ∧ sameL nb mb = true) ∨ ((pe == pf) = false ∧ sameL nb mb = false) := by
        cases h : sameL nb mb
        · rw [h] at hq; exact .inr ⟨hq, rfl⟩
        · rw [h] at hq; exact .inl ⟨by simpa using hq, rfl⟩
      clear hq
      rcases hway with ⟨rfl, h5⟩ | ⟨h6, h5⟩
      · rw [h5] at HSA
        clear h5
        go_wp2_with fail
        go_region_held3 (fun w' => w'.cell? ⟨be, 0, none⟩ = some (.string ⟨t.toArray⟩) ∧ w'.cell? ⟨be, 1, none⟩ = some (.slice p0 nb.length p1) ∧ w'.cell? ⟨be + 1, 0, none⟩ = some (.string ⟨t.toArray⟩) ∧ w'.cell? ⟨be + 1, 1, none⟩ = some (.slice r0 mb.length r1) ∧ Below W1.heap.size W1 w')
          (first | exact es_start hbs HBQ.out HF.out | assumption | exact es_below hbs (by assumption) (by assumption))
          (first | (go_at_call 23; (first | (with_reducible refine (HPE.out _ ?_).mono ?_) | (with_reducible refine (HPF.out _ ?_).mono ?_)); (· exact es_own (by assumption)); rintro e w7 ⟨rfl, hb7⟩) | (go_at_call 24; refine (HSA.out _ (es_own (by assumption))).mono ?_; rintro e w8 ⟨rfl, hb8⟩))
        go_wp2_with fail
        go_ret
        exact ⟨rfl, btrans HBW.out (es_own (by assumption))⟩
      · rw [h5] at HSA
        clear h5
        go_wp2_with fail
        go_region_held3 (fun w' => w'.cell? ⟨be, 0, none⟩ = some (.string ⟨t.toArray⟩) ∧ w'.cell? ⟨be, 1, none⟩ = some (.slice p0 nb.length p1) ∧ w'.cell? ⟨be + 1, 0, none⟩ = some (.string ⟨t.toArray⟩) ∧ w'.cell? ⟨be + 1, 1, none⟩ = some (.slice r0 mb.length r1) ∧ Below W1.heap.size W1 w')
          (first | exact es_start hbs HBQ.out HF.out | assumption | exact es_below hbs (by assumption) (by assumption))
          (first | (go_at_call 23; (first | (with_reducible refine (HPE.out _ ?_).mono ?_) | (with_reducible refine (HPF.out _ ?_).mono ?_)); (· exact es_own (by assumption)); rintro e w7 ⟨rfl, hb7⟩) | (go_at_call 24; refine (HSA.out _ (es_own (by assumption))).mono ?_; rintro e w8 ⟨rfl, hb8⟩))
        go_wp2_with fail
        go_ret
        exact ⟨rfl, btrans HBW.out (es_own (by assumption))⟩
set_option maxRecDepth 100000 in
theorem eprints_lifted (os : Os) (started : os.Started) (H : Type) (enc : TypeId × Value → H) :
    ReturnsInHanded {} Tryz.checked os 4 .any (fun w args => (Rows.eventPrintsSpec.pre enc Tryz.prog Tryz.f4 Rows.eventPrintsRow.domain false w args ∧ laidMetH Tryz.prog Rows.eventPrintsRow.laid w) ∧ sizedMet enc Tryz.prog Tryz.f4 (OpenSpec.ofChange Rows.eventPrintsSpec) false w args)
      (Rows.eventPrintsSpec.post enc Tryz.prog Tryz.f4 false true false false) := by
  refine returnsInHanded_of_change_and (C := Tryz.checked) (X := fun w _ => laidMetH Tryz.prog Rows.eventPrintsRow.laid w) (fun _ _ _ hh h => h.of_heap hh) Frame.own started (by kernel_rfl) Tryz.func4
    (ChangeSpec.witness_shaped (enc := enc) (C := Tryz.checked) (os := os) (X := fun w _ => laidMetH Tryz.prog Rows.eventPrintsRow.laid w) false (World.laidAll Tryz.prog os Rows.eventPrintsRow.laid) #[.slice none 0 0, .slice none 0 0, .string .empty] 8 (World.laidAll_os _ _ _)
      (World.shaped_of_ZipB (by kernel_rfl) (by kernel_rfl)) (by kernel_rfl) (by kernel_rfl) (by kernel_rfl)
      (by rw [MakeChecks.laidMetH_plain _ _ _ (by kernel_rfl)]; exact laidMet_laidAll _ (by kernel_rfl) (by kernel_rfl))) ?_
  intro W base args ds gs before hval0 hW _ hsz0 hL _
  have hsz : (DataW.weightsEach Tryz.prog (Tryz.f4.params.toList ++ Rows.eventPrintsSpec.plain.varTypes Tryz.prog) (ds ++ gs)).all (· ≤ reachBytes) = true := hsz0
  have hval : ∀ (j : Nat) t v, Tryz.f4.params[j]? = some t → args[j]? = some v → Value.okWide Tryz.prog W .any base t v := hval0
  have hW' := hW
  obtain ⟨p, q, hA0, hV, rfl, hfz, hnd⟩ := hW
  have hA : DataW.TrodAll enc Tryz.prog W 0 (fun _ => true) true Tryz.f4.params.toList args.toList ds p := hA0
  rw [Tryz.params4] at hA hval hsz
  obtain ⟨v0, vs0, d0, ds0, p0, q0, hargs, rfl, rfl, h0, r0⟩ := trodAll_cons hA
  obtain ⟨v1, vs1, d1, ds1, p1, q1, rfl, rfl, rfl, h1, r1⟩ := trodAll_cons r0
  obtain ⟨v2, vs2, d2, ds2, p2, q2, rfl, rfl, rfl, h2, r2⟩ := trodAll_cons r1
  obtain ⟨rfl, rfl, rfl⟩ := trodAll_nil r2
  obtain rfl : args = #[v0, v1, v2] := by cases args; simp_all
  obtain ⟨rfl, rfl⟩ := trodVars_none hV
  obtain ⟨aa, ca, la, rfl, qa, ma, sa, wa, na⟩ := Open.open_attrs (hval 0 35 v0 rfl rfl) h0 (Open.reach_of hsz (j := 0) (t := 35) rfl rfl)
  obtain ⟨ab, cb, lb, rfl, qb, mb, sb, wb, nb⟩ := Open.open_attrs (hval 1 35 v1 rfl rfl) h1 (Open.reach_of hsz (j := 1) (t := 35) rfl rfl)
  obtain ⟨c, rfl, rfl, rfl, wc⟩ := Go.ChangeMaps.open_string Tryz.underlying9 (hval 2 9 v2 rfl rfl) h2
  have zc : c.data.toList.length ≤ 140737488351232 := sized_string hsz (j := 2) (t := 9) rfl rfl
  clear hA0 hval0 hsz hsz0
  refine (eprints_law aa ca la ab cb lb c.data.toList W sa sb wa wb (Nat.le_trans qa ma) (Nat.le_trans qb mb) zc (tabs_ofEPrints hL)).mono fun e W' ⟨he, hw⟩ => ?_
  subst he
  exact ⟨_, rfl, Frame.law_post Frame.laidOut (by kernel_rfl) rfl (by kernel_rfl) Tryz.underlying4 rfl rfl rfl hW' hw⟩

theorem eprints_said : Rows.EventPrintsSaid :=
  OpenClaim.holds_of_wide 4 Tryz.f4 rfl rfl rfl rfl rfl rfl rfl ⟨rfl, rfl, rfl, rfl, rfl⟩ rfl rfl rfl rfl rfl (by kernel_rfl) Tryz.func4 (by kernel_rfl)
    (of_decide_eq_true (by kernel_rfl)) (by unfold Func.isWrapper; first | (rw [if_pos (by decide +kernel)]; kernel_rfl) | (rw [if_neg (by decide +kernel)]; exact ⟨rfl, rfl⟩))
    (fun os started H enc _ => eprints_lifted os started H enc)
theorem eprints_plain (f : FuncId) (fn : Func) (hf : Tryz.pinned.checked.prog.funcNamed "gazette/gazettelaw03.EventPrints" = some f) (hfn : Tryz.pinned.checked.prog.funcs[f]? = some fn) :
    true = Tryz.pinned.checked.prog.looks [] ∧ ∀ (j : Nat) t, fn.params[j]? = some t → Tryz.pinned.checked.prog.wantsStandIn t = false := by
  obtain rfl : f = 4 := Option.some.inj ((show Tryz.prog.funcNamed "gazette/gazettelaw03.EventPrints" = some 4 by kernel_rfl).symm.trans hf) |>.symm
  obtain rfl : fn = Tryz.f4 := (Option.some.inj (Tryz.func4.symm.trans hfn)).symm
  refine ⟨by kernel_rfl, fun j t ht => ?_⟩
  rw [Tryz.params4] at ht
  have hm : t ∈ [35, 35, 9] := by simpa using Array.mem_of_getElem? ht
  have hall : ([35, 35, 9].all fun u => !Tryz.prog.wantsStandIn u) = true := by kernel_rfl
  exact (show Tryz.prog.wantsStandIn t = false by simpa using List.all_eq_true.1 hall t hm)
theorem eprints_holds : Rows.EventPrintsCardSaid :=
  Claim7.holds_tied_plain_at .later [] _ _ _ _ eprints_said (fun _ h => by cases h) (by kernel_rfl) (fun _ h => by cases h) eventPrints_row_tie rfl ⟨rfl, rfl⟩ (by kernel_rfl) rfl eprints_plain (by kernel_rfl)
end Go.Proofs.YthdihhkadaafcaaGreatDoor.Val
