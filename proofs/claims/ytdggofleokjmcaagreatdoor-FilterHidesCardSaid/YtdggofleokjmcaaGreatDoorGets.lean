/- THE WALK OF the law EventGets. -/
import Derived.Test.YtdggofleokjmcaaGreatDoorNewOk
namespace Go.Proofs.YtdggofleokjmcaaGreatDoor.Val
open Go.RowKit Flt
attribute [local go_sem] run_store_flt
theorem keep_none {t : List UInt8} {l : List A} (h : getL l t = none) (hr : Rising l) : keepB [⟨t.toArray⟩] l = l := by
  unfold keepB
  rw [List.filter_eq_self]
  intro a ha
  have hne : a.name ≠ t := fun e => by
    have := getL_mem hr ha
    rw [e, h] at this; cases this
  rw [Bool.not_eq_true', Bool.eq_false_iff]
  intro hc
  have := (Lib.containsS_iff _ _).1 hc
  simp at this
  exact hne this
theorem one_name (w : World) (t : List UInt8) (e : TypeId) (b : Nat) (hb : b = w.heap.size) : Names (w.alloc (.cells #[.string ⟨t.toArray⟩] e)) b 0 [⟨t.toArray⟩] := by
  subst hb
  intro j hj
  have : j = 0 := by simpa using hj
  subst this
  exact World.cell?_alloc_at _ _ _ _ rfl
theorem evS_below {be bv : Nat} {v0 v1 v2 v3 v4 x0 x1 : Value} {b0 : Option Addr} {nb : List A} {w w1 w2 : World} (hb : Below w1.heap.size w1 w2) (h : (fun w' => w'.cell? ⟨bv, 0, none⟩ = some v0 ∧ w'.cell? ⟨bv, 1, none⟩ = some v1 ∧ w'.cell? ⟨bv, 2, none⟩ = some v2 ∧ w'.cell? ⟨bv, 3, none⟩ = some v3 ∧ w'.cell? ⟨bv, 4, none⟩ = some v4 ∧ w'.cell? ⟨be, 0, none⟩ = some x0 ∧ w'.cell? ⟨be, 1, none⟩ = some x1 ∧ Attrs w' b0 nb ∧ Below w.heap.size w w' ∧ bv < w'.heap.size ∧ be < w'.heap.size) w1) : (fun w' => w'.cell? ⟨bv, 0, none⟩ = some v0 ∧ w'.cell? ⟨bv, 1, none⟩ = some v1 ∧ w'.cell? ⟨bv, 2, none⟩ = some v2 ∧ w'.cell? ⟨bv, 3, none⟩ = some v3 ∧ w'.cell? ⟨bv, 4, none⟩ = some v4 ∧ w'.cell? ⟨be, 0, none⟩ = some x0 ∧ w'.cell? ⟨be, 1, none⟩ = some x1 ∧ Attrs w' b0 nb ∧ Below w.heap.size w w' ∧ bv < w'.heap.size ∧ be < w'.heap.size) w2 := by
  obtain ⟨h0, h1, h2, h3, h4, h5, h6, ha, hB, hl1, hl2⟩ := h
  have c : ∀ o, w2.cell? ⟨bv, o, none⟩ = w1.cell? ⟨bv, o, none⟩ := fun o => hb.cell (p := ⟨bv, o, none⟩) hl1
  have d : ∀ o, w2.cell? ⟨be, o, none⟩ = w1.cell? ⟨be, o, none⟩ := fun o => hb.cell (p := ⟨be, o, none⟩) hl2
  exact ⟨by rw [c]; exact h0, by rw [c]; exact h1, by rw [c]; exact h2, by rw [c]; exact h3, by rw [c]; exact h4, by rw [d]; exact h5, by rw [d]; exact h6, ha.below hb, btrans hB hb, Nat.lt_of_lt_of_le hl1 hb.size, Nat.lt_of_lt_of_le hl2 hb.size⟩
theorem evS_own {be bv : Nat} {v0 v1 v2 v3 v4 x0 x1 : Value} {b0 : Option Addr} {nb : List A} {w w1 : World} (h : (fun w' => w'.cell? ⟨bv, 0, none⟩ = some v0 ∧ w'.cell? ⟨bv, 1, none⟩ = some v1 ∧ w'.cell? ⟨bv, 2, none⟩ = some v2 ∧ w'.cell? ⟨bv, 3, none⟩ = some v3 ∧ w'.cell? ⟨bv, 4, none⟩ = some v4 ∧ w'.cell? ⟨be, 0, none⟩ = some x0 ∧ w'.cell? ⟨be, 1, none⟩ = some x1 ∧ Attrs w' b0 nb ∧ Below w.heap.size w w' ∧ bv < w'.heap.size ∧ be < w'.heap.size) w1) : Below w.heap.size w w1 := h.2.2.2.2.2.2.2.2.1
theorem evS_attrs {be bv : Nat} {v0 v1 v2 v3 v4 x0 x1 : Value} {b0 : Option Addr} {nb : List A} {w w1 : World} (h : (fun w' => w'.cell? ⟨bv, 0, none⟩ = some v0 ∧ w'.cell? ⟨bv, 1, none⟩ = some v1 ∧ w'.cell? ⟨bv, 2, none⟩ = some v2 ∧ w'.cell? ⟨bv, 3, none⟩ = some v3 ∧ w'.cell? ⟨bv, 4, none⟩ = some v4 ∧ w'.cell? ⟨be, 0, none⟩ = some x0 ∧ w'.cell? ⟨be, 1, none⟩ = some x1 ∧ Attrs w' b0 nb ∧ Below w.heap.size w w' ∧ bv < w'.heap.size ∧ be < w'.heap.size) w1) : Attrs w1 b0 nb := h.2.2.2.2.2.2.2.1
theorem evT_below {bv : Nat} {pa : Addr} {v0 v1 v2 v3 v4 x0 x1 x2 x3 x4 : Value} {w w1 w2 : World} (hb : Below w1.heap.size w1 w2) (h : (fun w' => w'.cell? ⟨bv, 0, none⟩ = some v0 ∧ w'.cell? ⟨bv, 1, none⟩ = some v1 ∧ w'.cell? ⟨bv, 2, none⟩ = some v2 ∧ w'.cell? ⟨bv, 3, none⟩ = some v3 ∧ w'.cell? ⟨bv, 4, none⟩ = some v4 ∧ w'.cell? ⟨pa.block, pa.off + 1, none⟩ = some x0 ∧ w'.cell? ⟨pa.block, pa.off + 2, none⟩ = some x1 ∧ w'.cell? ⟨pa.block, pa.off + 3, none⟩ = some x2 ∧ w'.cell? ⟨pa.block, pa.off + 4, none⟩ = some x3 ∧ w'.cell? ⟨pa.block, pa.off + 5, none⟩ = some x4 ∧ Below w.heap.size w w' ∧ bv < w'.heap.size ∧ pa.block < w'.heap.size) w1) : (fun w' => w'.cell? ⟨bv, 0, none⟩ = some v0 ∧ w'.cell? ⟨bv, 1, none⟩ = some v1 ∧ w'.cell? ⟨bv, 2, none⟩ = some v2 ∧ w'.cell? ⟨bv, 3, none⟩ = some v3 ∧ w'.cell? ⟨bv, 4, none⟩ = some v4 ∧ w'.cell? ⟨pa.block, pa.off + 1, none⟩ = some x0 ∧ w'.cell? ⟨pa.block, pa.off + 2, none⟩ = some x1 ∧ w'.cell? ⟨pa.block, pa.off + 3, none⟩ = some x2 ∧ w'.cell? ⟨pa.block, pa.off + 4, none⟩ = some x3 ∧ w'.cell? ⟨pa.block, pa.off + 5, none⟩ = some x4 ∧ Below w.heap.size w w' ∧ bv < w'.heap.size ∧ pa.block < w'.heap.size) w2 := by
  obtain ⟨h0, h1, h2, h3, h4, y0, y1, y2, y3, y4, hB, hl1, hl2⟩ := h
  have c : ∀ o, w2.cell? ⟨bv, o, none⟩ = w1.cell? ⟨bv, o, none⟩ := fun o => hb.cell (p := ⟨bv, o, none⟩) hl1
  have d : ∀ o, w2.cell? ⟨pa.block, o, none⟩ = w1.cell? ⟨pa.block, o, none⟩ := fun o => hb.cell (p := ⟨pa.block, o, none⟩) hl2
  exact ⟨by rw [c]; exact h0, by rw [c]; exact h1, by rw [c]; exact h2, by rw [c]; exact h3, by rw [c]; exact h4, by rw [d]; exact y0, by rw [d]; exact y1, by rw [d]; exact y2, by rw [d]; exact y3, by rw [d]; exact y4, btrans hB hb, Nat.lt_of_lt_of_le hl1 hb.size, Nat.lt_of_lt_of_le hl2 hb.size⟩
theorem evT_own {bv : Nat} {pa : Addr} {v0 v1 v2 v3 v4 x0 x1 x2 x3 x4 : Value} {w w1 : World} (h : (fun w' => w'.cell? ⟨bv, 0, none⟩ = some v0 ∧ w'.cell? ⟨bv, 1, none⟩ = some v1 ∧ w'.cell? ⟨bv, 2, none⟩ = some v2 ∧ w'.cell? ⟨bv, 3, none⟩ = some v3 ∧ w'.cell? ⟨bv, 4, none⟩ = some v4 ∧ w'.cell? ⟨pa.block, pa.off + 1, none⟩ = some x0 ∧ w'.cell? ⟨pa.block, pa.off + 2, none⟩ = some x1 ∧ w'.cell? ⟨pa.block, pa.off + 3, none⟩ = some x2 ∧ w'.cell? ⟨pa.block, pa.off + 4, none⟩ = some x3 ∧ w'.cell? ⟨pa.block, pa.off + 5, none⟩ = some x4 ∧ Below w.heap.size w w' ∧ bv < w'.heap.size ∧ pa.block < w'.heap.size) w1) : Below w.heap.size w w1 := h.2.2.2.2.2.2.2.2.2.2.1
theorem sameB_self (v : V) : sameB v v = true := by unfold sameB; simp [Ord.same]
theorem same_zero (w : World) : Calls Tryz.prog 22 #[val 0 0 0 [] false, val 0 0 0 [] false] w fun e w' => e = .returned (.bool true) ∧ Below w.heap.size w w' :=
  (same_any 0 0 0 [] false 0 0 0 [] false w (by decide) (by decide)).mono fun _ _ h => h
set_option maxRecDepth 20000 in
set_option maxHeartbeats 1000000 in
theorem gets_any (a0 : Option Addr) (cap : Nat) (l : List A) (t : List UInt8) (w : World) (hl : Attrs w a0 l) (hok : ∀ x ∈ l, Open.AOk x) (hm : l.length ≤ maxLen) (ht : t.length ≤ 140737488351232) :
    Calls Tryz.prog 9 #[.slice a0 l.length cap, .string ⟨t.toArray⟩] w fun e w' => e = .returned (.bool true) ∧ Below w.heap.size w w' := by
  have hli (w : World) (h : Attrs w a0 l) := light03_any a0 cap l w h hok hm
  have hnum := newB_num hok
  have HL := Lib.hid hl; have HLI := Lib.hid hli; have HNUM := Lib.hid hnum; have HM := Lib.hid hm
  clear hl hli hnum
  cases hlb : lightB l
  · rw [hlb] at HLI
    clear hlb hm hok HNUM HM
    go_enter Tryz.func9, Tryz.ntmps9
    go_wp2_with (first | (go_at_call 15; refine (fit03_any _).mono ?_; rintro e w1 ⟨rfl, hb1⟩) | (go_at_call 16; refine (HLI.out _ (HL.out.below (by repeat (first | assumption | (with_reducible exact Below.refl _ _) | exact balloc _ _ | exact balloc2 _ _ _ | refine btrans ?_ (by assumption) | refine btrans ?_ (balloc _ _))))).mono ?_; rintro e w2 ⟨rfl, hb2⟩))
    go_ret
    exact ⟨rfl, by repeat (first | assumption | (with_reducible exact Below.refl _ _) | exact balloc _ _ | exact balloc2 _ _ _ | refine btrans ?_ (by assumption) | refine btrans ?_ (balloc _ _))⟩
  rw [hlb] at HLI
  have hl30 : l.length ≤ 30 := by
    unfold lightB at hlb
    simp at hlb
    exact hlb.2
  clear hlb hm
  by_cases h100 : t.length ≤ 100
  rotate_left
  · have d1 : decide (100 < (t.length : Int)) = true := by rw [decide_eq_true_iff]; omega
    clear hok HNUM HM h100
    go_enter Tryz.func9, Tryz.ntmps9
    go_wp2_with (first | (go_at_call 15; refine (fit03_any _).mono ?_; rintro e w1 ⟨rfl, hb1⟩) | (go_at_call 16; refine (HLI.out _ (HL.out.below (by repeat (first | assumption | (with_reducible exact Below.refl _ _) | exact balloc _ _ | exact balloc2 _ _ _ | refine btrans ?_ (by assumption) | refine btrans ?_ (balloc _ _))))).mono ?_; rintro e w2 ⟨rfl, hb2⟩))
    go_ret
    exact ⟨rfl, by repeat (first | assumption | (with_reducible exact Below.refl _ _) | exact balloc _ _ | exact balloc2 _ _ _ | refine btrans ?_ (by assumption) | refine btrans ?_ (balloc _ _))⟩
  have d1 : decide (100 < (t.length : Int)) = false := by rw [decide_eq_false_iff_not]; omega
  have hnew (w : World) (h : Attrs w a0 l) := new_any [] a0 cap l w h (by omega)
  have hnl := newB_len l
  have hgn := get_new l t
  have HNEW := Lib.hid hnew; have HGN := Lib.hid hgn; have HOK := Lib.hid hok
  clear hnew hgn hok ht h100
  go_enter Tryz.func9, Tryz.ntmps9
  go_wp2_with (first | (go_at_call 15; refine (fit03_any _).mono ?_; rintro e w1 ⟨rfl, hb1⟩) | (go_at_call 16; refine (HLI.out _ (HL.out.below (by repeat (first | assumption | (with_reducible exact Below.refl _ _) | exact balloc _ _ | exact balloc2 _ _ _ | refine btrans ?_ (by assumption) | refine btrans ?_ (balloc _ _))))).mono ?_; rintro e w2 ⟨rfl, hb2⟩))
  refine (HNEW.out _ (HL.out.below (by repeat (first | assumption | (with_reducible exact Below.refl _ _) | exact balloc _ _ | exact balloc2 _ _ _ | refine btrans ?_ (by assumption) | refine btrans ?_ (balloc _ _))))).mono ?_
  rintro e w3 ⟨b0, cp, rfl, hat3, _, hb3⟩
  have hbr3 : Below w.heap.size w w3 := by repeat (first | assumption | (with_reducible exact Below.refl _ _) | exact balloc _ _ | exact balloc2 _ _ _ | refine btrans ?_ (by assumption) | refine btrans ?_ (balloc _ _))
  have HB3 := Lib.hid hbr3; have HAT3 := Lib.hid hat3
  clear hb1 hb2 hb3 hbr3 hat3 HNEW
  generalize hnb : newB l = nb at *
  have HNB := Lib.hid hnb; clear hnb
  go_wp2_with fail
  refine (get_any [] b0 cp nb t _ (HAT3.out.below (balloc _ _)) (by omega)).mono ?_
  rintro e w4 ⟨rfl, hb4⟩
  obtain ⟨hc4, hf4⟩ := bcell hb4
  have o0 := (hc4 w3.heap.size 0 (by simp)).trans (World.cell?_alloc_at _ _ _ _ rfl)
  have o1 := (hc4 w3.heap.size 1 (by simp)).trans (World.cell?_alloc_at _ _ _ _ rfl)
  have hs4 : w3.heap.size < w4.heap.size := size1 hb4
  have hbr4 : Below w.heap.size w w4 := btrans (btrans HB3.out (balloc _ _)) hb4
  have hal4 : Attrs w4 b0 nb := (HAT3.out.below (balloc _ _)).below hb4
  have HB4 := Lib.hid hbr4; have HAL4 := Lib.hid hal4
  clear hc4 hf4 hb4 hbr4 hal4 HAT3 HB3
  have hgv : foundB nb t = false → (if foundB nb t then (nb[bs nb t 0 nb.length]!).val else ⟨0, 0, 0, [], false⟩) = ⟨0, 0, 0, [], false⟩ := fun h => by rw [h]; rfl
  have hgv2 : foundB nb t = true → lastV l t = some (if foundB nb t then (nb[bs nb t 0 nb.length]!).val else ⟨0, 0, 0, [], false⟩) := fun h => by rw [← HGN.out, h]; rfl
  have hgv3 : foundB nb t = false → lastV l t = none := fun h => by rw [← HGN.out, h]; rfl
  have hnv : (if foundB nb t then (nb[bs nb t 0 nb.length]!).val else (⟨0, 0, 0, [], false⟩ : V)).num < 18446744073709551616 := by
    split
    · rename_i hf
      obtain ⟨hR, _⟩ := found_at hf
      rw [getElem!_pos nb _ hR]
      exact HNUM.out _ (List.getElem_mem hR)
    · decide
  generalize (if foundB nb t then (nb[bs nb t 0 nb.length]!).val else (⟨0, 0, 0, [], false⟩ : V)) = gv at *
  generalize foundB nb t = F at *
  have HGV := Lib.hid hgv; have HGV2 := Lib.hid hgv2; have HGV3 := Lib.hid hgv3; have HNV := Lib.hid hnv
  clear hgv hgv2 hgv3 hnv HGN
  obtain ⟨gk, gi, gx, gt, gy⟩ := gv
  go_wp2_with fail
  -- the world at the loop's head
  have e0 : (w4.alloc (.cells #[.int .i64 gk, .int .i64 gi, .float .f64 gx, .string ⟨gt.toArray⟩, .bool gy] 30)).cell? ⟨w3.heap.size, 0, none⟩ = some (.string ⟨#[]⟩) := (World.cell?_alloc_past _ _ _ hs4).trans o0
  have e1 : (w4.alloc (.cells #[.int .i64 gk, .int .i64 gi, .float .f64 gx, .string ⟨gt.toArray⟩, .bool gy] 30)).cell? ⟨w3.heap.size, 1, none⟩ = some (.slice b0 nb.length cp) := (World.cell?_alloc_past _ _ _ hs4).trans o1
  have g0 : ∀ o, (w4.alloc (.cells #[.int .i64 gk, .int .i64 gi, .float .f64 gx, .string ⟨gt.toArray⟩, .bool gy] 30)).cell? ⟨w4.heap.size, o, none⟩ = #[.int .i64 gk, .int .i64 gi, .float .f64 gx, .string ⟨gt.toArray⟩, .bool gy][o]? := fun o => World.cell?_alloc_at _ _ _ _ rfl
  have g00 := g0 0; have g01 := g0 1; have g02 := g0 2; have g03 := g0 3; have g04 := g0 4
  have hbr5 := btrans HB4.out (balloc w4 (.cells #[.int .i64 gk, .int .i64 gi, .float .f64 gx, .string ⟨gt.toArray⟩, .bool gy] 30))
  have hal5 := HAL4.out.below (balloc w4 (.cells #[.int .i64 gk, .int .i64 gi, .float .f64 gx, .string ⟨gt.toArray⟩, .bool gy] 30))
  have hs5 : w4.heap.size < (w4.alloc (.cells #[.int .i64 gk, .int .i64 gi, .float .f64 gx, .string ⟨gt.toArray⟩, .bool gy] 30)).heap.size := by simp
  generalize w4.alloc _ = W at *
  generalize hbv : w4.heap.size = bv at *
  generalize w3.heap.size = be at *
  have HB := Lib.hid hbr5; have HAL := Lib.hid hal5
  clear o0 o1 g0 hbr5 hal5 HB4 HAL4 hbv
  go_loop [8] (fun vi => ∃ k : Nat, k ≤ l.length ∧ vi = .int .i64 ((k : Int) - 1) ∧ Hid (∀ j (h : j < l.length), k ≤ j → l[j].name ≠ t)) (fun vi => (intOf vi + 1).toNat)
  case atStart => exact ⟨l.length, Nat.le_refl _, rfl, Lib.hid fun j h hj => absurd h (by omega)⟩
  case round =>
    obtain ⟨k, hk, rfl, HK⟩ := hrel
    cases k with
    | zero =>
      have hlast := last_no HK.out
      have hF : F = false := by
        cases F
        · rfl
        · have := HGV2.out rfl; rw [hlast] at this; cases this
      subst hF
      have hgz := HGV.out rfl
      injection hgz with z1 z2 z3 z4 z5
      subst z1; subst z2; subst z3; subst z4; subst z5
      have hst : (fun w' => w'.cell? ⟨bv, 0, none⟩ = some (.int .i64 0) ∧ w'.cell? ⟨bv, 1, none⟩ = some (.int .i64 0) ∧ w'.cell? ⟨bv, 2, none⟩ = some (.float .f64 0) ∧ w'.cell? ⟨bv, 3, none⟩ = some (.string ⟨#[]⟩) ∧ w'.cell? ⟨bv, 4, none⟩ = some (.bool false) ∧ w'.cell? ⟨be, 0, none⟩ = some (.string ⟨#[]⟩) ∧ w'.cell? ⟨be, 1, none⟩ = some (.slice b0 nb.length cp) ∧ Attrs w' b0 nb ∧ Below w.heap.size w w' ∧ bv < w'.heap.size ∧ be < w'.heap.size) W := ⟨g00, g01, g02, g03, g04, e0, e1, HAL.out, HB.out, hs5, by omega⟩
      have hkb : keepB [⟨t.toArray⟩] nb = nb := keep_none (by rw [← HNB.out, newB_get]; exact hlast) (by rw [← HNB.out]; exact newB_rising _)
      have hwi (w : World) (b : Nat) (h : Attrs w b0 nb) (hz : Names w b 0 [⟨t.toArray⟩]) := without_any [] b0 cp nb b 0 1 [⟨t.toArray⟩] w h (by omega) hz (by simp)
      rw [hkb] at hwi
      have hes (w : World) (b1 : Option Addr) (cp1 : Nat) (h1 : Attrs w b1 nb) (h2 : Attrs w b0 nb) := esame_any [] [] b1 b0 cp1 cp nb nb w h1 h2 (by omega) (by omega) HNUM.out HNUM.out
      rw [sameL_self] at hes
      have HST := Lib.hid hst; have HWI := Lib.hid hwi; have HES := Lib.hid hes
      clear HK hlast HGV HGV2 HGV3 HNV hst hwi hes hkb g00 g01 g02 g03 g04 e0 e1
      go_wp2_with fail
      refine wp_region_held_drew (S := (fun w' => w'.cell? ⟨bv, 0, none⟩ = some (.int .i64 0) ∧ w'.cell? ⟨bv, 1, none⟩ = some (.int .i64 0) ∧ w'.cell? ⟨bv, 2, none⟩ = some (.float .f64 0) ∧ w'.cell? ⟨bv, 3, none⟩ = some (.string ⟨#[]⟩) ∧ w'.cell? ⟨bv, 4, none⟩ = some (.bool false) ∧ w'.cell? ⟨be, 0, none⟩ = some (.string ⟨#[]⟩) ∧ w'.cell? ⟨be, 1, none⟩ = some (.slice b0 nb.length cp) ∧ Attrs w' b0 nb ∧ Below w.heap.size w w' ∧ bv < w'.heap.size ∧ be < w'.heap.size)) (by kernel_rfl) ?_ (fun hq0 => ?_)
      · ((try dsimp only); (first | exact evS_below (bdrewN (Below.refl _ _) 1) HST.out | assumption | exact evS_below (by assumption) (by assumption) | exact evS_below (balloc _ _) (by assumption)))
      first | (refine wpAnyH_take (i := 0) (oi := ?_) (v := ?_) ?_ (by kernel_rfl) (by kernel_rfl) (by kernel_rfl) ?_ (Or.inl ⟨?_, ?_⟩) (by assumption) ?_; rotate_left 2; (· (simp only [List.getElem?_toArray, List.getElem?_cons_zero]; first | done | rfl)); (· exact (fun _ _ _ h => h)); (· rfl); (· (intro w hSw; (try dsimp only at hSw); go_simp; (try with_reducible rfl)))) | (refine wpAnyH_take (i := 0) (oi := ?_) (v := ?_) ?_ (by kernel_rfl) (by kernel_rfl) (by kernel_rfl) ?_ (Or.inr ⟨?_, ?_⟩) (by assumption) ?_; rotate_left 2; (· (simp only [List.getElem?_toArray, List.getElem?_cons_zero]; first | done | rfl)); (· exact (fun _ _ _ h => h)); (· rfl); (· rfl)) | fail
      (try simp only [Act.put, List.setIfInBounds_toArray, List.set_cons_zero, List.set_cons_succ])
      first | (refine wpAnyH_take (i := 1) (oi := ?_) (v := ?_) ?_ (by kernel_rfl) (by kernel_rfl) (by kernel_rfl) ?_ (Or.inl ⟨?_, ?_⟩) (by assumption) ?_; rotate_left 2; (· (simp only [List.getElem?_toArray, List.getElem?_cons_succ, List.getElem?_cons_zero]; first | done | rfl)); (· exact (fun _ _ _ h => h)); (· rfl); (· (intro w hSw; (try dsimp only at hSw); go_simp; (try with_reducible rfl)))) | (refine wpAnyH_take (i := 1) (oi := ?_) (v := ?_) ?_ (by kernel_rfl) (by kernel_rfl) (by kernel_rfl) ?_ (Or.inr ⟨?_, ?_⟩) (by assumption) ?_; rotate_left 2; (· (simp only [List.getElem?_toArray, List.getElem?_cons_succ, List.getElem?_cons_zero]; first | done | rfl)); (· exact (fun _ _ _ h => h)); (· rfl); (· rfl)) | fail
      (try simp only [Act.put, List.setIfInBounds_toArray, List.set_cons_zero, List.set_cons_succ])
      first | (refine wpAnyH_take (i := 2) (oi := ?_) (v := ?_) ?_ (by kernel_rfl) (by kernel_rfl) (by kernel_rfl) ?_ (Or.inl ⟨?_, ?_⟩) (by assumption) ?_; rotate_left 2; (· (simp only [List.getElem?_toArray, List.getElem?_cons_succ, List.getElem?_cons_zero]; first | done | rfl)); (· exact (fun _ _ _ h => h)); (· rfl); (· (intro w hSw; (try dsimp only at hSw); go_simp; (try with_reducible rfl)))) | (refine wpAnyH_take (i := 2) (oi := ?_) (v := ?_) ?_ (by kernel_rfl) (by kernel_rfl) (by kernel_rfl) ?_ (Or.inr ⟨?_, ?_⟩) (by assumption) ?_; rotate_left 2; (· (simp only [List.getElem?_toArray, List.getElem?_cons_succ, List.getElem?_cons_zero]; first | done | rfl)); (· exact (fun _ _ _ h => h)); (· rfl); (· rfl)) | fail
      (try simp only [Act.put, List.setIfInBounds_toArray, List.set_cons_zero, List.set_cons_succ])
      first | (refine wpAnyH_take (i := 3) (oi := ?_) (v := ?_) ?_ (by kernel_rfl) (by kernel_rfl) (by kernel_rfl) ?_ (Or.inl ⟨?_, ?_⟩) (by assumption) ?_; rotate_left 2; (· (simp only [List.getElem?_toArray, List.getElem?_cons_succ, List.getElem?_cons_zero]; first | done | rfl)); (· exact (fun _ _ _ h => h)); (· rfl); (· (intro w hSw; (try dsimp only at hSw); go_simp; (try with_reducible rfl)))) | (refine wpAnyH_take (i := 3) (oi := ?_) (v := ?_) ?_ (by kernel_rfl) (by kernel_rfl) (by kernel_rfl) ?_ (Or.inr ⟨?_, ?_⟩) (by assumption) ?_; rotate_left 2; (· (simp only [List.getElem?_toArray, List.getElem?_cons_succ, List.getElem?_cons_zero]; first | done | rfl)); (· exact (fun _ _ _ h => h)); (· rfl); (· rfl)) | fail
      (try simp only [Act.put, List.setIfInBounds_toArray, List.set_cons_zero, List.set_cons_succ])
      first | (refine wpAnyH_take (i := 4) (oi := ?_) (v := ?_) ?_ (by kernel_rfl) (by kernel_rfl) (by kernel_rfl) ?_ (Or.inl ⟨?_, ?_⟩) (by assumption) ?_; rotate_left 2; (· (simp only [List.getElem?_toArray, List.getElem?_cons_succ, List.getElem?_cons_zero]; first | done | rfl)); (· exact (fun _ _ _ h => h)); (· rfl); (· (intro w hSw; (try dsimp only at hSw); go_simp; (try with_reducible rfl)))) | (refine wpAnyH_take (i := 4) (oi := ?_) (v := ?_) ?_ (by kernel_rfl) (by kernel_rfl) (by kernel_rfl) ?_ (Or.inr ⟨?_, ?_⟩) (by assumption) ?_; rotate_left 2; (· (simp only [List.getElem?_toArray, List.getElem?_cons_succ, List.getElem?_cons_zero]; first | done | rfl)); (· exact (fun _ _ _ h => h)); (· rfl); (· rfl)) | fail
      (try simp only [Act.put, List.setIfInBounds_toArray, List.set_cons_zero, List.set_cons_succ])
      refine wpAnyH_ready (rs := [5]) (by kernel_rfl) (by simp) ?_
      refine AllReadyH.cons (o := ?_) ?_ (fun K hK => ?_) AllReadyH.nil
      rotate_left 1
      · (simp only [List.getElem?_toArray, List.getElem?_cons_succ, List.getElem?_cons_zero]; first | done | rfl)
      go_simp
      first | (refine hK.out _ _ ?_ (fun hq1 => ?_)) | ((first | (go_at_call 22; refine (same_zero _).mono ?_; rintro e w5 ⟨rfl, hb5⟩) | (go_at_call 25; refine (HWI.out _ _ (evS_attrs (by assumption)) (one_name _ _ _ _ (by simp))).mono ?_; rintro e w6 ⟨b1, cp1, rfl, hat6, _, hb6⟩) | (go_at_call 21; refine (HES.out _ _ _ hat6 (evS_attrs (by assumption))).mono ?_; rintro e w7 ⟨rfl, hb7⟩)); refine hK.out _ _ ?_ (fun hq1 => ?_)) | ((first | (go_at_call 22; refine (same_zero _).mono ?_; rintro e w5 ⟨rfl, hb5⟩) | (go_at_call 25; refine (HWI.out _ _ (evS_attrs (by assumption)) (one_name _ _ _ _ (by simp))).mono ?_; rintro e w6 ⟨b1, cp1, rfl, hat6, _, hb6⟩) | (go_at_call 21; refine (HES.out _ _ _ hat6 (evS_attrs (by assumption))).mono ?_; rintro e w7 ⟨rfl, hb7⟩)); go_wp2_with fail; refine hK.out _ _ ?_ (fun hq1 => ?_)) | fail
      · ((try dsimp only); (first | exact evS_below (bdrewN (Below.refl _ _) 1) HST.out | assumption | exact evS_below (by assumption) (by assumption) | exact evS_below (balloc _ _) (by assumption)))
      clear hK K
      (try simp only [Act.put, List.setIfInBounds_toArray, List.set_cons_zero, List.set_cons_succ])
      clear hq0
      first | (refine wpAnyH_take (i := 6) (oi := ?_) (v := ?_) ?_ (by kernel_rfl) (by kernel_rfl) (by kernel_rfl) ?_ (Or.inl ⟨?_, ?_⟩) (by assumption) ?_; rotate_left 2; (· (simp only [List.getElem?_toArray, List.getElem?_cons_succ, List.getElem?_cons_zero]; first | done | rfl)); (· exact (fun _ _ _ h => h)); (· rfl); (· (intro w hSw; (try dsimp only at hSw); go_simp; (try with_reducible rfl)))) | (refine wpAnyH_take (i := 6) (oi := ?_) (v := ?_) ?_ (by kernel_rfl) (by kernel_rfl) (by kernel_rfl) ?_ (Or.inr ⟨?_, ?_⟩) (by assumption) ?_; rotate_left 2; (· (simp only [List.getElem?_toArray, List.getElem?_cons_succ, List.getElem?_cons_zero]; first | done | rfl)); (· exact (fun _ _ _ h => h)); (· rfl); (· rfl)) | fail
      (try simp only [Act.put, List.setIfInBounds_toArray, List.set_cons_zero, List.set_cons_succ])
      first | (refine wpAnyH_take (i := 7) (oi := ?_) (v := ?_) ?_ (by kernel_rfl) (by kernel_rfl) (by kernel_rfl) ?_ (Or.inl ⟨?_, ?_⟩) (by assumption) ?_; rotate_left 2; (· (simp only [List.getElem?_toArray, List.getElem?_cons_succ, List.getElem?_cons_zero]; first | done | rfl)); (· exact (fun _ _ _ h => h)); (· rfl); (· (intro w hSw; (try dsimp only at hSw); go_simp; (try with_reducible rfl)))) | (refine wpAnyH_take (i := 7) (oi := ?_) (v := ?_) ?_ (by kernel_rfl) (by kernel_rfl) (by kernel_rfl) ?_ (Or.inr ⟨?_, ?_⟩) (by assumption) ?_; rotate_left 2; (· (simp only [List.getElem?_toArray, List.getElem?_cons_succ, List.getElem?_cons_zero]; first | done | rfl)); (· exact (fun _ _ _ h => h)); (· rfl); (· rfl)) | fail
      (try simp only [Act.put, List.setIfInBounds_toArray, List.set_cons_zero, List.set_cons_succ])
      first | (refine wpAnyH_take (i := 8) (oi := ?_) (v := ?_) ?_ (by kernel_rfl) (by kernel_rfl) (by kernel_rfl) ?_ (Or.inl ⟨?_, ?_⟩) (by assumption) ?_; rotate_left 2; (· (simp only [List.getElem?_toArray, List.getElem?_cons_succ, List.getElem?_cons_zero]; first | done | rfl)); (· exact (fun _ _ _ h => h)); (· rfl); (· (intro w hSw; (try dsimp only at hSw); go_simp; (try with_reducible rfl)))) | (refine wpAnyH_take (i := 8) (oi := ?_) (v := ?_) ?_ (by kernel_rfl) (by kernel_rfl) (by kernel_rfl) ?_ (Or.inr ⟨?_, ?_⟩) (by assumption) ?_; rotate_left 2; (· (simp only [List.getElem?_toArray, List.getElem?_cons_succ, List.getElem?_cons_zero]; first | done | rfl)); (· exact (fun _ _ _ h => h)); (· rfl); (· rfl)) | fail
      (try simp only [Act.put, List.setIfInBounds_toArray, List.set_cons_zero, List.set_cons_succ])
      first | (refine wpAnyH_take (i := 9) (oi := ?_) (v := ?_) ?_ (by kernel_rfl) (by kernel_rfl) (by kernel_rfl) ?_ (Or.inl ⟨?_, ?_⟩) (by assumption) ?_; rotate_left 2; (· (simp only [List.getElem?_toArray, List.getElem?_cons_succ, List.getElem?_cons_zero]; first | done | rfl)); (· exact (fun _ _ _ h => h)); (· rfl); (· (intro w hSw; (try dsimp only at hSw); go_simp; (try with_reducible rfl)))) | (refine wpAnyH_take (i := 9) (oi := ?_) (v := ?_) ?_ (by kernel_rfl) (by kernel_rfl) (by kernel_rfl) ?_ (Or.inr ⟨?_, ?_⟩) (by assumption) ?_; rotate_left 2; (· (simp only [List.getElem?_toArray, List.getElem?_cons_succ, List.getElem?_cons_zero]; first | done | rfl)); (· exact (fun _ _ _ h => h)); (· rfl); (· rfl)) | fail
      (try simp only [Act.put, List.setIfInBounds_toArray, List.set_cons_zero, List.set_cons_succ])
      first | (refine wpAnyH_take (i := 12) (oi := ?_) (v := ?_) ?_ (by kernel_rfl) (by kernel_rfl) (by kernel_rfl) ?_ (Or.inl ⟨?_, ?_⟩) (by assumption) ?_; rotate_left 2; (· (simp only [List.getElem?_toArray, List.getElem?_cons_succ, List.getElem?_cons_zero]; first | done | rfl)); (· exact (fun _ _ _ h => h)); (· rfl); (· (intro w hSw; (try dsimp only at hSw); go_simp; (try with_reducible rfl)))) | (refine wpAnyH_take (i := 12) (oi := ?_) (v := ?_) ?_ (by kernel_rfl) (by kernel_rfl) (by kernel_rfl) ?_ (Or.inr ⟨?_, ?_⟩) (by assumption) ?_; rotate_left 2; (· (simp only [List.getElem?_toArray, List.getElem?_cons_succ, List.getElem?_cons_zero]; first | done | rfl)); (· exact (fun _ _ _ h => h)); (· rfl); (· rfl)) | fail
      (try simp only [Act.put, List.setIfInBounds_toArray, List.set_cons_zero, List.set_cons_succ])
      refine wpAnyH_ready (rs := [10]) (by kernel_rfl) (by simp) ?_
      refine AllReadyH.cons (o := ?_) ?_ (fun K hK => ?_) AllReadyH.nil
      rotate_left 1
      · (simp only [List.getElem?_toArray, List.getElem?_cons_succ, List.getElem?_cons_zero]; first | done | rfl)
      go_simp
      first | (refine hK.out _ _ ?_ (fun hq2 => ?_)) | ((first | (go_at_call 22; refine (same_zero _).mono ?_; rintro e w5 ⟨rfl, hb5⟩) | (go_at_call 25; refine (HWI.out _ _ (evS_attrs (by assumption)) (one_name _ _ _ _ (by simp))).mono ?_; rintro e w6 ⟨b1, cp1, rfl, hat6, _, hb6⟩) | (go_at_call 21; refine (HES.out _ _ _ hat6 (evS_attrs (by assumption))).mono ?_; rintro e w7 ⟨rfl, hb7⟩)); refine hK.out _ _ ?_ (fun hq2 => ?_)) | ((first | (go_at_call 22; refine (same_zero _).mono ?_; rintro e w5 ⟨rfl, hb5⟩) | (go_at_call 25; refine (HWI.out _ _ (evS_attrs (by assumption)) (one_name _ _ _ _ (by simp))).mono ?_; rintro e w6 ⟨b1, cp1, rfl, hat6, _, hb6⟩) | (go_at_call 21; refine (HES.out _ _ _ hat6 (evS_attrs (by assumption))).mono ?_; rintro e w7 ⟨rfl, hb7⟩)); go_wp2_with fail; refine hK.out _ _ ?_ (fun hq2 => ?_)) | fail
      · ((try dsimp only); (first | exact evS_below (bdrewN (Below.refl _ _) 1) HST.out | assumption | exact evS_below (by assumption) (by assumption) | exact evS_below (balloc _ _) (by assumption)))
      clear hK K
      (try simp only [Act.put, List.setIfInBounds_toArray, List.set_cons_zero, List.set_cons_succ])
      clear hq1
      refine wpAnyH_ready (rs := [11]) (by kernel_rfl) (by simp) ?_
      refine AllReadyH.cons (o := ?_) ?_ (fun K hK => ?_) AllReadyH.nil
      rotate_left 1
      · (simp only [List.getElem?_toArray, List.getElem?_cons_succ, List.getElem?_cons_zero]; first | done | rfl)
      go_simp
      first | (refine hK.out _ _ ?_ (fun hq3 => ?_)) | ((first | (go_at_call 22; refine (same_zero _).mono ?_; rintro e w5 ⟨rfl, hb5⟩) | (go_at_call 25; refine (HWI.out _ _ (evS_attrs (by assumption)) (one_name _ _ _ _ (by simp))).mono ?_; rintro e w6 ⟨b1, cp1, rfl, hat6, _, hb6⟩) | (go_at_call 21; refine (HES.out _ _ _ hat6 (evS_attrs (by assumption))).mono ?_; rintro e w7 ⟨rfl, hb7⟩)); refine hK.out _ _ ?_ (fun hq3 => ?_)) | ((first | (go_at_call 22; refine (same_zero _).mono ?_; rintro e w5 ⟨rfl, hb5⟩) | (go_at_call 25; refine (HWI.out _ _ (evS_attrs (by assumption)) (one_name _ _ _ _ (by simp))).mono ?_; rintro e w6 ⟨b1, cp1, rfl, hat6, _, hb6⟩) | (go_at_call 21; refine (HES.out _ _ _ hat6 (evS_attrs (by assumption))).mono ?_; rintro e w7 ⟨rfl, hb7⟩)); go_wp2_with fail; refine hK.out _ _ ?_ (fun hq3 => ?_)) | fail
      · ((try dsimp only); (first | exact evS_below (bdrewN (Below.refl _ _) 1) HST.out | assumption | exact evS_below (by assumption) (by assumption) | exact evS_below (balloc _ _) (by assumption)))
      clear hK K
      (try simp only [Act.put, List.setIfInBounds_toArray, List.set_cons_zero, List.set_cons_succ])
      clear hq2
      refine wpAnyH_ready (rs := [13]) (by kernel_rfl) (by simp) ?_
      refine AllReadyH.cons (o := ?_) ?_ (fun K hK => ?_) AllReadyH.nil
      rotate_left 1
      · (simp only [List.getElem?_toArray, List.getElem?_cons_succ, List.getElem?_cons_zero]; first | done | rfl)
      go_simp
      first | (refine hK.out _ _ ?_ (fun hq4 => ?_)) | ((first | (go_at_call 22; refine (same_zero _).mono ?_; rintro e w5 ⟨rfl, hb5⟩) | (go_at_call 25; refine (HWI.out _ _ (evS_attrs (by assumption)) (one_name _ _ _ _ (by simp))).mono ?_; rintro e w6 ⟨b1, cp1, rfl, hat6, _, hb6⟩) | (go_at_call 21; refine (HES.out _ _ _ hat6 (evS_attrs (by assumption))).mono ?_; rintro e w7 ⟨rfl, hb7⟩)); refine hK.out _ _ ?_ (fun hq4 => ?_)) | ((first | (go_at_call 22; refine (same_zero _).mono ?_; rintro e w5 ⟨rfl, hb5⟩) | (go_at_call 25; refine (HWI.out _ _ (evS_attrs (by assumption)) (one_name _ _ _ _ (by simp))).mono ?_; rintro e w6 ⟨b1, cp1, rfl, hat6, _, hb6⟩) | (go_at_call 21; refine (HES.out _ _ _ hat6 (evS_attrs (by assumption))).mono ?_; rintro e w7 ⟨rfl, hb7⟩)); go_wp2_with fail; refine hK.out _ _ ?_ (fun hq4 => ?_)) | fail
      · ((try dsimp only); (first | exact evS_below (bdrewN (Below.refl _ _) 1) HST.out | assumption | exact evS_below (by assumption) (by assumption) | exact evS_below (balloc _ _) (by assumption)))
      clear hK K
      (try simp only [Act.put, List.setIfInBounds_toArray, List.set_cons_zero, List.set_cons_succ])
      clear hq3
      first | (refine wpAnyH_take (i := 14) (oi := ?_) (v := ?_) ?_ (by kernel_rfl) (by kernel_rfl) (by kernel_rfl) ?_ (Or.inl ⟨?_, ?_⟩) (by assumption) ?_; rotate_left 2; (· (simp only [List.getElem?_toArray, List.getElem?_cons_succ, List.getElem?_cons_zero]; first | done | rfl)); (· exact (fun _ _ _ h => h)); (· rfl); (· (intro w hSw; (try dsimp only at hSw); go_simp; (try with_reducible rfl)))) | (refine wpAnyH_take (i := 14) (oi := ?_) (v := ?_) ?_ (by kernel_rfl) (by kernel_rfl) (by kernel_rfl) ?_ (Or.inr ⟨?_, ?_⟩) (by assumption) ?_; rotate_left 2; (· (simp only [List.getElem?_toArray, List.getElem?_cons_succ, List.getElem?_cons_zero]; first | done | rfl)); (· exact (fun _ _ _ h => h)); (· rfl); (· rfl)) | fail
      (try simp only [Act.put, List.setIfInBounds_toArray, List.set_cons_zero, List.set_cons_succ])
      first | (refine wpAnyH_take (i := 15) (oi := ?_) (v := ?_) ?_ (by kernel_rfl) (by kernel_rfl) (by kernel_rfl) ?_ (Or.inl ⟨?_, ?_⟩) (by assumption) ?_; rotate_left 2; (· (simp only [List.getElem?_toArray, List.getElem?_cons_succ, List.getElem?_cons_zero]; first | done | rfl)); (· exact (fun _ _ _ h => h)); (· rfl); (· (intro w hSw; (try dsimp only at hSw); go_simp; (try with_reducible rfl)))) | (refine wpAnyH_take (i := 15) (oi := ?_) (v := ?_) ?_ (by kernel_rfl) (by kernel_rfl) (by kernel_rfl) ?_ (Or.inr ⟨?_, ?_⟩) (by assumption) ?_; rotate_left 2; (· (simp only [List.getElem?_toArray, List.getElem?_cons_succ, List.getElem?_cons_zero]; first | done | rfl)); (· exact (fun _ _ _ h => h)); (· rfl); (· rfl)) | fail
      (try simp only [Act.put, List.setIfInBounds_toArray, List.set_cons_zero, List.set_cons_succ])
      refine wpAnyH_done (by kernel_rfl) ?_ _
      go_wp2_with fail
      go_ret
      exact ⟨rfl, evS_own (by assumption)⟩
    | succ k =>
      have ek : ((k + 1 : Nat) : Int) - 1 = (k : Int) := by omega
      rw [ek]
      clear ek
      have hlt : k < l.length := by omega
      have i0 : (0 : Int) ≤ (k : Int) := by omega
      have i1 : (k : Int) < (l.length : Int) := by omega
      obtain ⟨a, rfl, v0, v1, v2, v3, v4, v5⟩ := (HL.out.below HB.out) k hlt
      cases hq : (l[k].name == t)
      · have hne : l[k].name ≠ t := by simpa using hq
        have HNE := Lib.hid hne; clear hne
        go_wp2_with fail
        exact ⟨⟨k, by omega, by go_num, Lib.hid fun j h hj => by
          by_cases e : j = k
          · subst e; exact HNE.out
          · exact HK.out j h (by omega)⟩, by simp [intOf]⟩
      · have hlast := last_at hlt (by simpa using hq) HK.out
        have hF : F = true := by
          cases F
          · have := HGV3.out rfl; rw [hlast] at this; cases this
          · rfl
        subst hF
        have hgl := (HGV2.out rfl).symm.trans hlast
        have hgl' : (⟨gk, gi, gx, gt, gy⟩ : V) = canonV l[k].val := Option.some.inj hgl
        have HGL := Lib.hid hgl'
        have hpb := World.block_lt_of_cell? _ _ v0
        have hlk : (⟨(l[k]).val.kind, (l[k]).val.int, (l[k]).val.num, (l[k]).val.text, (l[k]).val.yes⟩ : V) = l[k].val := rfl
        have hcn (w : World) := vcanon_any (l[k]).val.kind (l[k]).val.int (l[k]).val.num (l[k]).val.text (l[k]).val.yes w
        rw [hlk, ← hgl'] at hcn
        have hsm (w : World) := same_any gk gi gx gt gy gk gi gx gt gy w HNV.out HNV.out
        rw [sameB_self] at hsm
        have hst : (fun w' => w'.cell? ⟨bv, 0, none⟩ = some (.int .i64 gk) ∧ w'.cell? ⟨bv, 1, none⟩ = some (.int .i64 gi) ∧ w'.cell? ⟨bv, 2, none⟩ = some (.float .f64 gx) ∧ w'.cell? ⟨bv, 3, none⟩ = some (.string ⟨gt.toArray⟩) ∧ w'.cell? ⟨bv, 4, none⟩ = some (.bool gy) ∧ w'.cell? ⟨(a.add (k * 6)).block, (a.add (k * 6)).off + 1, none⟩ = some (.int .i64 l[k].val.kind) ∧ w'.cell? ⟨(a.add (k * 6)).block, (a.add (k * 6)).off + 2, none⟩ = some (.int .i64 l[k].val.int) ∧ w'.cell? ⟨(a.add (k * 6)).block, (a.add (k * 6)).off + 3, none⟩ = some (.float .f64 l[k].val.num) ∧ w'.cell? ⟨(a.add (k * 6)).block, (a.add (k * 6)).off + 4, none⟩ = some (.string ⟨l[k].val.text.toArray⟩) ∧ w'.cell? ⟨(a.add (k * 6)).block, (a.add (k * 6)).off + 5, none⟩ = some (.bool l[k].val.yes) ∧ Below w.heap.size w w' ∧ bv < w'.heap.size ∧ (a.add (k * 6)).block < w'.heap.size) W := ⟨g00, g01, g02, g03, g04, v1, v2, v3, v4, v5, HB.out, hs5, hpb⟩
        have HST := Lib.hid hst; have HCN := Lib.hid hcn; have HSM := Lib.hid hsm
        clear hgl hgl' hlast HK HGV HGV2 HGV3 hst hcn hsm hlk e0 e1
        go_wp2_with fail
        clear v0 v1 v2 v3 v4 v5 g00 g01 g02 g03 g04
        refine wp_region_held_drew (S := (fun w' => w'.cell? ⟨bv, 0, none⟩ = some (.int .i64 gk) ∧ w'.cell? ⟨bv, 1, none⟩ = some (.int .i64 gi) ∧ w'.cell? ⟨bv, 2, none⟩ = some (.float .f64 gx) ∧ w'.cell? ⟨bv, 3, none⟩ = some (.string ⟨gt.toArray⟩) ∧ w'.cell? ⟨bv, 4, none⟩ = some (.bool gy) ∧ w'.cell? ⟨(a.add (k * 6)).block, (a.add (k * 6)).off + 1, none⟩ = some (.int .i64 l[k].val.kind) ∧ w'.cell? ⟨(a.add (k * 6)).block, (a.add (k * 6)).off + 2, none⟩ = some (.int .i64 l[k].val.int) ∧ w'.cell? ⟨(a.add (k * 6)).block, (a.add (k * 6)).off + 3, none⟩ = some (.float .f64 l[k].val.num) ∧ w'.cell? ⟨(a.add (k * 6)).block, (a.add (k * 6)).off + 4, none⟩ = some (.string ⟨l[k].val.text.toArray⟩) ∧ w'.cell? ⟨(a.add (k * 6)).block, (a.add (k * 6)).off + 5, none⟩ = some (.bool l[k].val.yes) ∧ Below w.heap.size w w' ∧ bv < w'.heap.size ∧ (a.add (k * 6)).block < w'.heap.size)) (by kernel_rfl) ?_ (fun hq0 => ?_)
        · ((try dsimp only); (first | exact evT_below (bdrewN (Below.refl _ _) 1) HST.out | assumption | exact evT_below (by assumption) (by assumption)))
        first | (refine wpAnyH_take (i := 0) (oi := ?_) (v := ?_) ?_ (by kernel_rfl) (by kernel_rfl) (by kernel_rfl) ?_ (Or.inl ⟨?_, ?_⟩) (by assumption) ?_; rotate_left 2; (· (simp only [List.getElem?_toArray, List.getElem?_cons_zero]; first | done | rfl)); (· exact (fun _ _ _ h => h)); (· rfl); (· (intro w hSw; (try dsimp only at hSw); go_simp; (try with_reducible rfl)))) | (refine wpAnyH_take (i := 0) (oi := ?_) (v := ?_) ?_ (by kernel_rfl) (by kernel_rfl) (by kernel_rfl) ?_ (Or.inr ⟨?_, ?_⟩) (by assumption) ?_; rotate_left 2; (· (simp only [List.getElem?_toArray, List.getElem?_cons_zero]; first | done | rfl)); (· exact (fun _ _ _ h => h)); (· rfl); (· rfl)) | fail
        (try simp only [Act.put, List.setIfInBounds_toArray, List.set_cons_zero, List.set_cons_succ])
        first | (refine wpAnyH_take (i := 1) (oi := ?_) (v := ?_) ?_ (by kernel_rfl) (by kernel_rfl) (by kernel_rfl) ?_ (Or.inl ⟨?_, ?_⟩) (by assumption) ?_; rotate_left 2; (· (simp only [List.getElem?_toArray, List.getElem?_cons_succ, List.getElem?_cons_zero]; first | done | rfl)); (· exact (fun _ _ _ h => h)); (· rfl); (· (intro w hSw; (try dsimp only at hSw); go_simp; (try with_reducible rfl)))) | (refine wpAnyH_take (i := 1) (oi := ?_) (v := ?_) ?_ (by kernel_rfl) (by kernel_rfl) (by kernel_rfl) ?_ (Or.inr ⟨?_, ?_⟩) (by assumption) ?_; rotate_left 2; (· (simp only [List.getElem?_toArray, List.getElem?_cons_succ, List.getElem?_cons_zero]; first | done | rfl)); (· exact (fun _ _ _ h => h)); (· rfl); (· rfl)) | fail
        (try simp only [Act.put, List.setIfInBounds_toArray, List.set_cons_zero, List.set_cons_succ])
        first | (refine wpAnyH_take (i := 2) (oi := ?_) (v := ?_) ?_ (by kernel_rfl) (by kernel_rfl) (by kernel_rfl) ?_ (Or.inl ⟨?_, ?_⟩) (by assumption) ?_; rotate_left 2; (· (simp only [List.getElem?_toArray, List.getElem?_cons_succ, List.getElem?_cons_zero]; first | done | rfl)); (· exact (fun _ _ _ h => h)); (· rfl); (· (intro w hSw; (try dsimp only at hSw); go_simp; (try with_reducible rfl)))) | (refine wpAnyH_take (i := 2) (oi := ?_) (v := ?_) ?_ (by kernel_rfl) (by kernel_rfl) (by kernel_rfl) ?_ (Or.inr ⟨?_, ?_⟩) (by assumption) ?_; rotate_left 2; (· (simp only [List.getElem?_toArray, List.getElem?_cons_succ, List.getElem?_cons_zero]; first | done | rfl)); (· exact (fun _ _ _ h => h)); (· rfl); (· rfl)) | fail
        (try simp only [Act.put, List.setIfInBounds_toArray, List.set_cons_zero, List.set_cons_succ])
        first | (refine wpAnyH_take (i := 3) (oi := ?_) (v := ?_) ?_ (by kernel_rfl) (by kernel_rfl) (by kernel_rfl) ?_ (Or.inl ⟨?_, ?_⟩) (by assumption) ?_; rotate_left 2; (· (simp only [List.getElem?_toArray, List.getElem?_cons_succ, List.getElem?_cons_zero]; first | done | rfl)); (· exact (fun _ _ _ h => h)); (· rfl); (· (intro w hSw; (try dsimp only at hSw); go_simp; (try with_reducible rfl)))) | (refine wpAnyH_take (i := 3) (oi := ?_) (v := ?_) ?_ (by kernel_rfl) (by kernel_rfl) (by kernel_rfl) ?_ (Or.inr ⟨?_, ?_⟩) (by assumption) ?_; rotate_left 2; (· (simp only [List.getElem?_toArray, List.getElem?_cons_succ, List.getElem?_cons_zero]; first | done | rfl)); (· exact (fun _ _ _ h => h)); (· rfl); (· rfl)) | fail
        (try simp only [Act.put, List.setIfInBounds_toArray, List.set_cons_zero, List.set_cons_succ])
        first | (refine wpAnyH_take (i := 4) (oi := ?_) (v := ?_) ?_ (by kernel_rfl) (by kernel_rfl) (by kernel_rfl) ?_ (Or.inl ⟨?_, ?_⟩) (by assumption) ?_; rotate_left 2; (· (simp only [List.getElem?_toArray, List.getElem?_cons_succ, List.getElem?_cons_zero]; first | done | rfl)); (· exact (fun _ _ _ h => h)); (· rfl); (· (intro w hSw; (try dsimp only at hSw); go_simp; (try with_reducible rfl)))) | (refine wpAnyH_take (i := 4) (oi := ?_) (v := ?_) ?_ (by kernel_rfl) (by kernel_rfl) (by kernel_rfl) ?_ (Or.inr ⟨?_, ?_⟩) (by assumption) ?_; rotate_left 2; (· (simp only [List.getElem?_toArray, List.getElem?_cons_succ, List.getElem?_cons_zero]; first | done | rfl)); (· exact (fun _ _ _ h => h)); (· rfl); (· rfl)) | fail
        (try simp only [Act.put, List.setIfInBounds_toArray, List.set_cons_zero, List.set_cons_succ])
        first | (refine wpAnyH_take (i := 5) (oi := ?_) (v := ?_) ?_ (by kernel_rfl) (by kernel_rfl) (by kernel_rfl) ?_ (Or.inl ⟨?_, ?_⟩) (by assumption) ?_; rotate_left 2; (· (simp only [List.getElem?_toArray, List.getElem?_cons_succ, List.getElem?_cons_zero]; first | done | rfl)); (· exact (fun _ _ _ h => h)); (· rfl); (· (intro w hSw; (try dsimp only at hSw); go_simp; (try with_reducible rfl)))) | (refine wpAnyH_take (i := 5) (oi := ?_) (v := ?_) ?_ (by kernel_rfl) (by kernel_rfl) (by kernel_rfl) ?_ (Or.inr ⟨?_, ?_⟩) (by assumption) ?_; rotate_left 2; (· (simp only [List.getElem?_toArray, List.getElem?_cons_succ, List.getElem?_cons_zero]; first | done | rfl)); (· exact (fun _ _ _ h => h)); (· rfl); (· rfl)) | fail
        (try simp only [Act.put, List.setIfInBounds_toArray, List.set_cons_zero, List.set_cons_succ])
        first | (refine wpAnyH_take (i := 6) (oi := ?_) (v := ?_) ?_ (by kernel_rfl) (by kernel_rfl) (by kernel_rfl) ?_ (Or.inl ⟨?_, ?_⟩) (by assumption) ?_; rotate_left 2; (· (simp only [List.getElem?_toArray, List.getElem?_cons_succ, List.getElem?_cons_zero]; first | done | rfl)); (· exact (fun _ _ _ h => h)); (· rfl); (· (intro w hSw; (try dsimp only at hSw); go_simp; (try with_reducible rfl)))) | (refine wpAnyH_take (i := 6) (oi := ?_) (v := ?_) ?_ (by kernel_rfl) (by kernel_rfl) (by kernel_rfl) ?_ (Or.inr ⟨?_, ?_⟩) (by assumption) ?_; rotate_left 2; (· (simp only [List.getElem?_toArray, List.getElem?_cons_succ, List.getElem?_cons_zero]; first | done | rfl)); (· exact (fun _ _ _ h => h)); (· rfl); (· rfl)) | fail
        (try simp only [Act.put, List.setIfInBounds_toArray, List.set_cons_zero, List.set_cons_succ])
        first | (refine wpAnyH_take (i := 7) (oi := ?_) (v := ?_) ?_ (by kernel_rfl) (by kernel_rfl) (by kernel_rfl) ?_ (Or.inl ⟨?_, ?_⟩) (by assumption) ?_; rotate_left 2; (· (simp only [List.getElem?_toArray, List.getElem?_cons_succ, List.getElem?_cons_zero]; first | done | rfl)); (· exact (fun _ _ _ h => h)); (· rfl); (· (intro w hSw; (try dsimp only at hSw); go_simp; (try with_reducible rfl)))) | (refine wpAnyH_take (i := 7) (oi := ?_) (v := ?_) ?_ (by kernel_rfl) (by kernel_rfl) (by kernel_rfl) ?_ (Or.inr ⟨?_, ?_⟩) (by assumption) ?_; rotate_left 2; (· (simp only [List.getElem?_toArray, List.getElem?_cons_succ, List.getElem?_cons_zero]; first | done | rfl)); (· exact (fun _ _ _ h => h)); (· rfl); (· rfl)) | fail
        (try simp only [Act.put, List.setIfInBounds_toArray, List.set_cons_zero, List.set_cons_succ])
        refine wpAnyH_ready (rs := [8]) (by kernel_rfl) (by simp) ?_
        refine AllReadyH.cons (o := ?_) ?_ (fun K hK => ?_) AllReadyH.nil
        rotate_left 1
        · (simp only [List.getElem?_toArray, List.getElem?_cons_succ, List.getElem?_cons_zero]; first | done | rfl)
        go_simp
        first | (refine hK.out _ _ ?_ (fun hq1 => ?_)) | ((first | (go_at_call 23; refine (HCN.out _).mono ?_; rintro e w5 ⟨rfl, hb5⟩) | (go_at_call 22; refine (HSM.out _).mono ?_; rintro e w6 ⟨rfl, hb6⟩)); refine hK.out _ _ ?_ (fun hq1 => ?_)) | ((first | (go_at_call 23; refine (HCN.out _).mono ?_; rintro e w5 ⟨rfl, hb5⟩) | (go_at_call 22; refine (HSM.out _).mono ?_; rintro e w6 ⟨rfl, hb6⟩)); go_wp2_with fail; refine hK.out _ _ ?_ (fun hq1 => ?_)) | fail
        · ((try dsimp only); (first | exact evT_below (bdrewN (Below.refl _ _) 1) HST.out | assumption | exact evT_below (by assumption) (by assumption)))
        clear hK K
        (try simp only [Act.put, List.setIfInBounds_toArray, List.set_cons_zero, List.set_cons_succ])
        clear hq0
        refine wpAnyH_ready (rs := [9]) (by kernel_rfl) (by simp) ?_
        refine AllReadyH.cons (o := ?_) ?_ (fun K hK => ?_) AllReadyH.nil
        rotate_left 1
        · (simp only [List.getElem?_toArray, List.getElem?_cons_succ, List.getElem?_cons_zero]; first | done | rfl)
        go_simp
        first | (refine hK.out _ _ ?_ (fun hq2 => ?_)) | ((first | (go_at_call 23; refine (HCN.out _).mono ?_; rintro e w5 ⟨rfl, hb5⟩) | (go_at_call 22; refine (HSM.out _).mono ?_; rintro e w6 ⟨rfl, hb6⟩)); refine hK.out _ _ ?_ (fun hq2 => ?_)) | ((first | (go_at_call 23; refine (HCN.out _).mono ?_; rintro e w5 ⟨rfl, hb5⟩) | (go_at_call 22; refine (HSM.out _).mono ?_; rintro e w6 ⟨rfl, hb6⟩)); go_wp2_with fail; refine hK.out _ _ ?_ (fun hq2 => ?_)) | fail
        · ((try dsimp only); (first | exact evT_below (bdrewN (Below.refl _ _) 1) HST.out | assumption | exact evT_below (by assumption) (by assumption)))
        clear hK K
        (try simp only [Act.put, List.setIfInBounds_toArray, List.set_cons_zero, List.set_cons_succ])
        clear hq1
        first | (refine wpAnyH_take (i := 10) (oi := ?_) (v := ?_) ?_ (by kernel_rfl) (by kernel_rfl) (by kernel_rfl) ?_ (Or.inl ⟨?_, ?_⟩) (by assumption) ?_; rotate_left 2; (· (simp only [List.getElem?_toArray, List.getElem?_cons_succ, List.getElem?_cons_zero]; first | done | rfl)); (· exact (fun _ _ _ h => h)); (· rfl); (· (intro w hSw; (try dsimp only at hSw); go_simp; (try with_reducible rfl)))) | (refine wpAnyH_take (i := 10) (oi := ?_) (v := ?_) ?_ (by kernel_rfl) (by kernel_rfl) (by kernel_rfl) ?_ (Or.inr ⟨?_, ?_⟩) (by assumption) ?_; rotate_left 2; (· (simp only [List.getElem?_toArray, List.getElem?_cons_succ, List.getElem?_cons_zero]; first | done | rfl)); (· exact (fun _ _ _ h => h)); (· rfl); (· rfl)) | fail
        (try simp only [Act.put, List.setIfInBounds_toArray, List.set_cons_zero, List.set_cons_succ])
        first | (refine wpAnyH_take (i := 11) (oi := ?_) (v := ?_) ?_ (by kernel_rfl) (by kernel_rfl) (by kernel_rfl) ?_ (Or.inl ⟨?_, ?_⟩) (by assumption) ?_; rotate_left 2; (· (simp only [List.getElem?_toArray, List.getElem?_cons_succ, List.getElem?_cons_zero]; first | done | rfl)); (· exact (fun _ _ _ h => h)); (· rfl); (· (intro w hSw; (try dsimp only at hSw); go_simp; (try with_reducible rfl)))) | (refine wpAnyH_take (i := 11) (oi := ?_) (v := ?_) ?_ (by kernel_rfl) (by kernel_rfl) (by kernel_rfl) ?_ (Or.inr ⟨?_, ?_⟩) (by assumption) ?_; rotate_left 2; (· (simp only [List.getElem?_toArray, List.getElem?_cons_succ, List.getElem?_cons_zero]; first | done | rfl)); (· exact (fun _ _ _ h => h)); (· rfl); (· rfl)) | fail
        (try simp only [Act.put, List.setIfInBounds_toArray, List.set_cons_zero, List.set_cons_succ])
        refine wpAnyH_done (by kernel_rfl) ?_ _
        go_wp2_with fail
        go_ret
        exact ⟨rfl, evT_own (by assumption)⟩
end Go.Proofs.YtdggofleokjmcaaGreatDoor.Val
