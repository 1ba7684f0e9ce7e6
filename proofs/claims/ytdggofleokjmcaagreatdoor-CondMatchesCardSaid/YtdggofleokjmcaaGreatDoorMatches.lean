/- THE WALK OF the law CondMatches. -/
import Derived.Test.YtdggofleokjmcaaGreatDoorMatchFn
import Derived.Test.YtdggofleokjmcaaGreatDoorGets
namespace Go.Proofs.YtdggofleokjmcaaGreatDoor.Val
open Go.RowKit Flt
attribute [local go_sem] run_store_flt
theorem matchG_any (nm : List UInt8) (op k n : Int) (x : Nat) (t : List UInt8) (y : Bool) (sc : List UInt8) (a0 : Option Addr) (cap : Nat) (l : List A) (w : World) (hl : Attrs w a0 l) (hlm : l.length ≤ 1000000) :
    Calls Tryz.prog 32 #[cond nm op k n x t y, ev sc a0 l.length cap] w fun e w' => e = .returned (.bool (matchB ⟨nm, op, k, n, x, t, y⟩ l)) ∧ Below w.heap.size w w' :=
  match_any ⟨nm, op, k, n, x, t, y⟩ sc a0 cap l w hl hlm
theorem cright_kind' {c : C} (h : cRight c = true) : 0 ≤ c.val.kind ∧ c.val.kind ≤ 3 := by
  unfold cRight vRight at h
  simp only [Bool.and_eq_true, decide_eq_true_eq] at h
  exact ⟨h.2.1.1, h.2.1.2⟩
def BoxC (W : World) (b : Nat) (nm : List UInt8) (op k n : Int) (x : Nat) (t : List UInt8) (y : Bool) : Prop :=
  W.cell? ⟨b, 0, none⟩ = some (.string ⟨nm.toArray⟩) ∧ W.cell? ⟨b, 1, none⟩ = some (.int .i64 op) ∧ W.cell? ⟨b, 2, none⟩ = some (.int .i64 k) ∧ W.cell? ⟨b, 3, none⟩ = some (.int .i64 n) ∧ W.cell? ⟨b, 4, none⟩ = some (.float .f64 x) ∧ W.cell? ⟨b, 5, none⟩ = some (.string ⟨t.toArray⟩) ∧ W.cell? ⟨b, 6, none⟩ = some (.bool y)
theorem BoxC.below {W W2 : World} {b : Nat} {nm : List UInt8} {op k n : Int} {x : Nat} {t : List UInt8} {y : Bool} (h : BoxC W b nm op k n x t y) (hb : Below W.heap.size W W2) : BoxC W2 b nm op k n x t y := by
  obtain ⟨h0, h1, h2, h3, h4, h5, h6⟩ := h
  have c : ∀ o, W2.cell? ⟨b, o, none⟩ = W.cell? ⟨b, o, none⟩ := fun o => hb.cell (p := ⟨b, o, none⟩) (World.block_lt_of_cell? _ ⟨b, 0, none⟩ h0)
  exact ⟨by rw [c]; exact h0, by rw [c]; exact h1, by rw [c]; exact h2, by rw [c]; exact h3, by rw [c]; exact h4, by rw [c]; exact h5, by rw [c]; exact h6⟩
theorem boxc_new (w : World) (nm : List UInt8) (op k n : Int) (x : Nat) (t : List UInt8) (y : Bool) (T : TypeId) : BoxC (w.alloc (.cells #[.string ⟨nm.toArray⟩, .int .i64 op, .int .i64 k, .int .i64 n, .float .f64 x, .string ⟨t.toArray⟩, .bool y] T)) w.heap.size nm op k n x t y := by
  have c : ∀ o, (w.alloc (.cells #[.string ⟨nm.toArray⟩, .int .i64 op, .int .i64 k, .int .i64 n, .float .f64 x, .string ⟨t.toArray⟩, .bool y] T)).cell? ⟨w.heap.size, o, none⟩ = #[.string ⟨nm.toArray⟩, .int .i64 op, .int .i64 k, .int .i64 n, .float .f64 x, .string ⟨t.toArray⟩, .bool y][o]? := fun o => World.cell?_alloc_at _ _ _ _ rfl
  exact ⟨c 0, c 1, c 2, c 3, c 4, c 5, c 6⟩
theorem mS_below {bc be : Nat} {p0 p1 p2 p3 p4 p5 p6 x0 x1 : Value} {b0 : Option Addr} {nb : List A} {w w1 w2 : World} (hb : Below w1.heap.size w1 w2) (h : (fun w' => w'.cell? ⟨bc, 0, none⟩ = some p0 ∧ w'.cell? ⟨bc, 1, none⟩ = some p1 ∧ w'.cell? ⟨bc, 2, none⟩ = some p2 ∧ w'.cell? ⟨bc, 3, none⟩ = some p3 ∧ w'.cell? ⟨bc, 4, none⟩ = some p4 ∧ w'.cell? ⟨bc, 5, none⟩ = some p5 ∧ w'.cell? ⟨bc, 6, none⟩ = some p6 ∧ w'.cell? ⟨be, 0, none⟩ = some x0 ∧ w'.cell? ⟨be, 1, none⟩ = some x1 ∧ Attrs w' b0 nb ∧ Below w.heap.size w w' ∧ bc < w'.heap.size ∧ be < w'.heap.size) w1) : (fun w' => w'.cell? ⟨bc, 0, none⟩ = some p0 ∧ w'.cell? ⟨bc, 1, none⟩ = some p1 ∧ w'.cell? ⟨bc, 2, none⟩ = some p2 ∧ w'.cell? ⟨bc, 3, none⟩ = some p3 ∧ w'.cell? ⟨bc, 4, none⟩ = some p4 ∧ w'.cell? ⟨bc, 5, none⟩ = some p5 ∧ w'.cell? ⟨bc, 6, none⟩ = some p6 ∧ w'.cell? ⟨be, 0, none⟩ = some x0 ∧ w'.cell? ⟨be, 1, none⟩ = some x1 ∧ Attrs w' b0 nb ∧ Below w.heap.size w w' ∧ bc < w'.heap.size ∧ be < w'.heap.size) w2 := by
  obtain ⟨h0, h1, h2, h3, h4, h5, h6, e0, e1, ha, hB, hl1, hl2⟩ := h
  have c : ∀ o, w2.cell? ⟨bc, o, none⟩ = w1.cell? ⟨bc, o, none⟩ := fun o => hb.cell (p := ⟨bc, o, none⟩) hl1
  have d : ∀ o, w2.cell? ⟨be, o, none⟩ = w1.cell? ⟨be, o, none⟩ := fun o => hb.cell (p := ⟨be, o, none⟩) hl2
  exact ⟨by rw [c]; exact h0, by rw [c]; exact h1, by rw [c]; exact h2, by rw [c]; exact h3, by rw [c]; exact h4, by rw [c]; exact h5, by rw [c]; exact h6, by rw [d]; exact e0, by rw [d]; exact e1, ha.below hb, btrans hB hb, Nat.lt_of_lt_of_le hl1 hb.size, Nat.lt_of_lt_of_le hl2 hb.size⟩
theorem mS_own {bc be : Nat} {p0 p1 p2 p3 p4 p5 p6 x0 x1 : Value} {b0 : Option Addr} {nb : List A} {w w1 : World} (h : (fun w' => w'.cell? ⟨bc, 0, none⟩ = some p0 ∧ w'.cell? ⟨bc, 1, none⟩ = some p1 ∧ w'.cell? ⟨bc, 2, none⟩ = some p2 ∧ w'.cell? ⟨bc, 3, none⟩ = some p3 ∧ w'.cell? ⟨bc, 4, none⟩ = some p4 ∧ w'.cell? ⟨bc, 5, none⟩ = some p5 ∧ w'.cell? ⟨bc, 6, none⟩ = some p6 ∧ w'.cell? ⟨be, 0, none⟩ = some x0 ∧ w'.cell? ⟨be, 1, none⟩ = some x1 ∧ Attrs w' b0 nb ∧ Below w.heap.size w w' ∧ bc < w'.heap.size ∧ be < w'.heap.size) w1) : Below w.heap.size w w1 := h.2.2.2.2.2.2.2.2.2.2.1
theorem mS_attrs {bc be : Nat} {p0 p1 p2 p3 p4 p5 p6 x0 x1 : Value} {b0 : Option Addr} {nb : List A} {w w1 : World} (h : (fun w' => w'.cell? ⟨bc, 0, none⟩ = some p0 ∧ w'.cell? ⟨bc, 1, none⟩ = some p1 ∧ w'.cell? ⟨bc, 2, none⟩ = some p2 ∧ w'.cell? ⟨bc, 3, none⟩ = some p3 ∧ w'.cell? ⟨bc, 4, none⟩ = some p4 ∧ w'.cell? ⟨bc, 5, none⟩ = some p5 ∧ w'.cell? ⟨bc, 6, none⟩ = some p6 ∧ w'.cell? ⟨be, 0, none⟩ = some x0 ∧ w'.cell? ⟨be, 1, none⟩ = some x1 ∧ Attrs w' b0 nb ∧ Below w.heap.size w w' ∧ bc < w'.heap.size ∧ be < w'.heap.size) w1) : Attrs w1 b0 nb := h.2.2.2.2.2.2.2.2.2.1
set_option maxRecDepth 20000 in
set_option maxHeartbeats 2000000 in
theorem matches06_any (nm : List UInt8) (op k n : Int) (x : Nat) (t : List UInt8) (y : Bool) (a0 : Option Addr) (cap : Nat) (l : List A) (s : List UInt8) (w : World) (hw : Words w) (hl : Attrs w a0 l) (hok : ∀ x ∈ l, Open.AOk x) (hm : l.length ≤ maxLen)
    (hn : nm.length ≤ 140737488351232) (ht : t.length ≤ 140737488351232) :
    Calls Tryz.prog 10 #[cond nm op k n x t y, .slice a0 l.length cap, .string ⟨s.toArray⟩] w fun e w' => e = .returned (.bool true) ∧ Below w.heap.size w w' := by
  have hli (w : World) := light_any nm op k n x t y w hn ht
  have hri (w : World) := cright_any nm op k n x t y w hn ht
  have hkk := @cright_kind' ⟨nm, op, k, n, x, t, y⟩
  unfold maxLen at hm
  clear hn ht
  have HW := Lib.hid hw; have HL := Lib.hid hl; have HOK := Lib.hid hok
  clear hw hl hok
  generalize decide (nm.length + t.length ≤ 300) = lb at *
  generalize cRight ⟨nm, op, k, n, x, t, y⟩ = rb at *
  have HLI := Lib.hid hli; have HRI := Lib.hid hri; have HKK := Lib.hid hkk
  clear hli hri hkk
  cases lb
  · go_enter Tryz.func10, Tryz.ntmps10
    go_wp2_with (first | (go_at_call 28; refine (fit_any _ (HW.out.below (by repeat (first | assumption | (with_reducible exact Below.refl _ _) | exact balloc _ _ | exact balloc2 _ _ _ | refine btrans ?_ (by assumption) | refine btrans ?_ (balloc _ _))))).mono ?_; rintro e w2 ⟨rfl, hb2⟩; (first | (replace hb1 := btrans hb1 hb2; clear hb2 hc1 hf1; obtain ⟨hc1, hf1⟩ := bcell hb1) | (have hb1 := hb2; clear hb2; obtain ⟨hc1, hf1⟩ := bcell hb1))) | (go_at_call 29; refine (HLI.out _).mono ?_; rintro e w2 ⟨rfl, hb2⟩; (first | (replace hb1 := btrans hb1 hb2; clear hb2 hc1 hf1; obtain ⟨hc1, hf1⟩ := bcell hb1) | (have hb1 := hb2; clear hb2; obtain ⟨hc1, hf1⟩ := bcell hb1))))
    go_ret
    exact ⟨rfl, by repeat (first | assumption | (with_reducible exact Below.refl _ _) | exact balloc _ _ | exact balloc2 _ _ _ | refine btrans ?_ (by assumption) | refine btrans ?_ (balloc _ _))⟩
  by_cases h20 : l.length ≤ 20
  rotate_left
  · have d1 : decide (20 < (l.length : Int)) = true := by rw [decide_eq_true_iff]; omega
    clear h20
    go_enter Tryz.func10, Tryz.ntmps10
    go_wp2_with (first | (go_at_call 28; refine (fit_any _ (HW.out.below (by repeat (first | assumption | (with_reducible exact Below.refl _ _) | exact balloc _ _ | exact balloc2 _ _ _ | refine btrans ?_ (by assumption) | refine btrans ?_ (balloc _ _))))).mono ?_; rintro e w2 ⟨rfl, hb2⟩; (first | (replace hb1 := btrans hb1 hb2; clear hb2 hc1 hf1; obtain ⟨hc1, hf1⟩ := bcell hb1) | (have hb1 := hb2; clear hb2; obtain ⟨hc1, hf1⟩ := bcell hb1))) | (go_at_call 29; refine (HLI.out _).mono ?_; rintro e w2 ⟨rfl, hb2⟩; (first | (replace hb1 := btrans hb1 hb2; clear hb2 hc1 hf1; obtain ⟨hc1, hf1⟩ := bcell hb1) | (have hb1 := hb2; clear hb2; obtain ⟨hc1, hf1⟩ := bcell hb1))))
    go_ret
    exact ⟨rfl, by repeat (first | assumption | (with_reducible exact Below.refl _ _) | exact balloc _ _ | exact balloc2 _ _ _ | refine btrans ?_ (by assumption) | refine btrans ?_ (balloc _ _))⟩
  have d1 : decide (20 < (l.length : Int)) = false := by rw [decide_eq_false_iff_not]; omega
  cases rb
  · go_enter Tryz.func10, Tryz.ntmps10
    go_wp2_with (first | (go_at_call 28; refine (fit_any _ (HW.out.below (by repeat (first | assumption | (with_reducible exact Below.refl _ _) | exact balloc _ _ | exact balloc2 _ _ _ | refine btrans ?_ (by assumption) | refine btrans ?_ (balloc _ _))))).mono ?_; rintro e w2 ⟨rfl, hb2⟩; (first | (replace hb1 := btrans hb1 hb2; clear hb2 hc1 hf1; obtain ⟨hc1, hf1⟩ := bcell hb1) | (have hb1 := hb2; clear hb2; obtain ⟨hc1, hf1⟩ := bcell hb1))) | (go_at_call 29; refine (HLI.out _).mono ?_; rintro e w2 ⟨rfl, hb2⟩; (first | (replace hb1 := btrans hb1 hb2; clear hb2 hc1 hf1; obtain ⟨hc1, hf1⟩ := bcell hb1) | (have hb1 := hb2; clear hb2; obtain ⟨hc1, hf1⟩ := bcell hb1))) | (go_at_call 30; refine (HRI.out _).mono ?_; rintro e w2 ⟨rfl, hb2⟩; (first | (replace hb1 := btrans hb1 hb2; clear hb2 hc1 hf1; obtain ⟨hc1, hf1⟩ := bcell hb1) | (have hb1 := hb2; clear hb2; obtain ⟨hc1, hf1⟩ := bcell hb1))))
    go_ret
    exact ⟨rfl, by repeat (first | assumption | (with_reducible exact Below.refl _ _) | exact balloc _ _ | exact balloc2 _ _ _ | refine btrans ?_ (by assumption) | refine btrans ?_ (balloc _ _))⟩
  have hk03 := HKK.out rfl
  have HK03 := Lib.hid hk03; clear hk03 HKK
  have hnew (w : World) (h : Attrs w a0 l) := new_any s a0 cap l w h (by omega)
  have hnl := newB_len l
  have hris := newB_rising l
  have HNEW := Lib.hid hnew; have HRIS := Lib.hid hris
  clear hnew hris
  generalize newB l = nb at *
  go_enter Tryz.func10, Tryz.ntmps10
  go_wp2_with (first | (go_at_call 28; refine (fit_any _ (HW.out.below (by repeat (first | assumption | (with_reducible exact Below.refl _ _) | exact balloc _ _ | exact balloc2 _ _ _ | refine btrans ?_ (by assumption) | refine btrans ?_ (balloc _ _))))).mono ?_; rintro e w2 ⟨rfl, hb2⟩; (first | (replace hb1 := btrans hb1 hb2; clear hb2 hc1 hf1; obtain ⟨hc1, hf1⟩ := bcell hb1) | (have hb1 := hb2; clear hb2; obtain ⟨hc1, hf1⟩ := bcell hb1))) | (go_at_call 29; refine (HLI.out _).mono ?_; rintro e w2 ⟨rfl, hb2⟩; (first | (replace hb1 := btrans hb1 hb2; clear hb2 hc1 hf1; obtain ⟨hc1, hf1⟩ := bcell hb1) | (have hb1 := hb2; clear hb2; obtain ⟨hc1, hf1⟩ := bcell hb1))) | (go_at_call 30; refine (HRI.out _).mono ?_; rintro e w2 ⟨rfl, hb2⟩; (first | (replace hb1 := btrans hb1 hb2; clear hb2 hc1 hf1; obtain ⟨hc1, hf1⟩ := bcell hb1) | (have hb1 := hb2; clear hb2; obtain ⟨hc1, hf1⟩ := bcell hb1))))
  have hbx := (boxc_new w nm op k n x t y 55).below hb1
  have hbr := btrans (balloc _ _) hb1
  have hsB : w.heap.size < w2.heap.size := size1 hb1
  have HBX := Lib.hid hbx; have HBR := Lib.hid hbr
  clear hbx hbr hb1 hc1 hf1
  go_loopw [30] (fun vi wr => ∃ kk : Nat, kk ≤ l.length ∧ vi = .int .i64 kk ∧ Below w2.heap.size w2 wr) (fun vi _ => l.length - (intOf vi).toNat)
  case atStart => exact ⟨0, Nat.zero_le _, rfl, Below.refl _ _⟩
  case round =>
    obtain ⟨kk, hk, rfl, hwr⟩ := hrel
    by_cases hlt : kk < l.length
    · have i1 : (kk : Int) < (l.length : Int) := by omega
      have i0 : (0 : Int) ≤ (kk : Int) := by omega
      obtain ⟨a, rfl, v0, v1, v2, v3, v4, v5⟩ := ((HL.out.below HBR.out).below hwr) kk hlt
      have hx := HOK.out _ (List.getElem_mem hlt)
      have hx1 : l[kk].name.length ≤ 140737488351232 := hx.1
      have hx2 : l[kk].val.text.length ≤ 140737488351232 := hx.2.2.2.2
      clear hx
      have hw : IntKind.i64.wrap ((l[kk].name.length : Int) + (l[kk].val.text.length : Int)) = (l[kk].name.length : Int) + (l[kk].val.text.length : Int) := by
        simp only [IntKind.wrap, IntKind.bits, IntKind.signed]; simp; omega
      have hsw := hwr.size
      by_cases hs : l[kk].name.length + l[kk].val.text.length ≤ 300
      · have d2 : decide (300 < (l[kk].name.length : Int) + (l[kk].val.text.length : Int)) = false := by rw [decide_eq_false_iff_not]; omega
        clear hs
        go_wp2_with fail
        exact ⟨⟨kk + 1, by omega, by go_num, btrans hwr (balloc _ _)⟩, by simp [intOf]; go_num⟩
      · have d2 : decide (300 < (l[kk].name.length : Int) + (l[kk].val.text.length : Int)) = true := by rw [decide_eq_true_iff]; omega
        clear hs
        go_wp2_with fail
        go_ret
        exact ⟨rfl, btrans HBR.out (btrans hwr (balloc _ _))⟩
    · obtain rfl : kk = l.length := by omega
      have hbx := HBX.out.below hwr
      have hbr := btrans HBR.out hwr
      have hsz := hwr.size
      have HBX2 := Lib.hid hbx; have HBR2 := Lib.hid hbr
      clear hbx hbr hwr
      go_wp2_with fail
      refine (HNEW.out wr (HL.out.below HBR2.out)).mono ?_
      rintro e w3 ⟨b0, cp, rfl, hat3, _, hb3⟩
      have hbx := HBX2.out.below hb3
      have hbr := btrans HBR2.out hb3
      have hsz3 := hb3.size
      have HBX3 := Lib.hid hbx; have HBR3 := Lib.hid hbr; have HAT3 := Lib.hid hat3
      clear hbx hbr hb3 hat3
      go_wp2_with fail
      have hE : ∀ o, (w3.alloc (.cells #[.string ⟨s.toArray⟩, .slice b0 nb.length cp] 26)).cell? ⟨w3.heap.size, o, none⟩ = #[.string ⟨s.toArray⟩, .slice b0 nb.length cp][o]? := fun o => World.cell?_alloc_at _ _ _ _ rfl
      have hst : (fun w' => w'.cell? ⟨w.heap.size, 0, none⟩ = some (.string ⟨nm.toArray⟩) ∧ w'.cell? ⟨w.heap.size, 1, none⟩ = some (.int .i64 op) ∧ w'.cell? ⟨w.heap.size, 2, none⟩ = some (.int .i64 k) ∧ w'.cell? ⟨w.heap.size, 3, none⟩ = some (.int .i64 n) ∧ w'.cell? ⟨w.heap.size, 4, none⟩ = some (.float .f64 x) ∧ w'.cell? ⟨w.heap.size, 5, none⟩ = some (.string ⟨t.toArray⟩) ∧ w'.cell? ⟨w.heap.size, 6, none⟩ = some (.bool y) ∧ w'.cell? ⟨w3.heap.size, 0, none⟩ = some (.string ⟨s.toArray⟩) ∧ w'.cell? ⟨w3.heap.size, 1, none⟩ = some (.slice b0 nb.length cp) ∧ Attrs w' b0 nb ∧ Below w.heap.size w w' ∧ w.heap.size < w'.heap.size ∧ w3.heap.size < w'.heap.size) (w3.alloc (.cells #[.string ⟨s.toArray⟩, .slice b0 nb.length cp] 26)) := by
        obtain ⟨c0, c1, c2, c3, c4, c5, c6⟩ := HBX3.out.below (balloc w3 (.cells #[.string ⟨s.toArray⟩, .slice b0 nb.length cp] 26))
        exact ⟨c0, c1, c2, c3, c4, c5, c6, hE 0, hE 1, HAT3.out.below (balloc _ _), btrans HBR3.out (balloc _ _), by simp; omega, by simp⟩
      generalize w3.alloc _ = W0 at *
      generalize w3.heap.size = be at *
      have HST := Lib.hid hst
      clear hE hst HBX3 HBR3 HAT3 HBX2 HBR2 HBX HBR
      have hwm := want_match ⟨nm, op, k, n, x, t, y⟩ HRIS.out
      have HWM := Lib.hid hwm; clear hwm
      go_loopw [10, 50] (fun vw vi wr => ∃ kk : Nat, kk ≤ nb.length ∧ vi = .int .i64 kk ∧ vw = .bool (wantB ⟨nm, op, k, n, x, t, y⟩ (nb.take kk)) ∧ Below W0.heap.size W0 wr) (fun _ vi _ => nb.length - (intOf vi).toNat)
      case atStart => exact ⟨0, Nat.zero_le _, rfl, rfl, Below.refl _ _⟩
      case round =>
        obtain ⟨kk, hk, rfl, rfl, hwr0⟩ := hrel
        by_cases hlt : kk < nb.length
        · have i1 : (kk : Int) < (nb.length : Int) := by omega
          have i0 : (0 : Int) ≤ (kk : Int) := by omega
          have hS := mS_below hwr0 HST.out
          obtain ⟨a, rfl, v0, v1, v2, v3, v4, v5⟩ := (mS_attrs hS) kk hlt
          have hws := want_succ ⟨nm, op, k, n, x, t, y⟩ nb kk hlt
          have hh (w : World) := holds_any nm op k n x t y (nb[kk]).val.kind (nb[kk]).val.int (nb[kk]).val.num (nb[kk]).val.text (nb[kk]).val.yes w
          have he : holdsB ⟨nm, op, k, n, x, t, y⟩ (nb[kk]).val = holdsB ⟨nm, op, ⟨k, n, x, t, y⟩⟩ ⟨(nb[kk]).val.kind, (nb[kk]).val.int, (nb[kk]).val.num, (nb[kk]).val.text, (nb[kk]).val.yes⟩ := rfl
          rw [he] at hws
          clear he
          generalize holdsB ⟨nm, op, ⟨k, n, x, t, y⟩⟩ ⟨(nb[kk]).val.kind, (nb[kk]).val.int, (nb[kk]).val.num, (nb[kk]).val.text, (nb[kk]).val.yes⟩ = hv at *
          generalize wantB ⟨nm, op, k, n, x, t, y⟩ (nb.take kk) = wv at *
          have hsz0 : w.heap.size < wr.heap.size := hS.2.2.2.2.2.2.2.2.2.2.2.1
          obtain ⟨c0, c1, c2, c3, c4, c5, c6, _, _, _, _, _, _⟩ := hS
          have HWS := Lib.hid hws; have HH := Lib.hid hh
          clear hws hh
          cases wv
          · cases hq : ((nb[kk]).name == nm)
            · go_wp2_with fail
              exact ⟨⟨kk + 1, by omega, by go_num, congrArg _ (by rw [HWS.out, hq]; rfl), btrans hwr0 (balloc _ _)⟩, by simp [intOf]; go_num⟩
            · go_wp2_with (go_at_call 31; refine (HH.out _).mono ?_; rintro e w5 ⟨rfl, hb5⟩)
              exact ⟨⟨kk + 1, by omega, by go_num, congrArg _ (by rw [HWS.out, hq]; rfl), btrans (btrans hwr0 (balloc _ _)) hb5⟩, by simp [intOf]; go_num⟩
          · go_wp2_with fail
            exact ⟨⟨kk + 1, by omega, by go_num, congrArg _ (by rw [HWS.out]; rfl), btrans hwr0 (balloc _ _)⟩, by simp [intOf]; go_num⟩
        · obtain rfl : kk = nb.length := by omega
          rw [List.take_length, HWM.out]
          have hmc := match_canon ⟨nm, op, k, n, x, t, y⟩ nb HK03.out.1 HK03.out.2
          have hmn := match_none ⟨nm, op, k, n, x, t, y⟩ (l := keepB [⟨nm.toArray⟩] nb) (keepB_rising HRIS.out) (keep_gone nb)
          have hcn (w : World) := ccanon_any nm op k n x t y w
          have hm1 : matchB ⟨nm, op, ⟨k, n, x, t, y⟩⟩ nb = matchB ⟨nm, op, k, n, x, t, y⟩ nb := rfl
          have hwi (w : World) (b : Nat) (h : Attrs w b0 nb) (hz : Names w b 0 [⟨nm.toArray⟩]) := without_any s b0 cp nb b 0 1 [⟨nm.toArray⟩] w h (by omega) hz (by simp)
          have hkl : (keepB [⟨nm.toArray⟩] nb).length ≤ nb.length := List.length_filter_le _ _
          generalize hMM : matchB ⟨nm, op, k, n, x, t, y⟩ nb = M at *
          generalize hCC : canonC ⟨nm, op, k, n, x, t, y⟩ = cn at *
          generalize keepB [⟨nm.toArray⟩] nb = kb at *
          obtain ⟨nm2, op2, k2, n2, x2, t2, y2⟩ := cn
          have hst2 := mS_below hwr0 HST.out
          have HST2 := Lib.hid hst2; have HMC := Lib.hid hmc; have HMN := Lib.hid hmn; have HCN := Lib.hid hcn; have HM1 := Lib.hid hMM; have HWI := Lib.hid hwi
          clear hst2 hmc hmn hcn hm1 hwi hMM hCC HST HWM
          go_wp2_with fail
          refine wp_region_held_drew (S := (fun w' => w'.cell? ⟨w.heap.size, 0, none⟩ = some (.string ⟨nm.toArray⟩) ∧ w'.cell? ⟨w.heap.size, 1, none⟩ = some (.int .i64 op) ∧ w'.cell? ⟨w.heap.size, 2, none⟩ = some (.int .i64 k) ∧ w'.cell? ⟨w.heap.size, 3, none⟩ = some (.int .i64 n) ∧ w'.cell? ⟨w.heap.size, 4, none⟩ = some (.float .f64 x) ∧ w'.cell? ⟨w.heap.size, 5, none⟩ = some (.string ⟨t.toArray⟩) ∧ w'.cell? ⟨w.heap.size, 6, none⟩ = some (.bool y) ∧ w'.cell? ⟨be, 0, none⟩ = some (.string ⟨s.toArray⟩) ∧ w'.cell? ⟨be, 1, none⟩ = some (.slice b0 nb.length cp) ∧ Attrs w' b0 nb ∧ Below w.heap.size w w' ∧ w.heap.size < w'.heap.size ∧ be < w'.heap.size)) (by kernel_rfl) ?_ (fun hq0 => ?_)
          · ((try dsimp only); (first | exact mS_below (bdrewN (Below.refl _ _) 1) HST2.out | assumption | exact mS_below (by assumption) (by assumption) | exact mS_below (balloc _ _) (by assumption)))
          first | (refine wpAnyH_take (i := 0) (oi := ?_) (v := ?_) ?_ (by kernel_rfl) (by kernel_rfl) (by kernel_rfl) ?_ (Or.inl ⟨?_, ?_⟩) (by assumption) ?_; rotate_left 2; (· (simp only [List.getElem?_toArray, List.getElem?_cons_zero]; first | done | rfl)); (· exact (fun _ _ _ h => h)); (· rfl); (· (intro w hSw; (try dsimp only at hSw); go_simp; (try with_reducible rfl)))) | (refine wpAnyH_take (i := 0) (oi := ?_) (v := ?_) ?_ (by kernel_rfl) (by kernel_rfl) (by kernel_rfl) ?_ (Or.inr ⟨?_, ?_⟩) (by assumption) ?_; rotate_left 2; (· (simp only [List.getElem?_toArray, List.getElem?_cons_zero]; first | done | rfl)); (· exact (fun _ _ _ h => h)); (· rfl); (· rfl)) | fail
          (try simp only [Act.put, List.setIfInBounds_toArray, List.set_cons_zero, List.set_cons_succ])
          first | (refine wpAnyH_take (i := 1) (oi := ?_) (v := ?_) ?_ (by kernel_rfl) (by kernel_rfl) (by kernel_rfl) ?_ (Or.inl ⟨?_, ?_⟩) (by assumption) ?_; rotate_left 2; (· (simp only [List.getElem?_toArray, List.getElem?_cons_succ, List.getElem?_cons_zero]; first | done | rfl)); (· exact (fun _ _ _ h => h)); (· rfl); (· (intro w hSw; (try dsimp only at hSw); go_simp; (try with_reducible rfl)))) | (refine wpAnyH_take (i := 1) (oi := ?_) (v := ?_) ?_ (by kernel_rfl) (by kernel_rfl) (by kernel_rfl) ?_ (Or.inr ⟨?_, ?_⟩) (by assumption) ?_; rotate_left 2; (· (simp only [List.getElem?_toArray, List.getElem?_cons_succ, List.getElem?_cons_zero]; first | done | rfl)); (· exact (fun _ _ _ h => h)); (· rfl); (· rfl)) | fail
          (try simp only [Act.put, List.setIfInBounds_toArray, List.set_cons_zero, List.set_cons_succ])
          first | (refine wpAnyH_take (i := 3) (oi := ?_) (v := ?_) ?_ (by kernel_rfl) (by kernel_rfl) (by kernel_rfl) ?_ (Or.inl ⟨?_, ?_⟩) (by assumption) ?_; rotate_left 2; (· (simp only [List.getElem?_toArray, List.getElem?_cons_succ, List.getElem?_cons_zero]; first | done | rfl)); (· exact (fun _ _ _ h => h)); (· rfl); (· (intro w hSw; (try dsimp only at hSw); go_simp; (try with_reducible rfl)))) | (refine wpAnyH_take (i := 3) (oi := ?_) (v := ?_) ?_ (by kernel_rfl) (by kernel_rfl) (by kernel_rfl) ?_ (Or.inr ⟨?_, ?_⟩) (by assumption) ?_; rotate_left 2; (· (simp only [List.getElem?_toArray, List.getElem?_cons_succ, List.getElem?_cons_zero]; first | done | rfl)); (· exact (fun _ _ _ h => h)); (· rfl); (· rfl)) | fail
          (try simp only [Act.put, List.setIfInBounds_toArray, List.set_cons_zero, List.set_cons_succ])
          refine wpAnyH_ready (rs := [2]) (by kernel_rfl) (by simp) ?_
          refine AllReadyH.cons (o := ?_) ?_ (fun K hK => ?_) AllReadyH.nil
          rotate_left 1
          · (simp only [List.getElem?_toArray, List.getElem?_cons_succ, List.getElem?_cons_zero]; first | done | rfl)
          go_simp
          first | (refine hK.out _ _ ?_ (fun hq1 => ?_)) | ((first | (go_at_call 32; refine (matchG_any _ _ _ _ _ _ _ _ _ _ _ _ (by first | exact mS_attrs (by assumption) | exact hat6) (by omega)).mono ?_; rintro e w5 ⟨rfl, hb5⟩; (first | rw [HM1.out] | rw [HMC.out] | rw [HMN.out])) | (go_at_call 33; refine (HCN.out _).mono ?_; rintro e w5 ⟨rfl, hb5⟩) | (go_at_call 25; refine (HWI.out _ _ (mS_attrs (by assumption)) (one_name _ _ _ _ (by simp))).mono ?_; rintro e w6 ⟨b1, cp1, rfl, hat6, _, hb6⟩)); refine hK.out _ _ ?_ (fun hq1 => ?_)) | ((first | (go_at_call 32; refine (matchG_any _ _ _ _ _ _ _ _ _ _ _ _ (by first | exact mS_attrs (by assumption) | exact hat6) (by omega)).mono ?_; rintro e w5 ⟨rfl, hb5⟩; (first | rw [HM1.out] | rw [HMC.out] | rw [HMN.out])) | (go_at_call 33; refine (HCN.out _).mono ?_; rintro e w5 ⟨rfl, hb5⟩) | (go_at_call 25; refine (HWI.out _ _ (mS_attrs (by assumption)) (one_name _ _ _ _ (by simp))).mono ?_; rintro e w6 ⟨b1, cp1, rfl, hat6, _, hb6⟩)); go_wp2_with fail; refine hK.out _ _ ?_ (fun hq1 => ?_)) | fail
          · ((try dsimp only); (first | exact mS_below (bdrewN (Below.refl _ _) 1) HST2.out | assumption | exact mS_below (by assumption) (by assumption) | exact mS_below (balloc _ _) (by assumption)))
          clear hK K
          (try simp only [Act.put, List.setIfInBounds_toArray, List.set_cons_zero, List.set_cons_succ])
          clear hq0
          first | (refine wpAnyH_take (i := 4) (oi := ?_) (v := ?_) ?_ (by kernel_rfl) (by kernel_rfl) (by kernel_rfl) ?_ (Or.inl ⟨?_, ?_⟩) (by assumption) ?_; rotate_left 2; (· (simp only [List.getElem?_toArray, List.getElem?_cons_succ, List.getElem?_cons_zero]; first | done | rfl)); (· exact (fun _ _ _ h => h)); (· rfl); (· (intro w hSw; (try dsimp only at hSw); go_simp; (try with_reducible rfl)))) | (refine wpAnyH_take (i := 4) (oi := ?_) (v := ?_) ?_ (by kernel_rfl) (by kernel_rfl) (by kernel_rfl) ?_ (Or.inr ⟨?_, ?_⟩) (by assumption) ?_; rotate_left 2; (· (simp only [List.getElem?_toArray, List.getElem?_cons_succ, List.getElem?_cons_zero]; first | done | rfl)); (· exact (fun _ _ _ h => h)); (· rfl); (· rfl)) | fail
          (try simp only [Act.put, List.setIfInBounds_toArray, List.set_cons_zero, List.set_cons_succ])
          first | (refine wpAnyH_take (i := 5) (oi := ?_) (v := ?_) ?_ (by kernel_rfl) (by kernel_rfl) (by kernel_rfl) ?_ (Or.inl ⟨?_, ?_⟩) (by assumption) ?_; rotate_left 2; (· (simp only [List.getElem?_toArray, List.getElem?_cons_succ, List.getElem?_cons_zero]; first | done | rfl)); (· exact (fun _ _ _ h => h)); (· rfl); (· (intro w hSw; (try dsimp only at hSw); go_simp; (try with_reducible rfl)))) | (refine wpAnyH_take (i := 5) (oi := ?_) (v := ?_) ?_ (by kernel_rfl) (by kernel_rfl) (by kernel_rfl) ?_ (Or.inr ⟨?_, ?_⟩) (by assumption) ?_; rotate_left 2; (· (simp only [List.getElem?_toArray, List.getElem?_cons_succ, List.getElem?_cons_zero]; first | done | rfl)); (· exact (fun _ _ _ h => h)); (· rfl); (· rfl)) | fail
          (try simp only [Act.put, List.setIfInBounds_toArray, List.set_cons_zero, List.set_cons_succ])
          first | (refine wpAnyH_take (i := 6) (oi := ?_) (v := ?_) ?_ (by kernel_rfl) (by kernel_rfl) (by kernel_rfl) ?_ (Or.inl ⟨?_, ?_⟩) (by assumption) ?_; rotate_left 2; (· (simp only [List.getElem?_toArray, List.getElem?_cons_succ, List.getElem?_cons_zero]; first | done | rfl)); (· exact (fun _ _ _ h => h)); (· rfl); (· (intro w hSw; (try dsimp only at hSw); go_simp; (try with_reducible rfl)))) | (refine wpAnyH_take (i := 6) (oi := ?_) (v := ?_) ?_ (by kernel_rfl) (by kernel_rfl) (by kernel_rfl) ?_ (Or.inr ⟨?_, ?_⟩) (by assumption) ?_; rotate_left 2; (· (simp only [List.getElem?_toArray, List.getElem?_cons_succ, List.getElem?_cons_zero]; first | done | rfl)); (· exact (fun _ _ _ h => h)); (· rfl); (· rfl)) | fail
          (try simp only [Act.put, List.setIfInBounds_toArray, List.set_cons_zero, List.set_cons_succ])
          first | (refine wpAnyH_take (i := 8) (oi := ?_) (v := ?_) ?_ (by kernel_rfl) (by kernel_rfl) (by kernel_rfl) ?_ (Or.inl ⟨?_, ?_⟩) (by assumption) ?_; rotate_left 2; (· (simp only [List.getElem?_toArray, List.getElem?_cons_succ, List.getElem?_cons_zero]; first | done | rfl)); (· exact (fun _ _ _ h => h)); (· rfl); (· (intro w hSw; (try dsimp only at hSw); go_simp; (try with_reducible rfl)))) | (refine wpAnyH_take (i := 8) (oi := ?_) (v := ?_) ?_ (by kernel_rfl) (by kernel_rfl) (by kernel_rfl) ?_ (Or.inr ⟨?_, ?_⟩) (by assumption) ?_; rotate_left 2; (· (simp only [List.getElem?_toArray, List.getElem?_cons_succ, List.getElem?_cons_zero]; first | done | rfl)); (· exact (fun _ _ _ h => h)); (· rfl); (· rfl)) | fail
          (try simp only [Act.put, List.setIfInBounds_toArray, List.set_cons_zero, List.set_cons_succ])
          first | (refine wpAnyH_take (i := 10) (oi := ?_) (v := ?_) ?_ (by kernel_rfl) (by kernel_rfl) (by kernel_rfl) ?_ (Or.inl ⟨?_, ?_⟩) (by assumption) ?_; rotate_left 2; (· (simp only [List.getElem?_toArray, List.getElem?_cons_succ, List.getElem?_cons_zero]; first | done | rfl)); (· exact (fun _ _ _ h => h)); (· rfl); (· (intro w hSw; (try dsimp only at hSw); go_simp; (try with_reducible rfl)))) | (refine wpAnyH_take (i := 10) (oi := ?_) (v := ?_) ?_ (by kernel_rfl) (by kernel_rfl) (by kernel_rfl) ?_ (Or.inr ⟨?_, ?_⟩) (by assumption) ?_; rotate_left 2; (· (simp only [List.getElem?_toArray, List.getElem?_cons_succ, List.getElem?_cons_zero]; first | done | rfl)); (· exact (fun _ _ _ h => h)); (· rfl); (· rfl)) | fail
          (try simp only [Act.put, List.setIfInBounds_toArray, List.set_cons_zero, List.set_cons_succ])
          refine wpAnyH_ready (rs := [7]) (by kernel_rfl) (by simp) ?_
          refine AllReadyH.cons (o := ?_) ?_ (fun K hK => ?_) AllReadyH.nil
          rotate_left 1
          · (simp only [List.getElem?_toArray, List.getElem?_cons_succ, List.getElem?_cons_zero]; first | done | rfl)
          go_simp
          first | (refine hK.out _ _ ?_ (fun hq2 => ?_)) | ((first | (go_at_call 32; refine (matchG_any _ _ _ _ _ _ _ _ _ _ _ _ (by first | exact mS_attrs (by assumption) | exact hat6) (by omega)).mono ?_; rintro e w5 ⟨rfl, hb5⟩; (first | rw [HM1.out] | rw [HMC.out] | rw [HMN.out])) | (go_at_call 33; refine (HCN.out _).mono ?_; rintro e w5 ⟨rfl, hb5⟩) | (go_at_call 25; refine (HWI.out _ _ (mS_attrs (by assumption)) (one_name _ _ _ _ (by simp))).mono ?_; rintro e w6 ⟨b1, cp1, rfl, hat6, _, hb6⟩)); refine hK.out _ _ ?_ (fun hq2 => ?_)) | ((first | (go_at_call 32; refine (matchG_any _ _ _ _ _ _ _ _ _ _ _ _ (by first | exact mS_attrs (by assumption) | exact hat6) (by omega)).mono ?_; rintro e w5 ⟨rfl, hb5⟩; (first | rw [HM1.out] | rw [HMC.out] | rw [HMN.out])) | (go_at_call 33; refine (HCN.out _).mono ?_; rintro e w5 ⟨rfl, hb5⟩) | (go_at_call 25; refine (HWI.out _ _ (mS_attrs (by assumption)) (one_name _ _ _ _ (by simp))).mono ?_; rintro e w6 ⟨b1, cp1, rfl, hat6, _, hb6⟩)); go_wp2_with fail; refine hK.out _ _ ?_ (fun hq2 => ?_)) | fail
          · ((try dsimp only); (first | exact mS_below (bdrewN (Below.refl _ _) 1) HST2.out | assumption | exact mS_below (by assumption) (by assumption) | exact mS_below (balloc _ _) (by assumption)))
          clear hK K
          (try simp only [Act.put, List.setIfInBounds_toArray, List.set_cons_zero, List.set_cons_succ])
          clear hq1
          refine wpAnyH_ready (rs := [9]) (by kernel_rfl) (by simp) ?_
          refine AllReadyH.cons (o := ?_) ?_ (fun K hK => ?_) AllReadyH.nil
          rotate_left 1
          · (simp only [List.getElem?_toArray, List.getElem?_cons_succ, List.getElem?_cons_zero]; first | done | rfl)
          go_simp
          first | (refine hK.out _ _ ?_ (fun hq3 => ?_)) | ((first | (go_at_call 32; refine (matchG_any _ _ _ _ _ _ _ _ _ _ _ _ (by first | exact mS_attrs (by assumption) | exact hat6) (by omega)).mono ?_; rintro e w5 ⟨rfl, hb5⟩; (first | rw [HM1.out] | rw [HMC.out] | rw [HMN.out])) | (go_at_call 33; refine (HCN.out _).mono ?_; rintro e w5 ⟨rfl, hb5⟩) | (go_at_call 25; refine (HWI.out _ _ (mS_attrs (by assumption)) (one_name _ _ _ _ (by simp))).mono ?_; rintro e w6 ⟨b1, cp1, rfl, hat6, _, hb6⟩)); refine hK.out _ _ ?_ (fun hq3 => ?_)) | ((first | (go_at_call 32; refine (matchG_any _ _ _ _ _ _ _ _ _ _ _ _ (by first | exact mS_attrs (by assumption) | exact hat6) (by omega)).mono ?_; rintro e w5 ⟨rfl, hb5⟩; (first | rw [HM1.out] | rw [HMC.out] | rw [HMN.out])) | (go_at_call 33; refine (HCN.out _).mono ?_; rintro e w5 ⟨rfl, hb5⟩) | (go_at_call 25; refine (HWI.out _ _ (mS_attrs (by assumption)) (one_name _ _ _ _ (by simp))).mono ?_; rintro e w6 ⟨b1, cp1, rfl, hat6, _, hb6⟩)); go_wp2_with fail; refine hK.out _ _ ?_ (fun hq3 => ?_)) | fail
          · ((try dsimp only); (first | exact mS_below (bdrewN (Below.refl _ _) 1) HST2.out | assumption | exact mS_below (by assumption) (by assumption) | exact mS_below (balloc _ _) (by assumption)))
          clear hK K
          (try simp only [Act.put, List.setIfInBounds_toArray, List.set_cons_zero, List.set_cons_succ])
          clear hq2
          first | (refine wpAnyH_take (i := 11) (oi := ?_) (v := ?_) ?_ (by kernel_rfl) (by kernel_rfl) (by kernel_rfl) ?_ (Or.inl ⟨?_, ?_⟩) (by assumption) ?_; rotate_left 2; (· (simp only [List.getElem?_toArray, List.getElem?_cons_succ, List.getElem?_cons_zero]; first | done | rfl)); (· exact (fun _ _ _ h => h)); (· rfl); (· (intro w hSw; (try dsimp only at hSw); go_simp; (try with_reducible rfl)))) | (refine wpAnyH_take (i := 11) (oi := ?_) (v := ?_) ?_ (by kernel_rfl) (by kernel_rfl) (by kernel_rfl) ?_ (Or.inr ⟨?_, ?_⟩) (by assumption) ?_; rotate_left 2; (· (simp only [List.getElem?_toArray, List.getElem?_cons_succ, List.getElem?_cons_zero]; first | done | rfl)); (· exact (fun _ _ _ h => h)); (· rfl); (· rfl)) | fail
          (try simp only [Act.put, List.setIfInBounds_toArray, List.set_cons_zero, List.set_cons_succ])
          first | (refine wpAnyH_take (i := 12) (oi := ?_) (v := ?_) ?_ (by kernel_rfl) (by kernel_rfl) (by kernel_rfl) ?_ (Or.inl ⟨?_, ?_⟩) (by assumption) ?_; rotate_left 2; (· (simp only [List.getElem?_toArray, List.getElem?_cons_succ, List.getElem?_cons_zero]; first | done | rfl)); (· exact (fun _ _ _ h => h)); (· rfl); (· (intro w hSw; (try dsimp only at hSw); go_simp; (try with_reducible rfl)))) | (refine wpAnyH_take (i := 12) (oi := ?_) (v := ?_) ?_ (by kernel_rfl) (by kernel_rfl) (by kernel_rfl) ?_ (Or.inr ⟨?_, ?_⟩) (by assumption) ?_; rotate_left 2; (· (simp only [List.getElem?_toArray, List.getElem?_cons_succ, List.getElem?_cons_zero]; first | done | rfl)); (· exact (fun _ _ _ h => h)); (· rfl); (· rfl)) | fail
          (try simp only [Act.put, List.setIfInBounds_toArray, List.set_cons_zero, List.set_cons_succ])
          first | (refine wpAnyH_take (i := 13) (oi := ?_) (v := ?_) ?_ (by kernel_rfl) (by kernel_rfl) (by kernel_rfl) ?_ (Or.inl ⟨?_, ?_⟩) (by assumption) ?_; rotate_left 2; (· (simp only [List.getElem?_toArray, List.getElem?_cons_succ, List.getElem?_cons_zero]; first | done | rfl)); (· exact (fun _ _ _ h => h)); (· rfl); (· (intro w hSw; (try dsimp only at hSw); go_simp; (try with_reducible rfl)))) | (refine wpAnyH_take (i := 13) (oi := ?_) (v := ?_) ?_ (by kernel_rfl) (by kernel_rfl) (by kernel_rfl) ?_ (Or.inr ⟨?_, ?_⟩) (by assumption) ?_; rotate_left 2; (· (simp only [List.getElem?_toArray, List.getElem?_cons_succ, List.getElem?_cons_zero]; first | done | rfl)); (· exact (fun _ _ _ h => h)); (· rfl); (· rfl)) | fail
          (try simp only [Act.put, List.setIfInBounds_toArray, List.set_cons_zero, List.set_cons_succ])
          first | (refine wpAnyH_take (i := 14) (oi := ?_) (v := ?_) ?_ (by kernel_rfl) (by kernel_rfl) (by kernel_rfl) ?_ (Or.inl ⟨?_, ?_⟩) (by assumption) ?_; rotate_left 2; (· (simp only [List.getElem?_toArray, List.getElem?_cons_succ, List.getElem?_cons_zero]; first | done | rfl)); (· exact (fun _ _ _ h => h)); (· rfl); (· (intro w hSw; (try dsimp only at hSw); go_simp; (try with_reducible rfl)))) | (refine wpAnyH_take (i := 14) (oi := ?_) (v := ?_) ?_ (by kernel_rfl) (by kernel_rfl) (by kernel_rfl) ?_ (Or.inr ⟨?_, ?_⟩) (by assumption) ?_; rotate_left 2; (· (simp only [List.getElem?_toArray, List.getElem?_cons_succ, List.getElem?_cons_zero]; first | done | rfl)); (· exact (fun _ _ _ h => h)); (· rfl); (· rfl)) | fail
          (try simp only [Act.put, List.setIfInBounds_toArray, List.set_cons_zero, List.set_cons_succ])
          first | (refine wpAnyH_take (i := 15) (oi := ?_) (v := ?_) ?_ (by kernel_rfl) (by kernel_rfl) (by kernel_rfl) ?_ (Or.inl ⟨?_, ?_⟩) (by assumption) ?_; rotate_left 2; (· (simp only [List.getElem?_toArray, List.getElem?_cons_succ, List.getElem?_cons_zero]; first | done | rfl)); (· exact (fun _ _ _ h => h)); (· rfl); (· (intro w hSw; (try dsimp only at hSw); go_simp; (try with_reducible rfl)))) | (refine wpAnyH_take (i := 15) (oi := ?_) (v := ?_) ?_ (by kernel_rfl) (by kernel_rfl) (by kernel_rfl) ?_ (Or.inr ⟨?_, ?_⟩) (by assumption) ?_; rotate_left 2; (· (simp only [List.getElem?_toArray, List.getElem?_cons_succ, List.getElem?_cons_zero]; first | done | rfl)); (· exact (fun _ _ _ h => h)); (· rfl); (· rfl)) | fail
          (try simp only [Act.put, List.setIfInBounds_toArray, List.set_cons_zero, List.set_cons_succ])
          first | (refine wpAnyH_take (i := 16) (oi := ?_) (v := ?_) ?_ (by kernel_rfl) (by kernel_rfl) (by kernel_rfl) ?_ (Or.inl ⟨?_, ?_⟩) (by assumption) ?_; rotate_left 2; (· (simp only [List.getElem?_toArray, List.getElem?_cons_succ, List.getElem?_cons_zero]; first | done | rfl)); (· exact (fun _ _ _ h => h)); (· rfl); (· (intro w hSw; (try dsimp only at hSw); go_simp; (try with_reducible rfl)))) | (refine wpAnyH_take (i := 16) (oi := ?_) (v := ?_) ?_ (by kernel_rfl) (by kernel_rfl) (by kernel_rfl) ?_ (Or.inr ⟨?_, ?_⟩) (by assumption) ?_; rotate_left 2; (· (simp only [List.getElem?_toArray, List.getElem?_cons_succ, List.getElem?_cons_zero]; first | done | rfl)); (· exact (fun _ _ _ h => h)); (· rfl); (· rfl)) | fail
          (try simp only [Act.put, List.setIfInBounds_toArray, List.set_cons_zero, List.set_cons_succ])
          first | (refine wpAnyH_take (i := 17) (oi := ?_) (v := ?_) ?_ (by kernel_rfl) (by kernel_rfl) (by kernel_rfl) ?_ (Or.inl ⟨?_, ?_⟩) (by assumption) ?_; rotate_left 2; (· (simp only [List.getElem?_toArray, List.getElem?_cons_succ, List.getElem?_cons_zero]; first | done | rfl)); (· exact (fun _ _ _ h => h)); (· rfl); (· (intro w hSw; (try dsimp only at hSw); go_simp; (try with_reducible rfl)))) | (refine wpAnyH_take (i := 17) (oi := ?_) (v := ?_) ?_ (by kernel_rfl) (by kernel_rfl) (by kernel_rfl) ?_ (Or.inr ⟨?_, ?_⟩) (by assumption) ?_; rotate_left 2; (· (simp only [List.getElem?_toArray, List.getElem?_cons_succ, List.getElem?_cons_zero]; first | done | rfl)); (· exact (fun _ _ _ h => h)); (· rfl); (· rfl)) | fail
          (try simp only [Act.put, List.setIfInBounds_toArray, List.set_cons_zero, List.set_cons_succ])
          refine wpAnyH_ready (rs := [18]) (by kernel_rfl) (by simp) ?_
          refine AllReadyH.cons (o := ?_) ?_ (fun K hK => ?_) AllReadyH.nil
          rotate_left 1
          · (simp only [List.getElem?_toArray, List.getElem?_cons_succ, List.getElem?_cons_zero]; first | done | rfl)
          go_simp
          first | (refine hK.out _ _ ?_ (fun hq4 => ?_)) | ((first | (go_at_call 32; refine (matchG_any _ _ _ _ _ _ _ _ _ _ _ _ (by first | exact mS_attrs (by assumption) | exact hat6) (by omega)).mono ?_; rintro e w5 ⟨rfl, hb5⟩; (first | rw [HM1.out] | rw [HMC.out] | rw [HMN.out])) | (go_at_call 33; refine (HCN.out _).mono ?_; rintro e w5 ⟨rfl, hb5⟩) | (go_at_call 25; refine (HWI.out _ _ (mS_attrs (by assumption)) (one_name _ _ _ _ (by simp))).mono ?_; rintro e w6 ⟨b1, cp1, rfl, hat6, _, hb6⟩)); refine hK.out _ _ ?_ (fun hq4 => ?_)) | ((first | (go_at_call 32; refine (matchG_any _ _ _ _ _ _ _ _ _ _ _ _ (by first | exact mS_attrs (by assumption) | exact hat6) (by omega)).mono ?_; rintro e w5 ⟨rfl, hb5⟩; (first | rw [HM1.out] | rw [HMC.out] | rw [HMN.out])) | (go_at_call 33; refine (HCN.out _).mono ?_; rintro e w5 ⟨rfl, hb5⟩) | (go_at_call 25; refine (HWI.out _ _ (mS_attrs (by assumption)) (one_name _ _ _ _ (by simp))).mono ?_; rintro e w6 ⟨b1, cp1, rfl, hat6, _, hb6⟩)); go_wp2_with fail; refine hK.out _ _ ?_ (fun hq4 => ?_)) | fail
          · ((try dsimp only); (first | exact mS_below (bdrewN (Below.refl _ _) 1) HST2.out | assumption | exact mS_below (by assumption) (by assumption) | exact mS_below (balloc _ _) (by assumption)))
          clear hK K
          (try simp only [Act.put, List.setIfInBounds_toArray, List.set_cons_zero, List.set_cons_succ])
          clear hq3
          refine wpAnyH_ready (rs := [19]) (by kernel_rfl) (by simp) ?_
          refine AllReadyH.cons (o := ?_) ?_ (fun K hK => ?_) AllReadyH.nil
          rotate_left 1
          · (simp only [List.getElem?_toArray, List.getElem?_cons_succ, List.getElem?_cons_zero]; first | done | rfl)
          go_simp
          first | (refine hK.out _ _ ?_ (fun hq5 => ?_)) | ((first | (go_at_call 32; refine (matchG_any _ _ _ _ _ _ _ _ _ _ _ _ (by first | exact mS_attrs (by assumption) | exact hat6) (by omega)).mono ?_; rintro e w5 ⟨rfl, hb5⟩; (first | rw [HM1.out] | rw [HMC.out] | rw [HMN.out])) | (go_at_call 33; refine (HCN.out _).mono ?_; rintro e w5 ⟨rfl, hb5⟩) | (go_at_call 25; refine (HWI.out _ _ (mS_attrs (by assumption)) (one_name _ _ _ _ (by simp))).mono ?_; rintro e w6 ⟨b1, cp1, rfl, hat6, _, hb6⟩)); refine hK.out _ _ ?_ (fun hq5 => ?_)) | ((first | (go_at_call 32; refine (matchG_any _ _ _ _ _ _ _ _ _ _ _ _ (by first | exact mS_attrs (by assumption) | exact hat6) (by omega)).mono ?_; rintro e w5 ⟨rfl, hb5⟩; (first | rw [HM1.out] | rw [HMC.out] | rw [HMN.out])) | (go_at_call 33; refine (HCN.out _).mono ?_; rintro e w5 ⟨rfl, hb5⟩) | (go_at_call 25; refine (HWI.out _ _ (mS_attrs (by assumption)) (one_name _ _ _ _ (by simp))).mono ?_; rintro e w6 ⟨b1, cp1, rfl, hat6, _, hb6⟩)); go_wp2_with fail; refine hK.out _ _ ?_ (fun hq5 => ?_)) | fail
          · ((try dsimp only); (first | exact mS_below (bdrewN (Below.refl _ _) 1) HST2.out | assumption | exact mS_below (by assumption) (by assumption) | exact mS_below (balloc _ _) (by assumption)))
          clear hK K
          (try simp only [Act.put, List.setIfInBounds_toArray, List.set_cons_zero, List.set_cons_succ])
          clear hq4
          refine wpAnyH_ready (rs := [20]) (by kernel_rfl) (by simp) ?_
          refine AllReadyH.cons (o := ?_) ?_ (fun K hK => ?_) AllReadyH.nil
          rotate_left 1
          · (simp only [List.getElem?_toArray, List.getElem?_cons_succ, List.getElem?_cons_zero]; first | done | rfl)
          go_simp
          first | (refine hK.out _ _ ?_ (fun hq6 => ?_)) | ((first | (go_at_call 32; refine (matchG_any _ _ _ _ _ _ _ _ _ _ _ _ (by first | exact mS_attrs (by assumption) | exact hat6) (by omega)).mono ?_; rintro e w5 ⟨rfl, hb5⟩; (first | rw [HM1.out] | rw [HMC.out] | rw [HMN.out])) | (go_at_call 33; refine (HCN.out _).mono ?_; rintro e w5 ⟨rfl, hb5⟩) | (go_at_call 25; refine (HWI.out _ _ (mS_attrs (by assumption)) (one_name _ _ _ _ (by simp))).mono ?_; rintro e w6 ⟨b1, cp1, rfl, hat6, _, hb6⟩)); refine hK.out _ _ ?_ (fun hq6 => ?_)) | ((first | (go_at_call 32; refine (matchG_any _ _ _ _ _ _ _ _ _ _ _ _ (by first | exact mS_attrs (by assumption) | exact hat6) (by omega)).mono ?_; rintro e w5 ⟨rfl, hb5⟩; (first | rw [HM1.out] | rw [HMC.out] | rw [HMN.out])) | (go_at_call 33; refine (HCN.out _).mono ?_; rintro e w5 ⟨rfl, hb5⟩) | (go_at_call 25; refine (HWI.out _ _ (mS_attrs (by assumption)) (one_name _ _ _ _ (by simp))).mono ?_; rintro e w6 ⟨b1, cp1, rfl, hat6, _, hb6⟩)); go_wp2_with fail; refine hK.out _ _ ?_ (fun hq6 => ?_)) | fail
          · ((try dsimp only); (first | exact mS_below (bdrewN (Below.refl _ _) 1) HST2.out | assumption | exact mS_below (by assumption) (by assumption) | exact mS_below (balloc _ _) (by assumption)))
          clear hK K
          (try simp only [Act.put, List.setIfInBounds_toArray, List.set_cons_zero, List.set_cons_succ])
          clear hq5
          first | (refine wpAnyH_take (i := 21) (oi := ?_) (v := ?_) ?_ (by kernel_rfl) (by kernel_rfl) (by kernel_rfl) ?_ (Or.inl ⟨?_, ?_⟩) (by assumption) ?_; rotate_left 2; (· (simp only [List.getElem?_toArray, List.getElem?_cons_succ, List.getElem?_cons_zero]; first | done | rfl)); (· exact (fun _ _ _ h => h)); (· rfl); (· (intro w hSw; (try dsimp only at hSw); go_simp; (try with_reducible rfl)))) | (refine wpAnyH_take (i := 21) (oi := ?_) (v := ?_) ?_ (by kernel_rfl) (by kernel_rfl) (by kernel_rfl) ?_ (Or.inr ⟨?_, ?_⟩) (by assumption) ?_; rotate_left 2; (· (simp only [List.getElem?_toArray, List.getElem?_cons_succ, List.getElem?_cons_zero]; first | done | rfl)); (· exact (fun _ _ _ h => h)); (· rfl); (· rfl)) | fail
          (try simp only [Act.put, List.setIfInBounds_toArray, List.set_cons_zero, List.set_cons_succ])
          first | (refine wpAnyH_take (i := 22) (oi := ?_) (v := ?_) ?_ (by kernel_rfl) (by kernel_rfl) (by kernel_rfl) ?_ (Or.inl ⟨?_, ?_⟩) (by assumption) ?_; rotate_left 2; (· (simp only [List.getElem?_toArray, List.getElem?_cons_succ, List.getElem?_cons_zero]; first | done | rfl)); (· exact (fun _ _ _ h => h)); (· rfl); (· (intro w hSw; (try dsimp only at hSw); go_simp; (try with_reducible rfl)))) | (refine wpAnyH_take (i := 22) (oi := ?_) (v := ?_) ?_ (by kernel_rfl) (by kernel_rfl) (by kernel_rfl) ?_ (Or.inr ⟨?_, ?_⟩) (by assumption) ?_; rotate_left 2; (· (simp only [List.getElem?_toArray, List.getElem?_cons_succ, List.getElem?_cons_zero]; first | done | rfl)); (· exact (fun _ _ _ h => h)); (· rfl); (· rfl)) | fail
          (try simp only [Act.put, List.setIfInBounds_toArray, List.set_cons_zero, List.set_cons_succ])
          first | (refine wpAnyH_take (i := 23) (oi := ?_) (v := ?_) ?_ (by kernel_rfl) (by kernel_rfl) (by kernel_rfl) ?_ (Or.inl ⟨?_, ?_⟩) (by assumption) ?_; rotate_left 2; (· (simp only [List.getElem?_toArray, List.getElem?_cons_succ, List.getElem?_cons_zero]; first | done | rfl)); (· exact (fun _ _ _ h => h)); (· rfl); (· (intro w hSw; (try dsimp only at hSw); go_simp; (try with_reducible rfl)))) | (refine wpAnyH_take (i := 23) (oi := ?_) (v := ?_) ?_ (by kernel_rfl) (by kernel_rfl) (by kernel_rfl) ?_ (Or.inr ⟨?_, ?_⟩) (by assumption) ?_; rotate_left 2; (· (simp only [List.getElem?_toArray, List.getElem?_cons_succ, List.getElem?_cons_zero]; first | done | rfl)); (· exact (fun _ _ _ h => h)); (· rfl); (· rfl)) | fail
          (try simp only [Act.put, List.setIfInBounds_toArray, List.set_cons_zero, List.set_cons_succ])
          refine wpAnyH_done (by kernel_rfl) ?_ _
          go_wp2_with fail
          go_ret
          exact ⟨by simp, mS_own (by assumption)⟩
end Go.Proofs.YtdggofleokjmcaaGreatDoor.Val
