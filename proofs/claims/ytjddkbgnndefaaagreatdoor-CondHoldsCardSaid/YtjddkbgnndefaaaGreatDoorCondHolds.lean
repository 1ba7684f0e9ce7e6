/- The statement CondHolds is proved: conditions hold for values as the document says. -/
import Derived.Test.YtjddkbgnndefaaaGreatDoorFrameC
import Derived.Test.YtjddkbgnndefaaaGreatDoorOpenG
import Derived.Test.YtjddkbgnndefaaaGreatDoorCondFit
import Derived.Test.YtjddkbgnndefaaaGreatDoorLaid
import Derived.Test.YtjddkbgnndefaaaGreatDoorCondVoid
namespace Go.Proofs.YtjddkbgnndefaaaGreatDoor.Val
open Go.RowKit Go.ChangeShapes Go.WideShapes Go.ChangeAt Flt
theorem words_ofHolds {W : World} (h : laidMetH Tryz.prog Rows.condHoldsRow.laid W) : Words W := fun i hi =>
  Laid.strs (name := "gazette/cond.words") (zs := [[61], [33, 61], [60], [60, 61], [62], [62, 61], [94], [104, 97, 115]]) (by kernel_rfl) (by kernel_rfl) (by kernel_rfl) Tryz.underlying63 Tryz.underlying9 (by kernel_rfl) (by kernel_rfl) (by kernel_rfl) h i hi
theorem hh_below {nm : List UInt8} {op k n : Int} {x : Nat} {t : List UInt8} {y : Bool} {k2 n2 : Int} {x2 : Nat} {t2 : List UInt8} {y2 : Bool} {w w1 w2 : World} (hb : Below w1.heap.size w1 w2) (h : w1.cell? ⟨w.heap.size, 0, none⟩ = some (.string ⟨nm.toArray⟩) ∧ w1.cell? ⟨w.heap.size, 1, none⟩ = some (.int .i64 op) ∧ w1.cell? ⟨w.heap.size, 2, none⟩ = some (.int .i64 k) ∧ w1.cell? ⟨w.heap.size, 3, none⟩ = some (.int .i64 n) ∧ w1.cell? ⟨w.heap.size, 4, none⟩ = some (.float .f64 x) ∧ w1.cell? ⟨w.heap.size, 5, none⟩ = some (.string ⟨t.toArray⟩) ∧ w1.cell? ⟨w.heap.size, 6, none⟩ = some (.bool y) ∧ w1.cell? ⟨w.heap.size + 1, 0, none⟩ = some (.int .i64 k2) ∧ w1.cell? ⟨w.heap.size + 1, 1, none⟩ = some (.int .i64 n2) ∧ w1.cell? ⟨w.heap.size + 1, 2, none⟩ = some (.float .f64 x2) ∧ w1.cell? ⟨w.heap.size + 1, 3, none⟩ = some (.string ⟨t2.toArray⟩) ∧ w1.cell? ⟨w.heap.size + 1, 4, none⟩ = some (.bool y2) ∧ Below w.heap.size w w1 ∧ w.heap.size + 1 < w1.heap.size) :
    w2.cell? ⟨w.heap.size, 0, none⟩ = some (.string ⟨nm.toArray⟩) ∧ w2.cell? ⟨w.heap.size, 1, none⟩ = some (.int .i64 op) ∧ w2.cell? ⟨w.heap.size, 2, none⟩ = some (.int .i64 k) ∧ w2.cell? ⟨w.heap.size, 3, none⟩ = some (.int .i64 n) ∧ w2.cell? ⟨w.heap.size, 4, none⟩ = some (.float .f64 x) ∧ w2.cell? ⟨w.heap.size, 5, none⟩ = some (.string ⟨t.toArray⟩) ∧ w2.cell? ⟨w.heap.size, 6, none⟩ = some (.bool y) ∧ w2.cell? ⟨w.heap.size + 1, 0, none⟩ = some (.int .i64 k2) ∧ w2.cell? ⟨w.heap.size + 1, 1, none⟩ = some (.int .i64 n2) ∧ w2.cell? ⟨w.heap.size + 1, 2, none⟩ = some (.float .f64 x2) ∧ w2.cell? ⟨w.heap.size + 1, 3, none⟩ = some (.string ⟨t2.toArray⟩) ∧ w2.cell? ⟨w.heap.size + 1, 4, none⟩ = some (.bool y2) ∧ Below w.heap.size w w2 ∧ w.heap.size + 1 < w2.heap.size := by
  obtain ⟨h0, h1, h2, h3, h4, h5, h6, h7, h8, h9, h10, h11, hB, hl⟩ := h
  have c : ∀ b o, b < w1.heap.size → w2.cell? ⟨b, o, none⟩ = w1.cell? ⟨b, o, none⟩ := fun b o h => hb.cell (p := ⟨b, o, none⟩) h
  exact ⟨by rw [c _ _ (by omega)]; exact h0, by rw [c _ _ (by omega)]; exact h1, by rw [c _ _ (by omega)]; exact h2, by rw [c _ _ (by omega)]; exact h3, by rw [c _ _ (by omega)]; exact h4, by rw [c _ _ (by omega)]; exact h5, by rw [c _ _ (by omega)]; exact h6, by rw [c _ _ (by omega)]; exact h7, by rw [c _ _ (by omega)]; exact h8, by rw [c _ _ (by omega)]; exact h9, by rw [c _ _ (by omega)]; exact h10, by rw [c _ _ (by omega)]; exact h11, btrans hB hb, Nat.lt_of_lt_of_le hl hb.size⟩
theorem hh_start {nm : List UInt8} {op k n : Int} {x : Nat} {t : List UInt8} {y : Bool} {k2 n2 : Int} {x2 : Nat} {t2 : List UInt8} {y2 : Bool} {w w1 : World} {T U : TypeId} (hb : Below ((w.alloc (.cells #[(.string ⟨nm.toArray⟩), (.int .i64 op), (.int .i64 k), (.int .i64 n), (.float .f64 x), (.string ⟨t.toArray⟩), (.bool y)] T)).alloc (.cells #[(.int .i64 k2), (.int .i64 n2), (.float .f64 x2), (.string ⟨t2.toArray⟩), (.bool y2)] U)).heap.size ((w.alloc (.cells #[(.string ⟨nm.toArray⟩), (.int .i64 op), (.int .i64 k), (.int .i64 n), (.float .f64 x), (.string ⟨t.toArray⟩), (.bool y)] T)).alloc (.cells #[(.int .i64 k2), (.int .i64 n2), (.float .f64 x2), (.string ⟨t2.toArray⟩), (.bool y2)] U)) w1) :
    w1.drew.cell? ⟨w.heap.size, 0, none⟩ = some (.string ⟨nm.toArray⟩) ∧ w1.drew.cell? ⟨w.heap.size, 1, none⟩ = some (.int .i64 op) ∧ w1.drew.cell? ⟨w.heap.size, 2, none⟩ = some (.int .i64 k) ∧ w1.drew.cell? ⟨w.heap.size, 3, none⟩ = some (.int .i64 n) ∧ w1.drew.cell? ⟨w.heap.size, 4, none⟩ = some (.float .f64 x) ∧ w1.drew.cell? ⟨w.heap.size, 5, none⟩ = some (.string ⟨t.toArray⟩) ∧ w1.drew.cell? ⟨w.heap.size, 6, none⟩ = some (.bool y) ∧ w1.drew.cell? ⟨w.heap.size + 1, 0, none⟩ = some (.int .i64 k2) ∧ w1.drew.cell? ⟨w.heap.size + 1, 1, none⟩ = some (.int .i64 n2) ∧ w1.drew.cell? ⟨w.heap.size + 1, 2, none⟩ = some (.float .f64 x2) ∧ w1.drew.cell? ⟨w.heap.size + 1, 3, none⟩ = some (.string ⟨t2.toArray⟩) ∧ w1.drew.cell? ⟨w.heap.size + 1, 4, none⟩ = some (.bool y2) ∧ Below w.heap.size w w1.drew ∧ w.heap.size + 1 < w1.drew.heap.size := by
  have hz := size2 hb
  have c : ∀ b o, b < w.heap.size + 2 → w1.cell? ⟨b, o, none⟩ = ((w.alloc (.cells #[(.string ⟨nm.toArray⟩), (.int .i64 op), (.int .i64 k), (.int .i64 n), (.float .f64 x), (.string ⟨t.toArray⟩), (.bool y)] T)).alloc (.cells #[(.int .i64 k2), (.int .i64 n2), (.float .f64 x2), (.string ⟨t2.toArray⟩), (.bool y2)] U)).cell? ⟨b, o, none⟩ := fun b o h => hb.cell (p := ⟨b, o, none⟩) (by simp; omega)
  have c0 : ∀ o, w1.drew.cell? ⟨w.heap.size, o, none⟩ = #[(.string ⟨nm.toArray⟩), (.int .i64 op), (.int .i64 k), (.int .i64 n), (.float .f64 x), (.string ⟨t.toArray⟩), (.bool y)][o]? := fun o => (c _ o (by omega)).trans (by simp)
  have c1 : ∀ o, w1.drew.cell? ⟨w.heap.size + 1, o, none⟩ = #[(.int .i64 k2), (.int .i64 n2), (.float .f64 x2), (.string ⟨t2.toArray⟩), (.bool y2)][o]? := fun o => (c _ o (by omega)).trans (by simp)
  exact ⟨c0 0, c0 1, c0 2, c0 3, c0 4, c0 5, c0 6, c1 0, c1 1, c1 2, c1 3, c1 4, bdrewN (btrans (balloc2 _ _ _) hb) 1, hz⟩
theorem hh_own {nm : List UInt8} {op k n : Int} {x : Nat} {t : List UInt8} {y : Bool} {k2 n2 : Int} {x2 : Nat} {t2 : List UInt8} {y2 : Bool} {w w1 : World} (h : w1.cell? ⟨w.heap.size, 0, none⟩ = some (.string ⟨nm.toArray⟩) ∧ w1.cell? ⟨w.heap.size, 1, none⟩ = some (.int .i64 op) ∧ w1.cell? ⟨w.heap.size, 2, none⟩ = some (.int .i64 k) ∧ w1.cell? ⟨w.heap.size, 3, none⟩ = some (.int .i64 n) ∧ w1.cell? ⟨w.heap.size, 4, none⟩ = some (.float .f64 x) ∧ w1.cell? ⟨w.heap.size, 5, none⟩ = some (.string ⟨t.toArray⟩) ∧ w1.cell? ⟨w.heap.size, 6, none⟩ = some (.bool y) ∧ w1.cell? ⟨w.heap.size + 1, 0, none⟩ = some (.int .i64 k2) ∧ w1.cell? ⟨w.heap.size + 1, 1, none⟩ = some (.int .i64 n2) ∧ w1.cell? ⟨w.heap.size + 1, 2, none⟩ = some (.float .f64 x2) ∧ w1.cell? ⟨w.heap.size + 1, 3, none⟩ = some (.string ⟨t2.toArray⟩) ∧ w1.cell? ⟨w.heap.size + 1, 4, none⟩ = some (.bool y2) ∧ Below w.heap.size w w1 ∧ w.heap.size + 1 < w1.heap.size) : Below w.heap.size w w1 := by
  obtain ⟨_, _, _, _, _, _, _, _, _, _, _, _, hB, hl⟩ := h
  exact hB
set_option maxRecDepth 20000 in
set_option maxHeartbeats 4000000 in
theorem holds06_any (nm : List UInt8) (op k n : Int) (x : Nat) (t : List UInt8) (y : Bool) (k2 n2 : Int) (x2 : Nat) (t2 : List UInt8) (y2 : Bool) (w : World) (hw : Words w) (hn : nm.length ≤ 140737488351232) (ht : t.length ≤ 140737488351232) (ht2 : t2.length ≤ 140737488351232) :
    Calls Tryz.prog 3 #[cond nm op k n x t y, val k2 n2 x2 t2 y2] w fun e w' => e = .returned (.bool true) ∧ Below w.heap.size w w' := by
  have HW := Lib.hid hw; clear hw
  have hli (w : World) := light_any nm op k n x t y w hn ht
  have hri (w : World) := cright_any nm op k n x t y w hn ht
  have hvi (w : World) := vright_any k n x t y w ht
  have hmi (w : World) := Sc.name_l nm w hn
  have hho (w : World) := holds_any nm op k n x t y k2 n2 x2 t2 y2 w
  have hrh (w : World) := rholds_any nm op k n x t y k2 n2 x2 t2 y2 w ht2
  have hvo (w : World) := cvoid_any nm op k n x t y w
  have hrv (w : World) := rcvoid_any nm op k n x t y w
  have hvh := void_holds ⟨nm, op, k, n, x, t, y⟩ ⟨k2, n2, x2, t2, y2⟩
  have hr : cRight ⟨nm, op, k, n, x, t, y⟩ = (Sc.nameB nm && decide (0 ≤ op) && decide (op ≤ 7) && vRight ⟨k, n, x, t, y⟩) := rfl
  rw [hr] at hri
  clear hr
  generalize holdsB ⟨nm, op, k, n, x, t, y⟩ ⟨k2, n2, x2, t2, y2⟩ = hB at *
  generalize cvoidB ⟨nm, op, k, n, x, t, y⟩ = vB at *
  generalize vRight ⟨k, n, x, t, y⟩ = rB at *
  generalize Sc.nameB nm = nB at *
  generalize decide (nm.length + t.length ≤ 300) = lB at *
  have HM := Lib.hid hmi; have HV := Lib.hid hvi; have HL := Lib.hid hli; have HH := Lib.hid hho; have HRH := Lib.hid hrh; have HVO := Lib.hid hvo; have HRV := Lib.hid hrv; have HVH := Lib.hid hvh
  clear hmi hvi hli hho hrh hvo hrv hvh
  cases lB
  · go_enter Tryz.func3, Tryz.ntmps3
    go_wp2_with (first | (go_at_call 11; refine (fit_any _ (HW.out.below (by repeat (first | assumption | exact balloc _ _ | exact balloc2 _ _ _ | refine btrans ?_ (by assumption))))).mono ?_; rintro e w1 ⟨rfl, hb1⟩; obtain ⟨hc1, hf1⟩ := bcell hb1) | (go_at_call 12; refine (HL.out _).mono ?_; rintro e w2 ⟨rfl, hb2⟩; replace hb1 := btrans hb1 hb2; clear hb2 hc1 hf1; obtain ⟨hc1, hf1⟩ := bcell hb1))
    go_ret
    exact ⟨rfl, by repeat (first | assumption | exact balloc _ _ | exact balloc2 _ _ _ | refine btrans ?_ (by assumption))⟩
  by_cases hl : 300 < t2.length
  · have s1 : decide (300 < (t2.length : Int)) = true := by rw [decide_eq_true_iff]; omega
    go_enter Tryz.func3, Tryz.ntmps3
    go_wp2_with (first | (go_at_call 11; refine (fit_any _ (HW.out.below (by repeat (first | assumption | exact balloc _ _ | exact balloc2 _ _ _ | refine btrans ?_ (by assumption))))).mono ?_; rintro e w1 ⟨rfl, hb1⟩; obtain ⟨hc1, hf1⟩ := bcell hb1) | (go_at_call 12; refine (HL.out _).mono ?_; rintro e w2 ⟨rfl, hb2⟩; replace hb1 := btrans hb1 hb2; clear hb2 hc1 hf1; obtain ⟨hc1, hf1⟩ := bcell hb1))
    go_ret
    exact ⟨rfl, by repeat (first | assumption | exact balloc _ _ | exact balloc2 _ _ _ | refine btrans ?_ (by assumption))⟩
  have s1 : decide (300 < (t2.length : Int)) = false := by rw [decide_eq_false_iff_not]; omega
  clear hl
  have hkw : ((decide (k2 < 0) = true) ∨ (decide (k2 < 0) = false ∧ decide (3 < k2) = true) ∨ (decide (k2 < 0) = false ∧ decide (3 < k2) = false ∧ decide (k < 0) = true) ∨ (decide (k2 < 0) = false ∧ decide (3 < k2) = false ∧ decide (k < 0) = false ∧ decide (3 < k) = true)) ∨ (decide (k2 < 0) = false ∧ decide (3 < k2) = false ∧ decide (k < 0) = false ∧ decide (3 < k) = false) := by
    cases decide (k2 < 0) <;> cases decide (3 < k2) <;> cases decide (k < 0) <;> cases decide (3 < k) <;> simp
  rcases right_ways3 op nB with rfl | ⟨rfl, h1⟩ | ⟨rfl, h1, h2⟩ | ⟨rfl, h1, h2⟩
  all_goals
    (try rw [h1] at hri)
    (try rw [h2] at hri)
    have HR := Lib.hid hri; clear hri
    rcases hkw with (a1 | ⟨a1, a2⟩ | ⟨a1, a2, a3⟩ | ⟨a1, a2, a3, a4⟩) | ⟨a1, a2, a3, a4⟩
    rotate_right
    · have hvh := HVH.out
      clear HVH
      have hway : (vB = true ∧ hB = false) ∨ (vB = false ∧ hB = true) ∨ (vB = false ∧ hB = false) := by
        cases vB <;> cases hB <;> simp_all
      clear hvh
      rcases hway with ⟨rfl, rfl⟩ | ⟨rfl, rfl⟩ | ⟨rfl, rfl⟩
      all_goals
        go_enter Tryz.func3, Tryz.ntmps3
        go_wp2_with (first | (go_at_call 11; refine (fit_any _ (HW.out.below (by repeat (first | assumption | exact balloc _ _ | exact balloc2 _ _ _ | refine btrans ?_ (by assumption))))).mono ?_; rintro e w1 ⟨rfl, hb1⟩; obtain ⟨hc1, hf1⟩ := bcell hb1) | (go_at_call 12; refine (HL.out _).mono ?_; rintro e w2 ⟨rfl, hb2⟩; replace hb1 := btrans hb1 hb2; clear hb2 hc1 hf1; obtain ⟨hc1, hf1⟩ := bcell hb1) | (go_at_call 15; refine (HR.out _).mono ?_; rintro e w2 ⟨rfl, hb2⟩; replace hb1 := btrans hb1 hb2; clear hb2 hc1 hf1; obtain ⟨hc1, hf1⟩ := bcell hb1) | (go_at_call 14; refine (HV.out _).mono ?_; rintro e w2 ⟨rfl, hb2⟩; replace hb1 := btrans hb1 hb2; clear hb2 hc1 hf1; obtain ⟨hc1, hf1⟩ := bcell hb1) | (go_at_call 13; refine (HM.out _).mono ?_; rintro e w' ⟨rfl, rfl⟩))
        refine wp_region_held_drew (S := (fun w' => w'.cell? ⟨w.heap.size, 0, none⟩ = some (.string ⟨nm.toArray⟩) ∧ w'.cell? ⟨w.heap.size, 1, none⟩ = some (.int .i64 op) ∧ w'.cell? ⟨w.heap.size, 2, none⟩ = some (.int .i64 k) ∧ w'.cell? ⟨w.heap.size, 3, none⟩ = some (.int .i64 n) ∧ w'.cell? ⟨w.heap.size, 4, none⟩ = some (.float .f64 x) ∧ w'.cell? ⟨w.heap.size, 5, none⟩ = some (.string ⟨t.toArray⟩) ∧ w'.cell? ⟨w.heap.size, 6, none⟩ = some (.bool y) ∧ w'.cell? ⟨w.heap.size + 1, 0, none⟩ = some (.int .i64 k2) ∧ w'.cell? ⟨w.heap.size + 1, 1, none⟩ = some (.int .i64 n2) ∧ w'.cell? ⟨w.heap.size + 1, 2, none⟩ = some (.float .f64 x2) ∧ w'.cell? ⟨w.heap.size + 1, 3, none⟩ = some (.string ⟨t2.toArray⟩) ∧ w'.cell? ⟨w.heap.size + 1, 4, none⟩ = some (.bool y2) ∧ Below w.heap.size w w' ∧ w.heap.size + 1 < w'.heap.size)) (by kernel_rfl) ?_ (fun hq0 => ?_)
        · ((try dsimp only); (first | exact hh_start hb1 | assumption | exact hh_below (by assumption) (by assumption)))
        first | (refine wpAnyH_take (i := 0) (oi := ?_) (v := ?_) ?_ (by kernel_rfl) (by kernel_rfl) (by kernel_rfl) ?_ (Or.inl ⟨?_, ?_⟩) (by assumption) ?_; rotate_left 2; (· (simp only [List.getElem?_toArray, List.getElem?_cons_zero]; first | done | rfl)); (· exact (fun _ _ _ h => h)); (· rfl); (· (intro w hSw; (try dsimp only at hSw); go_simp; (try with_reducible rfl)))) | (refine wpAnyH_take (i := 0) (oi := ?_) (v := ?_) ?_ (by kernel_rfl) (by kernel_rfl) (by kernel_rfl) ?_ (Or.inr ⟨?_, ?_⟩) (by assumption) ?_; rotate_left 2; (· (simp only [List.getElem?_toArray, List.getElem?_cons_zero]; first | done | rfl)); (· exact (fun _ _ _ h => h)); (· rfl); (· rfl)) | fail
        (try simp only [Act.put, List.setIfInBounds_toArray, List.set_cons_zero, List.set_cons_succ])
        first | (refine wpAnyH_take (i := 1) (oi := ?_) (v := ?_) ?_ (by kernel_rfl) (by kernel_rfl) (by kernel_rfl) ?_ (Or.inl ⟨?_, ?_⟩) (by assumption) ?_; rotate_left 2; (· (simp only [List.getElem?_toArray, List.getElem?_cons_succ, List.getElem?_cons_zero]; first | done | rfl)); (· exact (fun _ _ _ h => h)); (· rfl); (· (intro w hSw; (try dsimp only at hSw); go_simp; (try with_reducible rfl)))) | (refine wpAnyH_take (i := 1) (oi := ?_) (v := ?_) ?_ (by kernel_rfl) (by kernel_rfl) (by kernel_rfl) ?_ (Or.inr ⟨?_, ?_⟩) (by assumption) ?_; rotate_left 2; (· (simp only [List.getElem?_toArray, List.getElem?_cons_succ, List.getElem?_cons_zero]; first | done | rfl)); (· exact (fun _ _ _ h => h)); (· rfl); (· rfl)) | fail
        (try simp only [Act.put, List.setIfInBounds_toArray, List.set_cons_zero, List.set_cons_succ])
        first | (refine wpAnyH_take (i := 3) (oi := ?_) (v := ?_) ?_ (by kernel_rfl) (by kernel_rfl) (by kernel_rfl) ?_ (Or.inl ⟨?_, ?_⟩) (by assumption) ?_; rotate_left 2; (· (simp only [List.getElem?_toArray, List.getElem?_cons_succ, List.getElem?_cons_zero]; first | done | rfl)); (· exact (fun _ _ _ h => h)); (· rfl); (· (intro w hSw; (try dsimp only at hSw); go_simp; (try with_reducible rfl)))) | (refine wpAnyH_take (i := 3) (oi := ?_) (v := ?_) ?_ (by kernel_rfl) (by kernel_rfl) (by kernel_rfl) ?_ (Or.inr ⟨?_, ?_⟩) (by assumption) ?_; rotate_left 2; (· (simp only [List.getElem?_toArray, List.getElem?_cons_succ, List.getElem?_cons_zero]; first | done | rfl)); (· exact (fun _ _ _ h => h)); (· rfl); (· rfl)) | fail
        (try simp only [Act.put, List.setIfInBounds_toArray, List.set_cons_zero, List.set_cons_succ])
        first | (refine wpAnyH_take (i := 4) (oi := ?_) (v := ?_) ?_ (by kernel_rfl) (by kernel_rfl) (by kernel_rfl) ?_ (Or.inl ⟨?_, ?_⟩) (by assumption) ?_; rotate_left 2; (· (simp only [List.getElem?_toArray, List.getElem?_cons_succ, List.getElem?_cons_zero]; first | done | rfl)); (· exact (fun _ _ _ h => h)); (· rfl); (· (intro w hSw; (try dsimp only at hSw); go_simp; (try with_reducible rfl)))) | (refine wpAnyH_take (i := 4) (oi := ?_) (v := ?_) ?_ (by kernel_rfl) (by kernel_rfl) (by kernel_rfl) ?_ (Or.inr ⟨?_, ?_⟩) (by assumption) ?_; rotate_left 2; (· (simp only [List.getElem?_toArray, List.getElem?_cons_succ, List.getElem?_cons_zero]; first | done | rfl)); (· exact (fun _ _ _ h => h)); (· rfl); (· rfl)) | fail
        (try simp only [Act.put, List.setIfInBounds_toArray, List.set_cons_zero, List.set_cons_succ])
        refine wpAnyH_ready (rs := [2]) (by kernel_rfl) (by simp) ?_
        refine AllReadyH.cons (o := ?_) ?_ (fun K hK => ?_) AllReadyH.nil
        rotate_left 1
        · (simp only [List.getElem?_toArray, List.getElem?_cons_succ, List.getElem?_cons_zero]; first | done | rfl)
        go_simp
        first | (refine hK.out _ _ ?_ (fun hq1 => ?_)) | ((first | (go_at_call 16; refine (HH.out _).mono ?_; rintro e w2 ⟨rfl, hb2⟩) | (go_at_call 17; refine (HRH.out _).mono ?_; rintro e w2 ⟨rfl, hb2⟩) | (go_at_call 18; refine (HVO.out _).mono ?_; rintro e w2 ⟨rfl, hb2⟩) | (go_at_call 19; refine (HRV.out _).mono ?_; rintro e w2 ⟨rfl, hb2⟩)); refine hK.out _ _ ?_ (fun hq1 => ?_)) | ((first | (go_at_call 16; refine (HH.out _).mono ?_; rintro e w2 ⟨rfl, hb2⟩) | (go_at_call 17; refine (HRH.out _).mono ?_; rintro e w2 ⟨rfl, hb2⟩) | (go_at_call 18; refine (HVO.out _).mono ?_; rintro e w2 ⟨rfl, hb2⟩) | (go_at_call 19; refine (HRV.out _).mono ?_; rintro e w2 ⟨rfl, hb2⟩)); go_wp2_with fail; refine hK.out _ _ ?_ (fun hq1 => ?_)) | fail
        · ((try dsimp only); (first | exact hh_start hb1 | assumption | exact hh_below (by assumption) (by assumption)))
        clear hK K
        (try simp only [Act.put, List.setIfInBounds_toArray, List.set_cons_zero, List.set_cons_succ])
        clear hq0
        refine wpAnyH_ready (rs := [5]) (by kernel_rfl) (by simp) ?_
        refine AllReadyH.cons (o := ?_) ?_ (fun K hK => ?_) AllReadyH.nil
        rotate_left 1
        · (simp only [List.getElem?_toArray, List.getElem?_cons_succ, List.getElem?_cons_zero]; first | done | rfl)
        go_simp
        first | (refine hK.out _ _ ?_ (fun hq2 => ?_)) | ((first | (go_at_call 16; refine (HH.out _).mono ?_; rintro e w2 ⟨rfl, hb2⟩) | (go_at_call 17; refine (HRH.out _).mono ?_; rintro e w2 ⟨rfl, hb2⟩) | (go_at_call 18; refine (HVO.out _).mono ?_; rintro e w2 ⟨rfl, hb2⟩) | (go_at_call 19; refine (HRV.out _).mono ?_; rintro e w2 ⟨rfl, hb2⟩)); refine hK.out _ _ ?_ (fun hq2 => ?_)) | ((first | (go_at_call 16; refine (HH.out _).mono ?_; rintro e w2 ⟨rfl, hb2⟩) | (go_at_call 17; refine (HRH.out _).mono ?_; rintro e w2 ⟨rfl, hb2⟩) | (go_at_call 18; refine (HVO.out _).mono ?_; rintro e w2 ⟨rfl, hb2⟩) | (go_at_call 19; refine (HRV.out _).mono ?_; rintro e w2 ⟨rfl, hb2⟩)); go_wp2_with fail; refine hK.out _ _ ?_ (fun hq2 => ?_)) | fail
        · ((try dsimp only); (first | exact hh_start hb1 | assumption | exact hh_below (by assumption) (by assumption)))
        clear hK K
        (try simp only [Act.put, List.setIfInBounds_toArray, List.set_cons_zero, List.set_cons_succ])
        clear hq1
        first | (refine wpAnyH_take (i := 6) (oi := ?_) (v := ?_) ?_ (by kernel_rfl) (by kernel_rfl) (by kernel_rfl) ?_ (Or.inl ⟨?_, ?_⟩) (by assumption) ?_; rotate_left 2; (· (simp only [List.getElem?_toArray, List.getElem?_cons_succ, List.getElem?_cons_zero]; first | done | rfl)); (· exact (fun _ _ _ h => h)); (· rfl); (· (intro w hSw; (try dsimp only at hSw); go_simp; (try with_reducible rfl)))) | (refine wpAnyH_take (i := 6) (oi := ?_) (v := ?_) ?_ (by kernel_rfl) (by kernel_rfl) (by kernel_rfl) ?_ (Or.inr ⟨?_, ?_⟩) (by assumption) ?_; rotate_left 2; (· (simp only [List.getElem?_toArray, List.getElem?_cons_succ, List.getElem?_cons_zero]; first | done | rfl)); (· exact (fun _ _ _ h => h)); (· rfl); (· rfl)) | fail
        (try simp only [Act.put, List.setIfInBounds_toArray, List.set_cons_zero, List.set_cons_succ])
        first | (refine wpAnyH_take (i := 7) (oi := ?_) (v := ?_) ?_ (by kernel_rfl) (by kernel_rfl) (by kernel_rfl) ?_ (Or.inl ⟨?_, ?_⟩) (by assumption) ?_; rotate_left 2; (· (simp only [List.getElem?_toArray, List.getElem?_cons_succ, List.getElem?_cons_zero]; first | done | rfl)); (· exact (fun _ _ _ h => h)); (· rfl); (· (intro w hSw; (try dsimp only at hSw); go_simp; (try with_reducible rfl)))) | (refine wpAnyH_take (i := 7) (oi := ?_) (v := ?_) ?_ (by kernel_rfl) (by kernel_rfl) (by kernel_rfl) ?_ (Or.inr ⟨?_, ?_⟩) (by assumption) ?_; rotate_left 2; (· (simp only [List.getElem?_toArray, List.getElem?_cons_succ, List.getElem?_cons_zero]; first | done | rfl)); (· exact (fun _ _ _ h => h)); (· rfl); (· rfl)) | fail
        (try simp only [Act.put, List.setIfInBounds_toArray, List.set_cons_zero, List.set_cons_succ])
        first | (refine wpAnyH_take (i := 8) (oi := ?_) (v := ?_) ?_ (by kernel_rfl) (by kernel_rfl) (by kernel_rfl) ?_ (Or.inl ⟨?_, ?_⟩) (by assumption) ?_; rotate_left 2; (· (simp only [List.getElem?_toArray, List.getElem?_cons_succ, List.getElem?_cons_zero]; first | done | rfl)); (· exact (fun _ _ _ h => h)); (· rfl); (· (intro w hSw; (try dsimp only at hSw); go_simp; (try with_reducible rfl)))) | (refine wpAnyH_take (i := 8) (oi := ?_) (v := ?_) ?_ (by kernel_rfl) (by kernel_rfl) (by kernel_rfl) ?_ (Or.inr ⟨?_, ?_⟩) (by assumption) ?_; rotate_left 2; (· (simp only [List.getElem?_toArray, List.getElem?_cons_succ, List.getElem?_cons_zero]; first | done | rfl)); (· exact (fun _ _ _ h => h)); (· rfl); (· rfl)) | fail
        (try simp only [Act.put, List.setIfInBounds_toArray, List.set_cons_zero, List.set_cons_succ])
        first | (refine wpAnyH_take (i := 10) (oi := ?_) (v := ?_) ?_ (by kernel_rfl) (by kernel_rfl) (by kernel_rfl) ?_ (Or.inl ⟨?_, ?_⟩) (by assumption) ?_; rotate_left 2; (· (simp only [List.getElem?_toArray, List.getElem?_cons_succ, List.getElem?_cons_zero]; first | done | rfl)); (· exact (fun _ _ _ h => h)); (· rfl); (· (intro w hSw; (try dsimp only at hSw); go_simp; (try with_reducible rfl)))) | (refine wpAnyH_take (i := 10) (oi := ?_) (v := ?_) ?_ (by kernel_rfl) (by kernel_rfl) (by kernel_rfl) ?_ (Or.inr ⟨?_, ?_⟩) (by assumption) ?_; rotate_left 2; (· (simp only [List.getElem?_toArray, List.getElem?_cons_succ, List.getElem?_cons_zero]; first | done | rfl)); (· exact (fun _ _ _ h => h)); (· rfl); (· rfl)) | fail
        (try simp only [Act.put, List.setIfInBounds_toArray, List.set_cons_zero, List.set_cons_succ])
        refine wpAnyH_ready (rs := [9]) (by kernel_rfl) (by simp) ?_
        refine AllReadyH.cons (o := ?_) ?_ (fun K hK => ?_) AllReadyH.nil
        rotate_left 1
        · (simp only [List.getElem?_toArray, List.getElem?_cons_succ, List.getElem?_cons_zero]; first | done | rfl)
        go_simp
        first | (refine hK.out _ _ ?_ (fun hq3 => ?_)) | ((first | (go_at_call 16; refine (HH.out _).mono ?_; rintro e w2 ⟨rfl, hb2⟩) | (go_at_call 17; refine (HRH.out _).mono ?_; rintro e w2 ⟨rfl, hb2⟩) | (go_at_call 18; refine (HVO.out _).mono ?_; rintro e w2 ⟨rfl, hb2⟩) | (go_at_call 19; refine (HRV.out _).mono ?_; rintro e w2 ⟨rfl, hb2⟩)); refine hK.out _ _ ?_ (fun hq3 => ?_)) | ((first | (go_at_call 16; refine (HH.out _).mono ?_; rintro e w2 ⟨rfl, hb2⟩) | (go_at_call 17; refine (HRH.out _).mono ?_; rintro e w2 ⟨rfl, hb2⟩) | (go_at_call 18; refine (HVO.out _).mono ?_; rintro e w2 ⟨rfl, hb2⟩) | (go_at_call 19; refine (HRV.out _).mono ?_; rintro e w2 ⟨rfl, hb2⟩)); go_wp2_with fail; refine hK.out _ _ ?_ (fun hq3 => ?_)) | fail
        · ((try dsimp only); (first | exact hh_start hb1 | assumption | exact hh_below (by assumption) (by assumption)))
        clear hK K
        (try simp only [Act.put, List.setIfInBounds_toArray, List.set_cons_zero, List.set_cons_succ])
        clear hq2
        refine wpAnyH_ready (rs := [11]) (by kernel_rfl) (by simp) ?_
        refine AllReadyH.cons (o := ?_) ?_ (fun K hK => ?_) AllReadyH.nil
        rotate_left 1
        · (simp only [List.getElem?_toArray, List.getElem?_cons_succ, List.getElem?_cons_zero]; first | done | rfl)
        go_simp
        first | (refine hK.out _ _ ?_ (fun hq4 => ?_)) | ((first | (go_at_call 16; refine (HH.out _).mono ?_; rintro e w2 ⟨rfl, hb2⟩) | (go_at_call 17; refine (HRH.out _).mono ?_; rintro e w2 ⟨rfl, hb2⟩) | (go_at_call 18; refine (HVO.out _).mono ?_; rintro e w2 ⟨rfl, hb2⟩) | (go_at_call 19; refine (HRV.out _).mono ?_; rintro e w2 ⟨rfl, hb2⟩)); refine hK.out _ _ ?_ (fun hq4 => ?_)) | ((first | (go_at_call 16; refine (HH.out _).mono ?_; rintro e w2 ⟨rfl, hb2⟩) | (go_at_call 17; refine (HRH.out _).mono ?_; rintro e w2 ⟨rfl, hb2⟩) | (go_at_call 18; refine (HVO.out _).mono ?_; rintro e w2 ⟨rfl, hb2⟩) | (go_at_call 19; refine (HRV.out _).mono ?_; rintro e w2 ⟨rfl, hb2⟩)); go_wp2_with fail; refine hK.out _ _ ?_ (fun hq4 => ?_)) | fail
        · ((try dsimp only); (first | exact hh_start hb1 | assumption | exact hh_below (by assumption) (by assumption)))
        clear hK K
        (try simp only [Act.put, List.setIfInBounds_toArray, List.set_cons_zero, List.set_cons_succ])
        clear hq3
        first | (refine wpAnyH_take (i := 12) (oi := ?_) (v := ?_) ?_ (by kernel_rfl) (by kernel_rfl) (by kernel_rfl) ?_ (Or.inl ⟨?_, ?_⟩) (by assumption) ?_; rotate_left 2; (· (simp only [List.getElem?_toArray, List.getElem?_cons_succ, List.getElem?_cons_zero]; first | done | rfl)); (· exact (fun _ _ _ h => h)); (· rfl); (· (intro w hSw; (try dsimp only at hSw); go_simp; (try with_reducible rfl)))) | (refine wpAnyH_take (i := 12) (oi := ?_) (v := ?_) ?_ (by kernel_rfl) (by kernel_rfl) (by kernel_rfl) ?_ (Or.inr ⟨?_, ?_⟩) (by assumption) ?_; rotate_left 2; (· (simp only [List.getElem?_toArray, List.getElem?_cons_succ, List.getElem?_cons_zero]; first | done | rfl)); (· exact (fun _ _ _ h => h)); (· rfl); (· rfl)) | fail
        (try simp only [Act.put, List.setIfInBounds_toArray, List.set_cons_zero, List.set_cons_succ])
        first | (refine wpAnyH_take (i := 13) (oi := ?_) (v := ?_) ?_ (by kernel_rfl) (by kernel_rfl) (by kernel_rfl) ?_ (Or.inl ⟨?_, ?_⟩) (by assumption) ?_; rotate_left 2; (· (simp only [List.getElem?_toArray, List.getElem?_cons_succ, List.getElem?_cons_zero]; first | done | rfl)); (· exact (fun _ _ _ h => h)); (· rfl); (· (intro w hSw; (try dsimp only at hSw); go_simp; (try with_reducible rfl)))) | (refine wpAnyH_take (i := 13) (oi := ?_) (v := ?_) ?_ (by kernel_rfl) (by kernel_rfl) (by kernel_rfl) ?_ (Or.inr ⟨?_, ?_⟩) (by assumption) ?_; rotate_left 2; (· (simp only [List.getElem?_toArray, List.getElem?_cons_succ, List.getElem?_cons_zero]; first | done | rfl)); (· exact (fun _ _ _ h => h)); (· rfl); (· rfl)) | fail
        (try simp only [Act.put, List.setIfInBounds_toArray, List.set_cons_zero, List.set_cons_succ])
        first | (refine wpAnyH_take (i := 14) (oi := ?_) (v := ?_) ?_ (by kernel_rfl) (by kernel_rfl) (by kernel_rfl) ?_ (Or.inl ⟨?_, ?_⟩) (by assumption) ?_; rotate_left 2; (· (simp only [List.getElem?_toArray, List.getElem?_cons_succ, List.getElem?_cons_zero]; first | done | rfl)); (· exact (fun _ _ _ h => h)); (· rfl); (· (intro w hSw; (try dsimp only at hSw); go_simp; (try with_reducible rfl)))) | (refine wpAnyH_take (i := 14) (oi := ?_) (v := ?_) ?_ (by kernel_rfl) (by kernel_rfl) (by kernel_rfl) ?_ (Or.inr ⟨?_, ?_⟩) (by assumption) ?_; rotate_left 2; (· (simp only [List.getElem?_toArray, List.getElem?_cons_succ, List.getElem?_cons_zero]; first | done | rfl)); (· exact (fun _ _ _ h => h)); (· rfl); (· rfl)) | fail
        (try simp only [Act.put, List.setIfInBounds_toArray, List.set_cons_zero, List.set_cons_succ])
        first | (refine wpAnyH_take (i := 15) (oi := ?_) (v := ?_) ?_ (by kernel_rfl) (by kernel_rfl) (by kernel_rfl) ?_ (Or.inl ⟨?_, ?_⟩) (by assumption) ?_; rotate_left 2; (· (simp only [List.getElem?_toArray, List.getElem?_cons_succ, List.getElem?_cons_zero]; first | done | rfl)); (· exact (fun _ _ _ h => h)); (· rfl); (· (intro w hSw; (try dsimp only at hSw); go_simp; (try with_reducible rfl)))) | (refine wpAnyH_take (i := 15) (oi := ?_) (v := ?_) ?_ (by kernel_rfl) (by kernel_rfl) (by kernel_rfl) ?_ (Or.inr ⟨?_, ?_⟩) (by assumption) ?_; rotate_left 2; (· (simp only [List.getElem?_toArray, List.getElem?_cons_succ, List.getElem?_cons_zero]; first | done | rfl)); (· exact (fun _ _ _ h => h)); (· rfl); (· rfl)) | fail
        (try simp only [Act.put, List.setIfInBounds_toArray, List.set_cons_zero, List.set_cons_succ])
        refine wpAnyH_ready (rs := [16]) (by kernel_rfl) (by simp) ?_
        refine AllReadyH.cons (o := ?_) ?_ (fun K hK => ?_) AllReadyH.nil
        rotate_left 1
        · (simp only [List.getElem?_toArray, List.getElem?_cons_succ, List.getElem?_cons_zero]; first | done | rfl)
        go_simp
        first | (refine hK.out _ _ ?_ (fun hq5 => ?_)) | ((first | (go_at_call 16; refine (HH.out _).mono ?_; rintro e w2 ⟨rfl, hb2⟩) | (go_at_call 17; refine (HRH.out _).mono ?_; rintro e w2 ⟨rfl, hb2⟩) | (go_at_call 18; refine (HVO.out _).mono ?_; rintro e w2 ⟨rfl, hb2⟩) | (go_at_call 19; refine (HRV.out _).mono ?_; rintro e w2 ⟨rfl, hb2⟩)); refine hK.out _ _ ?_ (fun hq5 => ?_)) | ((first | (go_at_call 16; refine (HH.out _).mono ?_; rintro e w2 ⟨rfl, hb2⟩) | (go_at_call 17; refine (HRH.out _).mono ?_; rintro e w2 ⟨rfl, hb2⟩) | (go_at_call 18; refine (HVO.out _).mono ?_; rintro e w2 ⟨rfl, hb2⟩) | (go_at_call 19; refine (HRV.out _).mono ?_; rintro e w2 ⟨rfl, hb2⟩)); go_wp2_with fail; refine hK.out _ _ ?_ (fun hq5 => ?_)) | fail
        · ((try dsimp only); (first | exact hh_start hb1 | assumption | exact hh_below (by assumption) (by assumption)))
        clear hK K
        (try simp only [Act.put, List.setIfInBounds_toArray, List.set_cons_zero, List.set_cons_succ])
        clear hq4
        first | (refine wpAnyH_take (i := 17) (oi := ?_) (v := ?_) ?_ (by kernel_rfl) (by kernel_rfl) (by kernel_rfl) ?_ (Or.inl ⟨?_, ?_⟩) (by assumption) ?_; rotate_left 2; (· (simp only [List.getElem?_toArray, List.getElem?_cons_succ, List.getElem?_cons_zero]; first | done | rfl)); (· exact (fun _ _ _ h => h)); (· rfl); (· (intro w hSw; (try dsimp only at hSw); go_simp; (try with_reducible rfl)))) | (refine wpAnyH_take (i := 17) (oi := ?_) (v := ?_) ?_ (by kernel_rfl) (by kernel_rfl) (by kernel_rfl) ?_ (Or.inr ⟨?_, ?_⟩) (by assumption) ?_; rotate_left 2; (· (simp only [List.getElem?_toArray, List.getElem?_cons_succ, List.getElem?_cons_zero]; first | done | rfl)); (· exact (fun _ _ _ h => h)); (· rfl); (· rfl)) | fail
        (try simp only [Act.put, List.setIfInBounds_toArray, List.set_cons_zero, List.set_cons_succ])
        first | (refine wpAnyH_take (i := 18) (oi := ?_) (v := ?_) ?_ (by kernel_rfl) (by kernel_rfl) (by kernel_rfl) ?_ (Or.inl ⟨?_, ?_⟩) (by assumption) ?_; rotate_left 2; (· (simp only [List.getElem?_toArray, List.getElem?_cons_succ, List.getElem?_cons_zero]; first | done | rfl)); (· exact (fun _ _ _ h => h)); (· rfl); (· (intro w hSw; (try dsimp only at hSw); go_simp; (try with_reducible rfl)))) | (refine wpAnyH_take (i := 18) (oi := ?_) (v := ?_) ?_ (by kernel_rfl) (by kernel_rfl) (by kernel_rfl) ?_ (Or.inr ⟨?_, ?_⟩) (by assumption) ?_; rotate_left 2; (· (simp only [List.getElem?_toArray, List.getElem?_cons_succ, List.getElem?_cons_zero]; first | done | rfl)); (· exact (fun _ _ _ h => h)); (· rfl); (· rfl)) | fail
        (try simp only [Act.put, List.setIfInBounds_toArray, List.set_cons_zero, List.set_cons_succ])
        first | (refine wpAnyH_take (i := 19) (oi := ?_) (v := ?_) ?_ (by kernel_rfl) (by kernel_rfl) (by kernel_rfl) ?_ (Or.inl ⟨?_, ?_⟩) (by assumption) ?_; rotate_left 2; (· (simp only [List.getElem?_toArray, List.getElem?_cons_succ, List.getElem?_cons_zero]; first | done | rfl)); (· exact (fun _ _ _ h => h)); (· rfl); (· (intro w hSw; (try dsimp only at hSw); go_simp; (try with_reducible rfl)))) | (refine wpAnyH_take (i := 19) (oi := ?_) (v := ?_) ?_ (by kernel_rfl) (by kernel_rfl) (by kernel_rfl) ?_ (Or.inr ⟨?_, ?_⟩) (by assumption) ?_; rotate_left 2; (· (simp only [List.getElem?_toArray, List.getElem?_cons_succ, List.getElem?_cons_zero]; first | done | rfl)); (· exact (fun _ _ _ h => h)); (· rfl); (· rfl)) | fail
        (try simp only [Act.put, List.setIfInBounds_toArray, List.set_cons_zero, List.set_cons_succ])
        first | (refine wpAnyH_take (i := 20) (oi := ?_) (v := ?_) ?_ (by kernel_rfl) (by kernel_rfl) (by kernel_rfl) ?_ (Or.inl ⟨?_, ?_⟩) (by assumption) ?_; rotate_left 2; (· (simp only [List.getElem?_toArray, List.getElem?_cons_succ, List.getElem?_cons_zero]; first | done | rfl)); (· exact (fun _ _ _ h => h)); (· rfl); (· (intro w hSw; (try dsimp only at hSw); go_simp; (try with_reducible rfl)))) | (refine wpAnyH_take (i := 20) (oi := ?_) (v := ?_) ?_ (by kernel_rfl) (by kernel_rfl) (by kernel_rfl) ?_ (Or.inr ⟨?_, ?_⟩) (by assumption) ?_; rotate_left 2; (· (simp only [List.getElem?_toArray, List.getElem?_cons_succ, List.getElem?_cons_zero]; first | done | rfl)); (· exact (fun _ _ _ h => h)); (· rfl); (· rfl)) | fail
        (try simp only [Act.put, List.setIfInBounds_toArray, List.set_cons_zero, List.set_cons_succ])
        refine wpAnyH_ready (rs := [21]) (by kernel_rfl) (by simp) ?_
        refine AllReadyH.cons (o := ?_) ?_ (fun K hK => ?_) AllReadyH.nil
        rotate_left 1
        · (simp only [List.getElem?_toArray, List.getElem?_cons_succ, List.getElem?_cons_zero]; first | done | rfl)
        go_simp
        first | (refine hK.out _ _ ?_ (fun hq6 => ?_)) | ((first | (go_at_call 16; refine (HH.out _).mono ?_; rintro e w2 ⟨rfl, hb2⟩) | (go_at_call 17; refine (HRH.out _).mono ?_; rintro e w2 ⟨rfl, hb2⟩) | (go_at_call 18; refine (HVO.out _).mono ?_; rintro e w2 ⟨rfl, hb2⟩) | (go_at_call 19; refine (HRV.out _).mono ?_; rintro e w2 ⟨rfl, hb2⟩)); refine hK.out _ _ ?_ (fun hq6 => ?_)) | ((first | (go_at_call 16; refine (HH.out _).mono ?_; rintro e w2 ⟨rfl, hb2⟩) | (go_at_call 17; refine (HRH.out _).mono ?_; rintro e w2 ⟨rfl, hb2⟩) | (go_at_call 18; refine (HVO.out _).mono ?_; rintro e w2 ⟨rfl, hb2⟩) | (go_at_call 19; refine (HRV.out _).mono ?_; rintro e w2 ⟨rfl, hb2⟩)); go_wp2_with fail; refine hK.out _ _ ?_ (fun hq6 => ?_)) | fail
        · ((try dsimp only); (first | exact hh_start hb1 | assumption | exact hh_below (by assumption) (by assumption)))
        clear hK K
        (try simp only [Act.put, List.setIfInBounds_toArray, List.set_cons_zero, List.set_cons_succ])
        clear hq5
        first | (refine wpAnyH_take (i := 22) (oi := ?_) (v := ?_) ?_ (by kernel_rfl) (by kernel_rfl) (by kernel_rfl) ?_ (Or.inl ⟨?_, ?_⟩) (by assumption) ?_; rotate_left 2; (· (simp only [List.getElem?_toArray, List.getElem?_cons_succ, List.getElem?_cons_zero]; first | done | rfl)); (· exact (fun _ _ _ h => h)); (· rfl); (· (intro w hSw; (try dsimp only at hSw); go_simp; (try with_reducible rfl)))) | (refine wpAnyH_take (i := 22) (oi := ?_) (v := ?_) ?_ (by kernel_rfl) (by kernel_rfl) (by kernel_rfl) ?_ (Or.inr ⟨?_, ?_⟩) (by assumption) ?_; rotate_left 2; (· (simp only [List.getElem?_toArray, List.getElem?_cons_succ, List.getElem?_cons_zero]; first | done | rfl)); (· exact (fun _ _ _ h => h)); (· rfl); (· rfl)) | fail
        (try simp only [Act.put, List.setIfInBounds_toArray, List.set_cons_zero, List.set_cons_succ])
        first | (refine wpAnyH_take (i := 23) (oi := ?_) (v := ?_) ?_ (by kernel_rfl) (by kernel_rfl) (by kernel_rfl) ?_ (Or.inl ⟨?_, ?_⟩) (by assumption) ?_; rotate_left 2; (· (simp only [List.getElem?_toArray, List.getElem?_cons_succ, List.getElem?_cons_zero]; first | done | rfl)); (· exact (fun _ _ _ h => h)); (· rfl); (· (intro w hSw; (try dsimp only at hSw); go_simp; (try with_reducible rfl)))) | (refine wpAnyH_take (i := 23) (oi := ?_) (v := ?_) ?_ (by kernel_rfl) (by kernel_rfl) (by kernel_rfl) ?_ (Or.inr ⟨?_, ?_⟩) (by assumption) ?_; rotate_left 2; (· (simp only [List.getElem?_toArray, List.getElem?_cons_succ, List.getElem?_cons_zero]; first | done | rfl)); (· exact (fun _ _ _ h => h)); (· rfl); (· rfl)) | fail
        (try simp only [Act.put, List.setIfInBounds_toArray, List.set_cons_zero, List.set_cons_succ])
        first | (refine wpAnyH_take (i := 24) (oi := ?_) (v := ?_) ?_ (by kernel_rfl) (by kernel_rfl) (by kernel_rfl) ?_ (Or.inl ⟨?_, ?_⟩) (by assumption) ?_; rotate_left 2; (· (simp only [List.getElem?_toArray, List.getElem?_cons_succ, List.getElem?_cons_zero]; first | done | rfl)); (· exact (fun _ _ _ h => h)); (· rfl); (· (intro w hSw; (try dsimp only at hSw); go_simp; (try with_reducible rfl)))) | (refine wpAnyH_take (i := 24) (oi := ?_) (v := ?_) ?_ (by kernel_rfl) (by kernel_rfl) (by kernel_rfl) ?_ (Or.inr ⟨?_, ?_⟩) (by assumption) ?_; rotate_left 2; (· (simp only [List.getElem?_toArray, List.getElem?_cons_succ, List.getElem?_cons_zero]; first | done | rfl)); (· exact (fun _ _ _ h => h)); (· rfl); (· rfl)) | fail
        (try simp only [Act.put, List.setIfInBounds_toArray, List.set_cons_zero, List.set_cons_succ])
        first | (refine wpAnyH_take (i := 25) (oi := ?_) (v := ?_) ?_ (by kernel_rfl) (by kernel_rfl) (by kernel_rfl) ?_ (Or.inl ⟨?_, ?_⟩) (by assumption) ?_; rotate_left 2; (· (simp only [List.getElem?_toArray, List.getElem?_cons_succ, List.getElem?_cons_zero]; first | done | rfl)); (· exact (fun _ _ _ h => h)); (· rfl); (· (intro w hSw; (try dsimp only at hSw); go_simp; (try with_reducible rfl)))) | (refine wpAnyH_take (i := 25) (oi := ?_) (v := ?_) ?_ (by kernel_rfl) (by kernel_rfl) (by kernel_rfl) ?_ (Or.inr ⟨?_, ?_⟩) (by assumption) ?_; rotate_left 2; (· (simp only [List.getElem?_toArray, List.getElem?_cons_succ, List.getElem?_cons_zero]; first | done | rfl)); (· exact (fun _ _ _ h => h)); (· rfl); (· rfl)) | fail
        (try simp only [Act.put, List.setIfInBounds_toArray, List.set_cons_zero, List.set_cons_succ])
        refine wpAnyH_done (by kernel_rfl) ?_ _
        go_wp2
        go_ret
        exact ⟨rfl, hh_own (by assumption)⟩
    all_goals
      go_enter Tryz.func3, Tryz.ntmps3
      go_wp2_with (first | (go_at_call 11; refine (fit_any _ (HW.out.below (by repeat (first | assumption | exact balloc _ _ | exact balloc2 _ _ _ | refine btrans ?_ (by assumption))))).mono ?_; rintro e w1 ⟨rfl, hb1⟩; obtain ⟨hc1, hf1⟩ := bcell hb1) | (go_at_call 12; refine (HL.out _).mono ?_; rintro e w2 ⟨rfl, hb2⟩; replace hb1 := btrans hb1 hb2; clear hb2 hc1 hf1; obtain ⟨hc1, hf1⟩ := bcell hb1) | (go_at_call 15; refine (HR.out _).mono ?_; rintro e w2 ⟨rfl, hb2⟩; replace hb1 := btrans hb1 hb2; clear hb2 hc1 hf1; obtain ⟨hc1, hf1⟩ := bcell hb1) | (go_at_call 14; refine (HV.out _).mono ?_; rintro e w2 ⟨rfl, hb2⟩; replace hb1 := btrans hb1 hb2; clear hb2 hc1 hf1; obtain ⟨hc1, hf1⟩ := bcell hb1) | (go_at_call 13; refine (HM.out _).mono ?_; rintro e w' ⟨rfl, rfl⟩))
      go_ret
      exact ⟨rfl, by repeat (first | assumption | exact balloc _ _ | exact balloc2 _ _ _ | refine btrans ?_ (by assumption))⟩
set_option maxRecDepth 100000 in
theorem holds06_lifted (os : Os) (started : os.Started) (H : Type) (enc : TypeId × Value → H) :
    ReturnsInHanded {} Tryz.checked os 3 .any (fun w args => (Rows.condHoldsSpec.pre enc Tryz.prog Tryz.f3 Rows.condHoldsRow.domain false w args ∧ laidMetH Tryz.prog Rows.condHoldsRow.laid w) ∧ sizedMet enc Tryz.prog Tryz.f3 (OpenSpec.ofChange Rows.condHoldsSpec) false w args)
      (Rows.condHoldsSpec.post enc Tryz.prog Tryz.f3 false true false false) := by
  refine returnsInHanded_of_change_and (C := Tryz.checked) (X := fun w _ => laidMetH Tryz.prog Rows.condHoldsRow.laid w) (fun _ _ _ hh h => h.of_heap hh) Frame.own started (by kernel_rfl) Tryz.func3
    (ChangeSpec.witness_shaped (enc := enc) (C := Tryz.checked) (os := os) (X := fun w _ => laidMetH Tryz.prog Rows.condHoldsRow.laid w) false (World.laidAll Tryz.prog os Rows.condHoldsRow.laid) #[.agg #[.string .empty, .int .i64 0, .int .i64 0, .int .i64 0, .float .f64 0, .string .empty, .bool false], .agg #[.int .i64 0, .int .i64 0, .float .f64 0, .string .empty, .bool false]] 8 (World.laidAll_os _ _ _)
      (World.shaped_of_ZipB (by kernel_rfl) (by kernel_rfl)) (by kernel_rfl) (by kernel_rfl) (by kernel_rfl)
      (by rw [MakeChecks.laidMetH_plain _ _ _ (by kernel_rfl)]; exact laidMet_laidAll _ (by kernel_rfl) (by kernel_rfl))) ?_
  intro W base args ds gs before hval0 hW _ hsz0 hL _
  have hsz : (DataW.weightsEach Tryz.prog (Tryz.f3.params.toList ++ Rows.condHoldsSpec.plain.varTypes Tryz.prog) (ds ++ gs)).all (· ≤ reachBytes) = true := hsz0
  have hval : ∀ (j : Nat) t v, Tryz.f3.params[j]? = some t → args[j]? = some v → Value.okWide Tryz.prog W .any base t v := hval0
  have hW' := hW
  obtain ⟨p, q, hA0, hV, rfl, hfz, hnd⟩ := hW
  have hA : DataW.TrodAll enc Tryz.prog W 0 (fun _ => true) true Tryz.f3.params.toList args.toList ds p := hA0
  rw [Tryz.params3] at hA hval hsz
  obtain ⟨v0, vs0, d0, ds0, p0, q0, hargs, rfl, rfl, h0, r0⟩ := trodAll_cons hA
  obtain ⟨v1, vs1, d1, ds1, p1, q1, rfl, rfl, rfl, h1, r1⟩ := trodAll_cons r0
  obtain ⟨rfl, rfl, rfl⟩ := trodAll_nil r1
  obtain rfl : args = #[v0, v1] := by cases args; simp_all
  obtain ⟨rfl, rfl⟩ := trodVars_none hV
  obtain ⟨ma, oa, ka, ia, xa, ta, ya, rfl, wa⟩ := Open.open_cond (hval 0 26 v0 rfl rfl) h0 (Open.reach_of hsz (j := 0) (t := 26) rfl rfl)
  obtain ⟨kb, ib, xb, tb, yb, rfl, wb⟩ := Open.open_val (hval 1 24 v1 rfl rfl) h1 (Open.reach_of hsz (j := 1) (t := 24) rfl rfl)
  clear hA0 hval0 hsz hsz0
  refine (holds06_any ma oa ka ia xa ta ya kb ib xb tb yb W (words_ofHolds hL) wa.1 wa.2.2.2.2.2 wb.2.2.2).mono fun e W' ⟨he, hw⟩ => ?_
  subst he
  exact ⟨_, rfl, Frame.law_post Frame.laidOut (by kernel_rfl) rfl (by kernel_rfl) Tryz.underlying4 rfl rfl rfl hW' hw⟩

theorem holds06_said : Rows.CondHoldsSaid :=
  OpenClaim.holds_of_wide 3 Tryz.f3 rfl rfl rfl rfl rfl rfl rfl ⟨rfl, rfl, rfl, rfl, rfl⟩ rfl rfl rfl rfl rfl (by kernel_rfl) Tryz.func3 (by kernel_rfl)
    (of_decide_eq_true (by kernel_rfl)) (by unfold Func.isWrapper; first | (rw [if_pos (by decide +kernel)]; kernel_rfl) | (rw [if_neg (by decide +kernel)]; exact ⟨rfl, rfl⟩))
    (fun os started H enc _ => holds06_lifted os started H enc)
theorem holds06_plain (f : FuncId) (fn : Func) (hf : Tryz.pinned.checked.prog.funcNamed "gazette/gazettelaw06.CondHolds" = some f) (hfn : Tryz.pinned.checked.prog.funcs[f]? = some fn) :
    false = Tryz.pinned.checked.prog.looks [] ∧ ∀ (j : Nat) t, fn.params[j]? = some t → Tryz.pinned.checked.prog.wantsStandIn t = false := by
  obtain rfl : f = 3 := Option.some.inj ((show Tryz.prog.funcNamed "gazette/gazettelaw06.CondHolds" = some 3 by kernel_rfl).symm.trans hf) |>.symm
  obtain rfl : fn = Tryz.f3 := (Option.some.inj (Tryz.func3.symm.trans hfn)).symm
  refine ⟨by kernel_rfl, fun j t ht => ?_⟩
  rw [Tryz.params3] at ht
  have hm : t ∈ [26, 24] := by simpa using Array.mem_of_getElem? ht
  have hall : ([26, 24].all fun u => !Tryz.prog.wantsStandIn u) = true := by kernel_rfl
  exact (show Tryz.prog.wantsStandIn t = false by simpa using List.all_eq_true.1 hall t hm)
theorem holds06_holds : Rows.CondHoldsCardSaid :=
  Claim7.holds_tied_plain_at .later [] _ _ _ _ holds06_said (fun _ h => by cases h) (by kernel_rfl) (fun _ h => by cases h) condHolds_row_tie rfl ⟨rfl, rfl⟩ (by kernel_rfl) rfl holds06_plain (by kernel_rfl)
end Go.Proofs.YtjddkbgnndefaaaGreatDoor.Val
