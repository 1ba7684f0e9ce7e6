/- The statement CondPrints is proved: a condition has its name, its op, its value as its text. -/
import Derived.Test.YthdihhkadaafcaaGreatDoorFrameC
import Derived.Test.YthdihhkadaafcaaGreatDoorOpenG
import Derived.Test.YthdihhkadaafcaaGreatDoorCanon
import Derived.Test.YthdihhkadaafcaaGreatDoorCPrint
namespace Go.Proofs.YthdihhkadaafcaaGreatDoor.Val
open Go.RowKit Go.ChangeShapes Go.WideShapes Go.ChangeAt Flt
theorem words_ofPrints {W : World} (h : laidMetH Tryz.prog Rows.condPrintsRow.laid W) : Words W := fun i hi =>
  Laid.strs (name := "gazette/cond.words") (zs := [[61], [33, 61], [60], [60, 61], [62], [62, 61], [94], [104, 97, 115]]) (by kernel_rfl) (by kernel_rfl) (by kernel_rfl) Tryz.underlying87 Tryz.underlying9 (by kernel_rfl) (by kernel_rfl) (by kernel_rfl) h i hi
theorem tabs_ofPrints {W : World} (h : laidMetH Tryz.prog Rows.condPrintsRow.laid W) : Tab.Tabs W :=
  Tab.tabs_of (l := Rows.condPrintsRow.laid) ⟨by kernel_rfl, by kernel_rfl, by kernel_rfl, by kernel_rfl, by kernel_rfl, by kernel_rfl, by kernel_rfl, by kernel_rfl, by kernel_rfl⟩ h
theorem cright_parts {c : C} (h : cRight c = true) : 0 ≤ c.op ∧ c.op ≤ 7 ∧ 0 ≤ c.val.kind ∧ c.val.kind ≤ 3 := by
  unfold cRight vRight at h
  simp only [Bool.and_eq_true, decide_eq_true_eq] at h
  exact ⟨h.1.1.2, h.1.2, h.2.1.1, h.2.1.2⟩
theorem canon_canon (x : Nat) : Ord.canon (Ord.canon x) = Ord.canon x := by
  unfold Ord.canon
  cases h : nan x
  · cases h2 : Ord.zero x
    · simp only [h, h2, Bool.false_eq_true, if_false]
    · simp only [Bool.false_eq_true, if_false, if_true]
      rw [if_neg (by decide), if_pos (by decide)]
  · simp only [if_true]
    rw [if_pos (by decide)]
theorem vT_canon (v : V) (h0 : 0 ≤ v.kind) (h3 : v.kind ≤ 3) : vT (canonV v) = vT v := by
  obtain ⟨k, n, x, t, y⟩ := v
  simp only at h0 h3
  rcases (show k = 0 ∨ k = 1 ∨ k = 2 ∨ k = 3 by omega) with rfl | rfl | rfl | rfl
  · rfl
  · show Fmt.fltT (Ord.canon (Ord.canon x)) = Fmt.fltT (Ord.canon x)
    rw [canon_canon]
  · rfl
  · rfl
theorem cT_canon (c : C) (h0 : 0 ≤ c.val.kind) (h3 : c.val.kind ≤ 3) : cT (canonC c) = cT c := by
  obtain ⟨nm, op, v⟩ := c
  cases h7 : (op == 7)
  · have e : canonC ⟨nm, op, v⟩ = ⟨nm, op, canonV v⟩ := by unfold canonC; simp only [h7]; rfl
    rw [e]
    unfold cT
    simp only [h7, vT_canon v h0 h3]
  · have : op = 7 := by simpa using h7
    subst this
    rfl
theorem canonC_parts (c : C) (h0 : 0 ≤ c.val.kind) (h3 : c.val.kind ≤ 3) (hx : c.val.num < 18446744073709551616) (hl : c.val.text.length ≤ 300) (h1 : -9223372036854775808 ≤ c.val.int) (h2 : c.val.int ≤ 9223372036854775807) :
    (canonC c).name = c.name ∧ (canonC c).op = c.op ∧ (canonC c).val.num < 18446744073709551616 ∧ (canonC c).val.text.length ≤ 300 ∧ -9223372036854775808 ≤ (canonC c).val.int ∧ (canonC c).val.int ≤ 9223372036854775807 := by
  obtain ⟨nm, op, k, n, x, t, y⟩ := c
  simp only at h0 h3 hx hl h1 h2
  cases h7 : (op == 7)
  · have e : canonC ⟨nm, op, k, n, x, t, y⟩ = ⟨nm, op, canonV ⟨k, n, x, t, y⟩⟩ := by unfold canonC; simp only [h7]; rfl
    rw [e]
    rcases (show k = 0 ∨ k = 1 ∨ k = 2 ∨ k = 3 by omega) with rfl | rfl | rfl | rfl
    · exact ⟨rfl, rfl, by show 0 < _; omega, by show 0 ≤ _; omega, h1, h2⟩
    · exact ⟨rfl, rfl, canon_lt x hx, by show 0 ≤ _; omega, by show _ ≤ (0 : Int); omega, by show (0 : Int) ≤ _; omega⟩
    · exact ⟨rfl, rfl, by show 0 < _; omega, hl, by show _ ≤ (0 : Int); omega, by show (0 : Int) ≤ _; omega⟩
    · exact ⟨rfl, rfl, by show 0 < _; omega, by show 0 ≤ _; omega, by show _ ≤ (0 : Int); omega, by show (0 : Int) ≤ _; omega⟩
  · have : op = 7 := by simpa using h7
    subst this
    exact ⟨rfl, rfl, by show 0 < _; omega, by show 0 ≤ _; omega, by show _ ≤ (0 : Int); omega, by show (0 : Int) ≤ _; omega⟩
theorem pp_below {nm : List UInt8} {op k n : Int} {x : Nat} {t : List UInt8} {y : Bool} {w : World} {j g : Nat} {w1 w2 : World} (hb : Below w1.heap.size w1 w2) (h : w1.cell? ⟨w.heap.size, 0, none⟩ = some (.string ⟨nm.toArray⟩) ∧ w1.cell? ⟨w.heap.size, 1, none⟩ = some (.int .i64 op) ∧ w1.cell? ⟨w.heap.size, 2, none⟩ = some (.int .i64 k) ∧ w1.cell? ⟨w.heap.size, 3, none⟩ = some (.int .i64 n) ∧ w1.cell? ⟨w.heap.size, 4, none⟩ = some (.float .f64 x) ∧ w1.cell? ⟨w.heap.size, 5, none⟩ = some (.string ⟨t.toArray⟩) ∧ w1.cell? ⟨w.heap.size, 6, none⟩ = some (.bool y) ∧ w1.cell? ⟨g, j, none⟩ = some (.string ⟨(wordL j).toArray⟩) ∧ Hid (∀ i, i < 8 → w1.cell? ⟨g, i, none⟩ = some (.string ⟨(wordL i).toArray⟩)) ∧ Below w.heap.size w w1 ∧ w.heap.size < g ∧ g < w1.heap.size) :
    w2.cell? ⟨w.heap.size, 0, none⟩ = some (.string ⟨nm.toArray⟩) ∧ w2.cell? ⟨w.heap.size, 1, none⟩ = some (.int .i64 op) ∧ w2.cell? ⟨w.heap.size, 2, none⟩ = some (.int .i64 k) ∧ w2.cell? ⟨w.heap.size, 3, none⟩ = some (.int .i64 n) ∧ w2.cell? ⟨w.heap.size, 4, none⟩ = some (.float .f64 x) ∧ w2.cell? ⟨w.heap.size, 5, none⟩ = some (.string ⟨t.toArray⟩) ∧ w2.cell? ⟨w.heap.size, 6, none⟩ = some (.bool y) ∧ w2.cell? ⟨g, j, none⟩ = some (.string ⟨(wordL j).toArray⟩) ∧ Hid (∀ i, i < 8 → w2.cell? ⟨g, i, none⟩ = some (.string ⟨(wordL i).toArray⟩)) ∧ Below w.heap.size w w2 ∧ w.heap.size < g ∧ g < w2.heap.size := by
  obtain ⟨h0, h1, h2, h3, h4, h5, h6, h7, h8, hB, hl, hg⟩ := h
  have c : ∀ b o, b < w1.heap.size → w2.cell? ⟨b, o, none⟩ = w1.cell? ⟨b, o, none⟩ := fun b o h => hb.cell (p := ⟨b, o, none⟩) h
  exact ⟨by rw [c _ _ (by omega)]; exact h0, by rw [c _ _ (by omega)]; exact h1, by rw [c _ _ (by omega)]; exact h2, by rw [c _ _ (by omega)]; exact h3, by rw [c _ _ (by omega)]; exact h4, by rw [c _ _ (by omega)]; exact h5, by rw [c _ _ (by omega)]; exact h6, by rw [c _ _ (by omega)]; exact h7, fun i hi => by rw [c _ _ (by omega)]; exact h8 i hi, btrans hB hb, hl, Nat.lt_of_lt_of_le hg hb.size⟩
theorem pp_start {nm : List UInt8} {op k n : Int} {x : Nat} {t : List UInt8} {y : Bool} {w w2 : World} {j : Nat} {T : TypeId} (hj : j < 8) (hb : Below (w.alloc (.cells #[(.string ⟨nm.toArray⟩), (.int .i64 op), (.int .i64 k), (.int .i64 n), (.float .f64 x), (.string ⟨t.toArray⟩), (.bool y)] T)).heap.size (w.alloc (.cells #[(.string ⟨nm.toArray⟩), (.int .i64 op), (.int .i64 k), (.int .i64 n), (.float .f64 x), (.string ⟨t.toArray⟩), (.bool y)] T)) w2) :
    (w2.alloc (.cells #[.string ⟨#[61]⟩, .string ⟨#[33, 61]⟩, .string ⟨#[60]⟩, .string ⟨#[60, 61]⟩, .string ⟨#[62]⟩, .string ⟨#[62, 61]⟩, .string ⟨#[94]⟩, .string ⟨#[104, 97, 115]⟩] 9)).drew.cell? ⟨w.heap.size, 0, none⟩ = some (.string ⟨nm.toArray⟩) ∧ (w2.alloc (.cells #[.string ⟨#[61]⟩, .string ⟨#[33, 61]⟩, .string ⟨#[60]⟩, .string ⟨#[60, 61]⟩, .string ⟨#[62]⟩, .string ⟨#[62, 61]⟩, .string ⟨#[94]⟩, .string ⟨#[104, 97, 115]⟩] 9)).drew.cell? ⟨w.heap.size, 1, none⟩ = some (.int .i64 op) ∧ (w2.alloc (.cells #[.string ⟨#[61]⟩, .string ⟨#[33, 61]⟩, .string ⟨#[60]⟩, .string ⟨#[60, 61]⟩, .string ⟨#[62]⟩, .string ⟨#[62, 61]⟩, .string ⟨#[94]⟩, .string ⟨#[104, 97, 115]⟩] 9)).drew.cell? ⟨w.heap.size, 2, none⟩ = some (.int .i64 k) ∧ (w2.alloc (.cells #[.string ⟨#[61]⟩, .string ⟨#[33, 61]⟩, .string ⟨#[60]⟩, .string ⟨#[60, 61]⟩, .string ⟨#[62]⟩, .string ⟨#[62, 61]⟩, .string ⟨#[94]⟩, .string ⟨#[104, 97, 115]⟩] 9)).drew.cell? ⟨w.heap.size, 3, none⟩ = some (.int .i64 n) ∧ (w2.alloc (.cells #[.string ⟨#[61]⟩, .string ⟨#[33, 61]⟩, .string ⟨#[60]⟩, .string ⟨#[60, 61]⟩, .string ⟨#[62]⟩, .string ⟨#[62, 61]⟩, .string ⟨#[94]⟩, .string ⟨#[104, 97, 115]⟩] 9)).drew.cell? ⟨w.heap.size, 4, none⟩ = some (.float .f64 x) ∧ (w2.alloc (.cells #[.string ⟨#[61]⟩, .string ⟨#[33, 61]⟩, .string ⟨#[60]⟩, .string ⟨#[60, 61]⟩, .string ⟨#[62]⟩, .string ⟨#[62, 61]⟩, .string ⟨#[94]⟩, .string ⟨#[104, 97, 115]⟩] 9)).drew.cell? ⟨w.heap.size, 5, none⟩ = some (.string ⟨t.toArray⟩) ∧ (w2.alloc (.cells #[.string ⟨#[61]⟩, .string ⟨#[33, 61]⟩, .string ⟨#[60]⟩, .string ⟨#[60, 61]⟩, .string ⟨#[62]⟩, .string ⟨#[62, 61]⟩, .string ⟨#[94]⟩, .string ⟨#[104, 97, 115]⟩] 9)).drew.cell? ⟨w.heap.size, 6, none⟩ = some (.bool y) ∧ (w2.alloc (.cells #[.string ⟨#[61]⟩, .string ⟨#[33, 61]⟩, .string ⟨#[60]⟩, .string ⟨#[60, 61]⟩, .string ⟨#[62]⟩, .string ⟨#[62, 61]⟩, .string ⟨#[94]⟩, .string ⟨#[104, 97, 115]⟩] 9)).drew.cell? ⟨w2.heap.size, j, none⟩ = some (.string ⟨(wordL j).toArray⟩) ∧ Hid (∀ i, i < 8 → (w2.alloc (.cells #[.string ⟨#[61]⟩, .string ⟨#[33, 61]⟩, .string ⟨#[60]⟩, .string ⟨#[60, 61]⟩, .string ⟨#[62]⟩, .string ⟨#[62, 61]⟩, .string ⟨#[94]⟩, .string ⟨#[104, 97, 115]⟩] 9)).drew.cell? ⟨w2.heap.size, i, none⟩ = some (.string ⟨(wordL i).toArray⟩)) ∧ Below w.heap.size w (w2.alloc (.cells #[.string ⟨#[61]⟩, .string ⟨#[33, 61]⟩, .string ⟨#[60]⟩, .string ⟨#[60, 61]⟩, .string ⟨#[62]⟩, .string ⟨#[62, 61]⟩, .string ⟨#[94]⟩, .string ⟨#[104, 97, 115]⟩] 9)).drew ∧ w.heap.size < w2.heap.size ∧ w2.heap.size < (w2.alloc (.cells #[.string ⟨#[61]⟩, .string ⟨#[33, 61]⟩, .string ⟨#[60]⟩, .string ⟨#[60, 61]⟩, .string ⟨#[62]⟩, .string ⟨#[62, 61]⟩, .string ⟨#[94]⟩, .string ⟨#[104, 97, 115]⟩] 9)).drew.heap.size := by
  have hz : w.heap.size < w2.heap.size := size1 hb
  have c : ∀ o, ((w2.alloc (.cells #[.string ⟨#[61]⟩, .string ⟨#[33, 61]⟩, .string ⟨#[60]⟩, .string ⟨#[60, 61]⟩, .string ⟨#[62]⟩, .string ⟨#[62, 61]⟩, .string ⟨#[94]⟩, .string ⟨#[104, 97, 115]⟩] 9))).drew.cell? ⟨w.heap.size, o, none⟩ = #[(.string ⟨nm.toArray⟩), (.int .i64 op), (.int .i64 k), (.int .i64 n), (.float .f64 x), (.string ⟨t.toArray⟩), (.bool y)][o]? := fun o => by
    have e1 : ((w2.alloc (.cells #[.string ⟨#[61]⟩, .string ⟨#[33, 61]⟩, .string ⟨#[60]⟩, .string ⟨#[60, 61]⟩, .string ⟨#[62]⟩, .string ⟨#[62, 61]⟩, .string ⟨#[94]⟩, .string ⟨#[104, 97, 115]⟩] 9))).drew.cell? ⟨w.heap.size, o, none⟩ = w2.cell? ⟨w.heap.size, o, none⟩ := ((balloc w2 _).cell (p := ⟨w.heap.size, o, none⟩) hz)
    have e2 : w2.cell? ⟨w.heap.size, o, none⟩ = (w.alloc (.cells #[(.string ⟨nm.toArray⟩), (.int .i64 op), (.int .i64 k), (.int .i64 n), (.float .f64 x), (.string ⟨t.toArray⟩), (.bool y)] T)).cell? ⟨w.heap.size, o, none⟩ := hb.cell (p := ⟨w.heap.size, o, none⟩) (by simp)
    rw [e1, e2]
    exact World.cell?_alloc_at _ _ _ _ rfl
  have d : ∀ i, i < 8 → ((w2.alloc (.cells #[.string ⟨#[61]⟩, .string ⟨#[33, 61]⟩, .string ⟨#[60]⟩, .string ⟨#[60, 61]⟩, .string ⟨#[62]⟩, .string ⟨#[62, 61]⟩, .string ⟨#[94]⟩, .string ⟨#[104, 97, 115]⟩] 9))).drew.cell? ⟨w2.heap.size, i, none⟩ = some (.string ⟨(wordL i).toArray⟩) := fun i hi => by
    have e : ((w2.alloc (.cells #[.string ⟨#[61]⟩, .string ⟨#[33, 61]⟩, .string ⟨#[60]⟩, .string ⟨#[60, 61]⟩, .string ⟨#[62]⟩, .string ⟨#[62, 61]⟩, .string ⟨#[94]⟩, .string ⟨#[104, 97, 115]⟩] 9))).drew.cell? ⟨w2.heap.size, i, none⟩ = #[.string ⟨#[61]⟩, .string ⟨#[33, 61]⟩, .string ⟨#[60]⟩, .string ⟨#[60, 61]⟩, .string ⟨#[62]⟩, .string ⟨#[62, 61]⟩, .string ⟨#[94]⟩, .string ⟨#[104, 97, 115]⟩][i]? := World.cell?_alloc_at _ _ _ _ rfl
    rw [e]
    match i, hi with
    | 0, _ => rfl
    | 1, _ => rfl
    | 2, _ => rfl
    | 3, _ => rfl
    | 4, _ => rfl
    | 5, _ => rfl
    | 6, _ => rfl
    | 7, _ => rfl
  exact ⟨c 0, c 1, c 2, c 3, c 4, c 5, c 6, d j hj, d, bdrewN (btrans (btrans (balloc _ _) hb) (balloc _ _)) 1, hz, by show w2.heap.size < (w2.alloc _).heap.size; simp⟩
theorem pp_own {nm : List UInt8} {op k n : Int} {x : Nat} {t : List UInt8} {y : Bool} {w : World} {j g : Nat} {w1 : World} (h : w1.cell? ⟨w.heap.size, 0, none⟩ = some (.string ⟨nm.toArray⟩) ∧ w1.cell? ⟨w.heap.size, 1, none⟩ = some (.int .i64 op) ∧ w1.cell? ⟨w.heap.size, 2, none⟩ = some (.int .i64 k) ∧ w1.cell? ⟨w.heap.size, 3, none⟩ = some (.int .i64 n) ∧ w1.cell? ⟨w.heap.size, 4, none⟩ = some (.float .f64 x) ∧ w1.cell? ⟨w.heap.size, 5, none⟩ = some (.string ⟨t.toArray⟩) ∧ w1.cell? ⟨w.heap.size, 6, none⟩ = some (.bool y) ∧ w1.cell? ⟨g, j, none⟩ = some (.string ⟨(wordL j).toArray⟩) ∧ Hid (∀ i, i < 8 → w1.cell? ⟨g, i, none⟩ = some (.string ⟨(wordL i).toArray⟩)) ∧ Below w.heap.size w w1 ∧ w.heap.size < g ∧ g < w1.heap.size) : Below w.heap.size w w1 := h.2.2.2.2.2.2.2.2.2.1
attribute [local go_sem] run_store_flt
set_option maxRecDepth 20000 in
set_option maxHeartbeats 4000000 in
theorem prints06_any (nm : List UInt8) (op k n : Int) (x : Nat) (t : List UInt8) (y : Bool) (o2 : Int) (w : World) (hw : Words w) (hT : Tab.Tabs w)
    (hn : nm.length ≤ 140737488351232) (ht : t.length ≤ 140737488351232) (hx : x < 18446744073709551616) (h1 : -9223372036854775808 ≤ n) (h2 : n ≤ 9223372036854775807) :
    Calls Tryz.prog 3 #[cond nm op k n x t y, .int .i64 o2] w fun e w' => e = .returned (.bool true) ∧ Below w.heap.size w w' := by
  have HW := Lib.hid hw; clear hw
  have HT := Lib.hid hT; clear hT
  have hli (w : World) := light_any nm op k n x t y w hn ht
  have hri (w : World) := cright_any nm op k n x t y w hn ht
  have hkk := @cright_parts ⟨nm, op, k, n, x, t, y⟩
  have hni (w : World) := ccanon_any nm op k n x t y w
  generalize hlb : decide (nm.length + t.length ≤ 300) = lb at *
  generalize cRight ⟨nm, op, k, n, x, t, y⟩ = rb at *
  have hway : (lb = true ∧ rb = true) ∨ (lb = false) ∨ (lb = true ∧ rb = false) := by cases lb <;> cases rb <;> simp
  rcases hway with ⟨rfl, rfl⟩ | rfl | ⟨rfl, rfl⟩
  · have HL := Lib.hid hli; have HR := Lib.hid hri
    obtain ⟨k1, k2, k3, k4⟩ := hkk rfl
    have hlen : nm.length + t.length ≤ 300 := by simpa using hlb
    have hcan := canonC_parts ⟨nm, op, k, n, x, t, y⟩ k3 k4 hx (by show t.length ≤ 300; omega) h1 h2
    have hct := cT_canon ⟨nm, op, k, n, x, t, y⟩ k3 k4
    have hvl := vT_len ⟨k, n, x, t, y⟩ h1 h2
    have hcp : ∀ w1, Below w.heap.size w w1 → Calls Tryz.prog 17 #[cond nm op k n x t y] w1 fun e w' => e = .returned (.string ⟨(cT ⟨nm, op, k, n, x, t, y⟩).toArray⟩) ∧ Below w1.heap.size w1 w' :=
      fun w1 hb => cprint_any nm op k n x t y w1 (HW.out.below hb) (HT.out.below hb (Nat.le_refl _)) (by omega) (by omega) hx h1 h2
    have hvp : ∀ w1, Below w.heap.size w w1 → Calls Tryz.prog 15 #[val k n x t y] w1 fun e w' => e = .returned (.string ⟨(vT ⟨k, n, x, t, y⟩).toArray⟩) ∧ Below w1.heap.size w1 w' :=
      fun w1 hb => vprint_any k n x t y w1 hx h1 h2 (by omega) (HT.out.below hb (Nat.le_refl _))
    have hwd : ∀ w1, Below w.heap.size w w1 → Calls Tryz.prog 18 #[.int .i64 o2] w1 fun e w' => e = .returned (.string ⟨(wordB o2).toArray⟩) ∧ w1 = w' :=
      fun w1 hb => word_any o2 w1 (HW.out.below hb)
    have hce : cT ⟨nm, op, k, n, x, t, y⟩ = if op == 7 then hasT ++ nm else nm ++ [32] ++ wordB op ++ [32] ++ vT ⟨k, n, x, t, y⟩ := rfl
    generalize canonC ⟨nm, op, k, n, x, t, y⟩ = cn at *
    obtain ⟨nm', op', k', n', x', t', y'⟩ := cn
    obtain ⟨e1, e2, c3, c4, c5, c6⟩ := hcan
    simp only at e1 e2 c3 c4 c5 c6 hni
    obtain rfl := e1.symm
    obtain rfl := e2.symm
    have hcq : ∀ w1, Below w.heap.size w w1 → Calls Tryz.prog 17 #[cond nm op k' n' x' t' y'] w1 fun e w' => e = .returned (.string ⟨(cT ⟨nm, op, k, n, x, t, y⟩).toArray⟩) ∧ Below w1.heap.size w1 w' :=
      fun w1 hb => by rw [← hct]; exact cprint_any nm op k' n' x' t' y' w1 (HW.out.below hb) (HT.out.below hb (Nat.le_refl _)) (by omega) (by omega) c3 c5 c6
    generalize vT ⟨k, n, x, t, y⟩ = pv at *
    generalize cT ⟨nm, op, k, n, x, t, y⟩ = want at *
    obtain ⟨j, rfl⟩ := Int.eq_ofNat_of_zero_le k1
    have hj : j < 8 := by simp only at k2; omega
    clear k1 k2 k3 k4 hct hkk hlb c3 c4 c5 c6 hn ht hx h1 h2
    simp only at hvl
    have hwe : wordB (j : Int) = wordL j := by unfold wordB; rw [if_neg (by omega)]; rfl
    have hwl := wordB_len (j : Int)
    rw [hwe] at hwl hce
    obtain ⟨y1, hy1⟩ : ∃ l, l = nm ++ [32] := ⟨_, rfl⟩
    obtain ⟨y2, hy2⟩ : ∃ l, l = y1 ++ wordL j := ⟨_, rfl⟩
    obtain ⟨y3, hy3⟩ : ∃ l, l = y2 ++ [32] := ⟨_, rfl⟩
    obtain ⟨y4, hy4⟩ : ∃ l, l = y3 ++ pv := ⟨_, rfl⟩
    obtain ⟨y5, hy5⟩ : ∃ l, l = hasT ++ nm := ⟨_, rfl⟩
    have l1 : y1.length = nm.length + 1 := by rw [hy1]; simp
    have l2 : y2.length = y1.length + (wordL j).length := by rw [hy2]; simp
    have l3 : y3.length = y2.length + 1 := by rw [hy3]; simp
    have r1 : ∀ w, (Op.stringOp .add ⟨nm.toArray⟩ ⟨#[32]⟩).run Tryz.prog w = .ok (.string ⟨y1.toArray⟩) w := fun w => by rw [hy1]; exact run_string_add_lists w nm [32] (by omega) (by simp)
    have r2 : ∀ w, (Op.stringOp .add ⟨y1.toArray⟩ ⟨(wordL j).toArray⟩).run Tryz.prog w = .ok (.string ⟨y2.toArray⟩) w := fun w => by rw [hy2]; exact run_string_add_lists w y1 (wordL j) (by omega) (by omega)
    have r3 : ∀ w, (Op.stringOp .add ⟨y2.toArray⟩ ⟨#[32]⟩).run Tryz.prog w = .ok (.string ⟨y3.toArray⟩) w := fun w => by rw [hy3]; exact run_string_add_lists w y2 [32] (by omega) (by simp)
    have r4 : ∀ w, (Op.stringOp .add ⟨y3.toArray⟩ ⟨pv.toArray⟩).run Tryz.prog w = .ok (.string ⟨y4.toArray⟩) w := fun w => by rw [hy4]; exact run_string_add_lists w y3 pv (by omega) (by omega)
    have r5 : ∀ w, (Op.stringOp .add ⟨#[104, 97, 115, 32]⟩ ⟨nm.toArray⟩).run Tryz.prog w = .ok (.string ⟨y5.toArray⟩) w := fun w => by rw [hy5]; exact run_string_add_lists w [104, 97, 115, 32] nm (by decide) (by omega)
    have hwant : want = if ((j : Int) == 7) = true then y5 else y4 := by rw [hce, hy4, hy3, hy2, hy1, hy5]
    clear hce hwe hwl hvl hlen hy1 hy2 hy3 hy4 hy5 l1 l2 l3
    have hjb : ((j : Int) == 7) = true ∨ ((j : Int) == 7) = false := by cases ((j : Int) == 7) <;> simp
    have j0 : (0 : Int) ≤ (j : Int) := by omega
    have j8 : (j : Int) < 8 := by omega
    have HN := Lib.hid hni; have HCP := Lib.hid hcp; have HVP := Lib.hid hvp; have HWD := Lib.hid hwd; have HCQ := Lib.hid hcq; have HWANT := Lib.hid hwant
    clear hni hcp hvp hwd hcq hwant hli hri
    rcases hjb with h7 | h7
    · have hwt : want = y5 := by rw [HWANT.out, h7]; rfl
      subst hwt
      go_enter Tryz.func3, Tryz.ntmps3
      go_wp2_with (first | (go_at_call 12; refine (fit_any _ (HW.out.below (by repeat (first | assumption | (with_reducible exact Below.refl _ _) | exact balloc _ _ | exact balloc2 _ _ _ | refine btrans ?_ (by assumption) | refine btrans ?_ (balloc _ _))))).mono ?_; rintro e w2 ⟨rfl, hb2⟩; (first | (replace hb1 := btrans hb1 hb2; clear hb2 hc1 hf1; obtain ⟨hc1, hf1⟩ := bcell hb1) | (have hb1 := hb2; clear hb2; obtain ⟨hc1, hf1⟩ := bcell hb1))) | (go_at_call 13; refine (HL.out _).mono ?_; rintro e w2 ⟨rfl, hb2⟩; (first | (replace hb1 := btrans hb1 hb2; clear hb2 hc1 hf1; obtain ⟨hc1, hf1⟩ := bcell hb1) | (have hb1 := hb2; clear hb2; obtain ⟨hc1, hf1⟩ := bcell hb1))) | (go_at_call 14; refine (HR.out _).mono ?_; rintro e w2 ⟨rfl, hb2⟩; (first | (replace hb1 := btrans hb1 hb2; clear hb2 hc1 hf1; obtain ⟨hc1, hf1⟩ := bcell hb1) | (have hb1 := hb2; clear hb2; obtain ⟨hc1, hf1⟩ := bcell hb1))) | fail)
      generalize hG : w2.heap.size = g at *
      go_region_held3 (fun w' => w'.cell? ⟨w.heap.size, 0, none⟩ = some (.string ⟨nm.toArray⟩) ∧ w'.cell? ⟨w.heap.size, 1, none⟩ = some (.int .i64 (j : Int)) ∧ w'.cell? ⟨w.heap.size, 2, none⟩ = some (.int .i64 k) ∧ w'.cell? ⟨w.heap.size, 3, none⟩ = some (.int .i64 n) ∧ w'.cell? ⟨w.heap.size, 4, none⟩ = some (.float .f64 x) ∧ w'.cell? ⟨w.heap.size, 5, none⟩ = some (.string ⟨t.toArray⟩) ∧ w'.cell? ⟨w.heap.size, 6, none⟩ = some (.bool y) ∧ w'.cell? ⟨g, j, none⟩ = some (.string ⟨(wordL j).toArray⟩) ∧ Hid (∀ i, i < 8 → w'.cell? ⟨g, i, none⟩ = some (.string ⟨(wordL i).toArray⟩)) ∧ Below w.heap.size w w' ∧ w.heap.size < g ∧ g < w'.heap.size)
        (first | (subst hG; exact pp_start hj hb1) | assumption | exact pp_below (by assumption) (by assumption))
        (first | (go_at_call 15; refine (HVP.out _ (pp_own (by assumption))).mono ?_; rintro e w1 ⟨rfl, hb⟩))
      go_goals
      rename_i hheld
      obtain ⟨g0, g1, g2, g3, g4, g5, g6, g7, HG8, hB, hwg, hgs⟩ := hheld
      have hws : w.heap.size < w1.heap.size := Nat.lt_trans hwg hgs
      clear hb hb1 hc1 hf1 hG r1 r2 r3 r4 HWANT
      rcases (show o2 < 0 ∨ (0 ≤ o2 ∧ o2 < 8) ∨ (0 ≤ o2 ∧ ¬ o2 < 8) by omega) with q1 | ⟨q1, q2⟩ | ⟨q1, q2⟩
      · have hwo : wordB o2 = [] := by unfold wordB; rw [if_pos (by omega)]
        rw [hwo] at HWD
        clear hwo
        go_wp2_with (first | (go_at_call 16; refine (HN.out _).mono ?_; rintro e w5 ⟨rfl, hb5⟩; obtain ⟨hc5, hf5⟩ := bcell hb5; have hs5 : w1.heap.size ≤ w5.heap.size := hb5.size; have hws5 : w.heap.size < w5.heap.size := Nat.lt_of_lt_of_le hws hs5; have hws6 : w.heap.size < w5.heap.size + 1 := Nat.lt_succ_of_lt hws5) | (go_at_call 17; (first | (with_reducible refine (HCP.out _ ?_).mono ?_) | (with_reducible refine (HCQ.out _ ?_).mono ?_)); (· exact (by repeat (first | assumption | (with_reducible exact Below.refl _ _) | exact balloc _ _ | exact balloc2 _ _ _ | refine btrans ?_ (by assumption) | refine btrans ?_ (balloc _ _)))); rintro e w6 ⟨rfl, hb6⟩; (first | (replace hb6a := btrans hb6a hb6; clear hb6 hc6 hf6; obtain ⟨hc6, hf6⟩ := bcell hb6a) | (have hb6a := hb6; clear hb6; obtain ⟨hc6, hf6⟩ := bcell hb6a))) | (go_at_call 18; refine (HWD.out _ (by repeat (first | assumption | (with_reducible exact Below.refl _ _) | exact balloc _ _ | exact balloc2 _ _ _ | refine btrans ?_ (by assumption) | refine btrans ?_ (balloc _ _)))).mono ?_; rintro e w7 ⟨rfl, rfl⟩) | fail)
        go_ret
        exact ⟨rfl, by repeat (first | assumption | (with_reducible exact Below.refl _ _) | exact balloc _ _ | exact balloc2 _ _ _ | refine btrans ?_ (by assumption) | refine btrans ?_ (balloc _ _))⟩
      · obtain ⟨i, rfl⟩ := Int.eq_ofNat_of_zero_le q1
        have g8 := HG8.out i (by omega)
        have hwo : wordB (i : Int) = wordL i := by unfold wordB; rw [if_neg (by omega)]; rfl
        rw [hwo] at HWD
        clear hwo
        go_wp2_with (first | (go_at_call 16; refine (HN.out _).mono ?_; rintro e w5 ⟨rfl, hb5⟩; obtain ⟨hc5, hf5⟩ := bcell hb5; have hs5 : w1.heap.size ≤ w5.heap.size := hb5.size; have hws5 : w.heap.size < w5.heap.size := Nat.lt_of_lt_of_le hws hs5; have hws6 : w.heap.size < w5.heap.size + 1 := Nat.lt_succ_of_lt hws5) | (go_at_call 17; (first | (with_reducible refine (HCP.out _ ?_).mono ?_) | (with_reducible refine (HCQ.out _ ?_).mono ?_)); (· exact (by repeat (first | assumption | (with_reducible exact Below.refl _ _) | exact balloc _ _ | exact balloc2 _ _ _ | refine btrans ?_ (by assumption) | refine btrans ?_ (balloc _ _)))); rintro e w6 ⟨rfl, hb6⟩; (first | (replace hb6a := btrans hb6a hb6; clear hb6 hc6 hf6; obtain ⟨hc6, hf6⟩ := bcell hb6a) | (have hb6a := hb6; clear hb6; obtain ⟨hc6, hf6⟩ := bcell hb6a))) | (go_at_call 18; refine (HWD.out _ (by repeat (first | assumption | (with_reducible exact Below.refl _ _) | exact balloc _ _ | exact balloc2 _ _ _ | refine btrans ?_ (by assumption) | refine btrans ?_ (balloc _ _)))).mono ?_; rintro e w7 ⟨rfl, rfl⟩) | fail)
        go_ret
        exact ⟨rfl, by repeat (first | assumption | (with_reducible exact Below.refl _ _) | exact balloc _ _ | exact balloc2 _ _ _ | refine btrans ?_ (by assumption) | refine btrans ?_ (balloc _ _))⟩
      · have hwo : wordB o2 = [] := by unfold wordB; rw [if_pos (by omega)]
        rw [hwo] at HWD
        clear hwo
        go_wp2_with (first | (go_at_call 16; refine (HN.out _).mono ?_; rintro e w5 ⟨rfl, hb5⟩; obtain ⟨hc5, hf5⟩ := bcell hb5; have hs5 : w1.heap.size ≤ w5.heap.size := hb5.size; have hws5 : w.heap.size < w5.heap.size := Nat.lt_of_lt_of_le hws hs5; have hws6 : w.heap.size < w5.heap.size + 1 := Nat.lt_succ_of_lt hws5) | (go_at_call 17; (first | (with_reducible refine (HCP.out _ ?_).mono ?_) | (with_reducible refine (HCQ.out _ ?_).mono ?_)); (· exact (by repeat (first | assumption | (with_reducible exact Below.refl _ _) | exact balloc _ _ | exact balloc2 _ _ _ | refine btrans ?_ (by assumption) | refine btrans ?_ (balloc _ _)))); rintro e w6 ⟨rfl, hb6⟩; (first | (replace hb6a := btrans hb6a hb6; clear hb6 hc6 hf6; obtain ⟨hc6, hf6⟩ := bcell hb6a) | (have hb6a := hb6; clear hb6; obtain ⟨hc6, hf6⟩ := bcell hb6a))) | (go_at_call 18; refine (HWD.out _ (by repeat (first | assumption | (with_reducible exact Below.refl _ _) | exact balloc _ _ | exact balloc2 _ _ _ | refine btrans ?_ (by assumption) | refine btrans ?_ (balloc _ _)))).mono ?_; rintro e w7 ⟨rfl, rfl⟩) | fail)
        go_ret
        exact ⟨rfl, by repeat (first | assumption | (with_reducible exact Below.refl _ _) | exact balloc _ _ | exact balloc2 _ _ _ | refine btrans ?_ (by assumption) | refine btrans ?_ (balloc _ _))⟩
    · have hwt : want = y4 := by rw [HWANT.out, h7]; rfl
      subst hwt
      go_enter Tryz.func3, Tryz.ntmps3
      go_wp2_with (first | (go_at_call 12; refine (fit_any _ (HW.out.below (by repeat (first | assumption | (with_reducible exact Below.refl _ _) | exact balloc _ _ | exact balloc2 _ _ _ | refine btrans ?_ (by assumption) | refine btrans ?_ (balloc _ _))))).mono ?_; rintro e w2 ⟨rfl, hb2⟩; (first | (replace hb1 := btrans hb1 hb2; clear hb2 hc1 hf1; obtain ⟨hc1, hf1⟩ := bcell hb1) | (have hb1 := hb2; clear hb2; obtain ⟨hc1, hf1⟩ := bcell hb1))) | (go_at_call 13; refine (HL.out _).mono ?_; rintro e w2 ⟨rfl, hb2⟩; (first | (replace hb1 := btrans hb1 hb2; clear hb2 hc1 hf1; obtain ⟨hc1, hf1⟩ := bcell hb1) | (have hb1 := hb2; clear hb2; obtain ⟨hc1, hf1⟩ := bcell hb1))) | (go_at_call 14; refine (HR.out _).mono ?_; rintro e w2 ⟨rfl, hb2⟩; (first | (replace hb1 := btrans hb1 hb2; clear hb2 hc1 hf1; obtain ⟨hc1, hf1⟩ := bcell hb1) | (have hb1 := hb2; clear hb2; obtain ⟨hc1, hf1⟩ := bcell hb1))) | fail)
      generalize hG : w2.heap.size = g at *
      go_region_held3 (fun w' => w'.cell? ⟨w.heap.size, 0, none⟩ = some (.string ⟨nm.toArray⟩) ∧ w'.cell? ⟨w.heap.size, 1, none⟩ = some (.int .i64 (j : Int)) ∧ w'.cell? ⟨w.heap.size, 2, none⟩ = some (.int .i64 k) ∧ w'.cell? ⟨w.heap.size, 3, none⟩ = some (.int .i64 n) ∧ w'.cell? ⟨w.heap.size, 4, none⟩ = some (.float .f64 x) ∧ w'.cell? ⟨w.heap.size, 5, none⟩ = some (.string ⟨t.toArray⟩) ∧ w'.cell? ⟨w.heap.size, 6, none⟩ = some (.bool y) ∧ w'.cell? ⟨g, j, none⟩ = some (.string ⟨(wordL j).toArray⟩) ∧ Hid (∀ i, i < 8 → w'.cell? ⟨g, i, none⟩ = some (.string ⟨(wordL i).toArray⟩)) ∧ Below w.heap.size w w' ∧ w.heap.size < g ∧ g < w'.heap.size)
        (first | (subst hG; exact pp_start hj hb1) | assumption | exact pp_below (by assumption) (by assumption))
        (first | (go_at_call 15; refine (HVP.out _ (pp_own (by assumption))).mono ?_; rintro e w1 ⟨rfl, hb⟩))
      go_goals
      rename_i hheld
      obtain ⟨g0, g1, g2, g3, g4, g5, g6, g7, HG8, hB, hwg, hgs⟩ := hheld
      have hws : w.heap.size < w1.heap.size := Nat.lt_trans hwg hgs
      clear hb hb1 hc1 hf1 hG r1 r2 r3 r4 HWANT
      rcases (show o2 < 0 ∨ (0 ≤ o2 ∧ o2 < 8) ∨ (0 ≤ o2 ∧ ¬ o2 < 8) by omega) with q1 | ⟨q1, q2⟩ | ⟨q1, q2⟩
      · have hwo : wordB o2 = [] := by unfold wordB; rw [if_pos (by omega)]
        rw [hwo] at HWD
        clear hwo
        go_wp2_with (first | (go_at_call 16; refine (HN.out _).mono ?_; rintro e w5 ⟨rfl, hb5⟩; obtain ⟨hc5, hf5⟩ := bcell hb5; have hs5 : w1.heap.size ≤ w5.heap.size := hb5.size; have hws5 : w.heap.size < w5.heap.size := Nat.lt_of_lt_of_le hws hs5; have hws6 : w.heap.size < w5.heap.size + 1 := Nat.lt_succ_of_lt hws5) | (go_at_call 17; (first | (with_reducible refine (HCP.out _ ?_).mono ?_) | (with_reducible refine (HCQ.out _ ?_).mono ?_)); (· exact (by repeat (first | assumption | (with_reducible exact Below.refl _ _) | exact balloc _ _ | exact balloc2 _ _ _ | refine btrans ?_ (by assumption) | refine btrans ?_ (balloc _ _)))); rintro e w6 ⟨rfl, hb6⟩; (first | (replace hb6a := btrans hb6a hb6; clear hb6 hc6 hf6; obtain ⟨hc6, hf6⟩ := bcell hb6a) | (have hb6a := hb6; clear hb6; obtain ⟨hc6, hf6⟩ := bcell hb6a))) | (go_at_call 18; refine (HWD.out _ (by repeat (first | assumption | (with_reducible exact Below.refl _ _) | exact balloc _ _ | exact balloc2 _ _ _ | refine btrans ?_ (by assumption) | refine btrans ?_ (balloc _ _)))).mono ?_; rintro e w7 ⟨rfl, rfl⟩) | fail)
        go_ret
        exact ⟨rfl, by repeat (first | assumption | (with_reducible exact Below.refl _ _) | exact balloc _ _ | exact balloc2 _ _ _ | refine btrans ?_ (by assumption) | refine btrans ?_ (balloc _ _))⟩
      · obtain ⟨i, rfl⟩ := Int.eq_ofNat_of_zero_le q1
        have g8 := HG8.out i (by omega)
        have hwo : wordB (i : Int) = wordL i := by unfold wordB; rw [if_neg (by omega)]; rfl
        rw [hwo] at HWD
        clear hwo
        go_wp2_with (first | (go_at_call 16; refine (HN.out _).mono ?_; rintro e w5 ⟨rfl, hb5⟩; obtain ⟨hc5, hf5⟩ := bcell hb5; have hs5 : w1.heap.size ≤ w5.heap.size := hb5.size; have hws5 : w.heap.size < w5.heap.size := Nat.lt_of_lt_of_le hws hs5; have hws6 : w.heap.size < w5.heap.size + 1 := Nat.lt_succ_of_lt hws5) | (go_at_call 17; (first | (with_reducible refine (HCP.out _ ?_).mono ?_) | (with_reducible refine (HCQ.out _ ?_).mono ?_)); (· exact (by repeat (first | assumption | (with_reducible exact Below.refl _ _) | exact balloc _ _ | exact balloc2 _ _ _ | refine btrans ?_ (by assumption) | refine btrans ?_ (balloc _ _)))); rintro e w6 ⟨rfl, hb6⟩; (first | (replace hb6a := btrans hb6a hb6; clear hb6 hc6 hf6; obtain ⟨hc6, hf6⟩ := bcell hb6a) | (have hb6a := hb6; clear hb6; obtain ⟨hc6, hf6⟩ := bcell hb6a))) | (go_at_call 18; refine (HWD.out _ (by repeat (first | assumption | (with_reducible exact Below.refl _ _) | exact balloc _ _ | exact balloc2 _ _ _ | refine btrans ?_ (by assumption) | refine btrans ?_ (balloc _ _)))).mono ?_; rintro e w7 ⟨rfl, rfl⟩) | fail)
        go_ret
        exact ⟨rfl, by repeat (first | assumption | (with_reducible exact Below.refl _ _) | exact balloc _ _ | exact balloc2 _ _ _ | refine btrans ?_ (by assumption) | refine btrans ?_ (balloc _ _))⟩
      · have hwo : wordB o2 = [] := by unfold wordB; rw [if_pos (by omega)]
        rw [hwo] at HWD
        clear hwo
        go_wp2_with (first | (go_at_call 16; refine (HN.out _).mono ?_; rintro e w5 ⟨rfl, hb5⟩; obtain ⟨hc5, hf5⟩ := bcell hb5; have hs5 : w1.heap.size ≤ w5.heap.size := hb5.size; have hws5 : w.heap.size < w5.heap.size := Nat.lt_of_lt_of_le hws hs5; have hws6 : w.heap.size < w5.heap.size + 1 := Nat.lt_succ_of_lt hws5) | (go_at_call 17; (first | (with_reducible refine (HCP.out _ ?_).mono ?_) | (with_reducible refine (HCQ.out _ ?_).mono ?_)); (· exact (by repeat (first | assumption | (with_reducible exact Below.refl _ _) | exact balloc _ _ | exact balloc2 _ _ _ | refine btrans ?_ (by assumption) | refine btrans ?_ (balloc _ _)))); rintro e w6 ⟨rfl, hb6⟩; (first | (replace hb6a := btrans hb6a hb6; clear hb6 hc6 hf6; obtain ⟨hc6, hf6⟩ := bcell hb6a) | (have hb6a := hb6; clear hb6; obtain ⟨hc6, hf6⟩ := bcell hb6a))) | (go_at_call 18; refine (HWD.out _ (by repeat (first | assumption | (with_reducible exact Below.refl _ _) | exact balloc _ _ | exact balloc2 _ _ _ | refine btrans ?_ (by assumption) | refine btrans ?_ (balloc _ _)))).mono ?_; rintro e w7 ⟨rfl, rfl⟩) | fail)
        go_ret
        exact ⟨rfl, by repeat (first | assumption | (with_reducible exact Below.refl _ _) | exact balloc _ _ | exact balloc2 _ _ _ | refine btrans ?_ (by assumption) | refine btrans ?_ (balloc _ _))⟩
  all_goals
    have HL := Lib.hid hli; have HR := Lib.hid hri
    clear hli hri hkk hni
    go_enter Tryz.func3, Tryz.ntmps3
    go_wp2_with (first | (go_at_call 12; refine (fit_any _ (HW.out.below (by repeat (first | assumption | (with_reducible exact Below.refl _ _) | exact balloc _ _ | exact balloc2 _ _ _ | refine btrans ?_ (by assumption) | refine btrans ?_ (balloc _ _))))).mono ?_; rintro e w2 ⟨rfl, hb2⟩; (first | (replace hb1 := btrans hb1 hb2; clear hb2 hc1 hf1; obtain ⟨hc1, hf1⟩ := bcell hb1) | (have hb1 := hb2; clear hb2; obtain ⟨hc1, hf1⟩ := bcell hb1))) | (go_at_call 13; refine (HL.out _).mono ?_; rintro e w2 ⟨rfl, hb2⟩; (first | (replace hb1 := btrans hb1 hb2; clear hb2 hc1 hf1; obtain ⟨hc1, hf1⟩ := bcell hb1) | (have hb1 := hb2; clear hb2; obtain ⟨hc1, hf1⟩ := bcell hb1))) | (go_at_call 14; refine (HR.out _).mono ?_; rintro e w2 ⟨rfl, hb2⟩; (first | (replace hb1 := btrans hb1 hb2; clear hb2 hc1 hf1; obtain ⟨hc1, hf1⟩ := bcell hb1) | (have hb1 := hb2; clear hb2; obtain ⟨hc1, hf1⟩ := bcell hb1))) | fail)
    go_ret
    exact ⟨rfl, by repeat (first | assumption | (with_reducible exact Below.refl _ _) | exact balloc _ _ | exact balloc2 _ _ _ | refine btrans ?_ (by assumption) | refine btrans ?_ (balloc _ _))⟩

set_option maxRecDepth 100000 in
theorem prints06_lifted (os : Os) (started : os.Started) (H : Type) (enc : TypeId × Value → H) :
    ReturnsInHanded {} Tryz.checked os 3 .any (fun w args => (Rows.condPrintsSpec.pre enc Tryz.prog Tryz.f3 Rows.condPrintsRow.domain false w args ∧ laidMetH Tryz.prog Rows.condPrintsRow.laid w) ∧ sizedMet enc Tryz.prog Tryz.f3 (OpenSpec.ofChange Rows.condPrintsSpec) false w args)
      (Rows.condPrintsSpec.post enc Tryz.prog Tryz.f3 false true false false) := by
  refine returnsInHanded_of_change_and (C := Tryz.checked) (X := fun w _ => laidMetH Tryz.prog Rows.condPrintsRow.laid w) (fun _ _ _ hh h => h.of_heap hh) Frame.own started (by kernel_rfl) Tryz.func3
    (ChangeSpec.witness_shaped (enc := enc) (C := Tryz.checked) (os := os) (X := fun w _ => laidMetH Tryz.prog Rows.condPrintsRow.laid w) false (World.laidAll Tryz.prog os Rows.condPrintsRow.laid) #[.agg #[.string .empty, .int .i64 0, .int .i64 0, .int .i64 0, .float .f64 0, .string .empty, .bool false], .int .i64 0] 8 (World.laidAll_os _ _ _)
      (World.shaped_of_ZipB (by kernel_rfl) (by kernel_rfl)) (by kernel_rfl) (by kernel_rfl) (by kernel_rfl)
      (by rw [MakeChecks.laidMetH_plain _ _ _ (by kernel_rfl)]; exact laidMet_laidAll _ (by kernel_rfl) (by kernel_rfl))) ?_
  intro W base args ds gs before hval0 hW _ hsz0 hL _
  have hsz : (DataW.weightsEach Tryz.prog (Tryz.f3.params.toList ++ Rows.condPrintsSpec.plain.varTypes Tryz.prog) (ds ++ gs)).all (· ≤ reachBytes) = true := hsz0
  have hval : ∀ (j : Nat) t v, Tryz.f3.params[j]? = some t → args[j]? = some v → Value.okWide Tryz.prog W .any base t v := hval0
  have hW' := hW
  obtain ⟨p, q, hA0, hV, rfl, hfz, hnd⟩ := hW
  have hA : DataW.TrodAll enc Tryz.prog W 0 (fun _ => true) true Tryz.f3.params.toList args.toList ds p := hA0
  rw [Tryz.params3] at hA hval hsz
  obtain ⟨v0, vs0, d0, ds0, p0, q0, hargs, rfl, rfl, h0, r0⟩ := trodAll_cons hA
  obtain ⟨v1, vs1, d1, ds1, p1, q1, rfl, rfl, rfl, h1, r1⟩ := trodAll_cons r0
  obtain ⟨rfl, rfl, rfl⟩ := trodAll_nil r1
  obtain rfl : args = #[v0, v1] := by cases args; simp_all
  obtain ⟨rfl, rfl⟩ := trodVars_none hV
  obtain ⟨ma, oa, ka, ia, xa, ta, ya, rfl, wa⟩ := Open.open_cond (hval 0 26 v0 rfl rfl) h0 (Open.reach_of hsz (j := 0) (t := 26) rfl rfl)
  obtain ⟨b, rfl, rfl, rfl, wb⟩ := open_int Tryz.underlying3 (hval 1 3 v1 rfl rfl) h1
  clear hA0 hval0 hsz hsz0
  refine (prints06_any ma oa ka ia xa ta ya b W (words_ofPrints hL) (tabs_ofPrints hL) wa.1 wa.2.2.2.2.2 wa.2.2.2.2.1 wa.2.2.2.1.1 wa.2.2.2.1.2).mono fun e W' ⟨he, hw⟩ => ?_
  subst he
  exact ⟨_, rfl, Frame.law_post Frame.laidOut (by kernel_rfl) rfl (by kernel_rfl) Tryz.underlying4 rfl rfl rfl hW' hw⟩

theorem prints06_said : Rows.CondPrintsSaid :=
  OpenClaim.holds_of_wide 3 Tryz.f3 rfl rfl rfl rfl rfl rfl rfl ⟨rfl, rfl, rfl, rfl, rfl⟩ rfl rfl rfl rfl rfl (by kernel_rfl) Tryz.func3 (by kernel_rfl)
    (of_decide_eq_true (by kernel_rfl)) (by unfold Func.isWrapper; first | (rw [if_pos (by decide +kernel)]; kernel_rfl) | (rw [if_neg (by decide +kernel)]; exact ⟨rfl, rfl⟩))
    (fun os started H enc _ => prints06_lifted os started H enc)
theorem prints06_plain (f : FuncId) (fn : Func) (hf : Tryz.pinned.checked.prog.funcNamed "gazette/gazettelaw06.CondPrints" = some f) (hfn : Tryz.pinned.checked.prog.funcs[f]? = some fn) :
    true = Tryz.pinned.checked.prog.looks [] ∧ ∀ (j : Nat) t, fn.params[j]? = some t → Tryz.pinned.checked.prog.wantsStandIn t = false := by
  obtain rfl : f = 3 := Option.some.inj ((show Tryz.prog.funcNamed "gazette/gazettelaw06.CondPrints" = some 3 by kernel_rfl).symm.trans hf) |>.symm
  obtain rfl : fn = Tryz.f3 := (Option.some.inj (Tryz.func3.symm.trans hfn)).symm
  refine ⟨by kernel_rfl, fun j t ht => ?_⟩
  rw [Tryz.params3] at ht
  have hm : t ∈ [26, 3] := by simpa using Array.mem_of_getElem? ht
  have hall : ([26, 3].all fun u => !Tryz.prog.wantsStandIn u) = true := by kernel_rfl
  exact (show Tryz.prog.wantsStandIn t = false by simpa using List.all_eq_true.1 hall t hm)
theorem prints06_holds : Rows.CondPrintsCardSaid :=
  Claim7.holds_tied_plain_at .later [] _ _ _ _ prints06_said (fun _ h => by cases h) (by kernel_rfl) (fun _ h => by cases h) condPrints_row_tie rfl ⟨rfl, rfl⟩ (by kernel_rfl) rfl prints06_plain (by kernel_rfl)
end Go.Proofs.YthdihhkadaafcaaGreatDoor.Val
