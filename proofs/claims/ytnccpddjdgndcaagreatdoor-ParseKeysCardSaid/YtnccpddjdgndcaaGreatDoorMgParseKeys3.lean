/- MERGED BY A PROGRAM OF MINE (pmg.py) out of my own texts, pruned, in their order: Sort1, SortFn, Sort2, Sort3, Need, Norm, FPrint. -/
import Derived.Test.YtnccpddjdgndcaaGreatDoorMgParseKeys2
import Derived.Laws.AppendOwn
import Derived.Test.YtnccpddjdgndcaaGreatDoorFmtM

section
/- THE WALK OF filter.Norm's comparison: by the conditions' texts. -/
namespace Go.Proofs.YtnccpddjdgndcaaGreatDoor.Val
open Go.RowKit Flt
/-- a condition that is not long, whose numbers are words -/
def CSmall (c : C) : Prop := c.name.length ≤ 1000 ∧ c.val.text.length ≤ 1000 ∧ c.val.num < 18446744073709551616 ∧ -9223372036854775808 ≤ c.val.int ∧ c.val.int ≤ 9223372036854775807
/-- how two conditions stand -/
def cmpC (a b : C) : Int := Lib.compareBytes (cT a) (cT b)
theorem cp_below {a b : C} {w w1 w2 : World} (hb : Below w1.heap.size w1 w2) (h : w1.cell? ⟨w.heap.size, 0, none⟩ = some (.string ⟨a.name.toArray⟩) ∧ w1.cell? ⟨w.heap.size, 1, none⟩ = some (.int .i64 a.op) ∧ w1.cell? ⟨w.heap.size, 2, none⟩ = some (.int .i64 a.val.kind) ∧ w1.cell? ⟨w.heap.size, 3, none⟩ = some (.int .i64 a.val.int) ∧ w1.cell? ⟨w.heap.size, 4, none⟩ = some (.float .f64 a.val.num) ∧ w1.cell? ⟨w.heap.size, 5, none⟩ = some (.string ⟨a.val.text.toArray⟩) ∧ w1.cell? ⟨w.heap.size, 6, none⟩ = some (.bool a.val.yes) ∧ w1.cell? ⟨w.heap.size + 1, 0, none⟩ = some (.string ⟨b.name.toArray⟩) ∧ w1.cell? ⟨w.heap.size + 1, 1, none⟩ = some (.int .i64 b.op) ∧ w1.cell? ⟨w.heap.size + 1, 2, none⟩ = some (.int .i64 b.val.kind) ∧ w1.cell? ⟨w.heap.size + 1, 3, none⟩ = some (.int .i64 b.val.int) ∧ w1.cell? ⟨w.heap.size + 1, 4, none⟩ = some (.float .f64 b.val.num) ∧ w1.cell? ⟨w.heap.size + 1, 5, none⟩ = some (.string ⟨b.val.text.toArray⟩) ∧ w1.cell? ⟨w.heap.size + 1, 6, none⟩ = some (.bool b.val.yes) ∧ Below w.heap.size w w1 ∧ w.heap.size + 1 < w1.heap.size) :
    w2.cell? ⟨w.heap.size, 0, none⟩ = some (.string ⟨a.name.toArray⟩) ∧ w2.cell? ⟨w.heap.size, 1, none⟩ = some (.int .i64 a.op) ∧ w2.cell? ⟨w.heap.size, 2, none⟩ = some (.int .i64 a.val.kind) ∧ w2.cell? ⟨w.heap.size, 3, none⟩ = some (.int .i64 a.val.int) ∧ w2.cell? ⟨w.heap.size, 4, none⟩ = some (.float .f64 a.val.num) ∧ w2.cell? ⟨w.heap.size, 5, none⟩ = some (.string ⟨a.val.text.toArray⟩) ∧ w2.cell? ⟨w.heap.size, 6, none⟩ = some (.bool a.val.yes) ∧ w2.cell? ⟨w.heap.size + 1, 0, none⟩ = some (.string ⟨b.name.toArray⟩) ∧ w2.cell? ⟨w.heap.size + 1, 1, none⟩ = some (.int .i64 b.op) ∧ w2.cell? ⟨w.heap.size + 1, 2, none⟩ = some (.int .i64 b.val.kind) ∧ w2.cell? ⟨w.heap.size + 1, 3, none⟩ = some (.int .i64 b.val.int) ∧ w2.cell? ⟨w.heap.size + 1, 4, none⟩ = some (.float .f64 b.val.num) ∧ w2.cell? ⟨w.heap.size + 1, 5, none⟩ = some (.string ⟨b.val.text.toArray⟩) ∧ w2.cell? ⟨w.heap.size + 1, 6, none⟩ = some (.bool b.val.yes) ∧ Below w.heap.size w w2 ∧ w.heap.size + 1 < w2.heap.size := by
  obtain ⟨h0, h1, h2, h3, h4, h5, h6, h7, h8, h9, h10, h11, h12, h13, hB, hl⟩ := h
  have c : ∀ b o, b < w1.heap.size → w2.cell? ⟨b, o, none⟩ = w1.cell? ⟨b, o, none⟩ := fun b o h => hb.cell (p := ⟨b, o, none⟩) h
  exact ⟨(c _ _ (by omega)).trans h0, (c _ _ (by omega)).trans h1, (c _ _ (by omega)).trans h2, (c _ _ (by omega)).trans h3, (c _ _ (by omega)).trans h4, (c _ _ (by omega)).trans h5, (c _ _ (by omega)).trans h6, (c _ _ (by omega)).trans h7, (c _ _ (by omega)).trans h8, (c _ _ (by omega)).trans h9, (c _ _ (by omega)).trans h10, (c _ _ (by omega)).trans h11, (c _ _ (by omega)).trans h12, (c _ _ (by omega)).trans h13, btrans hB hb, Nat.lt_of_lt_of_le hl hb.size⟩
theorem cp_start {a b : C} {w : World} {T : TypeId} : ((w.alloc (.cells #[(.string ⟨a.name.toArray⟩), (.int .i64 a.op), (.int .i64 a.val.kind), (.int .i64 a.val.int), (.float .f64 a.val.num), (.string ⟨a.val.text.toArray⟩), (.bool a.val.yes)] T)).alloc (.cells #[(.string ⟨b.name.toArray⟩), (.int .i64 b.op), (.int .i64 b.val.kind), (.int .i64 b.val.int), (.float .f64 b.val.num), (.string ⟨b.val.text.toArray⟩), (.bool b.val.yes)] T)).drew.cell? ⟨w.heap.size, 0, none⟩ = some (.string ⟨a.name.toArray⟩) ∧ ((w.alloc (.cells #[(.string ⟨a.name.toArray⟩), (.int .i64 a.op), (.int .i64 a.val.kind), (.int .i64 a.val.int), (.float .f64 a.val.num), (.string ⟨a.val.text.toArray⟩), (.bool a.val.yes)] T)).alloc (.cells #[(.string ⟨b.name.toArray⟩), (.int .i64 b.op), (.int .i64 b.val.kind), (.int .i64 b.val.int), (.float .f64 b.val.num), (.string ⟨b.val.text.toArray⟩), (.bool b.val.yes)] T)).drew.cell? ⟨w.heap.size, 1, none⟩ = some (.int .i64 a.op) ∧ ((w.alloc (.cells #[(.string ⟨a.name.toArray⟩), (.int .i64 a.op), (.int .i64 a.val.kind), (.int .i64 a.val.int), (.float .f64 a.val.num), (.string ⟨a.val.text.toArray⟩), (.bool a.val.yes)] T)).alloc (.cells #[(.string ⟨b.name.toArray⟩), (.int .i64 b.op), (.int .i64 b.val.kind), (.int .i64 b.val.int), (.float .f64 b.val.num), (.string ⟨b.val.text.toArray⟩), (.bool b.val.yes)] T)).drew.cell? ⟨w.heap.size, 2, none⟩ = some (.int .i64 a.val.kind) ∧ ((w.alloc (.cells #[(.string ⟨a.name.toArray⟩), (.int .i64 a.op), (.int .i64 a.val.kind), (.int .i64 a.val.int), (.float .f64 a.val.num), (.string ⟨a.val.text.toArray⟩), (.bool a.val.yes)] T)).alloc (.cells #[(.string ⟨b.name.toArray⟩), (.int .i64 b.op), (.int .i64 b.val.kind), (.int .i64 b.val.int), (.float .f64 b.val.num), (.string ⟨b.val.text.toArray⟩), (.bool b.val.yes)] T)).drew.cell? ⟨w.heap.size, 3, none⟩ = some (.int .i64 a.val.int) ∧ ((w.alloc (.cells #[(.string ⟨a.name.toArray⟩), (.int .i64 a.op), (.int .i64 a.val.kind), (.int .i64 a.val.int), (.float .f64 a.val.num), (.string ⟨a.val.text.toArray⟩), (.bool a.val.yes)] T)).alloc (.cells #[(.string ⟨b.name.toArray⟩), (.int .i64 b.op), (.int .i64 b.val.kind), (.int .i64 b.val.int), (.float .f64 b.val.num), (.string ⟨b.val.text.toArray⟩), (.bool b.val.yes)] T)).drew.cell? ⟨w.heap.size, 4, none⟩ = some (.float .f64 a.val.num) ∧ ((w.alloc (.cells #[(.string ⟨a.name.toArray⟩), (.int .i64 a.op), (.int .i64 a.val.kind), (.int .i64 a.val.int), (.float .f64 a.val.num), (.string ⟨a.val.text.toArray⟩), (.bool a.val.yes)] T)).alloc (.cells #[(.string ⟨b.name.toArray⟩), (.int .i64 b.op), (.int .i64 b.val.kind), (.int .i64 b.val.int), (.float .f64 b.val.num), (.string ⟨b.val.text.toArray⟩), (.bool b.val.yes)] T)).drew.cell? ⟨w.heap.size, 5, none⟩ = some (.string ⟨a.val.text.toArray⟩) ∧ ((w.alloc (.cells #[(.string ⟨a.name.toArray⟩), (.int .i64 a.op), (.int .i64 a.val.kind), (.int .i64 a.val.int), (.float .f64 a.val.num), (.string ⟨a.val.text.toArray⟩), (.bool a.val.yes)] T)).alloc (.cells #[(.string ⟨b.name.toArray⟩), (.int .i64 b.op), (.int .i64 b.val.kind), (.int .i64 b.val.int), (.float .f64 b.val.num), (.string ⟨b.val.text.toArray⟩), (.bool b.val.yes)] T)).drew.cell? ⟨w.heap.size, 6, none⟩ = some (.bool a.val.yes) ∧ ((w.alloc (.cells #[(.string ⟨a.name.toArray⟩), (.int .i64 a.op), (.int .i64 a.val.kind), (.int .i64 a.val.int), (.float .f64 a.val.num), (.string ⟨a.val.text.toArray⟩), (.bool a.val.yes)] T)).alloc (.cells #[(.string ⟨b.name.toArray⟩), (.int .i64 b.op), (.int .i64 b.val.kind), (.int .i64 b.val.int), (.float .f64 b.val.num), (.string ⟨b.val.text.toArray⟩), (.bool b.val.yes)] T)).drew.cell? ⟨w.heap.size + 1, 0, none⟩ = some (.string ⟨b.name.toArray⟩) ∧ ((w.alloc (.cells #[(.string ⟨a.name.toArray⟩), (.int .i64 a.op), (.int .i64 a.val.kind), (.int .i64 a.val.int), (.float .f64 a.val.num), (.string ⟨a.val.text.toArray⟩), (.bool a.val.yes)] T)).alloc (.cells #[(.string ⟨b.name.toArray⟩), (.int .i64 b.op), (.int .i64 b.val.kind), (.int .i64 b.val.int), (.float .f64 b.val.num), (.string ⟨b.val.text.toArray⟩), (.bool b.val.yes)] T)).drew.cell? ⟨w.heap.size + 1, 1, none⟩ = some (.int .i64 b.op) ∧ ((w.alloc (.cells #[(.string ⟨a.name.toArray⟩), (.int .i64 a.op), (.int .i64 a.val.kind), (.int .i64 a.val.int), (.float .f64 a.val.num), (.string ⟨a.val.text.toArray⟩), (.bool a.val.yes)] T)).alloc (.cells #[(.string ⟨b.name.toArray⟩), (.int .i64 b.op), (.int .i64 b.val.kind), (.int .i64 b.val.int), (.float .f64 b.val.num), (.string ⟨b.val.text.toArray⟩), (.bool b.val.yes)] T)).drew.cell? ⟨w.heap.size + 1, 2, none⟩ = some (.int .i64 b.val.kind) ∧ ((w.alloc (.cells #[(.string ⟨a.name.toArray⟩), (.int .i64 a.op), (.int .i64 a.val.kind), (.int .i64 a.val.int), (.float .f64 a.val.num), (.string ⟨a.val.text.toArray⟩), (.bool a.val.yes)] T)).alloc (.cells #[(.string ⟨b.name.toArray⟩), (.int .i64 b.op), (.int .i64 b.val.kind), (.int .i64 b.val.int), (.float .f64 b.val.num), (.string ⟨b.val.text.toArray⟩), (.bool b.val.yes)] T)).drew.cell? ⟨w.heap.size + 1, 3, none⟩ = some (.int .i64 b.val.int) ∧ ((w.alloc (.cells #[(.string ⟨a.name.toArray⟩), (.int .i64 a.op), (.int .i64 a.val.kind), (.int .i64 a.val.int), (.float .f64 a.val.num), (.string ⟨a.val.text.toArray⟩), (.bool a.val.yes)] T)).alloc (.cells #[(.string ⟨b.name.toArray⟩), (.int .i64 b.op), (.int .i64 b.val.kind), (.int .i64 b.val.int), (.float .f64 b.val.num), (.string ⟨b.val.text.toArray⟩), (.bool b.val.yes)] T)).drew.cell? ⟨w.heap.size + 1, 4, none⟩ = some (.float .f64 b.val.num) ∧ ((w.alloc (.cells #[(.string ⟨a.name.toArray⟩), (.int .i64 a.op), (.int .i64 a.val.kind), (.int .i64 a.val.int), (.float .f64 a.val.num), (.string ⟨a.val.text.toArray⟩), (.bool a.val.yes)] T)).alloc (.cells #[(.string ⟨b.name.toArray⟩), (.int .i64 b.op), (.int .i64 b.val.kind), (.int .i64 b.val.int), (.float .f64 b.val.num), (.string ⟨b.val.text.toArray⟩), (.bool b.val.yes)] T)).drew.cell? ⟨w.heap.size + 1, 5, none⟩ = some (.string ⟨b.val.text.toArray⟩) ∧ ((w.alloc (.cells #[(.string ⟨a.name.toArray⟩), (.int .i64 a.op), (.int .i64 a.val.kind), (.int .i64 a.val.int), (.float .f64 a.val.num), (.string ⟨a.val.text.toArray⟩), (.bool a.val.yes)] T)).alloc (.cells #[(.string ⟨b.name.toArray⟩), (.int .i64 b.op), (.int .i64 b.val.kind), (.int .i64 b.val.int), (.float .f64 b.val.num), (.string ⟨b.val.text.toArray⟩), (.bool b.val.yes)] T)).drew.cell? ⟨w.heap.size + 1, 6, none⟩ = some (.bool b.val.yes) ∧ Below w.heap.size w ((w.alloc (.cells #[(.string ⟨a.name.toArray⟩), (.int .i64 a.op), (.int .i64 a.val.kind), (.int .i64 a.val.int), (.float .f64 a.val.num), (.string ⟨a.val.text.toArray⟩), (.bool a.val.yes)] T)).alloc (.cells #[(.string ⟨b.name.toArray⟩), (.int .i64 b.op), (.int .i64 b.val.kind), (.int .i64 b.val.int), (.float .f64 b.val.num), (.string ⟨b.val.text.toArray⟩), (.bool b.val.yes)] T)).drew ∧ w.heap.size + 1 < ((w.alloc (.cells #[(.string ⟨a.name.toArray⟩), (.int .i64 a.op), (.int .i64 a.val.kind), (.int .i64 a.val.int), (.float .f64 a.val.num), (.string ⟨a.val.text.toArray⟩), (.bool a.val.yes)] T)).alloc (.cells #[(.string ⟨b.name.toArray⟩), (.int .i64 b.op), (.int .i64 b.val.kind), (.int .i64 b.val.int), (.float .f64 b.val.num), (.string ⟨b.val.text.toArray⟩), (.bool b.val.yes)] T)).drew.heap.size := by
  have c1 : ∀ o, ((w.alloc (.cells #[(.string ⟨a.name.toArray⟩), (.int .i64 a.op), (.int .i64 a.val.kind), (.int .i64 a.val.int), (.float .f64 a.val.num), (.string ⟨a.val.text.toArray⟩), (.bool a.val.yes)] T)).alloc (.cells #[(.string ⟨b.name.toArray⟩), (.int .i64 b.op), (.int .i64 b.val.kind), (.int .i64 b.val.int), (.float .f64 b.val.num), (.string ⟨b.val.text.toArray⟩), (.bool b.val.yes)] T)).drew.cell? ⟨w.heap.size, o, none⟩ = #[(.string ⟨a.name.toArray⟩), (.int .i64 a.op), (.int .i64 a.val.kind), (.int .i64 a.val.int), (.float .f64 a.val.num), (.string ⟨a.val.text.toArray⟩), (.bool a.val.yes)][o]? := fun o => ((balloc (w.alloc (.cells #[(.string ⟨a.name.toArray⟩), (.int .i64 a.op), (.int .i64 a.val.kind), (.int .i64 a.val.int), (.float .f64 a.val.num), (.string ⟨a.val.text.toArray⟩), (.bool a.val.yes)] T)) _).cell (p := ⟨w.heap.size, o, none⟩) (by simp)).trans (World.cell?_alloc_at _ _ _ _ rfl)
  have c2 : ∀ o, ((w.alloc (.cells #[(.string ⟨a.name.toArray⟩), (.int .i64 a.op), (.int .i64 a.val.kind), (.int .i64 a.val.int), (.float .f64 a.val.num), (.string ⟨a.val.text.toArray⟩), (.bool a.val.yes)] T)).alloc (.cells #[(.string ⟨b.name.toArray⟩), (.int .i64 b.op), (.int .i64 b.val.kind), (.int .i64 b.val.int), (.float .f64 b.val.num), (.string ⟨b.val.text.toArray⟩), (.bool b.val.yes)] T)).drew.cell? ⟨w.heap.size + 1, o, none⟩ = #[(.string ⟨b.name.toArray⟩), (.int .i64 b.op), (.int .i64 b.val.kind), (.int .i64 b.val.int), (.float .f64 b.val.num), (.string ⟨b.val.text.toArray⟩), (.bool b.val.yes)][o]? := fun o => World.cell?_alloc_at _ _ _ _ (by simp)
  exact ⟨c1 0, c1 1, c1 2, c1 3, c1 4, c1 5, c1 6, c2 0, c2 1, c2 2, c2 3, c2 4, c2 5, c2 6, bdrewN (balloc2 _ _ _) 1, by show w.heap.size + 1 < ((w.alloc (.cells #[(.string ⟨a.name.toArray⟩), (.int .i64 a.op), (.int .i64 a.val.kind), (.int .i64 a.val.int), (.float .f64 a.val.num), (.string ⟨a.val.text.toArray⟩), (.bool a.val.yes)] T)).alloc (.cells #[(.string ⟨b.name.toArray⟩), (.int .i64 b.op), (.int .i64 b.val.kind), (.int .i64 b.val.int), (.float .f64 b.val.num), (.string ⟨b.val.text.toArray⟩), (.bool b.val.yes)] T)).heap.size; simp⟩
theorem cp_own {a b : C} {w w1 : World} (h : w1.cell? ⟨w.heap.size, 0, none⟩ = some (.string ⟨a.name.toArray⟩) ∧ w1.cell? ⟨w.heap.size, 1, none⟩ = some (.int .i64 a.op) ∧ w1.cell? ⟨w.heap.size, 2, none⟩ = some (.int .i64 a.val.kind) ∧ w1.cell? ⟨w.heap.size, 3, none⟩ = some (.int .i64 a.val.int) ∧ w1.cell? ⟨w.heap.size, 4, none⟩ = some (.float .f64 a.val.num) ∧ w1.cell? ⟨w.heap.size, 5, none⟩ = some (.string ⟨a.val.text.toArray⟩) ∧ w1.cell? ⟨w.heap.size, 6, none⟩ = some (.bool a.val.yes) ∧ w1.cell? ⟨w.heap.size + 1, 0, none⟩ = some (.string ⟨b.name.toArray⟩) ∧ w1.cell? ⟨w.heap.size + 1, 1, none⟩ = some (.int .i64 b.op) ∧ w1.cell? ⟨w.heap.size + 1, 2, none⟩ = some (.int .i64 b.val.kind) ∧ w1.cell? ⟨w.heap.size + 1, 3, none⟩ = some (.int .i64 b.val.int) ∧ w1.cell? ⟨w.heap.size + 1, 4, none⟩ = some (.float .f64 b.val.num) ∧ w1.cell? ⟨w.heap.size + 1, 5, none⟩ = some (.string ⟨b.val.text.toArray⟩) ∧ w1.cell? ⟨w.heap.size + 1, 6, none⟩ = some (.bool b.val.yes) ∧ Below w.heap.size w w1 ∧ w.heap.size + 1 < w1.heap.size) : Below w.heap.size w w1 := h.2.2.2.2.2.2.2.2.2.2.2.2.2.2.1
set_option maxRecDepth 20000 in
set_option maxHeartbeats 2000000 in
theorem cmp_any (a b : C) (w : World) (hw : Words w) (hT : Tab.Tabs w) (ha : CSmall a) (hb : CSmall b) :
    Calls Tryz.prog 67 #[cc a, cc b] w fun e w' => e = .returned (.int .i64 (cmpC a b)) ∧ Below w.heap.size w w' := by
  have hpa : ∀ w1, Below w.heap.size w w1 → Calls Tryz.prog 25 #[cc a] w1 fun e w' => e = .returned (.string ⟨(cT a).toArray⟩) ∧ Below w1.heap.size w1 w' :=
    fun w1 hb1 => cprint_any a.name a.op a.val.kind a.val.int a.val.num a.val.text a.val.yes w1 (hw.below hb1) (hT.below hb1 (Nat.le_refl _)) (by have := ha.1; omega) (by have := ha.2.1; omega) ha.2.2.1 ha.2.2.2.1 ha.2.2.2.2
  have hpb : ∀ w1, Below w.heap.size w w1 → Calls Tryz.prog 25 #[cc b] w1 fun e w' => e = .returned (.string ⟨(cT b).toArray⟩) ∧ Below w1.heap.size w1 w' :=
    fun w1 hb1 => cprint_any b.name b.op b.val.kind b.val.int b.val.num b.val.text b.val.yes w1 (hw.below hb1) (hT.below hb1 (Nat.le_refl _)) (by have := hb.1; omega) (by have := hb.2.1; omega) hb.2.2.1 hb.2.2.2.1 hb.2.2.2.2
  have hr : cmpC a b = Lib.compareBytes (cT a) (cT b) := rfl
  generalize cT a = ta at *
  generalize cT b = tb at *
  generalize cmpC a b = R at *
  have HPA := Lib.hid hpa; have HPB := Lib.hid hpb; have HR := Lib.hid hr
  clear hpa hpb hr hw hT ha hb
  go_enter Tryz.func67, Tryz.ntmps67
  go_wp2_with fail
  go_region_held3 (fun w' => w'.cell? ⟨w.heap.size, 0, none⟩ = some (.string ⟨a.name.toArray⟩) ∧ w'.cell? ⟨w.heap.size, 1, none⟩ = some (.int .i64 a.op) ∧ w'.cell? ⟨w.heap.size, 2, none⟩ = some (.int .i64 a.val.kind) ∧ w'.cell? ⟨w.heap.size, 3, none⟩ = some (.int .i64 a.val.int) ∧ w'.cell? ⟨w.heap.size, 4, none⟩ = some (.float .f64 a.val.num) ∧ w'.cell? ⟨w.heap.size, 5, none⟩ = some (.string ⟨a.val.text.toArray⟩) ∧ w'.cell? ⟨w.heap.size, 6, none⟩ = some (.bool a.val.yes) ∧ w'.cell? ⟨w.heap.size + 1, 0, none⟩ = some (.string ⟨b.name.toArray⟩) ∧ w'.cell? ⟨w.heap.size + 1, 1, none⟩ = some (.int .i64 b.op) ∧ w'.cell? ⟨w.heap.size + 1, 2, none⟩ = some (.int .i64 b.val.kind) ∧ w'.cell? ⟨w.heap.size + 1, 3, none⟩ = some (.int .i64 b.val.int) ∧ w'.cell? ⟨w.heap.size + 1, 4, none⟩ = some (.float .f64 b.val.num) ∧ w'.cell? ⟨w.heap.size + 1, 5, none⟩ = some (.string ⟨b.val.text.toArray⟩) ∧ w'.cell? ⟨w.heap.size + 1, 6, none⟩ = some (.bool b.val.yes) ∧ Below w.heap.size w w' ∧ w.heap.size + 1 < w'.heap.size)
    (first | exact cp_start | assumption | exact cp_below (by assumption) (by assumption))
    (first | (go_at_call 25; (first | (with_reducible refine (HPA.out _ ?_).mono ?_) | (with_reducible refine (HPB.out _ ?_).mono ?_)); (· exact cp_own (by assumption)); rintro e w7 ⟨rfl, hb7⟩) | (go_at_call 68; refine (Tryz.strings_Compare _ _ _).mono ?_; rintro e w8 ⟨rfl, rfl⟩))
  go_wp2_with fail
  go_ret
  exact ⟨by rw [HR.out]; rfl, cp_own (by assumption)⟩
end Go.Proofs.YtnccpddjdgndcaaGreatDoor.Val
end

section
/- CONDITIONS IN A ROW, and how the library sorts a short row: plain, and in memory. No walk. -/
namespace Go.Proofs.YtnccpddjdgndcaaGreatDoor.Val
open Go.RowKit Flt
def cells7 (c : C) : List Value := [.string ⟨c.name.toArray⟩, .int .i64 c.op, .int .i64 c.val.kind, .int .i64 c.val.int, .float .f64 c.val.num, .string ⟨c.val.text.toArray⟩, .bool c.val.yes]
def flatC (l : List C) : List Value := l.flatMap cells7
theorem flatC_len (l : List C) : (flatC l).length = l.length * 7 := by
  induction l with
  | nil => rfl
  | cons v l ih => unfold flatC at *; rw [List.flatMap_cons, List.length_append, ih]; simp [cells7]; omega
theorem flatC_at : ∀ (l : List C) (i j : Nat) (hi : i < l.length), j < 7 → (flatC l)[i * 7 + j]? = (cells7 l[i])[j]?
  | v :: l, 0, j, _, hj => by
    unfold flatC; rw [List.flatMap_cons, List.getElem?_append_left (by simp [cells7]; omega)]; simp
  | v :: l, i + 1, j, hi, hj => by
    unfold flatC; rw [List.flatMap_cons, List.getElem?_append_right (by simp [cells7]; omega)]
    have e : (i + 1) * 7 + j - (cells7 v).length = i * 7 + j := by simp [cells7]; omega
    rw [e]
    exact flatC_at l i j (by simpa using hi) hj
theorem flatC_one (l : List C) : ∀ u ∈ flatC l, u.oneCell' = true := by
  intro u hu
  obtain ⟨v, _, hv⟩ := List.mem_flatMap.1 hu
  simp only [cells7, List.mem_cons, List.not_mem_nil, or_false] at hv
  rcases hv with rfl | rfl | rfl | rfl | rfl | rfl | rfl <;> rfl
theorem flatC_app (l : List C) (a : C) : flatC (l ++ [a]) = flatC l ++ flatC [a] := by simp [flatC]
/-- a row of conditions, in a block of its own, Z behind -/
def Row (w : World) (g : Nat) (l : List C) (Z : List Value) : Prop := w.heap[g]? = some (.cells (flatC l ++ Z).toArray 41 (0, 0))
theorem Row.at {w : World} {g : Nat} {l : List C} {Z : List Value} (h : Row w g l Z) (i j : Nat) (hi : i < l.length) (hj : j < 7) : w.cell? ⟨g, i * 7 + j, none⟩ = (cells7 l[i])[j]? := by
  have hl := flatC_len l
  rw [cell_of_row w g _ _ _ _ h]
  rw [List.getElem?_toArray, List.getElem?_append_left (by omega), flatC_at l i j hi hj]
theorem Row.cat {w : World} {g : Nat} {l : List C} {Z : List Value} (h : Row w g l Z) (i : Nat) (hi : i < l.length) : CAt w ⟨g, i * 7, none⟩ l[i] :=
  ⟨h.at i 0 hi (by decide), h.at i 1 hi (by decide), h.at i 2 hi (by decide), h.at i 3 hi (by decide), h.at i 4 hi (by decide), h.at i 5 hi (by decide), h.at i 6 hi (by decide)⟩
theorem Row.frz {w : World} {g : Nat} {l : List C} {Z : List Value} (h : Row w g l Z) (o : Nat) : w.frozen? ⟨g, o, none⟩ = false := by
  unfold Row at h
  simp [World.frozen?, h]
theorem Row.lt {w : World} {g : Nat} {l : List C} {Z : List Value} (h : Row w g l Z) : g < w.heap.size := (Array.getElem?_eq_some_iff.1 h).1
theorem Row.below {w w2 : World} {g : Nat} {l : List C} {Z : List Value} {B : Nat} (h : Row w g l Z) (hb : Below B w w2) (hg : g < B) : Row w2 g l Z := (hb.block g hg).trans h
theorem setCell_row {w : World} {g : Nat} {cs : Array Value} {t : TypeId} {fz : Nat × Nat} (h : w.heap[g]? = some (.cells cs t fz)) (o : Nat) (v : Value) :
    (w.setCell ⟨g, o, none⟩ v).heap[g]? = some (.cells (cs.setIfInBounds o v) t fz) := by
  unfold World.setCell
  simp [Array.getElem?_modify, h]
theorem set_mid (P Q : List Value) (x0 x1 x2 x3 x4 x5 x6 v0 v1 v2 v3 v4 v5 v6 : Value) (n : Nat) (hn : P.length = n) :
    (((((((P ++ x0 :: x1 :: x2 :: x3 :: x4 :: x5 :: x6 :: Q).set n v0).set (n + 1) v1).set (n + 2) v2).set (n + 3) v3).set (n + 4) v4).set (n + 5) v5).set (n + 6) v6 =
      P ++ v0 :: v1 :: v2 :: v3 :: v4 :: v5 :: v6 :: Q := by
  subst hn
  have e : ∀ (k : Nat) (L : List Value) (v : Value), (P ++ L).set (P.length + k) v = P ++ L.set k v := fun k L v => by
    rw [List.set_append_right _ _ (by omega)]
    congr 2
    omega
  have e0 : ∀ (L : List Value) (v : Value), (P ++ L).set P.length v = P ++ L.set 0 v := fun L v => e 0 L v
  rw [e0, e, e, e, e, e, e]
  rfl
/-- seven cells stored -/
def put7 (w : World) (g o : Nat) (c : C) : World :=
  ((((((w.setCell ⟨g, o, none⟩ (.string ⟨c.name.toArray⟩)).setCell ⟨g, o + 1, none⟩ (.int .i64 c.op)).setCell ⟨g, o + 2, none⟩ (.int .i64 c.val.kind)).setCell ⟨g, o + 3, none⟩ (.int .i64 c.val.int)).setCell ⟨g, o + 4, none⟩ (.float .f64 c.val.num)).setCell ⟨g, o + 5, none⟩ (.string ⟨c.val.text.toArray⟩)).setCell ⟨g, o + 6, none⟩ (.bool c.val.yes)
theorem store7 {w : World} {g : Nat} {cs : Array Value} {t : TypeId} {fz : Nat × Nat} (h : w.heap[g]? = some (.cells cs t fz)) (o : Nat) (c : C) :
    (put7 w g o c).heap[g]? = some (.cells (((((((cs.setIfInBounds o (.string ⟨c.name.toArray⟩)).setIfInBounds (o + 1) (.int .i64 c.op)).setIfInBounds (o + 2) (.int .i64 c.val.kind)).setIfInBounds (o + 3) (.int .i64 c.val.int)).setIfInBounds (o + 4) (.float .f64 c.val.num)).setIfInBounds (o + 5) (.string ⟨c.val.text.toArray⟩)).setIfInBounds (o + 6) (.bool c.val.yes)) t fz) :=
  setCell_row (setCell_row (setCell_row (setCell_row (setCell_row (setCell_row (setCell_row h o _) _ _) _ _) _ _) _ _) _ _) _ _
theorem flatC_split (l : List C) (j : Nat) (hj : j < l.length) : flatC l = flatC (l.take j) ++ (cells7 l[j] ++ flatC (l.drop (j + 1))) := by
  have e : l = l.take j ++ l[j] :: l.drop (j + 1) := by
    rw [← List.drop_eq_getElem_cons hj, List.take_append_drop]
  rw [show flatC l = flatC (l.take j ++ l[j] :: l.drop (j + 1)) from congrArg flatC e]
  unfold flatC
  rw [List.flatMap_append, List.flatMap_cons]
theorem Row.put {w : World} {g : Nat} {l : List C} {Z : List Value} (h : Row w g l Z) (j : Nat) (hj : j < l.length) (c : C) : Row (put7 w g (j * 7) c) g (l.set j c) Z := by
  refine (store7 h (j * 7) c).trans (congrArg (fun z => some (Obj.cells z 41 (0, 0))) (Array.ext' ?_))
  simp only [Array.toList_setIfInBounds]
  rw [flatC_split l j hj, flatC_split (l.set j c) j (by simpa using hj)]
  have hp : (flatC (l.take j)).length = j * 7 := by rw [flatC_len, List.length_take]; rw [Nat.min_eq_left (by omega)]
  have e1 : (l.set j c).take j = l.take j := List.take_set_of_le (Nat.le_refl _)
  have e2 : (l.set j c).drop (j + 1) = l.drop (j + 1) := List.drop_set_of_lt (by omega)
  have e3 : (l.set j c)[j]'(by simpa using hj) = c := List.getElem_set_self ..
  rw [e1, e2, e3]
  simp only [cells7, List.append_assoc, List.cons_append, List.nil_append]
  exact set_mid _ _ _ _ _ _ _ _ _ _ _ _ _ _ _ _ _ hp
theorem below_put7 {w : World} {B g : Nat} (hg : B ≤ g) (o : Nat) (c : C) : Below B w (put7 w g o c) :=
  (((((((Below.refl B w).setCell hg _).setCell hg _).setCell hg _).setCell hg _).setCell hg _).setCell hg _).setCell hg _
/-- two neighbours change places -/
def swp (L : List C) (j : Nat) : List C := (L.set (j + 1) L[j]!).set j L[j + 1]!
/-- one goes down as far as it is below its neighbour -/
def bub : List C → Nat → List C
  | L, 0 => L
  | L, j + 1 => if cmpC L[j + 1]! L[j]! < 0 then bub (swp L j) j else L
/-- the first i + 1 are brought in order -/
def isort (L : List C) : Nat → List C
  | 0 => L
  | i + 1 => bub (isort L i) (i + 1)
theorem swp_len (L : List C) (j : Nat) : (swp L j).length = L.length := by simp [swp]
theorem bub_len : ∀ (j : Nat) (L : List C), (bub L j).length = L.length
  | 0, L => rfl
  | j + 1, L => by
    unfold bub
    split
    · rw [bub_len j, swp_len]
    · rfl
theorem isort_len (L : List C) : ∀ i, (isort L i).length = L.length
  | 0 => rfl
  | i + 1 => by rw [isort, bub_len, isort_len L i]
theorem swp_mem {L : List C} {j : Nat} (hj : j + 1 < L.length) {x : C} (h : x ∈ swp L j) : x ∈ L := by
  unfold swp at h
  rcases List.mem_or_eq_of_mem_set h with h | h
  · rcases List.mem_or_eq_of_mem_set h with h | h
    · exact h
    · rw [h, getElem!_pos L j (by omega)]; exact List.getElem_mem _
  · rw [h, getElem!_pos L (j + 1) hj]; exact List.getElem_mem _
theorem bub_mem : ∀ (j : Nat) (L : List C), j < L.length → ∀ x ∈ bub L j, x ∈ L
  | 0, L, _, x, h => h
  | j + 1, L, hj, x, h => by
    unfold bub at h
    split at h
    · exact swp_mem hj (bub_mem j _ (by rw [swp_len]; omega) x h)
    · exact h
theorem isort_mem (L : List C) : ∀ i, i < L.length → ∀ x ∈ isort L i, x ∈ L
  | 0, _, x, h => h
  | i + 1, hi, x, h => isort_mem L i (by omega) x (bub_mem (i + 1) _ (by rw [isort_len]; exact hi) x h)
end Go.Proofs.YtnccpddjdgndcaaGreatDoor.Val
end

section
/- THE WALK OF the library's insertion sort over a row of conditions, and of SortStableFunc at a short row. -/
namespace Go.Proofs.YtnccpddjdgndcaaGreatDoor.Val
open Go.RowKit Flt
theorem so_below {x y : C} {g j m : Nat} {wr w1 w2 : World} (hb : Below w1.heap.size w1 w2) (h : w1.cell? ⟨g, m * 7, none⟩ = some (.string ⟨x.name.toArray⟩) ∧ w1.cell? ⟨g, m * 7 + 1, none⟩ = some (.int .i64 x.op) ∧ w1.cell? ⟨g, m * 7 + 2, none⟩ = some (.int .i64 x.val.kind) ∧ w1.cell? ⟨g, m * 7 + 3, none⟩ = some (.int .i64 x.val.int) ∧ w1.cell? ⟨g, m * 7 + 4, none⟩ = some (.float .f64 x.val.num) ∧ w1.cell? ⟨g, m * 7 + 5, none⟩ = some (.string ⟨x.val.text.toArray⟩) ∧ w1.cell? ⟨g, m * 7 + 6, none⟩ = some (.bool x.val.yes) ∧ w1.cell? ⟨g, j * 7, none⟩ = some (.string ⟨y.name.toArray⟩) ∧ w1.cell? ⟨g, j * 7 + 1, none⟩ = some (.int .i64 y.op) ∧ w1.cell? ⟨g, j * 7 + 2, none⟩ = some (.int .i64 y.val.kind) ∧ w1.cell? ⟨g, j * 7 + 3, none⟩ = some (.int .i64 y.val.int) ∧ w1.cell? ⟨g, j * 7 + 4, none⟩ = some (.float .f64 y.val.num) ∧ w1.cell? ⟨g, j * 7 + 5, none⟩ = some (.string ⟨y.val.text.toArray⟩) ∧ w1.cell? ⟨g, j * 7 + 6, none⟩ = some (.bool y.val.yes) ∧ Below wr.heap.size wr w1 ∧ g < w1.heap.size) :
    w2.cell? ⟨g, m * 7, none⟩ = some (.string ⟨x.name.toArray⟩) ∧ w2.cell? ⟨g, m * 7 + 1, none⟩ = some (.int .i64 x.op) ∧ w2.cell? ⟨g, m * 7 + 2, none⟩ = some (.int .i64 x.val.kind) ∧ w2.cell? ⟨g, m * 7 + 3, none⟩ = some (.int .i64 x.val.int) ∧ w2.cell? ⟨g, m * 7 + 4, none⟩ = some (.float .f64 x.val.num) ∧ w2.cell? ⟨g, m * 7 + 5, none⟩ = some (.string ⟨x.val.text.toArray⟩) ∧ w2.cell? ⟨g, m * 7 + 6, none⟩ = some (.bool x.val.yes) ∧ w2.cell? ⟨g, j * 7, none⟩ = some (.string ⟨y.name.toArray⟩) ∧ w2.cell? ⟨g, j * 7 + 1, none⟩ = some (.int .i64 y.op) ∧ w2.cell? ⟨g, j * 7 + 2, none⟩ = some (.int .i64 y.val.kind) ∧ w2.cell? ⟨g, j * 7 + 3, none⟩ = some (.int .i64 y.val.int) ∧ w2.cell? ⟨g, j * 7 + 4, none⟩ = some (.float .f64 y.val.num) ∧ w2.cell? ⟨g, j * 7 + 5, none⟩ = some (.string ⟨y.val.text.toArray⟩) ∧ w2.cell? ⟨g, j * 7 + 6, none⟩ = some (.bool y.val.yes) ∧ Below wr.heap.size wr w2 ∧ g < w2.heap.size := by
  obtain ⟨h0, h1, h2, h3, h4, h5, h6, h7, h8, h9, h10, h11, h12, h13, hB, hl⟩ := h
  have c : ∀ o, w2.cell? ⟨g, o, none⟩ = w1.cell? ⟨g, o, none⟩ := fun o => hb.cell (p := ⟨g, o, none⟩) hl
  exact ⟨(c _).trans h0, (c _).trans h1, (c _).trans h2, (c _).trans h3, (c _).trans h4, (c _).trans h5, (c _).trans h6, (c _).trans h7, (c _).trans h8, (c _).trans h9, (c _).trans h10, (c _).trans h11, (c _).trans h12, (c _).trans h13, btrans hB hb, Nat.lt_of_lt_of_le hl hb.size⟩
set_option maxHeartbeats 400000 in
theorem so_start {M : List C} {Z : List Value} {g j m : Nat} {wr : World} (h : Row wr g M Z) (hj : m < M.length) (hj2 : j < M.length) : wr.drew.cell? ⟨g, m * 7, none⟩ = some (.string ⟨(M[m]'hj).name.toArray⟩) ∧ wr.drew.cell? ⟨g, m * 7 + 1, none⟩ = some (.int .i64 (M[m]'hj).op) ∧ wr.drew.cell? ⟨g, m * 7 + 2, none⟩ = some (.int .i64 (M[m]'hj).val.kind) ∧ wr.drew.cell? ⟨g, m * 7 + 3, none⟩ = some (.int .i64 (M[m]'hj).val.int) ∧ wr.drew.cell? ⟨g, m * 7 + 4, none⟩ = some (.float .f64 (M[m]'hj).val.num) ∧ wr.drew.cell? ⟨g, m * 7 + 5, none⟩ = some (.string ⟨(M[m]'hj).val.text.toArray⟩) ∧ wr.drew.cell? ⟨g, m * 7 + 6, none⟩ = some (.bool (M[m]'hj).val.yes) ∧ wr.drew.cell? ⟨g, j * 7, none⟩ = some (.string ⟨(M[j]'hj2).name.toArray⟩) ∧ wr.drew.cell? ⟨g, j * 7 + 1, none⟩ = some (.int .i64 (M[j]'hj2).op) ∧ wr.drew.cell? ⟨g, j * 7 + 2, none⟩ = some (.int .i64 (M[j]'hj2).val.kind) ∧ wr.drew.cell? ⟨g, j * 7 + 3, none⟩ = some (.int .i64 (M[j]'hj2).val.int) ∧ wr.drew.cell? ⟨g, j * 7 + 4, none⟩ = some (.float .f64 (M[j]'hj2).val.num) ∧ wr.drew.cell? ⟨g, j * 7 + 5, none⟩ = some (.string ⟨(M[j]'hj2).val.text.toArray⟩) ∧ wr.drew.cell? ⟨g, j * 7 + 6, none⟩ = some (.bool (M[j]'hj2).val.yes) ∧ Below wr.heap.size wr wr.drew ∧ g < wr.drew.heap.size := by
  have a := h.cat m hj
  have b := h.cat j hj2
  obtain ⟨a0, a1, a2, a3, a4, a5, a6⟩ := a
  obtain ⟨b0, b1, b2, b3, b4, b5, b6⟩ := b
  exact ⟨a0, a1, a2, a3, a4, a5, a6, b0, b1, b2, b3, b4, b5, b6, bdrewN (Below.refl _ _) 1, h.lt⟩
theorem row_drew {w : World} {g : Nat} {l : List C} {Z : List Value} (h : Row w g l Z) : Row w.drew g l Z := h
theorem so_own {x y : C} {g j m : Nat} {wr w1 : World} (h : w1.cell? ⟨g, m * 7, none⟩ = some (.string ⟨x.name.toArray⟩) ∧ w1.cell? ⟨g, m * 7 + 1, none⟩ = some (.int .i64 x.op) ∧ w1.cell? ⟨g, m * 7 + 2, none⟩ = some (.int .i64 x.val.kind) ∧ w1.cell? ⟨g, m * 7 + 3, none⟩ = some (.int .i64 x.val.int) ∧ w1.cell? ⟨g, m * 7 + 4, none⟩ = some (.float .f64 x.val.num) ∧ w1.cell? ⟨g, m * 7 + 5, none⟩ = some (.string ⟨x.val.text.toArray⟩) ∧ w1.cell? ⟨g, m * 7 + 6, none⟩ = some (.bool x.val.yes) ∧ w1.cell? ⟨g, j * 7, none⟩ = some (.string ⟨y.name.toArray⟩) ∧ w1.cell? ⟨g, j * 7 + 1, none⟩ = some (.int .i64 y.op) ∧ w1.cell? ⟨g, j * 7 + 2, none⟩ = some (.int .i64 y.val.kind) ∧ w1.cell? ⟨g, j * 7 + 3, none⟩ = some (.int .i64 y.val.int) ∧ w1.cell? ⟨g, j * 7 + 4, none⟩ = some (.float .f64 y.val.num) ∧ w1.cell? ⟨g, j * 7 + 5, none⟩ = some (.string ⟨y.val.text.toArray⟩) ∧ w1.cell? ⟨g, j * 7 + 6, none⟩ = some (.bool y.val.yes) ∧ Below wr.heap.size wr w1 ∧ g < w1.heap.size) : Below wr.heap.size wr w1 := h.2.2.2.2.2.2.2.2.2.2.2.2.2.2.1
attribute [local go_sem] run_store_flt
set_option maxRecDepth 20000 in
set_option maxHeartbeats 1000000 in
theorem insertion_any (L : List C) (Z : List Value) (g cap : Nat) (ws w : World) (hw : Words ws) (hT : Tab.Tabs ws) (hgs : ws.heap.size ≤ g) (hbs : Below ws.heap.size ws w) (hr : Row w g L Z) (hs : ∀ x ∈ L, CSmall x) (hl : L.length ≤ 1000) (h1 : 1 ≤ L.length) :
    Calls Tryz.prog 138 #[.slice (some ⟨g, 0, none⟩) L.length cap, .int .i64 0, .int .i64 (L.length : Nat), .func (.func 67) #[] #[]] w fun e w' =>
      e = .returned (.tuple #[]) ∧ Row w' g (isort L (L.length - 1)) Z ∧ Below g w w' := by
  have HR := Lib.hid hr; have HS := Lib.hid hs; have HW := Lib.hid hw; have HT := Lib.hid hT; have HBS := Lib.hid hbs
  clear hr hs hw hT hbs
  go_enter Tryz.func138, Tryz.ntmps138
  go_wp2_with fail
  go_loopw [8] (fun vi wr => ∃ i : Nat, 1 ≤ i ∧ i ≤ L.length ∧ vi = .int .i64 i ∧ Row wr g (isort L (i - 1)) Z ∧ Below g w wr) (fun vi _ => L.length + 1 - (intOf vi).toNat)
  case atStart => exact ⟨1, Nat.le_refl _, h1, rfl, HR.out, Below.refl _ _⟩
  case round =>
    obtain ⟨i, hi1, hi2, rfl, hrow, hbr⟩ := hrel
    by_cases hlt : i < L.length
    · have q1 : (i : Int) < (L.length : Int) := by omega
      have HROW := Lib.hid hrow; have HBR := Lib.hid hbr
      clear hrow hbr
      generalize wr = WE at *
      go_wp2_with fail
      go_loopw [9] (fun vj wr => ∃ (j : Nat) (M : List C), j ≤ i ∧ M.length = L.length ∧ vj = .int .i64 j ∧ Row wr g M Z ∧ Hid (bub M j = isort L i) ∧ Hid (∀ x ∈ M, x ∈ L) ∧ Below g w wr) (fun vj _ => (intOf vj).toNat)
      case atStart =>
        obtain ⟨k, rfl⟩ : ∃ k, i = k + 1 := ⟨i - 1, by omega⟩
        exact ⟨k + 1, isort L k, Nat.le_refl _, isort_len L k, rfl, HROW.out, Lib.hid rfl, Lib.hid (isort_mem L k (by omega)), HBR.out⟩
      case round =>
        obtain ⟨j, M, hji, hM, rfl, hrow, HB, HMEM, hbr⟩ := hrel
        cases j with
        | zero =>
          go_wp2_with fail
          refine wp_region_held_drew (S := (fun w' => w' = wr.drew)) (by kernel_rfl) ?_ (fun hq0 => ?_)
          · ((try dsimp only); all_goals (first | rfl | assumption))
          (refine wpAnyH_take (i := 0) (oi := ?_) (v := ?_) ?_ (by kernel_rfl) (by kernel_rfl) (by kernel_rfl) ?_ (Or.inl ⟨?_, ?_⟩) (by assumption) ?_; rotate_left 2; (· (simp only [List.getElem?_toArray, List.getElem?_cons_zero]; first | done | rfl)); (· exact (fun _ _ _ h => h)); (· rfl); (· (intro w hSw; (try dsimp only at hSw); go_simp; (try with_reducible rfl))))
          (try simp only [Act.put, List.setIfInBounds_toArray, List.set_cons_zero, List.set_cons_succ])
          (refine wpAnyH_take (i := 1) (oi := ?_) (v := ?_) ?_ (by kernel_rfl) (by kernel_rfl) (by kernel_rfl) ?_ (Or.inl ⟨?_, ?_⟩) (by assumption) ?_; rotate_left 2; (· (simp only [List.getElem?_toArray, List.getElem?_cons_succ, List.getElem?_cons_zero]; first | done | rfl)); (· exact (fun _ _ _ h => h)); (· rfl); (· (intro w hSw; (try dsimp only at hSw); go_simp; (try with_reducible rfl))))
          (try simp only [Act.put, List.setIfInBounds_toArray, List.set_cons_zero, List.set_cons_succ])
          (refine wpAnyH_take (i := 2) (oi := ?_) (v := ?_) ?_ (by kernel_rfl) (by kernel_rfl) (by kernel_rfl) ?_ (Or.inl ⟨?_, ?_⟩) (by assumption) ?_; rotate_left 2; (· (simp only [List.getElem?_toArray, List.getElem?_cons_succ, List.getElem?_cons_zero]; first | done | rfl)); (· exact (fun _ _ _ h => h)); (· rfl); (· (intro w hSw; (try dsimp only at hSw); go_simp; (try with_reducible rfl))))
          (try simp only [Act.put, List.setIfInBounds_toArray, List.set_cons_zero, List.set_cons_succ])
          (refine wpAnyH_take (i := 3) (oi := ?_) (v := ?_) ?_ (by kernel_rfl) (by kernel_rfl) (by kernel_rfl) ?_ (Or.inl ⟨?_, ?_⟩) (by assumption) ?_; rotate_left 2; (· (simp only [List.getElem?_toArray, List.getElem?_cons_succ, List.getElem?_cons_zero]; first | done | rfl)); (· exact (fun _ _ _ h => h)); (· rfl); (· (intro w hSw; (try dsimp only at hSw); go_simp; (try with_reducible rfl))))
          (try simp only [Act.put, List.setIfInBounds_toArray, List.set_cons_zero, List.set_cons_succ])
          (refine wpAnyH_take (i := 4) (oi := ?_) (v := ?_) ?_ (by kernel_rfl) (by kernel_rfl) (by kernel_rfl) ?_ (Or.inr ⟨?_, ?_⟩) (by assumption) ?_; rotate_left 2; (· (simp only [List.getElem?_toArray, List.getElem?_cons_succ, List.getElem?_cons_zero]; first | done | rfl)); (· exact (fun _ _ _ h => h)); (· rfl); (· rfl))
          (try simp only [Act.put, List.setIfInBounds_toArray, List.set_cons_zero, List.set_cons_succ])
          (refine wpAnyH_take (i := 5) (oi := ?_) (v := ?_) ?_ (by kernel_rfl) (by kernel_rfl) (by kernel_rfl) ?_ (Or.inr ⟨?_, ?_⟩) (by assumption) ?_; rotate_left 2; (· (simp only [List.getElem?_toArray, List.getElem?_cons_succ, List.getElem?_cons_zero]; first | done | rfl)); (· exact (fun _ _ _ h => h)); (· rfl); (· rfl))
          (try simp only [Act.put, List.setIfInBounds_toArray, List.set_cons_zero, List.set_cons_succ])
          (refine wpAnyH_take (i := 6) (oi := ?_) (v := ?_) ?_ (by kernel_rfl) (by kernel_rfl) (by kernel_rfl) ?_ (Or.inr ⟨?_, ?_⟩) (by assumption) ?_; rotate_left 2; (· (simp only [List.getElem?_toArray, List.getElem?_cons_succ, List.getElem?_cons_zero]; first | done | rfl)); (· exact (fun _ _ _ h => h)); (· rfl); (· rfl))
          (try simp only [Act.put, List.setIfInBounds_toArray, List.set_cons_zero, List.set_cons_succ])
          (refine wpAnyH_take (i := 7) (oi := ?_) (v := ?_) ?_ (by kernel_rfl) (by kernel_rfl) (by kernel_rfl) ?_ (Or.inr ⟨?_, ?_⟩) (by assumption) ?_; rotate_left 2; (· (simp only [List.getElem?_toArray, List.getElem?_cons_succ, List.getElem?_cons_zero]; first | done | rfl)); (· exact (fun _ _ _ h => h)); (· rfl); (· rfl))
          (try simp only [Act.put, List.setIfInBounds_toArray, List.set_cons_zero, List.set_cons_succ])
          (refine wpAnyH_take (i := 8) (oi := ?_) (v := ?_) ?_ (by kernel_rfl) (by kernel_rfl) (by kernel_rfl) ?_ (Or.inr ⟨?_, ?_⟩) (by assumption) ?_; rotate_left 2; (· (simp only [List.getElem?_toArray, List.getElem?_cons_succ, List.getElem?_cons_zero]; first | done | rfl)); (· exact (fun _ _ _ h => h)); (· rfl); (· rfl))
          (try simp only [Act.put, List.setIfInBounds_toArray, List.set_cons_zero, List.set_cons_succ])
          (refine wpAnyH_take (i := 9) (oi := ?_) (v := ?_) ?_ (by kernel_rfl) (by kernel_rfl) (by kernel_rfl) ?_ (Or.inr ⟨?_, ?_⟩) (by assumption) ?_; rotate_left 2; (· (simp only [List.getElem?_toArray, List.getElem?_cons_succ, List.getElem?_cons_zero]; first | done | rfl)); (· exact (fun _ _ _ h => h)); (· rfl); (· rfl))
          (try simp only [Act.put, List.setIfInBounds_toArray, List.set_cons_zero, List.set_cons_succ])
          (refine wpAnyH_take (i := 10) (oi := ?_) (v := ?_) ?_ (by kernel_rfl) (by kernel_rfl) (by kernel_rfl) ?_ (Or.inr ⟨?_, ?_⟩) (by assumption) ?_; rotate_left 2; (· (simp only [List.getElem?_toArray, List.getElem?_cons_succ, List.getElem?_cons_zero]; first | done | rfl)); (· exact (fun _ _ _ h => h)); (· rfl); (· rfl))
          (try simp only [Act.put, List.setIfInBounds_toArray, List.set_cons_zero, List.set_cons_succ])
          (refine wpAnyH_take (i := 11) (oi := ?_) (v := ?_) ?_ (by kernel_rfl) (by kernel_rfl) (by kernel_rfl) ?_ (Or.inr ⟨?_, ?_⟩) (by assumption) ?_; rotate_left 2; (· (simp only [List.getElem?_toArray, List.getElem?_cons_succ, List.getElem?_cons_zero]; first | done | rfl)); (· exact (fun _ _ _ h => h)); (· rfl); (· rfl))
          (try simp only [Act.put, List.setIfInBounds_toArray, List.set_cons_zero, List.set_cons_succ])
          (refine wpAnyH_take (i := 12) (oi := ?_) (v := ?_) ?_ (by kernel_rfl) (by kernel_rfl) (by kernel_rfl) ?_ (Or.inr ⟨?_, ?_⟩) (by assumption) ?_; rotate_left 2; (· (simp only [List.getElem?_toArray, List.getElem?_cons_succ, List.getElem?_cons_zero]; first | done | rfl)); (· exact (fun _ _ _ h => h)); (· rfl); (· rfl))
          (try simp only [Act.put, List.setIfInBounds_toArray, List.set_cons_zero, List.set_cons_succ])
          (refine wpAnyH_take (i := 13) (oi := ?_) (v := ?_) ?_ (by kernel_rfl) (by kernel_rfl) (by kernel_rfl) ?_ (Or.inr ⟨?_, ?_⟩) (by assumption) ?_; rotate_left 2; (· (simp only [List.getElem?_toArray, List.getElem?_cons_succ, List.getElem?_cons_zero]; first | done | rfl)); (· exact (fun _ _ _ h => h)); (· rfl); (· rfl))
          (try simp only [Act.put, List.setIfInBounds_toArray, List.set_cons_zero, List.set_cons_succ])
          (refine wpAnyH_take (i := 14) (oi := ?_) (v := ?_) ?_ (by kernel_rfl) (by kernel_rfl) (by kernel_rfl) ?_ (Or.inr ⟨?_, ?_⟩) (by assumption) ?_; rotate_left 2; (· (simp only [List.getElem?_toArray, List.getElem?_cons_succ, List.getElem?_cons_zero]; first | done | rfl)); (· exact (fun _ _ _ h => h)); (· rfl); (· rfl))
          (try simp only [Act.put, List.setIfInBounds_toArray, List.set_cons_zero, List.set_cons_succ])
          (refine wpAnyH_take (i := 15) (oi := ?_) (v := ?_) ?_ (by kernel_rfl) (by kernel_rfl) (by kernel_rfl) ?_ (Or.inr ⟨?_, ?_⟩) (by assumption) ?_; rotate_left 2; (· (simp only [List.getElem?_toArray, List.getElem?_cons_succ, List.getElem?_cons_zero]; first | done | rfl)); (· exact (fun _ _ _ h => h)); (· rfl); (· rfl))
          (try simp only [Act.put, List.setIfInBounds_toArray, List.set_cons_zero, List.set_cons_succ])
          (refine wpAnyH_take (i := 16) (oi := ?_) (v := ?_) ?_ (by kernel_rfl) (by kernel_rfl) (by kernel_rfl) ?_ (Or.inl ⟨?_, ?_⟩) (by assumption) ?_; rotate_left 2; (· (simp only [List.getElem?_toArray, List.getElem?_cons_succ, List.getElem?_cons_zero]; first | done | rfl)); (· exact (fun _ _ _ h => h)); (· rfl); (· (intro w hSw; (try dsimp only at hSw); go_simp; (try with_reducible rfl))))
          (try simp only [Act.put, List.setIfInBounds_toArray, List.set_cons_zero, List.set_cons_succ])
          refine wpAnyH_done (by kernel_rfl) ?_ _
          go_wp2_with fail
          exact ⟨⟨i + 1, by omega, by omega, by go_num, by
            have e : isort L (i + 1 - 1) = M := HB.out.symm
            rw [e]; exact hrow, hbr.drew⟩, by simp [intOf]; go_num⟩
        | succ j =>
          obtain ⟨m, hm⟩ : ∃ m, m = j + 1 := ⟨_, rfl⟩
          rw [← hm] at hji HB ⊢
          have hmL : m < M.length := by omega
          have hjL : j < M.length := by omega
          have hst := so_start hrow (j := j) (m := m) hmL hjL
          have q2 : decide ((0 : Int) < (m : Int)) = true := by rw [decide_eq_true_iff]; omega
          have q2i : (0 : Int) < (m : Int) := by omega
          have q2n : 0 < m := by omega
          have q2d : decide (0 < m) = true := by rw [decide_eq_true_iff]; omega
          have q3 : (m : Int) < (L.length : Int) := by omega
          have q4 : (0 : Int) ≤ (m : Int) := by omega
          have q5 : (0 : Int) ≤ (j : Int) := by omega
          have q6 : (j : Int) < (L.length : Int) := by omega
          have q7 : (m : Int) - 1 = (j : Int) := by omega
          have q8 : IntKind.i64.wrap ((m : Int) - 1) = (j : Int) := by rw [IntKind.wrap_i64]; omega
          have q9 : IntKind.i64.wrap (j : Int) = (j : Int) := by rw [IntKind.wrap_i64]; omega
          have HST := Lib.hid hst; have HROW2 := Lib.hid hrow
          have hcm : ∀ W, Below wr.heap.size wr W → Calls Tryz.prog 67 #[cc (M[m]'hmL), cc (M[j]'hjL)] W fun e w' => e = .returned (.int .i64 (cmpC (M[m]'hmL) (M[j]'hjL))) ∧ Below W.heap.size W w' := fun W hb => by
            have hbs : Below ws.heap.size ws W := HBS.out.trans ((hbr.mono hgs).trans (hb.mono (by have := hrow.lt; omega)))
            exact cmp_any _ _ W (HW.out.below hbs) (HT.out.below hbs (Nat.le_refl _)) (HS.out _ (HMEM.out _ (List.getElem_mem _))) (HS.out _ (HMEM.out _ (List.getElem_mem _)))
          have HCM := Lib.hid hcm
          have HBR2 := Lib.hid hbr
          have hbub : bub M m = if cmpC (M[m]'hmL) (M[j]'hjL) < 0 then bub (swp M j) j else M := by
            subst hm
            rw [bub, getElem!_pos M (j + 1) hmL, getElem!_pos M j hjL]
          have HBUB := Lib.hid hbub; have HMJ := Lib.hid hm
          clear hst hcm hrow hbr hbub hm
          obtain ⟨x, hx⟩ : ∃ x, x = M[m]'hmL := ⟨_, rfl⟩
          obtain ⟨y, hy⟩ : ∃ y, y = M[j]'hjL := ⟨_, rfl⟩
          rw [← hx, ← hy] at HST HCM HBUB
          have HX := Lib.hid hx; have HY := Lib.hid hy
          clear hx hy
          generalize cmpC x y = cr at *
          have hcr : (cr < 0 ∧ decide (cr < 0) = true) ∨ (¬ cr < 0 ∧ decide (cr < 0) = false) := by
            by_cases h : cr < 0
            · exact .inl ⟨h, by simpa using h⟩
            · exact .inr ⟨h, by simpa using h⟩
          rcases hcr with ⟨z1, z2⟩ | ⟨z1, z2⟩
          · go_wp2_with fail
            refine wp_region_held_drew (S := (fun w' => w'.cell? ⟨g, m * 7, none⟩ = some (.string ⟨x.name.toArray⟩) ∧ w'.cell? ⟨g, m * 7 + 1, none⟩ = some (.int .i64 x.op) ∧ w'.cell? ⟨g, m * 7 + 2, none⟩ = some (.int .i64 x.val.kind) ∧ w'.cell? ⟨g, m * 7 + 3, none⟩ = some (.int .i64 x.val.int) ∧ w'.cell? ⟨g, m * 7 + 4, none⟩ = some (.float .f64 x.val.num) ∧ w'.cell? ⟨g, m * 7 + 5, none⟩ = some (.string ⟨x.val.text.toArray⟩) ∧ w'.cell? ⟨g, m * 7 + 6, none⟩ = some (.bool x.val.yes) ∧ w'.cell? ⟨g, j * 7, none⟩ = some (.string ⟨y.name.toArray⟩) ∧ w'.cell? ⟨g, j * 7 + 1, none⟩ = some (.int .i64 y.op) ∧ w'.cell? ⟨g, j * 7 + 2, none⟩ = some (.int .i64 y.val.kind) ∧ w'.cell? ⟨g, j * 7 + 3, none⟩ = some (.int .i64 y.val.int) ∧ w'.cell? ⟨g, j * 7 + 4, none⟩ = some (.float .f64 y.val.num) ∧ w'.cell? ⟨g, j * 7 + 5, none⟩ = some (.string ⟨y.val.text.toArray⟩) ∧ w'.cell? ⟨g, j * 7 + 6, none⟩ = some (.bool y.val.yes) ∧ Below wr.heap.size wr w' ∧ g < w'.heap.size)) (by kernel_rfl) ?_ (fun hq0 => ?_)
            · ((try dsimp only); (first | exact HST.out | assumption | exact so_below (by assumption) (by assumption)))
            (refine wpAnyH_take (i := 0) (oi := ?_) (v := ?_) ?_ (by kernel_rfl) (by kernel_rfl) (by kernel_rfl) ?_ (Or.inl ⟨?_, ?_⟩) (by assumption) ?_; rotate_left 2; (· (simp only [List.getElem?_toArray, List.getElem?_cons_zero]; first | done | rfl)); (· exact (fun _ _ _ h => h)); (· rfl); (· (intro w hSw; (try dsimp only at hSw); go_simp; (try with_reducible rfl))))
            (try simp only [Act.put, List.setIfInBounds_toArray, List.set_cons_zero, List.set_cons_succ])
            (refine wpAnyH_take (i := 1) (oi := ?_) (v := ?_) ?_ (by kernel_rfl) (by kernel_rfl) (by kernel_rfl) ?_ (Or.inl ⟨?_, ?_⟩) (by assumption) ?_; rotate_left 2; (· (simp only [List.getElem?_toArray, List.getElem?_cons_succ, List.getElem?_cons_zero]; first | done | rfl)); (· exact (fun _ _ _ h => h)); (· rfl); (· (intro w hSw; (try dsimp only at hSw); go_simp; (try with_reducible rfl))))
            (try simp only [Act.put, List.setIfInBounds_toArray, List.set_cons_zero, List.set_cons_succ])
            (refine wpAnyH_take (i := 2) (oi := ?_) (v := ?_) ?_ (by kernel_rfl) (by kernel_rfl) (by kernel_rfl) ?_ (Or.inl ⟨?_, ?_⟩) (by assumption) ?_; rotate_left 2; (· (simp only [List.getElem?_toArray, List.getElem?_cons_succ, List.getElem?_cons_zero]; first | done | rfl)); (· exact (fun _ _ _ h => h)); (· rfl); (· (intro w hSw; (try dsimp only at hSw); go_simp; (try with_reducible rfl))))
            (try simp only [Act.put, List.setIfInBounds_toArray, List.set_cons_zero, List.set_cons_succ])
            (refine wpAnyH_take (i := 3) (oi := ?_) (v := ?_) ?_ (by kernel_rfl) (by kernel_rfl) (by kernel_rfl) ?_ (Or.inl ⟨?_, ?_⟩) (by assumption) ?_; rotate_left 2; (· (simp only [List.getElem?_toArray, List.getElem?_cons_succ, List.getElem?_cons_zero]; first | done | rfl)); (· exact (fun _ _ _ h => h)); (· rfl); (· (intro w hSw; (try dsimp only at hSw); go_simp; (try with_reducible rfl))))
            (try simp only [Act.put, List.setIfInBounds_toArray, List.set_cons_zero, List.set_cons_succ])
            (refine wpAnyH_take (i := 4) (oi := ?_) (v := ?_) ?_ (by kernel_rfl) (by kernel_rfl) (by kernel_rfl) ?_ (Or.inl ⟨?_, ?_⟩) (by assumption) ?_; rotate_left 2; (· (simp only [List.getElem?_toArray, List.getElem?_cons_succ, List.getElem?_cons_zero]; first | done | rfl)); (· exact (fun _ _ _ h => h)); (· rfl); (· (intro w hSw; (try dsimp only at hSw); go_simp; (try with_reducible rfl))))
            (try simp only [Act.put, List.setIfInBounds_toArray, List.set_cons_zero, List.set_cons_succ])
            (refine wpAnyH_take (i := 5) (oi := ?_) (v := ?_) ?_ (by kernel_rfl) (by kernel_rfl) (by kernel_rfl) ?_ (Or.inl ⟨?_, ?_⟩) (by assumption) ?_; rotate_left 2; (· (simp only [List.getElem?_toArray, List.getElem?_cons_succ, List.getElem?_cons_zero]; first | done | rfl)); (· exact (fun _ _ _ h => h)); (· rfl); (· (intro w hSw; (try dsimp only at hSw); go_simp; (try with_reducible rfl))))
            (try simp only [Act.put, List.setIfInBounds_toArray, List.set_cons_zero, List.set_cons_succ])
            (refine wpAnyH_take (i := 6) (oi := ?_) (v := ?_) ?_ (by kernel_rfl) (by kernel_rfl) (by kernel_rfl) ?_ (Or.inl ⟨?_, ?_⟩) (by assumption) ?_; rotate_left 2; (· (simp only [List.getElem?_toArray, List.getElem?_cons_succ, List.getElem?_cons_zero]; first | done | rfl)); (· exact (fun _ _ _ h => h)); (· rfl); (· (intro w hSw; (try dsimp only at hSw); go_simp; (try with_reducible rfl))))
            (try simp only [Act.put, List.setIfInBounds_toArray, List.set_cons_zero, List.set_cons_succ])
            (refine wpAnyH_take (i := 7) (oi := ?_) (v := ?_) ?_ (by kernel_rfl) (by kernel_rfl) (by kernel_rfl) ?_ (Or.inl ⟨?_, ?_⟩) (by assumption) ?_; rotate_left 2; (· (simp only [List.getElem?_toArray, List.getElem?_cons_succ, List.getElem?_cons_zero]; first | done | rfl)); (· exact (fun _ _ _ h => h)); (· rfl); (· (intro w hSw; (try dsimp only at hSw); go_simp; (try with_reducible rfl))))
            (try simp only [Act.put, List.setIfInBounds_toArray, List.set_cons_zero, List.set_cons_succ])
            (refine wpAnyH_take (i := 8) (oi := ?_) (v := ?_) ?_ (by kernel_rfl) (by kernel_rfl) (by kernel_rfl) ?_ (Or.inl ⟨?_, ?_⟩) (by assumption) ?_; rotate_left 2; (· (simp only [List.getElem?_toArray, List.getElem?_cons_succ, List.getElem?_cons_zero]; first | done | rfl)); (· exact (fun _ _ _ h => h)); (· rfl); (· (intro w hSw; (try dsimp only at hSw); go_simp; (try with_reducible rfl))))
            (try simp only [Act.put, List.setIfInBounds_toArray, List.set_cons_zero, List.set_cons_succ])
            (refine wpAnyH_take (i := 9) (oi := ?_) (v := ?_) ?_ (by kernel_rfl) (by kernel_rfl) (by kernel_rfl) ?_ (Or.inl ⟨?_, ?_⟩) (by assumption) ?_; rotate_left 2; (· (simp only [List.getElem?_toArray, List.getElem?_cons_succ, List.getElem?_cons_zero]; first | done | rfl)); (· exact (fun _ _ _ h => h)); (· rfl); (· (intro w hSw; (try dsimp only at hSw); go_simp; (try with_reducible rfl))))
            (try simp only [Act.put, List.setIfInBounds_toArray, List.set_cons_zero, List.set_cons_succ])
            (refine wpAnyH_take (i := 10) (oi := ?_) (v := ?_) ?_ (by kernel_rfl) (by kernel_rfl) (by kernel_rfl) ?_ (Or.inl ⟨?_, ?_⟩) (by assumption) ?_; rotate_left 2; (· (simp only [List.getElem?_toArray, List.getElem?_cons_succ, List.getElem?_cons_zero]; first | done | rfl)); (· exact (fun _ _ _ h => h)); (· rfl); (· (intro w hSw; (try dsimp only at hSw); go_simp; (try with_reducible rfl))))
            (try simp only [Act.put, List.setIfInBounds_toArray, List.set_cons_zero, List.set_cons_succ])
            (refine wpAnyH_take (i := 11) (oi := ?_) (v := ?_) ?_ (by kernel_rfl) (by kernel_rfl) (by kernel_rfl) ?_ (Or.inl ⟨?_, ?_⟩) (by assumption) ?_; rotate_left 2; (· (simp only [List.getElem?_toArray, List.getElem?_cons_succ, List.getElem?_cons_zero]; first | done | rfl)); (· exact (fun _ _ _ h => h)); (· rfl); (· (intro w hSw; (try dsimp only at hSw); go_simp; (try with_reducible rfl))))
            (try simp only [Act.put, List.setIfInBounds_toArray, List.set_cons_zero, List.set_cons_succ])
            (refine wpAnyH_take (i := 12) (oi := ?_) (v := ?_) ?_ (by kernel_rfl) (by kernel_rfl) (by kernel_rfl) ?_ (Or.inl ⟨?_, ?_⟩) (by assumption) ?_; rotate_left 2; (· (simp only [List.getElem?_toArray, List.getElem?_cons_succ, List.getElem?_cons_zero]; first | done | rfl)); (· exact (fun _ _ _ h => h)); (· rfl); (· (intro w hSw; (try dsimp only at hSw); go_simp; (try with_reducible rfl))))
            (try simp only [Act.put, List.setIfInBounds_toArray, List.set_cons_zero, List.set_cons_succ])
            (refine wpAnyH_take (i := 13) (oi := ?_) (v := ?_) ?_ (by kernel_rfl) (by kernel_rfl) (by kernel_rfl) ?_ (Or.inl ⟨?_, ?_⟩) (by assumption) ?_; rotate_left 2; (· (simp only [List.getElem?_toArray, List.getElem?_cons_succ, List.getElem?_cons_zero]; first | done | rfl)); (· exact (fun _ _ _ h => h)); (· rfl); (· (intro w hSw; (try dsimp only at hSw); go_simp; (try with_reducible rfl))))
            (try simp only [Act.put, List.setIfInBounds_toArray, List.set_cons_zero, List.set_cons_succ])
            refine wpAnyH_ready (rs := [14]) (by kernel_rfl) (by simp) ?_
            refine AllReadyH.cons (o := ?_) ?_ (fun K hK => ?_) AllReadyH.nil
            rotate_left 1
            · (simp only [List.getElem?_toArray, List.getElem?_cons_succ, List.getElem?_cons_zero]; first | done | rfl)
            go_simp
            first | (refine hK.out _ _ ?_ (fun hq1 => ?_)) | ((go_at_call 67; refine (HCM.out _ (so_own (by assumption))).mono ?_; rintro e w7 ⟨rfl, hb7⟩); refine hK.out _ _ ?_ (fun hq1 => ?_)) | ((go_at_call 67; refine (HCM.out _ (so_own (by assumption))).mono ?_; rintro e w7 ⟨rfl, hb7⟩); go_wp2_with fail; refine hK.out _ _ ?_ (fun hq1 => ?_)) | fail
            · ((try dsimp only); (first | exact HST.out | assumption | exact so_below (by assumption) (by assumption)))
            clear hK K
            (try simp only [Act.put, List.setIfInBounds_toArray, List.set_cons_zero, List.set_cons_succ])
            clear hq0
            (refine wpAnyH_take (i := 15) (oi := ?_) (v := ?_) ?_ (by kernel_rfl) (by kernel_rfl) (by kernel_rfl) ?_ (Or.inl ⟨?_, ?_⟩) (by assumption) ?_; rotate_left 2; (· (simp only [List.getElem?_toArray, List.getElem?_cons_succ, List.getElem?_cons_zero]; first | done | rfl)); (· exact (fun _ _ _ h => h)); (· rfl); (· (intro w hSw; (try dsimp only at hSw); go_simp; (try with_reducible rfl))))
            (try simp only [Act.put, List.setIfInBounds_toArray, List.set_cons_zero, List.set_cons_succ])
            (refine wpAnyH_take (i := 16) (oi := ?_) (v := ?_) ?_ (by kernel_rfl) (by kernel_rfl) (by kernel_rfl) ?_ (Or.inl ⟨?_, ?_⟩) (by assumption) ?_; rotate_left 2; (· (simp only [List.getElem?_toArray, List.getElem?_cons_succ, List.getElem?_cons_zero]; first | done | rfl)); (· exact (fun _ _ _ h => h)); (· rfl); (· (intro w hSw; (try dsimp only at hSw); go_simp; (try with_reducible rfl))))
            (try simp only [Act.put, List.setIfInBounds_toArray, List.set_cons_zero, List.set_cons_succ])
            refine wpAnyH_done (by kernel_rfl) ?_ _
            have hb17 := so_own hq1
            have hrow7 : Row w7 g M Z := HROW2.out.below hb17 HROW2.out.lt
            obtain ⟨v0, v1, v2, v3, v4, v5, v6, u0, u1, u2, u3, u4, u5, u6, _, _⟩ := hq1
            clear hb7
            have fm0 := hrow7.frz (m * 7)
            have fj0 := hrow7.frz (j * 7)
            have fm1 := hrow7.frz (m * 7 + 1)
            have fj1 := hrow7.frz (j * 7 + 1)
            have fm2 := hrow7.frz (m * 7 + 2)
            have fj2 := hrow7.frz (j * 7 + 2)
            have fm3 := hrow7.frz (m * 7 + 3)
            have fj3 := hrow7.frz (j * 7 + 3)
            have fm4 := hrow7.frz (m * 7 + 4)
            have fj4 := hrow7.frz (j * 7 + 4)
            have fm5 := hrow7.frz (m * 7 + 5)
            have fj5 := hrow7.frz (j * 7 + 5)
            have fm6 := hrow7.frz (m * 7 + 6)
            have fj6 := hrow7.frz (j * 7 + 6)
            have HROW7 := Lib.hid hrow7; have HB17 := Lib.hid hb17
            have hne : m ≠ j := by have := HMJ.out; omega
            clear hrow7 hb17 HCM HST
            go_wp2_with fail
            go_region
            go_wp2_with fail
            have hmj := HMJ.out
            have hr2 : Row (put7 (put7 w7 g (m * 7) y) g (j * 7) x) g ((M.set m y).set j x) Z := (HROW7.out.put m hmL y).put j (by rw [List.length_set]; exact hjL) x
            have hsw : (M.set m y).set j x = swp M j := by
              unfold swp
              rw [← hmj, getElem!_pos M j hjL, getElem!_pos M m hmL, ← HX.out, ← HY.out]
            rw [hsw] at hr2
            have hbp : Below g w7 (put7 (put7 w7 g (m * 7) y) g (j * 7) x) := (below_put7 (Nat.le_refl _) _ _).trans (below_put7 (Nat.le_refl _) _ _)
            have hr3 := row_drew hr2
            have hb3 := (((HBR2.out.trans (HB17.out.mono (Nat.le_of_lt HROW2.out.lt))).trans hbp)).drew
            unfold put7 at hr3 hb3
            have hmem : ∀ c ∈ swp M j, c ∈ L := fun c hc => HMEM.out _ (swp_mem (by omega) hc)
            have hbub2 : bub (swp M j) j = isort L i := by rw [← HB.out, HBUB.out, if_pos z1]
            exact ⟨⟨j, swp M j, by omega, by rw [swp_len]; exact hM, rfl, hr3, Lib.hid hbub2, Lib.hid hmem, hb3⟩, by simp [intOf]; omega⟩
          · go_wp2_with fail
            refine wp_region_held_drew (S := (fun w' => w'.cell? ⟨g, m * 7, none⟩ = some (.string ⟨x.name.toArray⟩) ∧ w'.cell? ⟨g, m * 7 + 1, none⟩ = some (.int .i64 x.op) ∧ w'.cell? ⟨g, m * 7 + 2, none⟩ = some (.int .i64 x.val.kind) ∧ w'.cell? ⟨g, m * 7 + 3, none⟩ = some (.int .i64 x.val.int) ∧ w'.cell? ⟨g, m * 7 + 4, none⟩ = some (.float .f64 x.val.num) ∧ w'.cell? ⟨g, m * 7 + 5, none⟩ = some (.string ⟨x.val.text.toArray⟩) ∧ w'.cell? ⟨g, m * 7 + 6, none⟩ = some (.bool x.val.yes) ∧ w'.cell? ⟨g, j * 7, none⟩ = some (.string ⟨y.name.toArray⟩) ∧ w'.cell? ⟨g, j * 7 + 1, none⟩ = some (.int .i64 y.op) ∧ w'.cell? ⟨g, j * 7 + 2, none⟩ = some (.int .i64 y.val.kind) ∧ w'.cell? ⟨g, j * 7 + 3, none⟩ = some (.int .i64 y.val.int) ∧ w'.cell? ⟨g, j * 7 + 4, none⟩ = some (.float .f64 y.val.num) ∧ w'.cell? ⟨g, j * 7 + 5, none⟩ = some (.string ⟨y.val.text.toArray⟩) ∧ w'.cell? ⟨g, j * 7 + 6, none⟩ = some (.bool y.val.yes) ∧ Below wr.heap.size wr w' ∧ g < w'.heap.size)) (by kernel_rfl) ?_ (fun hq0 => ?_)
            · ((try dsimp only); (first | exact HST.out | assumption | exact so_below (by assumption) (by assumption)))
            (refine wpAnyH_take (i := 0) (oi := ?_) (v := ?_) ?_ (by kernel_rfl) (by kernel_rfl) (by kernel_rfl) ?_ (Or.inl ⟨?_, ?_⟩) (by assumption) ?_; rotate_left 2; (· (simp only [List.getElem?_toArray, List.getElem?_cons_zero]; first | done | rfl)); (· exact (fun _ _ _ h => h)); (· rfl); (· (intro w hSw; (try dsimp only at hSw); go_simp; (try with_reducible rfl))))
            (try simp only [Act.put, List.setIfInBounds_toArray, List.set_cons_zero, List.set_cons_succ])
            (refine wpAnyH_take (i := 1) (oi := ?_) (v := ?_) ?_ (by kernel_rfl) (by kernel_rfl) (by kernel_rfl) ?_ (Or.inl ⟨?_, ?_⟩) (by assumption) ?_; rotate_left 2; (· (simp only [List.getElem?_toArray, List.getElem?_cons_succ, List.getElem?_cons_zero]; first | done | rfl)); (· exact (fun _ _ _ h => h)); (· rfl); (· (intro w hSw; (try dsimp only at hSw); go_simp; (try with_reducible rfl))))
            (try simp only [Act.put, List.setIfInBounds_toArray, List.set_cons_zero, List.set_cons_succ])
            (refine wpAnyH_take (i := 2) (oi := ?_) (v := ?_) ?_ (by kernel_rfl) (by kernel_rfl) (by kernel_rfl) ?_ (Or.inl ⟨?_, ?_⟩) (by assumption) ?_; rotate_left 2; (· (simp only [List.getElem?_toArray, List.getElem?_cons_succ, List.getElem?_cons_zero]; first | done | rfl)); (· exact (fun _ _ _ h => h)); (· rfl); (· (intro w hSw; (try dsimp only at hSw); go_simp; (try with_reducible rfl))))
            (try simp only [Act.put, List.setIfInBounds_toArray, List.set_cons_zero, List.set_cons_succ])
            (refine wpAnyH_take (i := 3) (oi := ?_) (v := ?_) ?_ (by kernel_rfl) (by kernel_rfl) (by kernel_rfl) ?_ (Or.inl ⟨?_, ?_⟩) (by assumption) ?_; rotate_left 2; (· (simp only [List.getElem?_toArray, List.getElem?_cons_succ, List.getElem?_cons_zero]; first | done | rfl)); (· exact (fun _ _ _ h => h)); (· rfl); (· (intro w hSw; (try dsimp only at hSw); go_simp; (try with_reducible rfl))))
            (try simp only [Act.put, List.setIfInBounds_toArray, List.set_cons_zero, List.set_cons_succ])
            (refine wpAnyH_take (i := 4) (oi := ?_) (v := ?_) ?_ (by kernel_rfl) (by kernel_rfl) (by kernel_rfl) ?_ (Or.inl ⟨?_, ?_⟩) (by assumption) ?_; rotate_left 2; (· (simp only [List.getElem?_toArray, List.getElem?_cons_succ, List.getElem?_cons_zero]; first | done | rfl)); (· exact (fun _ _ _ h => h)); (· rfl); (· (intro w hSw; (try dsimp only at hSw); go_simp; (try with_reducible rfl))))
            (try simp only [Act.put, List.setIfInBounds_toArray, List.set_cons_zero, List.set_cons_succ])
            (refine wpAnyH_take (i := 5) (oi := ?_) (v := ?_) ?_ (by kernel_rfl) (by kernel_rfl) (by kernel_rfl) ?_ (Or.inl ⟨?_, ?_⟩) (by assumption) ?_; rotate_left 2; (· (simp only [List.getElem?_toArray, List.getElem?_cons_succ, List.getElem?_cons_zero]; first | done | rfl)); (· exact (fun _ _ _ h => h)); (· rfl); (· (intro w hSw; (try dsimp only at hSw); go_simp; (try with_reducible rfl))))
            (try simp only [Act.put, List.setIfInBounds_toArray, List.set_cons_zero, List.set_cons_succ])
            (refine wpAnyH_take (i := 6) (oi := ?_) (v := ?_) ?_ (by kernel_rfl) (by kernel_rfl) (by kernel_rfl) ?_ (Or.inl ⟨?_, ?_⟩) (by assumption) ?_; rotate_left 2; (· (simp only [List.getElem?_toArray, List.getElem?_cons_succ, List.getElem?_cons_zero]; first | done | rfl)); (· exact (fun _ _ _ h => h)); (· rfl); (· (intro w hSw; (try dsimp only at hSw); go_simp; (try with_reducible rfl))))
            (try simp only [Act.put, List.setIfInBounds_toArray, List.set_cons_zero, List.set_cons_succ])
            (refine wpAnyH_take (i := 7) (oi := ?_) (v := ?_) ?_ (by kernel_rfl) (by kernel_rfl) (by kernel_rfl) ?_ (Or.inl ⟨?_, ?_⟩) (by assumption) ?_; rotate_left 2; (· (simp only [List.getElem?_toArray, List.getElem?_cons_succ, List.getElem?_cons_zero]; first | done | rfl)); (· exact (fun _ _ _ h => h)); (· rfl); (· (intro w hSw; (try dsimp only at hSw); go_simp; (try with_reducible rfl))))
            (try simp only [Act.put, List.setIfInBounds_toArray, List.set_cons_zero, List.set_cons_succ])
            (refine wpAnyH_take (i := 8) (oi := ?_) (v := ?_) ?_ (by kernel_rfl) (by kernel_rfl) (by kernel_rfl) ?_ (Or.inl ⟨?_, ?_⟩) (by assumption) ?_; rotate_left 2; (· (simp only [List.getElem?_toArray, List.getElem?_cons_succ, List.getElem?_cons_zero]; first | done | rfl)); (· exact (fun _ _ _ h => h)); (· rfl); (· (intro w hSw; (try dsimp only at hSw); go_simp; (try with_reducible rfl))))
            (try simp only [Act.put, List.setIfInBounds_toArray, List.set_cons_zero, List.set_cons_succ])
            (refine wpAnyH_take (i := 9) (oi := ?_) (v := ?_) ?_ (by kernel_rfl) (by kernel_rfl) (by kernel_rfl) ?_ (Or.inl ⟨?_, ?_⟩) (by assumption) ?_; rotate_left 2; (· (simp only [List.getElem?_toArray, List.getElem?_cons_succ, List.getElem?_cons_zero]; first | done | rfl)); (· exact (fun _ _ _ h => h)); (· rfl); (· (intro w hSw; (try dsimp only at hSw); go_simp; (try with_reducible rfl))))
            (try simp only [Act.put, List.setIfInBounds_toArray, List.set_cons_zero, List.set_cons_succ])
            (refine wpAnyH_take (i := 10) (oi := ?_) (v := ?_) ?_ (by kernel_rfl) (by kernel_rfl) (by kernel_rfl) ?_ (Or.inl ⟨?_, ?_⟩) (by assumption) ?_; rotate_left 2; (· (simp only [List.getElem?_toArray, List.getElem?_cons_succ, List.getElem?_cons_zero]; first | done | rfl)); (· exact (fun _ _ _ h => h)); (· rfl); (· (intro w hSw; (try dsimp only at hSw); go_simp; (try with_reducible rfl))))
            (try simp only [Act.put, List.setIfInBounds_toArray, List.set_cons_zero, List.set_cons_succ])
            (refine wpAnyH_take (i := 11) (oi := ?_) (v := ?_) ?_ (by kernel_rfl) (by kernel_rfl) (by kernel_rfl) ?_ (Or.inl ⟨?_, ?_⟩) (by assumption) ?_; rotate_left 2; (· (simp only [List.getElem?_toArray, List.getElem?_cons_succ, List.getElem?_cons_zero]; first | done | rfl)); (· exact (fun _ _ _ h => h)); (· rfl); (· (intro w hSw; (try dsimp only at hSw); go_simp; (try with_reducible rfl))))
            (try simp only [Act.put, List.setIfInBounds_toArray, List.set_cons_zero, List.set_cons_succ])
            (refine wpAnyH_take (i := 12) (oi := ?_) (v := ?_) ?_ (by kernel_rfl) (by kernel_rfl) (by kernel_rfl) ?_ (Or.inl ⟨?_, ?_⟩) (by assumption) ?_; rotate_left 2; (· (simp only [List.getElem?_toArray, List.getElem?_cons_succ, List.getElem?_cons_zero]; first | done | rfl)); (· exact (fun _ _ _ h => h)); (· rfl); (· (intro w hSw; (try dsimp only at hSw); go_simp; (try with_reducible rfl))))
            (try simp only [Act.put, List.setIfInBounds_toArray, List.set_cons_zero, List.set_cons_succ])
            (refine wpAnyH_take (i := 13) (oi := ?_) (v := ?_) ?_ (by kernel_rfl) (by kernel_rfl) (by kernel_rfl) ?_ (Or.inl ⟨?_, ?_⟩) (by assumption) ?_; rotate_left 2; (· (simp only [List.getElem?_toArray, List.getElem?_cons_succ, List.getElem?_cons_zero]; first | done | rfl)); (· exact (fun _ _ _ h => h)); (· rfl); (· (intro w hSw; (try dsimp only at hSw); go_simp; (try with_reducible rfl))))
            (try simp only [Act.put, List.setIfInBounds_toArray, List.set_cons_zero, List.set_cons_succ])
            refine wpAnyH_ready (rs := [14]) (by kernel_rfl) (by simp) ?_
            refine AllReadyH.cons (o := ?_) ?_ (fun K hK => ?_) AllReadyH.nil
            rotate_left 1
            · (simp only [List.getElem?_toArray, List.getElem?_cons_succ, List.getElem?_cons_zero]; first | done | rfl)
            go_simp
            first | (refine hK.out _ _ ?_ (fun hq1 => ?_)) | ((go_at_call 67; refine (HCM.out _ (so_own (by assumption))).mono ?_; rintro e w7 ⟨rfl, hb7⟩); refine hK.out _ _ ?_ (fun hq1 => ?_)) | ((go_at_call 67; refine (HCM.out _ (so_own (by assumption))).mono ?_; rintro e w7 ⟨rfl, hb7⟩); go_wp2_with fail; refine hK.out _ _ ?_ (fun hq1 => ?_)) | fail
            · ((try dsimp only); (first | exact HST.out | assumption | exact so_below (by assumption) (by assumption)))
            clear hK K
            (try simp only [Act.put, List.setIfInBounds_toArray, List.set_cons_zero, List.set_cons_succ])
            clear hq0
            (refine wpAnyH_take (i := 15) (oi := ?_) (v := ?_) ?_ (by kernel_rfl) (by kernel_rfl) (by kernel_rfl) ?_ (Or.inl ⟨?_, ?_⟩) (by assumption) ?_; rotate_left 2; (· (simp only [List.getElem?_toArray, List.getElem?_cons_succ, List.getElem?_cons_zero]; first | done | rfl)); (· exact (fun _ _ _ h => h)); (· rfl); (· (intro w hSw; (try dsimp only at hSw); go_simp; (try with_reducible rfl))))
            (try simp only [Act.put, List.setIfInBounds_toArray, List.set_cons_zero, List.set_cons_succ])
            (refine wpAnyH_take (i := 16) (oi := ?_) (v := ?_) ?_ (by kernel_rfl) (by kernel_rfl) (by kernel_rfl) ?_ (Or.inl ⟨?_, ?_⟩) (by assumption) ?_; rotate_left 2; (· (simp only [List.getElem?_toArray, List.getElem?_cons_succ, List.getElem?_cons_zero]; first | done | rfl)); (· exact (fun _ _ _ h => h)); (· rfl); (· (intro w hSw; (try dsimp only at hSw); go_simp; (try with_reducible rfl))))
            (try simp only [Act.put, List.setIfInBounds_toArray, List.set_cons_zero, List.set_cons_succ])
            refine wpAnyH_done (by kernel_rfl) ?_ _
            go_wp2_with fail
            exact ⟨⟨i + 1, by omega, by omega, by go_num, by
              have e : isort L (i + 1 - 1) = M := by
                show isort L i = M
                rw [← HB.out, HBUB.out, if_neg (by omega)]
              rw [e]; exact HROW2.out.below (so_own (by assumption)) HROW2.out.lt, HBR2.out.trans ((so_own (by assumption)).mono (Nat.le_of_lt HROW2.out.lt))⟩, by simp [intOf]; go_num⟩
    · obtain rfl : i = L.length := by omega
      have q1 : ¬ ((L.length : Nat) : Int) < (L.length : Int) := by omega
      go_wp2_with fail
      go_end0
      exact ⟨rfl, hrow, hbr⟩
end Go.Proofs.YtnccpddjdgndcaaGreatDoor.Val
end

section
/- THE WALK OF slices.SortStableFunc at a short row of conditions. -/
namespace Go.Proofs.YtnccpddjdgndcaaGreatDoor.Val
open Go.RowKit Flt
set_option maxRecDepth 20000 in
set_option maxHeartbeats 1000000 in
theorem insertion_none (v : Value) (w : World) :
    Calls Tryz.prog 138 #[v, .int .i64 0, .int .i64 0, .func (.func 67) #[] #[]] w fun e w' => e = .returned (.tuple #[]) ∧ Below w.heap.size w w' := by
  go_enter Tryz.func138, Tryz.ntmps138
  go_wp2_with fail
  go_loopw [8] (fun vi wr => vi = .int .i64 1 ∧ Below w.heap.size w wr) (fun _ _ => 0)
  case atStart => exact ⟨rfl, Below.refl _ _⟩
  case round =>
    obtain ⟨rfl, hb⟩ := hrel
    go_wp2_with fail
    go_end0
    exact ⟨rfl, hb⟩
set_option maxRecDepth 20000 in
set_option maxHeartbeats 1000000 in
theorem stable_in (v : Value) (n : Nat) (hn : n ≤ 19) (w : World) (R : World → Prop)
    (hi : ∀ W, Below w.heap.size w W → Calls Tryz.prog 138 #[v, .int .i64 0, .int .i64 (n : Nat), .func (.func 67) #[] #[]] W fun e w' => e = .returned (.tuple #[]) ∧ R w') :
    Calls Tryz.prog 98 #[v, .int .i64 (n : Nat), .func (.func 67) #[] #[]] w fun e w' => e = .returned (.tuple #[]) ∧ R w' := by
  have HI := Lib.hid hi; clear hi
  have q1 : ¬ (20 : Int) ≤ (n : Int) := by omega
  have q2 : ¬ (20 : Int) < (n : Int) := by omega
  go_enter Tryz.func98, Tryz.ntmps98
  go_wp2_with fail
  go_loopw [7, 8] (fun va vb wr => va = .int .i64 0 ∧ vb = .int .i64 20 ∧ Below w.heap.size w wr) (fun _ _ _ => 0)
  case atStart => exact ⟨rfl, rfl, Below.refl _ _⟩
  case round =>
    obtain ⟨rfl, rfl, hb⟩ := hrel
    go_wp2_with (first | (go_at_call 138; refine (HI.out _ hb).mono ?_; rintro e w3 ⟨rfl, hr⟩) | fail)
    have HRR := Lib.hid hr; clear hr hb
    go_loopw [6] (fun vs wr => vs = .int .i64 20 ∧ wr = w3) (fun _ _ => 0)
    case atStart => exact ⟨rfl, rfl⟩
    case round =>
      obtain ⟨rfl, rfl⟩ := hrel
      go_wp2_with fail
      go_end0
      exact ⟨rfl, HRR.out⟩
set_option maxRecDepth 20000 in
set_option maxHeartbeats 1000000 in
theorem sort_in (a0 : Option Addr) (n cap : Nat) (w : World) (R : World → Prop)
    (hi : ∀ W, Below w.heap.size w W → Calls Tryz.prog 98 #[.slice a0 n cap, .int .i64 (n : Nat), .func (.func 67) #[] #[]] W fun e w' => e = .returned (.tuple #[]) ∧ R w') :
    Calls Tryz.prog 66 #[.slice a0 n cap, .func (.func 67) #[] #[]] w fun e w' => e = .returned (.tuple #[]) ∧ R w' := by
  have HI := Lib.hid hi; clear hi
  go_enter Tryz.func66, Tryz.ntmps66
  go_wp2_with (first | (go_at_call 98; refine (HI.out _ (Below.refl _ _)).mono ?_; rintro e w3 ⟨rfl, hr⟩) | fail)
  go_end0
  exact ⟨rfl, hr⟩
/-- a row of conditions is brought in order -/
theorem sort_any (L : List C) (Z : List Value) (g cap : Nat) (ws w : World) (hw : Words ws) (hT : Tab.Tabs ws) (hgs : ws.heap.size ≤ g) (hbs : Below ws.heap.size ws w) (hr : Row w g L Z) (hs : ∀ x ∈ L, CSmall x) (hl : L.length ≤ 19) (h1 : 1 ≤ L.length) :
    Calls Tryz.prog 66 #[.slice (some ⟨g, 0, none⟩) L.length cap, .func (.func 67) #[] #[]] w fun e w' =>
      e = .returned (.tuple #[]) ∧ (Row w' g (isort L (L.length - 1)) Z ∧ Below g w w') :=
  sort_in _ _ _ w (fun w' => Row w' g (isort L (L.length - 1)) Z ∧ Below g w w') (fun W hb => stable_in _ L.length hl W _ (fun W2 hb2 => by
    have hg := hr.lt
    have hb3 : Below w.heap.size w W2 := hb.trans (hb2.mono hb.size)
    have hb4 : Below g w W2 := hb3.mono (Nat.le_of_lt hg)
    refine (insertion_any L Z g cap ws W2 hw hT hgs (hbs.trans (hb3.mono hbs.size)) (hr.below hb3 hg) hs (by omega) h1).mono ?_
    rintro e w' ⟨h1, h2, h3⟩
    exact ⟨h1, h2, hb4.trans h3⟩))
theorem sort_none (a0 : Option Addr) (cap : Nat) (w : World) :
    Calls Tryz.prog 66 #[.slice a0 0 cap, .func (.func 67) #[] #[]] w fun e w' => e = .returned (.tuple #[]) ∧ Below w.heap.size w w' :=
  sort_in a0 0 cap w (fun w' => Below w.heap.size w w') (fun W hb => stable_in _ 0 (by decide) W _ (fun W2 hb2 => (insertion_none _ W2).mono fun e w' ⟨h1, h2⟩ => ⟨h1, (hb.trans (hb2.mono hb.size)).trans (h2.mono (Nat.le_trans hb.size hb2.size))⟩))
end Go.Proofs.YtnccpddjdgndcaaGreatDoor.Val
end

section
/- THE WALK OF filter.needless: does another condition imply one? -/
namespace Go.Proofs.YtnccpddjdgndcaaGreatDoor.Val
open Go.RowKit Flt
/-- does the k-th make the i-th needless? -/
def hit (L : List C) (i k : Nat) : Bool := !(k == i) && (impliesB L[k]! L[i]! && (decide (k < i) || !impliesB L[i]! L[k]!))
def needN (L : List C) (i : Nat) : Nat → Bool
  | 0 => false
  | k + 1 => needN L i k || hit L i k
def needB (L : List C) (i : Nat) : Bool := needN L i L.length
theorem needN_hit (L : List C) (i k n : Nat) (h : k < n) (hk : hit L i k = true) : needN L i n = true := by
  induction n with
  | zero => omega
  | succ n ih =>
    unfold needN
    by_cases e : k = n
    · subst e; rw [hk]; simp
    · rw [ih (by omega)]; rfl
theorem nd_below {x y : C} {g i : Nat} {wr w1 w2 : World} (hb : Below w1.heap.size w1 w2) (h : w1.cell? ⟨wr.heap.size, 0, none⟩ = some (.string ⟨x.name.toArray⟩) ∧ w1.cell? ⟨wr.heap.size, 1, none⟩ = some (.int .i64 x.op) ∧ w1.cell? ⟨wr.heap.size, 2, none⟩ = some (.int .i64 x.val.kind) ∧ w1.cell? ⟨wr.heap.size, 3, none⟩ = some (.int .i64 x.val.int) ∧ w1.cell? ⟨wr.heap.size, 4, none⟩ = some (.float .f64 x.val.num) ∧ w1.cell? ⟨wr.heap.size, 5, none⟩ = some (.string ⟨x.val.text.toArray⟩) ∧ w1.cell? ⟨wr.heap.size, 6, none⟩ = some (.bool x.val.yes) ∧ w1.cell? ⟨g, i * 7, none⟩ = some (.string ⟨y.name.toArray⟩) ∧ w1.cell? ⟨g, i * 7 + 1, none⟩ = some (.int .i64 y.op) ∧ w1.cell? ⟨g, i * 7 + 2, none⟩ = some (.int .i64 y.val.kind) ∧ w1.cell? ⟨g, i * 7 + 3, none⟩ = some (.int .i64 y.val.int) ∧ w1.cell? ⟨g, i * 7 + 4, none⟩ = some (.float .f64 y.val.num) ∧ w1.cell? ⟨g, i * 7 + 5, none⟩ = some (.string ⟨y.val.text.toArray⟩) ∧ w1.cell? ⟨g, i * 7 + 6, none⟩ = some (.bool y.val.yes) ∧ Below wr.heap.size wr w1 ∧ wr.heap.size < w1.heap.size ∧ g < wr.heap.size) :
    w2.cell? ⟨wr.heap.size, 0, none⟩ = some (.string ⟨x.name.toArray⟩) ∧ w2.cell? ⟨wr.heap.size, 1, none⟩ = some (.int .i64 x.op) ∧ w2.cell? ⟨wr.heap.size, 2, none⟩ = some (.int .i64 x.val.kind) ∧ w2.cell? ⟨wr.heap.size, 3, none⟩ = some (.int .i64 x.val.int) ∧ w2.cell? ⟨wr.heap.size, 4, none⟩ = some (.float .f64 x.val.num) ∧ w2.cell? ⟨wr.heap.size, 5, none⟩ = some (.string ⟨x.val.text.toArray⟩) ∧ w2.cell? ⟨wr.heap.size, 6, none⟩ = some (.bool x.val.yes) ∧ w2.cell? ⟨g, i * 7, none⟩ = some (.string ⟨y.name.toArray⟩) ∧ w2.cell? ⟨g, i * 7 + 1, none⟩ = some (.int .i64 y.op) ∧ w2.cell? ⟨g, i * 7 + 2, none⟩ = some (.int .i64 y.val.kind) ∧ w2.cell? ⟨g, i * 7 + 3, none⟩ = some (.int .i64 y.val.int) ∧ w2.cell? ⟨g, i * 7 + 4, none⟩ = some (.float .f64 y.val.num) ∧ w2.cell? ⟨g, i * 7 + 5, none⟩ = some (.string ⟨y.val.text.toArray⟩) ∧ w2.cell? ⟨g, i * 7 + 6, none⟩ = some (.bool y.val.yes) ∧ Below wr.heap.size wr w2 ∧ wr.heap.size < w2.heap.size ∧ g < wr.heap.size := by
  obtain ⟨h0, h1, h2, h3, h4, h5, h6, h7, h8, h9, h10, h11, h12, h13, hB, hl, hg⟩ := h
  have hsz := hB.size
  have c : ∀ b o, b < w1.heap.size → w2.cell? ⟨b, o, none⟩ = w1.cell? ⟨b, o, none⟩ := fun b o h => hb.cell (p := ⟨b, o, none⟩) h
  exact ⟨(c _ _ (by omega)).trans h0, (c _ _ (by omega)).trans h1, (c _ _ (by omega)).trans h2, (c _ _ (by omega)).trans h3, (c _ _ (by omega)).trans h4, (c _ _ (by omega)).trans h5, (c _ _ (by omega)).trans h6, (c _ _ (by omega)).trans h7, (c _ _ (by omega)).trans h8, (c _ _ (by omega)).trans h9, (c _ _ (by omega)).trans h10, (c _ _ (by omega)).trans h11, (c _ _ (by omega)).trans h12, (c _ _ (by omega)).trans h13, btrans hB hb, Nat.lt_of_lt_of_le hl hb.size, hg⟩
theorem nd_start {L : List C} {Z : List Value} {x : C} {g i : Nat} {wr : World} {T : TypeId} (h : Row wr g L Z) (hi : i < L.length) : (wr.alloc (.cells #[(.string ⟨x.name.toArray⟩), (.int .i64 x.op), (.int .i64 x.val.kind), (.int .i64 x.val.int), (.float .f64 x.val.num), (.string ⟨x.val.text.toArray⟩), (.bool x.val.yes)] T)).drew.cell? ⟨wr.heap.size, 0, none⟩ = some (.string ⟨x.name.toArray⟩) ∧ (wr.alloc (.cells #[(.string ⟨x.name.toArray⟩), (.int .i64 x.op), (.int .i64 x.val.kind), (.int .i64 x.val.int), (.float .f64 x.val.num), (.string ⟨x.val.text.toArray⟩), (.bool x.val.yes)] T)).drew.cell? ⟨wr.heap.size, 1, none⟩ = some (.int .i64 x.op) ∧ (wr.alloc (.cells #[(.string ⟨x.name.toArray⟩), (.int .i64 x.op), (.int .i64 x.val.kind), (.int .i64 x.val.int), (.float .f64 x.val.num), (.string ⟨x.val.text.toArray⟩), (.bool x.val.yes)] T)).drew.cell? ⟨wr.heap.size, 2, none⟩ = some (.int .i64 x.val.kind) ∧ (wr.alloc (.cells #[(.string ⟨x.name.toArray⟩), (.int .i64 x.op), (.int .i64 x.val.kind), (.int .i64 x.val.int), (.float .f64 x.val.num), (.string ⟨x.val.text.toArray⟩), (.bool x.val.yes)] T)).drew.cell? ⟨wr.heap.size, 3, none⟩ = some (.int .i64 x.val.int) ∧ (wr.alloc (.cells #[(.string ⟨x.name.toArray⟩), (.int .i64 x.op), (.int .i64 x.val.kind), (.int .i64 x.val.int), (.float .f64 x.val.num), (.string ⟨x.val.text.toArray⟩), (.bool x.val.yes)] T)).drew.cell? ⟨wr.heap.size, 4, none⟩ = some (.float .f64 x.val.num) ∧ (wr.alloc (.cells #[(.string ⟨x.name.toArray⟩), (.int .i64 x.op), (.int .i64 x.val.kind), (.int .i64 x.val.int), (.float .f64 x.val.num), (.string ⟨x.val.text.toArray⟩), (.bool x.val.yes)] T)).drew.cell? ⟨wr.heap.size, 5, none⟩ = some (.string ⟨x.val.text.toArray⟩) ∧ (wr.alloc (.cells #[(.string ⟨x.name.toArray⟩), (.int .i64 x.op), (.int .i64 x.val.kind), (.int .i64 x.val.int), (.float .f64 x.val.num), (.string ⟨x.val.text.toArray⟩), (.bool x.val.yes)] T)).drew.cell? ⟨wr.heap.size, 6, none⟩ = some (.bool x.val.yes) ∧ (wr.alloc (.cells #[(.string ⟨x.name.toArray⟩), (.int .i64 x.op), (.int .i64 x.val.kind), (.int .i64 x.val.int), (.float .f64 x.val.num), (.string ⟨x.val.text.toArray⟩), (.bool x.val.yes)] T)).drew.cell? ⟨g, i * 7, none⟩ = some (.string ⟨(L[i]'hi).name.toArray⟩) ∧ (wr.alloc (.cells #[(.string ⟨x.name.toArray⟩), (.int .i64 x.op), (.int .i64 x.val.kind), (.int .i64 x.val.int), (.float .f64 x.val.num), (.string ⟨x.val.text.toArray⟩), (.bool x.val.yes)] T)).drew.cell? ⟨g, i * 7 + 1, none⟩ = some (.int .i64 (L[i]'hi).op) ∧ (wr.alloc (.cells #[(.string ⟨x.name.toArray⟩), (.int .i64 x.op), (.int .i64 x.val.kind), (.int .i64 x.val.int), (.float .f64 x.val.num), (.string ⟨x.val.text.toArray⟩), (.bool x.val.yes)] T)).drew.cell? ⟨g, i * 7 + 2, none⟩ = some (.int .i64 (L[i]'hi).val.kind) ∧ (wr.alloc (.cells #[(.string ⟨x.name.toArray⟩), (.int .i64 x.op), (.int .i64 x.val.kind), (.int .i64 x.val.int), (.float .f64 x.val.num), (.string ⟨x.val.text.toArray⟩), (.bool x.val.yes)] T)).drew.cell? ⟨g, i * 7 + 3, none⟩ = some (.int .i64 (L[i]'hi).val.int) ∧ (wr.alloc (.cells #[(.string ⟨x.name.toArray⟩), (.int .i64 x.op), (.int .i64 x.val.kind), (.int .i64 x.val.int), (.float .f64 x.val.num), (.string ⟨x.val.text.toArray⟩), (.bool x.val.yes)] T)).drew.cell? ⟨g, i * 7 + 4, none⟩ = some (.float .f64 (L[i]'hi).val.num) ∧ (wr.alloc (.cells #[(.string ⟨x.name.toArray⟩), (.int .i64 x.op), (.int .i64 x.val.kind), (.int .i64 x.val.int), (.float .f64 x.val.num), (.string ⟨x.val.text.toArray⟩), (.bool x.val.yes)] T)).drew.cell? ⟨g, i * 7 + 5, none⟩ = some (.string ⟨(L[i]'hi).val.text.toArray⟩) ∧ (wr.alloc (.cells #[(.string ⟨x.name.toArray⟩), (.int .i64 x.op), (.int .i64 x.val.kind), (.int .i64 x.val.int), (.float .f64 x.val.num), (.string ⟨x.val.text.toArray⟩), (.bool x.val.yes)] T)).drew.cell? ⟨g, i * 7 + 6, none⟩ = some (.bool (L[i]'hi).val.yes) ∧ Below wr.heap.size wr (wr.alloc (.cells #[(.string ⟨x.name.toArray⟩), (.int .i64 x.op), (.int .i64 x.val.kind), (.int .i64 x.val.int), (.float .f64 x.val.num), (.string ⟨x.val.text.toArray⟩), (.bool x.val.yes)] T)).drew ∧ wr.heap.size < (wr.alloc (.cells #[(.string ⟨x.name.toArray⟩), (.int .i64 x.op), (.int .i64 x.val.kind), (.int .i64 x.val.int), (.float .f64 x.val.num), (.string ⟨x.val.text.toArray⟩), (.bool x.val.yes)] T)).drew.heap.size ∧ g < wr.heap.size := by
  have b := h.cat i hi
  obtain ⟨b0, b1, b2, b3, b4, b5, b6⟩ := b
  have c : ∀ o, (wr.alloc (.cells #[(.string ⟨x.name.toArray⟩), (.int .i64 x.op), (.int .i64 x.val.kind), (.int .i64 x.val.int), (.float .f64 x.val.num), (.string ⟨x.val.text.toArray⟩), (.bool x.val.yes)] T)).drew.cell? ⟨wr.heap.size, o, none⟩ = #[(.string ⟨x.name.toArray⟩), (.int .i64 x.op), (.int .i64 x.val.kind), (.int .i64 x.val.int), (.float .f64 x.val.num), (.string ⟨x.val.text.toArray⟩), (.bool x.val.yes)][o]? := fun o => World.cell?_alloc_at _ _ _ _ rfl
  have d : ∀ o, (wr.alloc (.cells #[(.string ⟨x.name.toArray⟩), (.int .i64 x.op), (.int .i64 x.val.kind), (.int .i64 x.val.int), (.float .f64 x.val.num), (.string ⟨x.val.text.toArray⟩), (.bool x.val.yes)] T)).drew.cell? ⟨g, o, none⟩ = wr.cell? ⟨g, o, none⟩ := fun o => (balloc wr _).cell (p := ⟨g, o, none⟩) h.lt
  exact ⟨c 0, c 1, c 2, c 3, c 4, c 5, c 6, (d _).trans b0, (d _).trans b1, (d _).trans b2, (d _).trans b3, (d _).trans b4, (d _).trans b5, (d _).trans b6, bdrewN (balloc _ _) 1, by show wr.heap.size < (wr.alloc _).heap.size; simp, h.lt⟩
theorem nd_own {x y : C} {g i : Nat} {wr w1 : World} (h : w1.cell? ⟨wr.heap.size, 0, none⟩ = some (.string ⟨x.name.toArray⟩) ∧ w1.cell? ⟨wr.heap.size, 1, none⟩ = some (.int .i64 x.op) ∧ w1.cell? ⟨wr.heap.size, 2, none⟩ = some (.int .i64 x.val.kind) ∧ w1.cell? ⟨wr.heap.size, 3, none⟩ = some (.int .i64 x.val.int) ∧ w1.cell? ⟨wr.heap.size, 4, none⟩ = some (.float .f64 x.val.num) ∧ w1.cell? ⟨wr.heap.size, 5, none⟩ = some (.string ⟨x.val.text.toArray⟩) ∧ w1.cell? ⟨wr.heap.size, 6, none⟩ = some (.bool x.val.yes) ∧ w1.cell? ⟨g, i * 7, none⟩ = some (.string ⟨y.name.toArray⟩) ∧ w1.cell? ⟨g, i * 7 + 1, none⟩ = some (.int .i64 y.op) ∧ w1.cell? ⟨g, i * 7 + 2, none⟩ = some (.int .i64 y.val.kind) ∧ w1.cell? ⟨g, i * 7 + 3, none⟩ = some (.int .i64 y.val.int) ∧ w1.cell? ⟨g, i * 7 + 4, none⟩ = some (.float .f64 y.val.num) ∧ w1.cell? ⟨g, i * 7 + 5, none⟩ = some (.string ⟨y.val.text.toArray⟩) ∧ w1.cell? ⟨g, i * 7 + 6, none⟩ = some (.bool y.val.yes) ∧ Below wr.heap.size wr w1 ∧ wr.heap.size < w1.heap.size ∧ g < wr.heap.size) : Below wr.heap.size wr w1 := h.2.2.2.2.2.2.2.2.2.2.2.2.2.2.1
attribute [local go_sem] run_store_flt
set_option maxRecDepth 20000 in
set_option maxHeartbeats 2000000 in
theorem needless_any (L : List C) (Z : List Value) (g cap i : Nat) (w : World) (hr : Row w g L Z) (hi : i < L.length) (hl : L.length ≤ 1000) (hs : ∀ c ∈ L, 0 ≤ c.op ∧ c.op ≤ 7 ∧ c.val.num < 18446744073709551616) :
    Calls Tryz.prog 69 #[.slice (some ⟨g, 0, none⟩) L.length cap, .int .i64 (i : Nat)] w fun e w' => e = .returned (.bool (needB L i)) ∧ Below w.heap.size w w' := by
  have HR := Lib.hid hr; have HS := Lib.hid hs
  have hg := hr.lt
  clear hr hs
  go_enter Tryz.func69, Tryz.ntmps69
  have i0 : (0 : Int) ≤ (i : Int) := by omega
  have i1 : (i : Int) < (L.length : Int) := by omega
  go_wp2_with fail
  go_loopw [9] (fun vk wr => ∃ k : Nat, k ≤ L.length ∧ vk = .int .i64 k ∧ Hid (needN L i k = false) ∧ Below w.heap.size w wr) (fun vk _ => L.length - (intOf vk).toNat)
  case atStart => exact ⟨0, Nat.zero_le _, rfl, Lib.hid rfl, Below.refl _ _⟩
  case round =>
    obtain ⟨k, hk, rfl, HP, hbr⟩ := hrel
    have HBR := Lib.hid hbr
    by_cases hlt : k < L.length
    · have k0 : (0 : Int) ≤ (k : Int) := by omega
      have k1 : (k : Int) < (L.length : Int) := by omega
      have hrow : Row wr g L Z := HR.out.below hbr hg
      have ha := hrow.cat k hlt
      obtain ⟨v0, v1, v2, v3, v4, v5, v6⟩ := ha
      have hh : hit L i k = (!(k == i) && (impliesB (L[k]'hlt) (L[i]'hi) && (decide (k < i) || !impliesB (L[i]'hi) (L[k]'hlt)))) := by
        unfold hit; rw [getElem!_pos L k hlt, getElem!_pos L i hi]
      have hst : (wr.alloc (.cells #[(.string ⟨(L[k]'hlt).name.toArray⟩), (.int .i64 (L[k]'hlt).op), (.int .i64 (L[k]'hlt).val.kind), (.int .i64 (L[k]'hlt).val.int), (.float .f64 (L[k]'hlt).val.num), (.string ⟨(L[k]'hlt).val.text.toArray⟩), (.bool (L[k]'hlt).val.yes)] 41)).drew.cell? ⟨wr.heap.size, 0, none⟩ = some (.string ⟨(L[k]'hlt).name.toArray⟩) ∧ (wr.alloc (.cells #[(.string ⟨(L[k]'hlt).name.toArray⟩), (.int .i64 (L[k]'hlt).op), (.int .i64 (L[k]'hlt).val.kind), (.int .i64 (L[k]'hlt).val.int), (.float .f64 (L[k]'hlt).val.num), (.string ⟨(L[k]'hlt).val.text.toArray⟩), (.bool (L[k]'hlt).val.yes)] 41)).drew.cell? ⟨wr.heap.size, 1, none⟩ = some (.int .i64 (L[k]'hlt).op) ∧ (wr.alloc (.cells #[(.string ⟨(L[k]'hlt).name.toArray⟩), (.int .i64 (L[k]'hlt).op), (.int .i64 (L[k]'hlt).val.kind), (.int .i64 (L[k]'hlt).val.int), (.float .f64 (L[k]'hlt).val.num), (.string ⟨(L[k]'hlt).val.text.toArray⟩), (.bool (L[k]'hlt).val.yes)] 41)).drew.cell? ⟨wr.heap.size, 2, none⟩ = some (.int .i64 (L[k]'hlt).val.kind) ∧ (wr.alloc (.cells #[(.string ⟨(L[k]'hlt).name.toArray⟩), (.int .i64 (L[k]'hlt).op), (.int .i64 (L[k]'hlt).val.kind), (.int .i64 (L[k]'hlt).val.int), (.float .f64 (L[k]'hlt).val.num), (.string ⟨(L[k]'hlt).val.text.toArray⟩), (.bool (L[k]'hlt).val.yes)] 41)).drew.cell? ⟨wr.heap.size, 3, none⟩ = some (.int .i64 (L[k]'hlt).val.int) ∧ (wr.alloc (.cells #[(.string ⟨(L[k]'hlt).name.toArray⟩), (.int .i64 (L[k]'hlt).op), (.int .i64 (L[k]'hlt).val.kind), (.int .i64 (L[k]'hlt).val.int), (.float .f64 (L[k]'hlt).val.num), (.string ⟨(L[k]'hlt).val.text.toArray⟩), (.bool (L[k]'hlt).val.yes)] 41)).drew.cell? ⟨wr.heap.size, 4, none⟩ = some (.float .f64 (L[k]'hlt).val.num) ∧ (wr.alloc (.cells #[(.string ⟨(L[k]'hlt).name.toArray⟩), (.int .i64 (L[k]'hlt).op), (.int .i64 (L[k]'hlt).val.kind), (.int .i64 (L[k]'hlt).val.int), (.float .f64 (L[k]'hlt).val.num), (.string ⟨(L[k]'hlt).val.text.toArray⟩), (.bool (L[k]'hlt).val.yes)] 41)).drew.cell? ⟨wr.heap.size, 5, none⟩ = some (.string ⟨(L[k]'hlt).val.text.toArray⟩) ∧ (wr.alloc (.cells #[(.string ⟨(L[k]'hlt).name.toArray⟩), (.int .i64 (L[k]'hlt).op), (.int .i64 (L[k]'hlt).val.kind), (.int .i64 (L[k]'hlt).val.int), (.float .f64 (L[k]'hlt).val.num), (.string ⟨(L[k]'hlt).val.text.toArray⟩), (.bool (L[k]'hlt).val.yes)] 41)).drew.cell? ⟨wr.heap.size, 6, none⟩ = some (.bool (L[k]'hlt).val.yes) ∧ (wr.alloc (.cells #[(.string ⟨(L[k]'hlt).name.toArray⟩), (.int .i64 (L[k]'hlt).op), (.int .i64 (L[k]'hlt).val.kind), (.int .i64 (L[k]'hlt).val.int), (.float .f64 (L[k]'hlt).val.num), (.string ⟨(L[k]'hlt).val.text.toArray⟩), (.bool (L[k]'hlt).val.yes)] 41)).drew.cell? ⟨g, i * 7, none⟩ = some (.string ⟨(L[i]'hi).name.toArray⟩) ∧ (wr.alloc (.cells #[(.string ⟨(L[k]'hlt).name.toArray⟩), (.int .i64 (L[k]'hlt).op), (.int .i64 (L[k]'hlt).val.kind), (.int .i64 (L[k]'hlt).val.int), (.float .f64 (L[k]'hlt).val.num), (.string ⟨(L[k]'hlt).val.text.toArray⟩), (.bool (L[k]'hlt).val.yes)] 41)).drew.cell? ⟨g, i * 7 + 1, none⟩ = some (.int .i64 (L[i]'hi).op) ∧ (wr.alloc (.cells #[(.string ⟨(L[k]'hlt).name.toArray⟩), (.int .i64 (L[k]'hlt).op), (.int .i64 (L[k]'hlt).val.kind), (.int .i64 (L[k]'hlt).val.int), (.float .f64 (L[k]'hlt).val.num), (.string ⟨(L[k]'hlt).val.text.toArray⟩), (.bool (L[k]'hlt).val.yes)] 41)).drew.cell? ⟨g, i * 7 + 2, none⟩ = some (.int .i64 (L[i]'hi).val.kind) ∧ (wr.alloc (.cells #[(.string ⟨(L[k]'hlt).name.toArray⟩), (.int .i64 (L[k]'hlt).op), (.int .i64 (L[k]'hlt).val.kind), (.int .i64 (L[k]'hlt).val.int), (.float .f64 (L[k]'hlt).val.num), (.string ⟨(L[k]'hlt).val.text.toArray⟩), (.bool (L[k]'hlt).val.yes)] 41)).drew.cell? ⟨g, i * 7 + 3, none⟩ = some (.int .i64 (L[i]'hi).val.int) ∧ (wr.alloc (.cells #[(.string ⟨(L[k]'hlt).name.toArray⟩), (.int .i64 (L[k]'hlt).op), (.int .i64 (L[k]'hlt).val.kind), (.int .i64 (L[k]'hlt).val.int), (.float .f64 (L[k]'hlt).val.num), (.string ⟨(L[k]'hlt).val.text.toArray⟩), (.bool (L[k]'hlt).val.yes)] 41)).drew.cell? ⟨g, i * 7 + 4, none⟩ = some (.float .f64 (L[i]'hi).val.num) ∧ (wr.alloc (.cells #[(.string ⟨(L[k]'hlt).name.toArray⟩), (.int .i64 (L[k]'hlt).op), (.int .i64 (L[k]'hlt).val.kind), (.int .i64 (L[k]'hlt).val.int), (.float .f64 (L[k]'hlt).val.num), (.string ⟨(L[k]'hlt).val.text.toArray⟩), (.bool (L[k]'hlt).val.yes)] 41)).drew.cell? ⟨g, i * 7 + 5, none⟩ = some (.string ⟨(L[i]'hi).val.text.toArray⟩) ∧ (wr.alloc (.cells #[(.string ⟨(L[k]'hlt).name.toArray⟩), (.int .i64 (L[k]'hlt).op), (.int .i64 (L[k]'hlt).val.kind), (.int .i64 (L[k]'hlt).val.int), (.float .f64 (L[k]'hlt).val.num), (.string ⟨(L[k]'hlt).val.text.toArray⟩), (.bool (L[k]'hlt).val.yes)] 41)).drew.cell? ⟨g, i * 7 + 6, none⟩ = some (.bool (L[i]'hi).val.yes) ∧ Below wr.heap.size wr (wr.alloc (.cells #[(.string ⟨(L[k]'hlt).name.toArray⟩), (.int .i64 (L[k]'hlt).op), (.int .i64 (L[k]'hlt).val.kind), (.int .i64 (L[k]'hlt).val.int), (.float .f64 (L[k]'hlt).val.num), (.string ⟨(L[k]'hlt).val.text.toArray⟩), (.bool (L[k]'hlt).val.yes)] 41)).drew ∧ wr.heap.size < (wr.alloc (.cells #[(.string ⟨(L[k]'hlt).name.toArray⟩), (.int .i64 (L[k]'hlt).op), (.int .i64 (L[k]'hlt).val.kind), (.int .i64 (L[k]'hlt).val.int), (.float .f64 (L[k]'hlt).val.num), (.string ⟨(L[k]'hlt).val.text.toArray⟩), (.bool (L[k]'hlt).val.yes)] 41)).drew.heap.size ∧ g < wr.heap.size := nd_start (x := L[k]'hlt) (T := 41) hrow hi
      obtain ⟨s1, s2, s3⟩ := HS.out _ (List.getElem_mem hlt)
      obtain ⟨t1, t2, t3⟩ := HS.out _ (List.getElem_mem hi)
      have hi1 (W : World) := implies_any (L[k]'hlt).name (L[k]'hlt).op (L[k]'hlt).val.kind (L[k]'hlt).val.int (L[k]'hlt).val.num (L[k]'hlt).val.text (L[k]'hlt).val.yes (L[i]'hi).name (L[i]'hi).op (L[i]'hi).val.kind (L[i]'hi).val.int (L[i]'hi).val.num (L[i]'hi).val.text (L[i]'hi).val.yes W s1 s2 s3 t3
      have hi2 (W : World) := implies_any (L[i]'hi).name (L[i]'hi).op (L[i]'hi).val.kind (L[i]'hi).val.int (L[i]'hi).val.num (L[i]'hi).val.text (L[i]'hi).val.yes (L[k]'hlt).name (L[k]'hlt).op (L[k]'hlt).val.kind (L[k]'hlt).val.int (L[k]'hlt).val.num (L[k]'hlt).val.text (L[k]'hlt).val.yes W t1 t2 t3 s3
      have e1 : impliesB (L[k]'hlt) (L[i]'hi) = impliesB ⟨(L[k]'hlt).name, (L[k]'hlt).op, (L[k]'hlt).val.kind, (L[k]'hlt).val.int, (L[k]'hlt).val.num, (L[k]'hlt).val.text, (L[k]'hlt).val.yes⟩ ⟨(L[i]'hi).name, (L[i]'hi).op, (L[i]'hi).val.kind, (L[i]'hi).val.int, (L[i]'hi).val.num, (L[i]'hi).val.text, (L[i]'hi).val.yes⟩ := rfl
      have e2 : impliesB (L[i]'hi) (L[k]'hlt) = impliesB ⟨(L[i]'hi).name, (L[i]'hi).op, (L[i]'hi).val.kind, (L[i]'hi).val.int, (L[i]'hi).val.num, (L[i]'hi).val.text, (L[i]'hi).val.yes⟩ ⟨(L[k]'hlt).name, (L[k]'hlt).op, (L[k]'hlt).val.kind, (L[k]'hlt).val.int, (L[k]'hlt).val.num, (L[k]'hlt).val.text, (L[k]'hlt).val.yes⟩ := rfl
      rw [← e1] at hi1
      rw [← e2] at hi2
      clear e1 e2 s1 s2 s3 t1 t2 t3 hbr hrow
      generalize impliesB (L[k]'hlt) (L[i]'hi) = b1 at *
      generalize impliesB (L[i]'hi) (L[k]'hlt) = b2 at *
      generalize (L[k]'hlt) = x at *
      generalize (L[i]'hi) = y at *
      have HST := Lib.hid hst; have HI1 := Lib.hid hi1; have HI2 := Lib.hid hi2
      clear hst hi1 hi2
      by_cases hki : k = i
      · have m1 : ((k : Int) != (i : Int)) = false := by rw [hki]; simp
        have m3 : (k == i) = true := by rw [hki]; simp
        have hro : hit L i k = false := by rw [hh]; rw [m3]; rfl
        have HRO := Lib.hid hro
        clear hh hro hki m3
        go_wp2_with fail
        refine wp_region_held_drew (S := (fun w' => w'.cell? ⟨wr.heap.size, 0, none⟩ = some (.string ⟨x.name.toArray⟩) ∧ w'.cell? ⟨wr.heap.size, 1, none⟩ = some (.int .i64 x.op) ∧ w'.cell? ⟨wr.heap.size, 2, none⟩ = some (.int .i64 x.val.kind) ∧ w'.cell? ⟨wr.heap.size, 3, none⟩ = some (.int .i64 x.val.int) ∧ w'.cell? ⟨wr.heap.size, 4, none⟩ = some (.float .f64 x.val.num) ∧ w'.cell? ⟨wr.heap.size, 5, none⟩ = some (.string ⟨x.val.text.toArray⟩) ∧ w'.cell? ⟨wr.heap.size, 6, none⟩ = some (.bool x.val.yes) ∧ w'.cell? ⟨g, i * 7, none⟩ = some (.string ⟨y.name.toArray⟩) ∧ w'.cell? ⟨g, i * 7 + 1, none⟩ = some (.int .i64 y.op) ∧ w'.cell? ⟨g, i * 7 + 2, none⟩ = some (.int .i64 y.val.kind) ∧ w'.cell? ⟨g, i * 7 + 3, none⟩ = some (.int .i64 y.val.int) ∧ w'.cell? ⟨g, i * 7 + 4, none⟩ = some (.float .f64 y.val.num) ∧ w'.cell? ⟨g, i * 7 + 5, none⟩ = some (.string ⟨y.val.text.toArray⟩) ∧ w'.cell? ⟨g, i * 7 + 6, none⟩ = some (.bool y.val.yes) ∧ Below wr.heap.size wr w' ∧ wr.heap.size < w'.heap.size ∧ g < wr.heap.size)) (by kernel_rfl) ?_ (fun hq0 => ?_)
        · ((try dsimp only); (first | exact HST.out | assumption | exact nd_below (by assumption) (by assumption)))
        (refine wpAnyH_take (i := 0) (oi := ?_) (v := ?_) ?_ (by kernel_rfl) (by kernel_rfl) (by kernel_rfl) ?_ (Or.inl ⟨?_, ?_⟩) (by assumption) ?_; rotate_left 2; (· (simp only [List.getElem?_toArray, List.getElem?_cons_zero]; first | done | rfl)); (· exact (fun _ _ _ h => h)); (· rfl); (· (intro w hSw; (try dsimp only at hSw); go_simp; (try with_reducible rfl))))
        (try simp only [Act.put, List.setIfInBounds_toArray, List.set_cons_zero, List.set_cons_succ])
        (refine wpAnyH_take (i := 1) (oi := ?_) (v := ?_) ?_ (by kernel_rfl) (by kernel_rfl) (by kernel_rfl) ?_ (Or.inl ⟨?_, ?_⟩) (by assumption) ?_; rotate_left 2; (· (simp only [List.getElem?_toArray, List.getElem?_cons_succ, List.getElem?_cons_zero]; first | done | rfl)); (· exact (fun _ _ _ h => h)); (· rfl); (· (intro w hSw; (try dsimp only at hSw); go_simp; (try with_reducible rfl))))
        (try simp only [Act.put, List.setIfInBounds_toArray, List.set_cons_zero, List.set_cons_succ])
        (refine wpAnyH_take (i := 2) (oi := ?_) (v := ?_) ?_ (by kernel_rfl) (by kernel_rfl) (by kernel_rfl) ?_ (Or.inl ⟨?_, ?_⟩) (by assumption) ?_; rotate_left 2; (· (simp only [List.getElem?_toArray, List.getElem?_cons_succ, List.getElem?_cons_zero]; first | done | rfl)); (· exact (fun _ _ _ h => h)); (· rfl); (· (intro w hSw; (try dsimp only at hSw); go_simp; (try with_reducible rfl))))
        (try simp only [Act.put, List.setIfInBounds_toArray, List.set_cons_zero, List.set_cons_succ])
        (refine wpAnyH_take (i := 3) (oi := ?_) (v := ?_) ?_ (by kernel_rfl) (by kernel_rfl) (by kernel_rfl) ?_ (Or.inl ⟨?_, ?_⟩) (by assumption) ?_; rotate_left 2; (· (simp only [List.getElem?_toArray, List.getElem?_cons_succ, List.getElem?_cons_zero]; first | done | rfl)); (· exact (fun _ _ _ h => h)); (· rfl); (· (intro w hSw; (try dsimp only at hSw); go_simp; (try with_reducible rfl))))
        (try simp only [Act.put, List.setIfInBounds_toArray, List.set_cons_zero, List.set_cons_succ])
        (refine wpAnyH_take (i := 4) (oi := ?_) (v := ?_) ?_ (by kernel_rfl) (by kernel_rfl) (by kernel_rfl) ?_ (Or.inr ⟨?_, ?_⟩) (by assumption) ?_; rotate_left 2; (· (simp only [List.getElem?_toArray, List.getElem?_cons_succ, List.getElem?_cons_zero]; first | done | rfl)); (· exact (fun _ _ _ h => h)); (· rfl); (· rfl))
        (try simp only [Act.put, List.setIfInBounds_toArray, List.set_cons_zero, List.set_cons_succ])
        (refine wpAnyH_take (i := 5) (oi := ?_) (v := ?_) ?_ (by kernel_rfl) (by kernel_rfl) (by kernel_rfl) ?_ (Or.inr ⟨?_, ?_⟩) (by assumption) ?_; rotate_left 2; (· (simp only [List.getElem?_toArray, List.getElem?_cons_succ, List.getElem?_cons_zero]; first | done | rfl)); (· exact (fun _ _ _ h => h)); (· rfl); (· rfl))
        (try simp only [Act.put, List.setIfInBounds_toArray, List.set_cons_zero, List.set_cons_succ])
        (refine wpAnyH_take (i := 6) (oi := ?_) (v := ?_) ?_ (by kernel_rfl) (by kernel_rfl) (by kernel_rfl) ?_ (Or.inr ⟨?_, ?_⟩) (by assumption) ?_; rotate_left 2; (· (simp only [List.getElem?_toArray, List.getElem?_cons_succ, List.getElem?_cons_zero]; first | done | rfl)); (· exact (fun _ _ _ h => h)); (· rfl); (· rfl))
        (try simp only [Act.put, List.setIfInBounds_toArray, List.set_cons_zero, List.set_cons_succ])
        (refine wpAnyH_take (i := 7) (oi := ?_) (v := ?_) ?_ (by kernel_rfl) (by kernel_rfl) (by kernel_rfl) ?_ (Or.inr ⟨?_, ?_⟩) (by assumption) ?_; rotate_left 2; (· (simp only [List.getElem?_toArray, List.getElem?_cons_succ, List.getElem?_cons_zero]; first | done | rfl)); (· exact (fun _ _ _ h => h)); (· rfl); (· rfl))
        (try simp only [Act.put, List.setIfInBounds_toArray, List.set_cons_zero, List.set_cons_succ])
        (refine wpAnyH_take (i := 8) (oi := ?_) (v := ?_) ?_ (by kernel_rfl) (by kernel_rfl) (by kernel_rfl) ?_ (Or.inr ⟨?_, ?_⟩) (by assumption) ?_; rotate_left 2; (· (simp only [List.getElem?_toArray, List.getElem?_cons_succ, List.getElem?_cons_zero]; first | done | rfl)); (· exact (fun _ _ _ h => h)); (· rfl); (· rfl))
        (try simp only [Act.put, List.setIfInBounds_toArray, List.set_cons_zero, List.set_cons_succ])
        (refine wpAnyH_take (i := 9) (oi := ?_) (v := ?_) ?_ (by kernel_rfl) (by kernel_rfl) (by kernel_rfl) ?_ (Or.inr ⟨?_, ?_⟩) (by assumption) ?_; rotate_left 2; (· (simp only [List.getElem?_toArray, List.getElem?_cons_succ, List.getElem?_cons_zero]; first | done | rfl)); (· exact (fun _ _ _ h => h)); (· rfl); (· rfl))
        (try simp only [Act.put, List.setIfInBounds_toArray, List.set_cons_zero, List.set_cons_succ])
        (refine wpAnyH_take (i := 10) (oi := ?_) (v := ?_) ?_ (by kernel_rfl) (by kernel_rfl) (by kernel_rfl) ?_ (Or.inl ⟨?_, ?_⟩) (by assumption) ?_; rotate_left 2; (· (simp only [List.getElem?_toArray, List.getElem?_cons_succ, List.getElem?_cons_zero]; first | done | rfl)); (· exact (fun _ _ _ h => h)); (· rfl); (· (intro w hSw; (try dsimp only at hSw); go_simp; (try with_reducible rfl))))
        (try simp only [Act.put, List.setIfInBounds_toArray, List.set_cons_zero, List.set_cons_succ])
        (refine wpAnyH_take (i := 11) (oi := ?_) (v := ?_) ?_ (by kernel_rfl) (by kernel_rfl) (by kernel_rfl) ?_ (Or.inl ⟨?_, ?_⟩) (by assumption) ?_; rotate_left 2; (· (simp only [List.getElem?_toArray, List.getElem?_cons_succ, List.getElem?_cons_zero]; first | done | rfl)); (· exact (fun _ _ _ h => h)); (· rfl); (· (intro w hSw; (try dsimp only at hSw); go_simp; (try with_reducible rfl))))
        (try simp only [Act.put, List.setIfInBounds_toArray, List.set_cons_zero, List.set_cons_succ])
        (refine wpAnyH_take (i := 12) (oi := ?_) (v := ?_) ?_ (by kernel_rfl) (by kernel_rfl) (by kernel_rfl) ?_ (Or.inr ⟨?_, ?_⟩) (by assumption) ?_; rotate_left 2; (· (simp only [List.getElem?_toArray, List.getElem?_cons_succ, List.getElem?_cons_zero]; first | done | rfl)); (· exact (fun _ _ _ h => h)); (· rfl); (· rfl))
        (try simp only [Act.put, List.setIfInBounds_toArray, List.set_cons_zero, List.set_cons_succ])
        (refine wpAnyH_take (i := 13) (oi := ?_) (v := ?_) ?_ (by kernel_rfl) (by kernel_rfl) (by kernel_rfl) ?_ (Or.inr ⟨?_, ?_⟩) (by assumption) ?_; rotate_left 2; (· (simp only [List.getElem?_toArray, List.getElem?_cons_succ, List.getElem?_cons_zero]; first | done | rfl)); (· exact (fun _ _ _ h => h)); (· rfl); (· rfl))
        (try simp only [Act.put, List.setIfInBounds_toArray, List.set_cons_zero, List.set_cons_succ])
        (refine wpAnyH_take (i := 14) (oi := ?_) (v := ?_) ?_ (by kernel_rfl) (by kernel_rfl) (by kernel_rfl) ?_ (Or.inr ⟨?_, ?_⟩) (by assumption) ?_; rotate_left 2; (· (simp only [List.getElem?_toArray, List.getElem?_cons_succ, List.getElem?_cons_zero]; first | done | rfl)); (· exact (fun _ _ _ h => h)); (· rfl); (· rfl))
        (try simp only [Act.put, List.setIfInBounds_toArray, List.set_cons_zero, List.set_cons_succ])
        (refine wpAnyH_take (i := 15) (oi := ?_) (v := ?_) ?_ (by kernel_rfl) (by kernel_rfl) (by kernel_rfl) ?_ (Or.inr ⟨?_, ?_⟩) (by assumption) ?_; rotate_left 2; (· (simp only [List.getElem?_toArray, List.getElem?_cons_succ, List.getElem?_cons_zero]; first | done | rfl)); (· exact (fun _ _ _ h => h)); (· rfl); (· rfl))
        (try simp only [Act.put, List.setIfInBounds_toArray, List.set_cons_zero, List.set_cons_succ])
        (refine wpAnyH_take (i := 16) (oi := ?_) (v := ?_) ?_ (by kernel_rfl) (by kernel_rfl) (by kernel_rfl) ?_ (Or.inr ⟨?_, ?_⟩) (by assumption) ?_; rotate_left 2; (· (simp only [List.getElem?_toArray, List.getElem?_cons_succ, List.getElem?_cons_zero]; first | done | rfl)); (· exact (fun _ _ _ h => h)); (· rfl); (· rfl))
        (try simp only [Act.put, List.setIfInBounds_toArray, List.set_cons_zero, List.set_cons_succ])
        (refine wpAnyH_take (i := 17) (oi := ?_) (v := ?_) ?_ (by kernel_rfl) (by kernel_rfl) (by kernel_rfl) ?_ (Or.inr ⟨?_, ?_⟩) (by assumption) ?_; rotate_left 2; (· (simp only [List.getElem?_toArray, List.getElem?_cons_succ, List.getElem?_cons_zero]; first | done | rfl)); (· exact (fun _ _ _ h => h)); (· rfl); (· rfl))
        (try simp only [Act.put, List.setIfInBounds_toArray, List.set_cons_zero, List.set_cons_succ])
        (refine wpAnyH_take (i := 18) (oi := ?_) (v := ?_) ?_ (by kernel_rfl) (by kernel_rfl) (by kernel_rfl) ?_ (Or.inr ⟨?_, ?_⟩) (by assumption) ?_; rotate_left 2; (· (simp only [List.getElem?_toArray, List.getElem?_cons_succ, List.getElem?_cons_zero]; first | done | rfl)); (· exact (fun _ _ _ h => h)); (· rfl); (· rfl))
        (try simp only [Act.put, List.setIfInBounds_toArray, List.set_cons_zero, List.set_cons_succ])
        (refine wpAnyH_take (i := 19) (oi := ?_) (v := ?_) ?_ (by kernel_rfl) (by kernel_rfl) (by kernel_rfl) ?_ (Or.inr ⟨?_, ?_⟩) (by assumption) ?_; rotate_left 2; (· (simp only [List.getElem?_toArray, List.getElem?_cons_succ, List.getElem?_cons_zero]; first | done | rfl)); (· exact (fun _ _ _ h => h)); (· rfl); (· rfl))
        (try simp only [Act.put, List.setIfInBounds_toArray, List.set_cons_zero, List.set_cons_succ])
        (refine wpAnyH_take (i := 20) (oi := ?_) (v := ?_) ?_ (by kernel_rfl) (by kernel_rfl) (by kernel_rfl) ?_ (Or.inr ⟨?_, ?_⟩) (by assumption) ?_; rotate_left 2; (· (simp only [List.getElem?_toArray, List.getElem?_cons_succ, List.getElem?_cons_zero]; first | done | rfl)); (· exact (fun _ _ _ h => h)); (· rfl); (· rfl))
        (try simp only [Act.put, List.setIfInBounds_toArray, List.set_cons_zero, List.set_cons_succ])
        (refine wpAnyH_take (i := 21) (oi := ?_) (v := ?_) ?_ (by kernel_rfl) (by kernel_rfl) (by kernel_rfl) ?_ (Or.inr ⟨?_, ?_⟩) (by assumption) ?_; rotate_left 2; (· (simp only [List.getElem?_toArray, List.getElem?_cons_succ, List.getElem?_cons_zero]; first | done | rfl)); (· exact (fun _ _ _ h => h)); (· rfl); (· rfl))
        (try simp only [Act.put, List.setIfInBounds_toArray, List.set_cons_zero, List.set_cons_succ])
        (refine wpAnyH_take (i := 22) (oi := ?_) (v := ?_) ?_ (by kernel_rfl) (by kernel_rfl) (by kernel_rfl) ?_ (Or.inr ⟨?_, ?_⟩) (by assumption) ?_; rotate_left 2; (· (simp only [List.getElem?_toArray, List.getElem?_cons_succ, List.getElem?_cons_zero]; first | done | rfl)); (· exact (fun _ _ _ h => h)); (· rfl); (· rfl))
        (try simp only [Act.put, List.setIfInBounds_toArray, List.set_cons_zero, List.set_cons_succ])
        (refine wpAnyH_take (i := 23) (oi := ?_) (v := ?_) ?_ (by kernel_rfl) (by kernel_rfl) (by kernel_rfl) ?_ (Or.inr ⟨?_, ?_⟩) (by assumption) ?_; rotate_left 2; (· (simp only [List.getElem?_toArray, List.getElem?_cons_succ, List.getElem?_cons_zero]; first | done | rfl)); (· exact (fun _ _ _ h => h)); (· rfl); (· rfl))
        (try simp only [Act.put, List.setIfInBounds_toArray, List.set_cons_zero, List.set_cons_succ])
        (refine wpAnyH_take (i := 24) (oi := ?_) (v := ?_) ?_ (by kernel_rfl) (by kernel_rfl) (by kernel_rfl) ?_ (Or.inl ⟨?_, ?_⟩) (by assumption) ?_; rotate_left 2; (· (simp only [List.getElem?_toArray, List.getElem?_cons_succ, List.getElem?_cons_zero]; first | done | rfl)); (· exact (fun _ _ _ h => h)); (· rfl); (· (intro w hSw; (try dsimp only at hSw); go_simp; (try with_reducible rfl))))
        (try simp only [Act.put, List.setIfInBounds_toArray, List.set_cons_zero, List.set_cons_succ])
        refine wpAnyH_done (by kernel_rfl) ?_ _
        go_wp2_with fail
        exact ⟨⟨k + 1, by omega, by go_num, Lib.hid (by rw [needN, HP.out, HRO.out]; rfl), btrans HBR.out (nd_own (by assumption))⟩, by simp [intOf]; go_num⟩
      have m1 : ((k : Int) != (i : Int)) = true := by rw [bne_iff_ne]; omega
      have m2 : ¬ (k : Int) = (i : Int) := by omega
      have m3 : (k == i) = false := by rw [beq_eq_false_iff_ne]; exact hki
      have m4 : (k != i) = true := by rw [bne_iff_ne]; exact hki
      cases b1
      · skip
        have hro : hit L i k = false := by rw [hh]; rw [m3]; rfl
        have HRO := Lib.hid hro
        clear hh hro
        go_wp2_with fail
        refine wp_region_held_drew (S := (fun w' => w'.cell? ⟨wr.heap.size, 0, none⟩ = some (.string ⟨x.name.toArray⟩) ∧ w'.cell? ⟨wr.heap.size, 1, none⟩ = some (.int .i64 x.op) ∧ w'.cell? ⟨wr.heap.size, 2, none⟩ = some (.int .i64 x.val.kind) ∧ w'.cell? ⟨wr.heap.size, 3, none⟩ = some (.int .i64 x.val.int) ∧ w'.cell? ⟨wr.heap.size, 4, none⟩ = some (.float .f64 x.val.num) ∧ w'.cell? ⟨wr.heap.size, 5, none⟩ = some (.string ⟨x.val.text.toArray⟩) ∧ w'.cell? ⟨wr.heap.size, 6, none⟩ = some (.bool x.val.yes) ∧ w'.cell? ⟨g, i * 7, none⟩ = some (.string ⟨y.name.toArray⟩) ∧ w'.cell? ⟨g, i * 7 + 1, none⟩ = some (.int .i64 y.op) ∧ w'.cell? ⟨g, i * 7 + 2, none⟩ = some (.int .i64 y.val.kind) ∧ w'.cell? ⟨g, i * 7 + 3, none⟩ = some (.int .i64 y.val.int) ∧ w'.cell? ⟨g, i * 7 + 4, none⟩ = some (.float .f64 y.val.num) ∧ w'.cell? ⟨g, i * 7 + 5, none⟩ = some (.string ⟨y.val.text.toArray⟩) ∧ w'.cell? ⟨g, i * 7 + 6, none⟩ = some (.bool y.val.yes) ∧ Below wr.heap.size wr w' ∧ wr.heap.size < w'.heap.size ∧ g < wr.heap.size)) (by kernel_rfl) ?_ (fun hq0 => ?_)
        · ((try dsimp only); (first | exact HST.out | assumption | exact nd_below (by assumption) (by assumption)))
        (refine wpAnyH_take (i := 0) (oi := ?_) (v := ?_) ?_ (by kernel_rfl) (by kernel_rfl) (by kernel_rfl) ?_ (Or.inl ⟨?_, ?_⟩) (by assumption) ?_; rotate_left 2; (· (simp only [List.getElem?_toArray, List.getElem?_cons_zero]; first | done | rfl)); (· exact (fun _ _ _ h => h)); (· rfl); (· (intro w hSw; (try dsimp only at hSw); go_simp; (try with_reducible rfl))))
        (try simp only [Act.put, List.setIfInBounds_toArray, List.set_cons_zero, List.set_cons_succ])
        (refine wpAnyH_take (i := 1) (oi := ?_) (v := ?_) ?_ (by kernel_rfl) (by kernel_rfl) (by kernel_rfl) ?_ (Or.inl ⟨?_, ?_⟩) (by assumption) ?_; rotate_left 2; (· (simp only [List.getElem?_toArray, List.getElem?_cons_succ, List.getElem?_cons_zero]; first | done | rfl)); (· exact (fun _ _ _ h => h)); (· rfl); (· (intro w hSw; (try dsimp only at hSw); go_simp; (try with_reducible rfl))))
        (try simp only [Act.put, List.setIfInBounds_toArray, List.set_cons_zero, List.set_cons_succ])
        (refine wpAnyH_take (i := 2) (oi := ?_) (v := ?_) ?_ (by kernel_rfl) (by kernel_rfl) (by kernel_rfl) ?_ (Or.inl ⟨?_, ?_⟩) (by assumption) ?_; rotate_left 2; (· (simp only [List.getElem?_toArray, List.getElem?_cons_succ, List.getElem?_cons_zero]; first | done | rfl)); (· exact (fun _ _ _ h => h)); (· rfl); (· (intro w hSw; (try dsimp only at hSw); go_simp; (try with_reducible rfl))))
        (try simp only [Act.put, List.setIfInBounds_toArray, List.set_cons_zero, List.set_cons_succ])
        (refine wpAnyH_take (i := 3) (oi := ?_) (v := ?_) ?_ (by kernel_rfl) (by kernel_rfl) (by kernel_rfl) ?_ (Or.inl ⟨?_, ?_⟩) (by assumption) ?_; rotate_left 2; (· (simp only [List.getElem?_toArray, List.getElem?_cons_succ, List.getElem?_cons_zero]; first | done | rfl)); (· exact (fun _ _ _ h => h)); (· rfl); (· (intro w hSw; (try dsimp only at hSw); go_simp; (try with_reducible rfl))))
        (try simp only [Act.put, List.setIfInBounds_toArray, List.set_cons_zero, List.set_cons_succ])
        (refine wpAnyH_take (i := 4) (oi := ?_) (v := ?_) ?_ (by kernel_rfl) (by kernel_rfl) (by kernel_rfl) ?_ (Or.inl ⟨?_, ?_⟩) (by assumption) ?_; rotate_left 2; (· (simp only [List.getElem?_toArray, List.getElem?_cons_succ, List.getElem?_cons_zero]; first | done | rfl)); (· exact (fun _ _ _ h => h)); (· rfl); (· (intro w hSw; (try dsimp only at hSw); go_simp; (try with_reducible rfl))))
        (try simp only [Act.put, List.setIfInBounds_toArray, List.set_cons_zero, List.set_cons_succ])
        (refine wpAnyH_take (i := 5) (oi := ?_) (v := ?_) ?_ (by kernel_rfl) (by kernel_rfl) (by kernel_rfl) ?_ (Or.inl ⟨?_, ?_⟩) (by assumption) ?_; rotate_left 2; (· (simp only [List.getElem?_toArray, List.getElem?_cons_succ, List.getElem?_cons_zero]; first | done | rfl)); (· exact (fun _ _ _ h => h)); (· rfl); (· (intro w hSw; (try dsimp only at hSw); go_simp; (try with_reducible rfl))))
        (try simp only [Act.put, List.setIfInBounds_toArray, List.set_cons_zero, List.set_cons_succ])
        (refine wpAnyH_take (i := 6) (oi := ?_) (v := ?_) ?_ (by kernel_rfl) (by kernel_rfl) (by kernel_rfl) ?_ (Or.inl ⟨?_, ?_⟩) (by assumption) ?_; rotate_left 2; (· (simp only [List.getElem?_toArray, List.getElem?_cons_succ, List.getElem?_cons_zero]; first | done | rfl)); (· exact (fun _ _ _ h => h)); (· rfl); (· (intro w hSw; (try dsimp only at hSw); go_simp; (try with_reducible rfl))))
        (try simp only [Act.put, List.setIfInBounds_toArray, List.set_cons_zero, List.set_cons_succ])
        (refine wpAnyH_take (i := 7) (oi := ?_) (v := ?_) ?_ (by kernel_rfl) (by kernel_rfl) (by kernel_rfl) ?_ (Or.inl ⟨?_, ?_⟩) (by assumption) ?_; rotate_left 2; (· (simp only [List.getElem?_toArray, List.getElem?_cons_succ, List.getElem?_cons_zero]; first | done | rfl)); (· exact (fun _ _ _ h => h)); (· rfl); (· (intro w hSw; (try dsimp only at hSw); go_simp; (try with_reducible rfl))))
        (try simp only [Act.put, List.setIfInBounds_toArray, List.set_cons_zero, List.set_cons_succ])
        (refine wpAnyH_take (i := 8) (oi := ?_) (v := ?_) ?_ (by kernel_rfl) (by kernel_rfl) (by kernel_rfl) ?_ (Or.inl ⟨?_, ?_⟩) (by assumption) ?_; rotate_left 2; (· (simp only [List.getElem?_toArray, List.getElem?_cons_succ, List.getElem?_cons_zero]; first | done | rfl)); (· exact (fun _ _ _ h => h)); (· rfl); (· (intro w hSw; (try dsimp only at hSw); go_simp; (try with_reducible rfl))))
        (try simp only [Act.put, List.setIfInBounds_toArray, List.set_cons_zero, List.set_cons_succ])
        refine wpAnyH_ready (rs := [9]) (by kernel_rfl) (by simp) ?_
        refine AllReadyH.cons (o := ?_) ?_ (fun K hK => ?_) AllReadyH.nil
        rotate_left 1
        · (simp only [List.getElem?_toArray, List.getElem?_cons_succ, List.getElem?_cons_zero]; first | done | rfl)
        go_simp
        first | (refine hK.out _ _ ?_ (fun hq1 => ?_)) | ((go_at_call 100; (first | (with_reducible refine (HI1.out _).mono ?_) | (with_reducible refine (HI2.out _).mono ?_)); rintro e w7 ⟨rfl, hb7⟩); refine hK.out _ _ ?_ (fun hq1 => ?_)) | ((go_at_call 100; (first | (with_reducible refine (HI1.out _).mono ?_) | (with_reducible refine (HI2.out _).mono ?_)); rintro e w7 ⟨rfl, hb7⟩); go_wp2_with fail; refine hK.out _ _ ?_ (fun hq1 => ?_)) | fail
        · ((try dsimp only); (first | exact HST.out | assumption | exact nd_below (by assumption) (by assumption)))
        clear hK K
        (try simp only [Act.put, List.setIfInBounds_toArray, List.set_cons_zero, List.set_cons_succ])
        clear hq0
        (refine wpAnyH_take (i := 10) (oi := ?_) (v := ?_) ?_ (by kernel_rfl) (by kernel_rfl) (by kernel_rfl) ?_ (Or.inl ⟨?_, ?_⟩) (by assumption) ?_; rotate_left 2; (· (simp only [List.getElem?_toArray, List.getElem?_cons_succ, List.getElem?_cons_zero]; first | done | rfl)); (· exact (fun _ _ _ h => h)); (· rfl); (· (intro w hSw; (try dsimp only at hSw); go_simp; (try with_reducible rfl))))
        (try simp only [Act.put, List.setIfInBounds_toArray, List.set_cons_zero, List.set_cons_succ])
        (refine wpAnyH_take (i := 11) (oi := ?_) (v := ?_) ?_ (by kernel_rfl) (by kernel_rfl) (by kernel_rfl) ?_ (Or.inl ⟨?_, ?_⟩) (by assumption) ?_; rotate_left 2; (· (simp only [List.getElem?_toArray, List.getElem?_cons_succ, List.getElem?_cons_zero]; first | done | rfl)); (· exact (fun _ _ _ h => h)); (· rfl); (· (intro w hSw; (try dsimp only at hSw); go_simp; (try with_reducible rfl))))
        (try simp only [Act.put, List.setIfInBounds_toArray, List.set_cons_zero, List.set_cons_succ])
        (refine wpAnyH_take (i := 12) (oi := ?_) (v := ?_) ?_ (by kernel_rfl) (by kernel_rfl) (by kernel_rfl) ?_ (Or.inr ⟨?_, ?_⟩) (by assumption) ?_; rotate_left 2; (· (simp only [List.getElem?_toArray, List.getElem?_cons_succ, List.getElem?_cons_zero]; first | done | rfl)); (· exact (fun _ _ _ h => h)); (· rfl); (· rfl))
        (try simp only [Act.put, List.setIfInBounds_toArray, List.set_cons_zero, List.set_cons_succ])
        (refine wpAnyH_take (i := 13) (oi := ?_) (v := ?_) ?_ (by kernel_rfl) (by kernel_rfl) (by kernel_rfl) ?_ (Or.inr ⟨?_, ?_⟩) (by assumption) ?_; rotate_left 2; (· (simp only [List.getElem?_toArray, List.getElem?_cons_succ, List.getElem?_cons_zero]; first | done | rfl)); (· exact (fun _ _ _ h => h)); (· rfl); (· rfl))
        (try simp only [Act.put, List.setIfInBounds_toArray, List.set_cons_zero, List.set_cons_succ])
        (refine wpAnyH_take (i := 14) (oi := ?_) (v := ?_) ?_ (by kernel_rfl) (by kernel_rfl) (by kernel_rfl) ?_ (Or.inr ⟨?_, ?_⟩) (by assumption) ?_; rotate_left 2; (· (simp only [List.getElem?_toArray, List.getElem?_cons_succ, List.getElem?_cons_zero]; first | done | rfl)); (· exact (fun _ _ _ h => h)); (· rfl); (· rfl))
        (try simp only [Act.put, List.setIfInBounds_toArray, List.set_cons_zero, List.set_cons_succ])
        (refine wpAnyH_take (i := 15) (oi := ?_) (v := ?_) ?_ (by kernel_rfl) (by kernel_rfl) (by kernel_rfl) ?_ (Or.inr ⟨?_, ?_⟩) (by assumption) ?_; rotate_left 2; (· (simp only [List.getElem?_toArray, List.getElem?_cons_succ, List.getElem?_cons_zero]; first | done | rfl)); (· exact (fun _ _ _ h => h)); (· rfl); (· rfl))
        (try simp only [Act.put, List.setIfInBounds_toArray, List.set_cons_zero, List.set_cons_succ])
        (refine wpAnyH_take (i := 16) (oi := ?_) (v := ?_) ?_ (by kernel_rfl) (by kernel_rfl) (by kernel_rfl) ?_ (Or.inr ⟨?_, ?_⟩) (by assumption) ?_; rotate_left 2; (· (simp only [List.getElem?_toArray, List.getElem?_cons_succ, List.getElem?_cons_zero]; first | done | rfl)); (· exact (fun _ _ _ h => h)); (· rfl); (· rfl))
        (try simp only [Act.put, List.setIfInBounds_toArray, List.set_cons_zero, List.set_cons_succ])
        (refine wpAnyH_take (i := 17) (oi := ?_) (v := ?_) ?_ (by kernel_rfl) (by kernel_rfl) (by kernel_rfl) ?_ (Or.inr ⟨?_, ?_⟩) (by assumption) ?_; rotate_left 2; (· (simp only [List.getElem?_toArray, List.getElem?_cons_succ, List.getElem?_cons_zero]; first | done | rfl)); (· exact (fun _ _ _ h => h)); (· rfl); (· rfl))
        (try simp only [Act.put, List.setIfInBounds_toArray, List.set_cons_zero, List.set_cons_succ])
        (refine wpAnyH_take (i := 18) (oi := ?_) (v := ?_) ?_ (by kernel_rfl) (by kernel_rfl) (by kernel_rfl) ?_ (Or.inr ⟨?_, ?_⟩) (by assumption) ?_; rotate_left 2; (· (simp only [List.getElem?_toArray, List.getElem?_cons_succ, List.getElem?_cons_zero]; first | done | rfl)); (· exact (fun _ _ _ h => h)); (· rfl); (· rfl))
        (try simp only [Act.put, List.setIfInBounds_toArray, List.set_cons_zero, List.set_cons_succ])
        (refine wpAnyH_take (i := 19) (oi := ?_) (v := ?_) ?_ (by kernel_rfl) (by kernel_rfl) (by kernel_rfl) ?_ (Or.inr ⟨?_, ?_⟩) (by assumption) ?_; rotate_left 2; (· (simp only [List.getElem?_toArray, List.getElem?_cons_succ, List.getElem?_cons_zero]; first | done | rfl)); (· exact (fun _ _ _ h => h)); (· rfl); (· rfl))
        (try simp only [Act.put, List.setIfInBounds_toArray, List.set_cons_zero, List.set_cons_succ])
        (refine wpAnyH_take (i := 20) (oi := ?_) (v := ?_) ?_ (by kernel_rfl) (by kernel_rfl) (by kernel_rfl) ?_ (Or.inr ⟨?_, ?_⟩) (by assumption) ?_; rotate_left 2; (· (simp only [List.getElem?_toArray, List.getElem?_cons_succ, List.getElem?_cons_zero]; first | done | rfl)); (· exact (fun _ _ _ h => h)); (· rfl); (· rfl))
        (try simp only [Act.put, List.setIfInBounds_toArray, List.set_cons_zero, List.set_cons_succ])
        (refine wpAnyH_take (i := 21) (oi := ?_) (v := ?_) ?_ (by kernel_rfl) (by kernel_rfl) (by kernel_rfl) ?_ (Or.inr ⟨?_, ?_⟩) (by assumption) ?_; rotate_left 2; (· (simp only [List.getElem?_toArray, List.getElem?_cons_succ, List.getElem?_cons_zero]; first | done | rfl)); (· exact (fun _ _ _ h => h)); (· rfl); (· rfl))
        (try simp only [Act.put, List.setIfInBounds_toArray, List.set_cons_zero, List.set_cons_succ])
        (refine wpAnyH_take (i := 22) (oi := ?_) (v := ?_) ?_ (by kernel_rfl) (by kernel_rfl) (by kernel_rfl) ?_ (Or.inr ⟨?_, ?_⟩) (by assumption) ?_; rotate_left 2; (· (simp only [List.getElem?_toArray, List.getElem?_cons_succ, List.getElem?_cons_zero]; first | done | rfl)); (· exact (fun _ _ _ h => h)); (· rfl); (· rfl))
        (try simp only [Act.put, List.setIfInBounds_toArray, List.set_cons_zero, List.set_cons_succ])
        (refine wpAnyH_take (i := 23) (oi := ?_) (v := ?_) ?_ (by kernel_rfl) (by kernel_rfl) (by kernel_rfl) ?_ (Or.inr ⟨?_, ?_⟩) (by assumption) ?_; rotate_left 2; (· (simp only [List.getElem?_toArray, List.getElem?_cons_succ, List.getElem?_cons_zero]; first | done | rfl)); (· exact (fun _ _ _ h => h)); (· rfl); (· rfl))
        (try simp only [Act.put, List.setIfInBounds_toArray, List.set_cons_zero, List.set_cons_succ])
        (refine wpAnyH_take (i := 24) (oi := ?_) (v := ?_) ?_ (by kernel_rfl) (by kernel_rfl) (by kernel_rfl) ?_ (Or.inl ⟨?_, ?_⟩) (by assumption) ?_; rotate_left 2; (· (simp only [List.getElem?_toArray, List.getElem?_cons_succ, List.getElem?_cons_zero]; first | done | rfl)); (· exact (fun _ _ _ h => h)); (· rfl); (· (intro w hSw; (try dsimp only at hSw); go_simp; (try with_reducible rfl))))
        (try simp only [Act.put, List.setIfInBounds_toArray, List.set_cons_zero, List.set_cons_succ])
        refine wpAnyH_done (by kernel_rfl) ?_ _
        go_wp2_with fail
        exact ⟨⟨k + 1, by omega, by go_num, Lib.hid (by rw [needN, HP.out, HRO.out]; rfl), btrans HBR.out (nd_own (by assumption))⟩, by simp [intOf]; go_num⟩
      by_cases hlti : k < i
      · have n1 : (k : Int) < (i : Int) := by omega
        have n2 : decide ((k : Int) < (i : Int)) = true := by rw [decide_eq_true_iff]; exact n1
        have n3 : decide (k < i) = true := by rw [decide_eq_true_iff]; exact hlti
        have hro : hit L i k = true := by rw [hh]; rw [m3, n3]; rfl
        have HRO := Lib.hid hro
        clear hh hro
        go_wp2_with fail
        refine wp_region_held_drew (S := (fun w' => w'.cell? ⟨wr.heap.size, 0, none⟩ = some (.string ⟨x.name.toArray⟩) ∧ w'.cell? ⟨wr.heap.size, 1, none⟩ = some (.int .i64 x.op) ∧ w'.cell? ⟨wr.heap.size, 2, none⟩ = some (.int .i64 x.val.kind) ∧ w'.cell? ⟨wr.heap.size, 3, none⟩ = some (.int .i64 x.val.int) ∧ w'.cell? ⟨wr.heap.size, 4, none⟩ = some (.float .f64 x.val.num) ∧ w'.cell? ⟨wr.heap.size, 5, none⟩ = some (.string ⟨x.val.text.toArray⟩) ∧ w'.cell? ⟨wr.heap.size, 6, none⟩ = some (.bool x.val.yes) ∧ w'.cell? ⟨g, i * 7, none⟩ = some (.string ⟨y.name.toArray⟩) ∧ w'.cell? ⟨g, i * 7 + 1, none⟩ = some (.int .i64 y.op) ∧ w'.cell? ⟨g, i * 7 + 2, none⟩ = some (.int .i64 y.val.kind) ∧ w'.cell? ⟨g, i * 7 + 3, none⟩ = some (.int .i64 y.val.int) ∧ w'.cell? ⟨g, i * 7 + 4, none⟩ = some (.float .f64 y.val.num) ∧ w'.cell? ⟨g, i * 7 + 5, none⟩ = some (.string ⟨y.val.text.toArray⟩) ∧ w'.cell? ⟨g, i * 7 + 6, none⟩ = some (.bool y.val.yes) ∧ Below wr.heap.size wr w' ∧ wr.heap.size < w'.heap.size ∧ g < wr.heap.size)) (by kernel_rfl) ?_ (fun hq0 => ?_)
        · ((try dsimp only); (first | exact HST.out | assumption | exact nd_below (by assumption) (by assumption)))
        (refine wpAnyH_take (i := 0) (oi := ?_) (v := ?_) ?_ (by kernel_rfl) (by kernel_rfl) (by kernel_rfl) ?_ (Or.inl ⟨?_, ?_⟩) (by assumption) ?_; rotate_left 2; (· (simp only [List.getElem?_toArray, List.getElem?_cons_zero]; first | done | rfl)); (· exact (fun _ _ _ h => h)); (· rfl); (· (intro w hSw; (try dsimp only at hSw); go_simp; (try with_reducible rfl))))
        (try simp only [Act.put, List.setIfInBounds_toArray, List.set_cons_zero, List.set_cons_succ])
        (refine wpAnyH_take (i := 1) (oi := ?_) (v := ?_) ?_ (by kernel_rfl) (by kernel_rfl) (by kernel_rfl) ?_ (Or.inl ⟨?_, ?_⟩) (by assumption) ?_; rotate_left 2; (· (simp only [List.getElem?_toArray, List.getElem?_cons_succ, List.getElem?_cons_zero]; first | done | rfl)); (· exact (fun _ _ _ h => h)); (· rfl); (· (intro w hSw; (try dsimp only at hSw); go_simp; (try with_reducible rfl))))
        (try simp only [Act.put, List.setIfInBounds_toArray, List.set_cons_zero, List.set_cons_succ])
        (refine wpAnyH_take (i := 2) (oi := ?_) (v := ?_) ?_ (by kernel_rfl) (by kernel_rfl) (by kernel_rfl) ?_ (Or.inl ⟨?_, ?_⟩) (by assumption) ?_; rotate_left 2; (· (simp only [List.getElem?_toArray, List.getElem?_cons_succ, List.getElem?_cons_zero]; first | done | rfl)); (· exact (fun _ _ _ h => h)); (· rfl); (· (intro w hSw; (try dsimp only at hSw); go_simp; (try with_reducible rfl))))
        (try simp only [Act.put, List.setIfInBounds_toArray, List.set_cons_zero, List.set_cons_succ])
        (refine wpAnyH_take (i := 3) (oi := ?_) (v := ?_) ?_ (by kernel_rfl) (by kernel_rfl) (by kernel_rfl) ?_ (Or.inl ⟨?_, ?_⟩) (by assumption) ?_; rotate_left 2; (· (simp only [List.getElem?_toArray, List.getElem?_cons_succ, List.getElem?_cons_zero]; first | done | rfl)); (· exact (fun _ _ _ h => h)); (· rfl); (· (intro w hSw; (try dsimp only at hSw); go_simp; (try with_reducible rfl))))
        (try simp only [Act.put, List.setIfInBounds_toArray, List.set_cons_zero, List.set_cons_succ])
        (refine wpAnyH_take (i := 4) (oi := ?_) (v := ?_) ?_ (by kernel_rfl) (by kernel_rfl) (by kernel_rfl) ?_ (Or.inl ⟨?_, ?_⟩) (by assumption) ?_; rotate_left 2; (· (simp only [List.getElem?_toArray, List.getElem?_cons_succ, List.getElem?_cons_zero]; first | done | rfl)); (· exact (fun _ _ _ h => h)); (· rfl); (· (intro w hSw; (try dsimp only at hSw); go_simp; (try with_reducible rfl))))
        (try simp only [Act.put, List.setIfInBounds_toArray, List.set_cons_zero, List.set_cons_succ])
        (refine wpAnyH_take (i := 5) (oi := ?_) (v := ?_) ?_ (by kernel_rfl) (by kernel_rfl) (by kernel_rfl) ?_ (Or.inl ⟨?_, ?_⟩) (by assumption) ?_; rotate_left 2; (· (simp only [List.getElem?_toArray, List.getElem?_cons_succ, List.getElem?_cons_zero]; first | done | rfl)); (· exact (fun _ _ _ h => h)); (· rfl); (· (intro w hSw; (try dsimp only at hSw); go_simp; (try with_reducible rfl))))
        (try simp only [Act.put, List.setIfInBounds_toArray, List.set_cons_zero, List.set_cons_succ])
        (refine wpAnyH_take (i := 6) (oi := ?_) (v := ?_) ?_ (by kernel_rfl) (by kernel_rfl) (by kernel_rfl) ?_ (Or.inl ⟨?_, ?_⟩) (by assumption) ?_; rotate_left 2; (· (simp only [List.getElem?_toArray, List.getElem?_cons_succ, List.getElem?_cons_zero]; first | done | rfl)); (· exact (fun _ _ _ h => h)); (· rfl); (· (intro w hSw; (try dsimp only at hSw); go_simp; (try with_reducible rfl))))
        (try simp only [Act.put, List.setIfInBounds_toArray, List.set_cons_zero, List.set_cons_succ])
        (refine wpAnyH_take (i := 7) (oi := ?_) (v := ?_) ?_ (by kernel_rfl) (by kernel_rfl) (by kernel_rfl) ?_ (Or.inl ⟨?_, ?_⟩) (by assumption) ?_; rotate_left 2; (· (simp only [List.getElem?_toArray, List.getElem?_cons_succ, List.getElem?_cons_zero]; first | done | rfl)); (· exact (fun _ _ _ h => h)); (· rfl); (· (intro w hSw; (try dsimp only at hSw); go_simp; (try with_reducible rfl))))
        (try simp only [Act.put, List.setIfInBounds_toArray, List.set_cons_zero, List.set_cons_succ])
        (refine wpAnyH_take (i := 8) (oi := ?_) (v := ?_) ?_ (by kernel_rfl) (by kernel_rfl) (by kernel_rfl) ?_ (Or.inl ⟨?_, ?_⟩) (by assumption) ?_; rotate_left 2; (· (simp only [List.getElem?_toArray, List.getElem?_cons_succ, List.getElem?_cons_zero]; first | done | rfl)); (· exact (fun _ _ _ h => h)); (· rfl); (· (intro w hSw; (try dsimp only at hSw); go_simp; (try with_reducible rfl))))
        (try simp only [Act.put, List.setIfInBounds_toArray, List.set_cons_zero, List.set_cons_succ])
        refine wpAnyH_ready (rs := [9]) (by kernel_rfl) (by simp) ?_
        refine AllReadyH.cons (o := ?_) ?_ (fun K hK => ?_) AllReadyH.nil
        rotate_left 1
        · (simp only [List.getElem?_toArray, List.getElem?_cons_succ, List.getElem?_cons_zero]; first | done | rfl)
        go_simp
        first | (refine hK.out _ _ ?_ (fun hq1 => ?_)) | ((go_at_call 100; (first | (with_reducible refine (HI1.out _).mono ?_) | (with_reducible refine (HI2.out _).mono ?_)); rintro e w7 ⟨rfl, hb7⟩); refine hK.out _ _ ?_ (fun hq1 => ?_)) | ((go_at_call 100; (first | (with_reducible refine (HI1.out _).mono ?_) | (with_reducible refine (HI2.out _).mono ?_)); rintro e w7 ⟨rfl, hb7⟩); go_wp2_with fail; refine hK.out _ _ ?_ (fun hq1 => ?_)) | fail
        · ((try dsimp only); (first | exact HST.out | assumption | exact nd_below (by assumption) (by assumption)))
        clear hK K
        (try simp only [Act.put, List.setIfInBounds_toArray, List.set_cons_zero, List.set_cons_succ])
        clear hq0
        (refine wpAnyH_take (i := 10) (oi := ?_) (v := ?_) ?_ (by kernel_rfl) (by kernel_rfl) (by kernel_rfl) ?_ (Or.inl ⟨?_, ?_⟩) (by assumption) ?_; rotate_left 2; (· (simp only [List.getElem?_toArray, List.getElem?_cons_succ, List.getElem?_cons_zero]; first | done | rfl)); (· exact (fun _ _ _ h => h)); (· rfl); (· (intro w hSw; (try dsimp only at hSw); go_simp; (try with_reducible rfl))))
        (try simp only [Act.put, List.setIfInBounds_toArray, List.set_cons_zero, List.set_cons_succ])
        (refine wpAnyH_take (i := 11) (oi := ?_) (v := ?_) ?_ (by kernel_rfl) (by kernel_rfl) (by kernel_rfl) ?_ (Or.inl ⟨?_, ?_⟩) (by assumption) ?_; rotate_left 2; (· (simp only [List.getElem?_toArray, List.getElem?_cons_succ, List.getElem?_cons_zero]; first | done | rfl)); (· exact (fun _ _ _ h => h)); (· rfl); (· (intro w hSw; (try dsimp only at hSw); go_simp; (try with_reducible rfl))))
        (try simp only [Act.put, List.setIfInBounds_toArray, List.set_cons_zero, List.set_cons_succ])
        (refine wpAnyH_take (i := 12) (oi := ?_) (v := ?_) ?_ (by kernel_rfl) (by kernel_rfl) (by kernel_rfl) ?_ (Or.inl ⟨?_, ?_⟩) (by assumption) ?_; rotate_left 2; (· (simp only [List.getElem?_toArray, List.getElem?_cons_succ, List.getElem?_cons_zero]; first | done | rfl)); (· exact (fun _ _ _ h => h)); (· rfl); (· (intro w hSw; (try dsimp only at hSw); go_simp; (try with_reducible rfl))))
        (try simp only [Act.put, List.setIfInBounds_toArray, List.set_cons_zero, List.set_cons_succ])
        (refine wpAnyH_take (i := 13) (oi := ?_) (v := ?_) ?_ (by kernel_rfl) (by kernel_rfl) (by kernel_rfl) ?_ (Or.inl ⟨?_, ?_⟩) (by assumption) ?_; rotate_left 2; (· (simp only [List.getElem?_toArray, List.getElem?_cons_succ, List.getElem?_cons_zero]; first | done | rfl)); (· exact (fun _ _ _ h => h)); (· rfl); (· (intro w hSw; (try dsimp only at hSw); go_simp; (try with_reducible rfl))))
        (try simp only [Act.put, List.setIfInBounds_toArray, List.set_cons_zero, List.set_cons_succ])
        (refine wpAnyH_take (i := 14) (oi := ?_) (v := ?_) ?_ (by kernel_rfl) (by kernel_rfl) (by kernel_rfl) ?_ (Or.inl ⟨?_, ?_⟩) (by assumption) ?_; rotate_left 2; (· (simp only [List.getElem?_toArray, List.getElem?_cons_succ, List.getElem?_cons_zero]; first | done | rfl)); (· exact (fun _ _ _ h => h)); (· rfl); (· (intro w hSw; (try dsimp only at hSw); go_simp; (try with_reducible rfl))))
        (try simp only [Act.put, List.setIfInBounds_toArray, List.set_cons_zero, List.set_cons_succ])
        (refine wpAnyH_take (i := 15) (oi := ?_) (v := ?_) ?_ (by kernel_rfl) (by kernel_rfl) (by kernel_rfl) ?_ (Or.inl ⟨?_, ?_⟩) (by assumption) ?_; rotate_left 2; (· (simp only [List.getElem?_toArray, List.getElem?_cons_succ, List.getElem?_cons_zero]; first | done | rfl)); (· exact (fun _ _ _ h => h)); (· rfl); (· (intro w hSw; (try dsimp only at hSw); go_simp; (try with_reducible rfl))))
        (try simp only [Act.put, List.setIfInBounds_toArray, List.set_cons_zero, List.set_cons_succ])
        (refine wpAnyH_take (i := 16) (oi := ?_) (v := ?_) ?_ (by kernel_rfl) (by kernel_rfl) (by kernel_rfl) ?_ (Or.inr ⟨?_, ?_⟩) (by assumption) ?_; rotate_left 2; (· (simp only [List.getElem?_toArray, List.getElem?_cons_succ, List.getElem?_cons_zero]; first | done | rfl)); (· exact (fun _ _ _ h => h)); (· rfl); (· rfl))
        (try simp only [Act.put, List.setIfInBounds_toArray, List.set_cons_zero, List.set_cons_succ])
        (refine wpAnyH_take (i := 17) (oi := ?_) (v := ?_) ?_ (by kernel_rfl) (by kernel_rfl) (by kernel_rfl) ?_ (Or.inr ⟨?_, ?_⟩) (by assumption) ?_; rotate_left 2; (· (simp only [List.getElem?_toArray, List.getElem?_cons_succ, List.getElem?_cons_zero]; first | done | rfl)); (· exact (fun _ _ _ h => h)); (· rfl); (· rfl))
        (try simp only [Act.put, List.setIfInBounds_toArray, List.set_cons_zero, List.set_cons_succ])
        (refine wpAnyH_take (i := 18) (oi := ?_) (v := ?_) ?_ (by kernel_rfl) (by kernel_rfl) (by kernel_rfl) ?_ (Or.inr ⟨?_, ?_⟩) (by assumption) ?_; rotate_left 2; (· (simp only [List.getElem?_toArray, List.getElem?_cons_succ, List.getElem?_cons_zero]; first | done | rfl)); (· exact (fun _ _ _ h => h)); (· rfl); (· rfl))
        (try simp only [Act.put, List.setIfInBounds_toArray, List.set_cons_zero, List.set_cons_succ])
        (refine wpAnyH_take (i := 19) (oi := ?_) (v := ?_) ?_ (by kernel_rfl) (by kernel_rfl) (by kernel_rfl) ?_ (Or.inr ⟨?_, ?_⟩) (by assumption) ?_; rotate_left 2; (· (simp only [List.getElem?_toArray, List.getElem?_cons_succ, List.getElem?_cons_zero]; first | done | rfl)); (· exact (fun _ _ _ h => h)); (· rfl); (· rfl))
        (try simp only [Act.put, List.setIfInBounds_toArray, List.set_cons_zero, List.set_cons_succ])
        (refine wpAnyH_take (i := 20) (oi := ?_) (v := ?_) ?_ (by kernel_rfl) (by kernel_rfl) (by kernel_rfl) ?_ (Or.inr ⟨?_, ?_⟩) (by assumption) ?_; rotate_left 2; (· (simp only [List.getElem?_toArray, List.getElem?_cons_succ, List.getElem?_cons_zero]; first | done | rfl)); (· exact (fun _ _ _ h => h)); (· rfl); (· rfl))
        (try simp only [Act.put, List.setIfInBounds_toArray, List.set_cons_zero, List.set_cons_succ])
        (refine wpAnyH_take (i := 21) (oi := ?_) (v := ?_) ?_ (by kernel_rfl) (by kernel_rfl) (by kernel_rfl) ?_ (Or.inr ⟨?_, ?_⟩) (by assumption) ?_; rotate_left 2; (· (simp only [List.getElem?_toArray, List.getElem?_cons_succ, List.getElem?_cons_zero]; first | done | rfl)); (· exact (fun _ _ _ h => h)); (· rfl); (· rfl))
        (try simp only [Act.put, List.setIfInBounds_toArray, List.set_cons_zero, List.set_cons_succ])
        (refine wpAnyH_take (i := 22) (oi := ?_) (v := ?_) ?_ (by kernel_rfl) (by kernel_rfl) (by kernel_rfl) ?_ (Or.inr ⟨?_, ?_⟩) (by assumption) ?_; rotate_left 2; (· (simp only [List.getElem?_toArray, List.getElem?_cons_succ, List.getElem?_cons_zero]; first | done | rfl)); (· exact (fun _ _ _ h => h)); (· rfl); (· rfl))
        (try simp only [Act.put, List.setIfInBounds_toArray, List.set_cons_zero, List.set_cons_succ])
        (refine wpAnyH_take (i := 23) (oi := ?_) (v := ?_) ?_ (by kernel_rfl) (by kernel_rfl) (by kernel_rfl) ?_ (Or.inl ⟨?_, ?_⟩) (by assumption) ?_; rotate_left 2; (· (simp only [List.getElem?_toArray, List.getElem?_cons_succ, List.getElem?_cons_zero]; first | done | rfl)); (· exact (fun _ _ _ h => h)); (· rfl); (· (intro w hSw; (try dsimp only at hSw); go_simp; (try with_reducible rfl))))
        (try simp only [Act.put, List.setIfInBounds_toArray, List.set_cons_zero, List.set_cons_succ])
        (refine wpAnyH_take (i := 24) (oi := ?_) (v := ?_) ?_ (by kernel_rfl) (by kernel_rfl) (by kernel_rfl) ?_ (Or.inl ⟨?_, ?_⟩) (by assumption) ?_; rotate_left 2; (· (simp only [List.getElem?_toArray, List.getElem?_cons_succ, List.getElem?_cons_zero]; first | done | rfl)); (· exact (fun _ _ _ h => h)); (· rfl); (· (intro w hSw; (try dsimp only at hSw); go_simp; (try with_reducible rfl))))
        (try simp only [Act.put, List.setIfInBounds_toArray, List.set_cons_zero, List.set_cons_succ])
        refine wpAnyH_done (by kernel_rfl) ?_ _
        go_wp2_with fail
        go_ret
        exact ⟨ret_bool (by unfold needB; rw [needN_hit L i k _ hlt HRO.out]), btrans HBR.out (nd_own (by assumption))⟩
      have n1 : ¬ (k : Int) < (i : Int) := by omega
      have n2 : decide ((k : Int) < (i : Int)) = false := by rw [decide_eq_false_iff_not]; exact n1
      have n3 : decide (k < i) = false := by rw [decide_eq_false_iff_not]; exact hlti
      cases b2
      · skip
        have hro : hit L i k = true := by rw [hh]; rw [m3, n3]; rfl
        have HRO := Lib.hid hro
        clear hh hro
        go_wp2_with fail
        refine wp_region_held_drew (S := (fun w' => w'.cell? ⟨wr.heap.size, 0, none⟩ = some (.string ⟨x.name.toArray⟩) ∧ w'.cell? ⟨wr.heap.size, 1, none⟩ = some (.int .i64 x.op) ∧ w'.cell? ⟨wr.heap.size, 2, none⟩ = some (.int .i64 x.val.kind) ∧ w'.cell? ⟨wr.heap.size, 3, none⟩ = some (.int .i64 x.val.int) ∧ w'.cell? ⟨wr.heap.size, 4, none⟩ = some (.float .f64 x.val.num) ∧ w'.cell? ⟨wr.heap.size, 5, none⟩ = some (.string ⟨x.val.text.toArray⟩) ∧ w'.cell? ⟨wr.heap.size, 6, none⟩ = some (.bool x.val.yes) ∧ w'.cell? ⟨g, i * 7, none⟩ = some (.string ⟨y.name.toArray⟩) ∧ w'.cell? ⟨g, i * 7 + 1, none⟩ = some (.int .i64 y.op) ∧ w'.cell? ⟨g, i * 7 + 2, none⟩ = some (.int .i64 y.val.kind) ∧ w'.cell? ⟨g, i * 7 + 3, none⟩ = some (.int .i64 y.val.int) ∧ w'.cell? ⟨g, i * 7 + 4, none⟩ = some (.float .f64 y.val.num) ∧ w'.cell? ⟨g, i * 7 + 5, none⟩ = some (.string ⟨y.val.text.toArray⟩) ∧ w'.cell? ⟨g, i * 7 + 6, none⟩ = some (.bool y.val.yes) ∧ Below wr.heap.size wr w' ∧ wr.heap.size < w'.heap.size ∧ g < wr.heap.size)) (by kernel_rfl) ?_ (fun hq0 => ?_)
        · ((try dsimp only); (first | exact HST.out | assumption | exact nd_below (by assumption) (by assumption)))
        (refine wpAnyH_take (i := 0) (oi := ?_) (v := ?_) ?_ (by kernel_rfl) (by kernel_rfl) (by kernel_rfl) ?_ (Or.inl ⟨?_, ?_⟩) (by assumption) ?_; rotate_left 2; (· (simp only [List.getElem?_toArray, List.getElem?_cons_zero]; first | done | rfl)); (· exact (fun _ _ _ h => h)); (· rfl); (· (intro w hSw; (try dsimp only at hSw); go_simp; (try with_reducible rfl))))
        (try simp only [Act.put, List.setIfInBounds_toArray, List.set_cons_zero, List.set_cons_succ])
        (refine wpAnyH_take (i := 1) (oi := ?_) (v := ?_) ?_ (by kernel_rfl) (by kernel_rfl) (by kernel_rfl) ?_ (Or.inl ⟨?_, ?_⟩) (by assumption) ?_; rotate_left 2; (· (simp only [List.getElem?_toArray, List.getElem?_cons_succ, List.getElem?_cons_zero]; first | done | rfl)); (· exact (fun _ _ _ h => h)); (· rfl); (· (intro w hSw; (try dsimp only at hSw); go_simp; (try with_reducible rfl))))
        (try simp only [Act.put, List.setIfInBounds_toArray, List.set_cons_zero, List.set_cons_succ])
        (refine wpAnyH_take (i := 2) (oi := ?_) (v := ?_) ?_ (by kernel_rfl) (by kernel_rfl) (by kernel_rfl) ?_ (Or.inl ⟨?_, ?_⟩) (by assumption) ?_; rotate_left 2; (· (simp only [List.getElem?_toArray, List.getElem?_cons_succ, List.getElem?_cons_zero]; first | done | rfl)); (· exact (fun _ _ _ h => h)); (· rfl); (· (intro w hSw; (try dsimp only at hSw); go_simp; (try with_reducible rfl))))
        (try simp only [Act.put, List.setIfInBounds_toArray, List.set_cons_zero, List.set_cons_succ])
        (refine wpAnyH_take (i := 3) (oi := ?_) (v := ?_) ?_ (by kernel_rfl) (by kernel_rfl) (by kernel_rfl) ?_ (Or.inl ⟨?_, ?_⟩) (by assumption) ?_; rotate_left 2; (· (simp only [List.getElem?_toArray, List.getElem?_cons_succ, List.getElem?_cons_zero]; first | done | rfl)); (· exact (fun _ _ _ h => h)); (· rfl); (· (intro w hSw; (try dsimp only at hSw); go_simp; (try with_reducible rfl))))
        (try simp only [Act.put, List.setIfInBounds_toArray, List.set_cons_zero, List.set_cons_succ])
        (refine wpAnyH_take (i := 4) (oi := ?_) (v := ?_) ?_ (by kernel_rfl) (by kernel_rfl) (by kernel_rfl) ?_ (Or.inl ⟨?_, ?_⟩) (by assumption) ?_; rotate_left 2; (· (simp only [List.getElem?_toArray, List.getElem?_cons_succ, List.getElem?_cons_zero]; first | done | rfl)); (· exact (fun _ _ _ h => h)); (· rfl); (· (intro w hSw; (try dsimp only at hSw); go_simp; (try with_reducible rfl))))
        (try simp only [Act.put, List.setIfInBounds_toArray, List.set_cons_zero, List.set_cons_succ])
        (refine wpAnyH_take (i := 5) (oi := ?_) (v := ?_) ?_ (by kernel_rfl) (by kernel_rfl) (by kernel_rfl) ?_ (Or.inl ⟨?_, ?_⟩) (by assumption) ?_; rotate_left 2; (· (simp only [List.getElem?_toArray, List.getElem?_cons_succ, List.getElem?_cons_zero]; first | done | rfl)); (· exact (fun _ _ _ h => h)); (· rfl); (· (intro w hSw; (try dsimp only at hSw); go_simp; (try with_reducible rfl))))
        (try simp only [Act.put, List.setIfInBounds_toArray, List.set_cons_zero, List.set_cons_succ])
        (refine wpAnyH_take (i := 6) (oi := ?_) (v := ?_) ?_ (by kernel_rfl) (by kernel_rfl) (by kernel_rfl) ?_ (Or.inl ⟨?_, ?_⟩) (by assumption) ?_; rotate_left 2; (· (simp only [List.getElem?_toArray, List.getElem?_cons_succ, List.getElem?_cons_zero]; first | done | rfl)); (· exact (fun _ _ _ h => h)); (· rfl); (· (intro w hSw; (try dsimp only at hSw); go_simp; (try with_reducible rfl))))
        (try simp only [Act.put, List.setIfInBounds_toArray, List.set_cons_zero, List.set_cons_succ])
        (refine wpAnyH_take (i := 7) (oi := ?_) (v := ?_) ?_ (by kernel_rfl) (by kernel_rfl) (by kernel_rfl) ?_ (Or.inl ⟨?_, ?_⟩) (by assumption) ?_; rotate_left 2; (· (simp only [List.getElem?_toArray, List.getElem?_cons_succ, List.getElem?_cons_zero]; first | done | rfl)); (· exact (fun _ _ _ h => h)); (· rfl); (· (intro w hSw; (try dsimp only at hSw); go_simp; (try with_reducible rfl))))
        (try simp only [Act.put, List.setIfInBounds_toArray, List.set_cons_zero, List.set_cons_succ])
        (refine wpAnyH_take (i := 8) (oi := ?_) (v := ?_) ?_ (by kernel_rfl) (by kernel_rfl) (by kernel_rfl) ?_ (Or.inl ⟨?_, ?_⟩) (by assumption) ?_; rotate_left 2; (· (simp only [List.getElem?_toArray, List.getElem?_cons_succ, List.getElem?_cons_zero]; first | done | rfl)); (· exact (fun _ _ _ h => h)); (· rfl); (· (intro w hSw; (try dsimp only at hSw); go_simp; (try with_reducible rfl))))
        (try simp only [Act.put, List.setIfInBounds_toArray, List.set_cons_zero, List.set_cons_succ])
        refine wpAnyH_ready (rs := [9]) (by kernel_rfl) (by simp) ?_
        refine AllReadyH.cons (o := ?_) ?_ (fun K hK => ?_) AllReadyH.nil
        rotate_left 1
        · (simp only [List.getElem?_toArray, List.getElem?_cons_succ, List.getElem?_cons_zero]; first | done | rfl)
        go_simp
        first | (refine hK.out _ _ ?_ (fun hq1 => ?_)) | ((go_at_call 100; (first | (with_reducible refine (HI1.out _).mono ?_) | (with_reducible refine (HI2.out _).mono ?_)); rintro e w7 ⟨rfl, hb7⟩); refine hK.out _ _ ?_ (fun hq1 => ?_)) | ((go_at_call 100; (first | (with_reducible refine (HI1.out _).mono ?_) | (with_reducible refine (HI2.out _).mono ?_)); rintro e w7 ⟨rfl, hb7⟩); go_wp2_with fail; refine hK.out _ _ ?_ (fun hq1 => ?_)) | fail
        · ((try dsimp only); (first | exact HST.out | assumption | exact nd_below (by assumption) (by assumption)))
        clear hK K
        (try simp only [Act.put, List.setIfInBounds_toArray, List.set_cons_zero, List.set_cons_succ])
        clear hq0
        (refine wpAnyH_take (i := 10) (oi := ?_) (v := ?_) ?_ (by kernel_rfl) (by kernel_rfl) (by kernel_rfl) ?_ (Or.inl ⟨?_, ?_⟩) (by assumption) ?_; rotate_left 2; (· (simp only [List.getElem?_toArray, List.getElem?_cons_succ, List.getElem?_cons_zero]; first | done | rfl)); (· exact (fun _ _ _ h => h)); (· rfl); (· (intro w hSw; (try dsimp only at hSw); go_simp; (try with_reducible rfl))))
        (try simp only [Act.put, List.setIfInBounds_toArray, List.set_cons_zero, List.set_cons_succ])
        (refine wpAnyH_take (i := 11) (oi := ?_) (v := ?_) ?_ (by kernel_rfl) (by kernel_rfl) (by kernel_rfl) ?_ (Or.inl ⟨?_, ?_⟩) (by assumption) ?_; rotate_left 2; (· (simp only [List.getElem?_toArray, List.getElem?_cons_succ, List.getElem?_cons_zero]; first | done | rfl)); (· exact (fun _ _ _ h => h)); (· rfl); (· (intro w hSw; (try dsimp only at hSw); go_simp; (try with_reducible rfl))))
        (try simp only [Act.put, List.setIfInBounds_toArray, List.set_cons_zero, List.set_cons_succ])
        (refine wpAnyH_take (i := 12) (oi := ?_) (v := ?_) ?_ (by kernel_rfl) (by kernel_rfl) (by kernel_rfl) ?_ (Or.inl ⟨?_, ?_⟩) (by assumption) ?_; rotate_left 2; (· (simp only [List.getElem?_toArray, List.getElem?_cons_succ, List.getElem?_cons_zero]; first | done | rfl)); (· exact (fun _ _ _ h => h)); (· rfl); (· (intro w hSw; (try dsimp only at hSw); go_simp; (try with_reducible rfl))))
        (try simp only [Act.put, List.setIfInBounds_toArray, List.set_cons_zero, List.set_cons_succ])
        (refine wpAnyH_take (i := 13) (oi := ?_) (v := ?_) ?_ (by kernel_rfl) (by kernel_rfl) (by kernel_rfl) ?_ (Or.inl ⟨?_, ?_⟩) (by assumption) ?_; rotate_left 2; (· (simp only [List.getElem?_toArray, List.getElem?_cons_succ, List.getElem?_cons_zero]; first | done | rfl)); (· exact (fun _ _ _ h => h)); (· rfl); (· (intro w hSw; (try dsimp only at hSw); go_simp; (try with_reducible rfl))))
        (try simp only [Act.put, List.setIfInBounds_toArray, List.set_cons_zero, List.set_cons_succ])
        (refine wpAnyH_take (i := 14) (oi := ?_) (v := ?_) ?_ (by kernel_rfl) (by kernel_rfl) (by kernel_rfl) ?_ (Or.inl ⟨?_, ?_⟩) (by assumption) ?_; rotate_left 2; (· (simp only [List.getElem?_toArray, List.getElem?_cons_succ, List.getElem?_cons_zero]; first | done | rfl)); (· exact (fun _ _ _ h => h)); (· rfl); (· (intro w hSw; (try dsimp only at hSw); go_simp; (try with_reducible rfl))))
        (try simp only [Act.put, List.setIfInBounds_toArray, List.set_cons_zero, List.set_cons_succ])
        (refine wpAnyH_take (i := 15) (oi := ?_) (v := ?_) ?_ (by kernel_rfl) (by kernel_rfl) (by kernel_rfl) ?_ (Or.inl ⟨?_, ?_⟩) (by assumption) ?_; rotate_left 2; (· (simp only [List.getElem?_toArray, List.getElem?_cons_succ, List.getElem?_cons_zero]; first | done | rfl)); (· exact (fun _ _ _ h => h)); (· rfl); (· (intro w hSw; (try dsimp only at hSw); go_simp; (try with_reducible rfl))))
        (try simp only [Act.put, List.setIfInBounds_toArray, List.set_cons_zero, List.set_cons_succ])
        (refine wpAnyH_take (i := 16) (oi := ?_) (v := ?_) ?_ (by kernel_rfl) (by kernel_rfl) (by kernel_rfl) ?_ (Or.inl ⟨?_, ?_⟩) (by assumption) ?_; rotate_left 2; (· (simp only [List.getElem?_toArray, List.getElem?_cons_succ, List.getElem?_cons_zero]; first | done | rfl)); (· exact (fun _ _ _ h => h)); (· rfl); (· (intro w hSw; (try dsimp only at hSw); go_simp; (try with_reducible rfl))))
        (try simp only [Act.put, List.setIfInBounds_toArray, List.set_cons_zero, List.set_cons_succ])
        (refine wpAnyH_take (i := 17) (oi := ?_) (v := ?_) ?_ (by kernel_rfl) (by kernel_rfl) (by kernel_rfl) ?_ (Or.inl ⟨?_, ?_⟩) (by assumption) ?_; rotate_left 2; (· (simp only [List.getElem?_toArray, List.getElem?_cons_succ, List.getElem?_cons_zero]; first | done | rfl)); (· exact (fun _ _ _ h => h)); (· rfl); (· (intro w hSw; (try dsimp only at hSw); go_simp; (try with_reducible rfl))))
        (try simp only [Act.put, List.setIfInBounds_toArray, List.set_cons_zero, List.set_cons_succ])
        (refine wpAnyH_take (i := 18) (oi := ?_) (v := ?_) ?_ (by kernel_rfl) (by kernel_rfl) (by kernel_rfl) ?_ (Or.inl ⟨?_, ?_⟩) (by assumption) ?_; rotate_left 2; (· (simp only [List.getElem?_toArray, List.getElem?_cons_succ, List.getElem?_cons_zero]; first | done | rfl)); (· exact (fun _ _ _ h => h)); (· rfl); (· (intro w hSw; (try dsimp only at hSw); go_simp; (try with_reducible rfl))))
        (try simp only [Act.put, List.setIfInBounds_toArray, List.set_cons_zero, List.set_cons_succ])
        (refine wpAnyH_take (i := 19) (oi := ?_) (v := ?_) ?_ (by kernel_rfl) (by kernel_rfl) (by kernel_rfl) ?_ (Or.inl ⟨?_, ?_⟩) (by assumption) ?_; rotate_left 2; (· (simp only [List.getElem?_toArray, List.getElem?_cons_succ, List.getElem?_cons_zero]; first | done | rfl)); (· exact (fun _ _ _ h => h)); (· rfl); (· (intro w hSw; (try dsimp only at hSw); go_simp; (try with_reducible rfl))))
        (try simp only [Act.put, List.setIfInBounds_toArray, List.set_cons_zero, List.set_cons_succ])
        (refine wpAnyH_take (i := 20) (oi := ?_) (v := ?_) ?_ (by kernel_rfl) (by kernel_rfl) (by kernel_rfl) ?_ (Or.inl ⟨?_, ?_⟩) (by assumption) ?_; rotate_left 2; (· (simp only [List.getElem?_toArray, List.getElem?_cons_succ, List.getElem?_cons_zero]; first | done | rfl)); (· exact (fun _ _ _ h => h)); (· rfl); (· (intro w hSw; (try dsimp only at hSw); go_simp; (try with_reducible rfl))))
        (try simp only [Act.put, List.setIfInBounds_toArray, List.set_cons_zero, List.set_cons_succ])
        refine wpAnyH_ready (rs := [21]) (by kernel_rfl) (by simp) ?_
        refine AllReadyH.cons (o := ?_) ?_ (fun K hK => ?_) AllReadyH.nil
        rotate_left 1
        · (simp only [List.getElem?_toArray, List.getElem?_cons_succ, List.getElem?_cons_zero]; first | done | rfl)
        go_simp
        first | (refine hK.out _ _ ?_ (fun hq2 => ?_)) | ((go_at_call 100; (first | (with_reducible refine (HI1.out _).mono ?_) | (with_reducible refine (HI2.out _).mono ?_)); rintro e w7 ⟨rfl, hb7⟩); refine hK.out _ _ ?_ (fun hq2 => ?_)) | ((go_at_call 100; (first | (with_reducible refine (HI1.out _).mono ?_) | (with_reducible refine (HI2.out _).mono ?_)); rintro e w7 ⟨rfl, hb7⟩); go_wp2_with fail; refine hK.out _ _ ?_ (fun hq2 => ?_)) | fail
        · ((try dsimp only); (first | exact HST.out | assumption | exact nd_below (by assumption) (by assumption)))
        clear hK K
        (try simp only [Act.put, List.setIfInBounds_toArray, List.set_cons_zero, List.set_cons_succ])
        clear hq1
        (refine wpAnyH_take (i := 22) (oi := ?_) (v := ?_) ?_ (by kernel_rfl) (by kernel_rfl) (by kernel_rfl) ?_ (Or.inl ⟨?_, ?_⟩) (by assumption) ?_; rotate_left 2; (· (simp only [List.getElem?_toArray, List.getElem?_cons_succ, List.getElem?_cons_zero]; first | done | rfl)); (· exact (fun _ _ _ h => h)); (· rfl); (· (intro w hSw; (try dsimp only at hSw); go_simp; (try with_reducible rfl))))
        (try simp only [Act.put, List.setIfInBounds_toArray, List.set_cons_zero, List.set_cons_succ])
        (refine wpAnyH_take (i := 23) (oi := ?_) (v := ?_) ?_ (by kernel_rfl) (by kernel_rfl) (by kernel_rfl) ?_ (Or.inl ⟨?_, ?_⟩) (by assumption) ?_; rotate_left 2; (· (simp only [List.getElem?_toArray, List.getElem?_cons_succ, List.getElem?_cons_zero]; first | done | rfl)); (· exact (fun _ _ _ h => h)); (· rfl); (· (intro w hSw; (try dsimp only at hSw); go_simp; (try with_reducible rfl))))
        (try simp only [Act.put, List.setIfInBounds_toArray, List.set_cons_zero, List.set_cons_succ])
        (refine wpAnyH_take (i := 24) (oi := ?_) (v := ?_) ?_ (by kernel_rfl) (by kernel_rfl) (by kernel_rfl) ?_ (Or.inl ⟨?_, ?_⟩) (by assumption) ?_; rotate_left 2; (· (simp only [List.getElem?_toArray, List.getElem?_cons_succ, List.getElem?_cons_zero]; first | done | rfl)); (· exact (fun _ _ _ h => h)); (· rfl); (· (intro w hSw; (try dsimp only at hSw); go_simp; (try with_reducible rfl))))
        (try simp only [Act.put, List.setIfInBounds_toArray, List.set_cons_zero, List.set_cons_succ])
        refine wpAnyH_done (by kernel_rfl) ?_ _
        go_wp2_with fail
        go_ret
        exact ⟨ret_bool (by unfold needB; rw [needN_hit L i k _ hlt HRO.out]), btrans HBR.out (nd_own (by assumption))⟩
      · skip
        have hro : hit L i k = false := by rw [hh]; rw [m3, n3]; rfl
        have HRO := Lib.hid hro
        clear hh hro
        go_wp2_with fail
        refine wp_region_held_drew (S := (fun w' => w'.cell? ⟨wr.heap.size, 0, none⟩ = some (.string ⟨x.name.toArray⟩) ∧ w'.cell? ⟨wr.heap.size, 1, none⟩ = some (.int .i64 x.op) ∧ w'.cell? ⟨wr.heap.size, 2, none⟩ = some (.int .i64 x.val.kind) ∧ w'.cell? ⟨wr.heap.size, 3, none⟩ = some (.int .i64 x.val.int) ∧ w'.cell? ⟨wr.heap.size, 4, none⟩ = some (.float .f64 x.val.num) ∧ w'.cell? ⟨wr.heap.size, 5, none⟩ = some (.string ⟨x.val.text.toArray⟩) ∧ w'.cell? ⟨wr.heap.size, 6, none⟩ = some (.bool x.val.yes) ∧ w'.cell? ⟨g, i * 7, none⟩ = some (.string ⟨y.name.toArray⟩) ∧ w'.cell? ⟨g, i * 7 + 1, none⟩ = some (.int .i64 y.op) ∧ w'.cell? ⟨g, i * 7 + 2, none⟩ = some (.int .i64 y.val.kind) ∧ w'.cell? ⟨g, i * 7 + 3, none⟩ = some (.int .i64 y.val.int) ∧ w'.cell? ⟨g, i * 7 + 4, none⟩ = some (.float .f64 y.val.num) ∧ w'.cell? ⟨g, i * 7 + 5, none⟩ = some (.string ⟨y.val.text.toArray⟩) ∧ w'.cell? ⟨g, i * 7 + 6, none⟩ = some (.bool y.val.yes) ∧ Below wr.heap.size wr w' ∧ wr.heap.size < w'.heap.size ∧ g < wr.heap.size)) (by kernel_rfl) ?_ (fun hq0 => ?_)
        · ((try dsimp only); (first | exact HST.out | assumption | exact nd_below (by assumption) (by assumption)))
        (refine wpAnyH_take (i := 0) (oi := ?_) (v := ?_) ?_ (by kernel_rfl) (by kernel_rfl) (by kernel_rfl) ?_ (Or.inl ⟨?_, ?_⟩) (by assumption) ?_; rotate_left 2; (· (simp only [List.getElem?_toArray, List.getElem?_cons_zero]; first | done | rfl)); (· exact (fun _ _ _ h => h)); (· rfl); (· (intro w hSw; (try dsimp only at hSw); go_simp; (try with_reducible rfl))))
        (try simp only [Act.put, List.setIfInBounds_toArray, List.set_cons_zero, List.set_cons_succ])
        (refine wpAnyH_take (i := 1) (oi := ?_) (v := ?_) ?_ (by kernel_rfl) (by kernel_rfl) (by kernel_rfl) ?_ (Or.inl ⟨?_, ?_⟩) (by assumption) ?_; rotate_left 2; (· (simp only [List.getElem?_toArray, List.getElem?_cons_succ, List.getElem?_cons_zero]; first | done | rfl)); (· exact (fun _ _ _ h => h)); (· rfl); (· (intro w hSw; (try dsimp only at hSw); go_simp; (try with_reducible rfl))))
        (try simp only [Act.put, List.setIfInBounds_toArray, List.set_cons_zero, List.set_cons_succ])
        (refine wpAnyH_take (i := 2) (oi := ?_) (v := ?_) ?_ (by kernel_rfl) (by kernel_rfl) (by kernel_rfl) ?_ (Or.inl ⟨?_, ?_⟩) (by assumption) ?_; rotate_left 2; (· (simp only [List.getElem?_toArray, List.getElem?_cons_succ, List.getElem?_cons_zero]; first | done | rfl)); (· exact (fun _ _ _ h => h)); (· rfl); (· (intro w hSw; (try dsimp only at hSw); go_simp; (try with_reducible rfl))))
        (try simp only [Act.put, List.setIfInBounds_toArray, List.set_cons_zero, List.set_cons_succ])
        (refine wpAnyH_take (i := 3) (oi := ?_) (v := ?_) ?_ (by kernel_rfl) (by kernel_rfl) (by kernel_rfl) ?_ (Or.inl ⟨?_, ?_⟩) (by assumption) ?_; rotate_left 2; (· (simp only [List.getElem?_toArray, List.getElem?_cons_succ, List.getElem?_cons_zero]; first | done | rfl)); (· exact (fun _ _ _ h => h)); (· rfl); (· (intro w hSw; (try dsimp only at hSw); go_simp; (try with_reducible rfl))))
        (try simp only [Act.put, List.setIfInBounds_toArray, List.set_cons_zero, List.set_cons_succ])
        (refine wpAnyH_take (i := 4) (oi := ?_) (v := ?_) ?_ (by kernel_rfl) (by kernel_rfl) (by kernel_rfl) ?_ (Or.inl ⟨?_, ?_⟩) (by assumption) ?_; rotate_left 2; (· (simp only [List.getElem?_toArray, List.getElem?_cons_succ, List.getElem?_cons_zero]; first | done | rfl)); (· exact (fun _ _ _ h => h)); (· rfl); (· (intro w hSw; (try dsimp only at hSw); go_simp; (try with_reducible rfl))))
        (try simp only [Act.put, List.setIfInBounds_toArray, List.set_cons_zero, List.set_cons_succ])
        (refine wpAnyH_take (i := 5) (oi := ?_) (v := ?_) ?_ (by kernel_rfl) (by kernel_rfl) (by kernel_rfl) ?_ (Or.inl ⟨?_, ?_⟩) (by assumption) ?_; rotate_left 2; (· (simp only [List.getElem?_toArray, List.getElem?_cons_succ, List.getElem?_cons_zero]; first | done | rfl)); (· exact (fun _ _ _ h => h)); (· rfl); (· (intro w hSw; (try dsimp only at hSw); go_simp; (try with_reducible rfl))))
        (try simp only [Act.put, List.setIfInBounds_toArray, List.set_cons_zero, List.set_cons_succ])
        (refine wpAnyH_take (i := 6) (oi := ?_) (v := ?_) ?_ (by kernel_rfl) (by kernel_rfl) (by kernel_rfl) ?_ (Or.inl ⟨?_, ?_⟩) (by assumption) ?_; rotate_left 2; (· (simp only [List.getElem?_toArray, List.getElem?_cons_succ, List.getElem?_cons_zero]; first | done | rfl)); (· exact (fun _ _ _ h => h)); (· rfl); (· (intro w hSw; (try dsimp only at hSw); go_simp; (try with_reducible rfl))))
        (try simp only [Act.put, List.setIfInBounds_toArray, List.set_cons_zero, List.set_cons_succ])
        (refine wpAnyH_take (i := 7) (oi := ?_) (v := ?_) ?_ (by kernel_rfl) (by kernel_rfl) (by kernel_rfl) ?_ (Or.inl ⟨?_, ?_⟩) (by assumption) ?_; rotate_left 2; (· (simp only [List.getElem?_toArray, List.getElem?_cons_succ, List.getElem?_cons_zero]; first | done | rfl)); (· exact (fun _ _ _ h => h)); (· rfl); (· (intro w hSw; (try dsimp only at hSw); go_simp; (try with_reducible rfl))))
        (try simp only [Act.put, List.setIfInBounds_toArray, List.set_cons_zero, List.set_cons_succ])
        (refine wpAnyH_take (i := 8) (oi := ?_) (v := ?_) ?_ (by kernel_rfl) (by kernel_rfl) (by kernel_rfl) ?_ (Or.inl ⟨?_, ?_⟩) (by assumption) ?_; rotate_left 2; (· (simp only [List.getElem?_toArray, List.getElem?_cons_succ, List.getElem?_cons_zero]; first | done | rfl)); (· exact (fun _ _ _ h => h)); (· rfl); (· (intro w hSw; (try dsimp only at hSw); go_simp; (try with_reducible rfl))))
        (try simp only [Act.put, List.setIfInBounds_toArray, List.set_cons_zero, List.set_cons_succ])
        refine wpAnyH_ready (rs := [9]) (by kernel_rfl) (by simp) ?_
        refine AllReadyH.cons (o := ?_) ?_ (fun K hK => ?_) AllReadyH.nil
        rotate_left 1
        · (simp only [List.getElem?_toArray, List.getElem?_cons_succ, List.getElem?_cons_zero]; first | done | rfl)
        go_simp
        first | (refine hK.out _ _ ?_ (fun hq1 => ?_)) | ((go_at_call 100; (first | (with_reducible refine (HI1.out _).mono ?_) | (with_reducible refine (HI2.out _).mono ?_)); rintro e w7 ⟨rfl, hb7⟩); refine hK.out _ _ ?_ (fun hq1 => ?_)) | ((go_at_call 100; (first | (with_reducible refine (HI1.out _).mono ?_) | (with_reducible refine (HI2.out _).mono ?_)); rintro e w7 ⟨rfl, hb7⟩); go_wp2_with fail; refine hK.out _ _ ?_ (fun hq1 => ?_)) | fail
        · ((try dsimp only); (first | exact HST.out | assumption | exact nd_below (by assumption) (by assumption)))
        clear hK K
        (try simp only [Act.put, List.setIfInBounds_toArray, List.set_cons_zero, List.set_cons_succ])
        clear hq0
        (refine wpAnyH_take (i := 10) (oi := ?_) (v := ?_) ?_ (by kernel_rfl) (by kernel_rfl) (by kernel_rfl) ?_ (Or.inl ⟨?_, ?_⟩) (by assumption) ?_; rotate_left 2; (· (simp only [List.getElem?_toArray, List.getElem?_cons_succ, List.getElem?_cons_zero]; first | done | rfl)); (· exact (fun _ _ _ h => h)); (· rfl); (· (intro w hSw; (try dsimp only at hSw); go_simp; (try with_reducible rfl))))
        (try simp only [Act.put, List.setIfInBounds_toArray, List.set_cons_zero, List.set_cons_succ])
        (refine wpAnyH_take (i := 11) (oi := ?_) (v := ?_) ?_ (by kernel_rfl) (by kernel_rfl) (by kernel_rfl) ?_ (Or.inl ⟨?_, ?_⟩) (by assumption) ?_; rotate_left 2; (· (simp only [List.getElem?_toArray, List.getElem?_cons_succ, List.getElem?_cons_zero]; first | done | rfl)); (· exact (fun _ _ _ h => h)); (· rfl); (· (intro w hSw; (try dsimp only at hSw); go_simp; (try with_reducible rfl))))
        (try simp only [Act.put, List.setIfInBounds_toArray, List.set_cons_zero, List.set_cons_succ])
        (refine wpAnyH_take (i := 12) (oi := ?_) (v := ?_) ?_ (by kernel_rfl) (by kernel_rfl) (by kernel_rfl) ?_ (Or.inl ⟨?_, ?_⟩) (by assumption) ?_; rotate_left 2; (· (simp only [List.getElem?_toArray, List.getElem?_cons_succ, List.getElem?_cons_zero]; first | done | rfl)); (· exact (fun _ _ _ h => h)); (· rfl); (· (intro w hSw; (try dsimp only at hSw); go_simp; (try with_reducible rfl))))
        (try simp only [Act.put, List.setIfInBounds_toArray, List.set_cons_zero, List.set_cons_succ])
        (refine wpAnyH_take (i := 13) (oi := ?_) (v := ?_) ?_ (by kernel_rfl) (by kernel_rfl) (by kernel_rfl) ?_ (Or.inl ⟨?_, ?_⟩) (by assumption) ?_; rotate_left 2; (· (simp only [List.getElem?_toArray, List.getElem?_cons_succ, List.getElem?_cons_zero]; first | done | rfl)); (· exact (fun _ _ _ h => h)); (· rfl); (· (intro w hSw; (try dsimp only at hSw); go_simp; (try with_reducible rfl))))
        (try simp only [Act.put, List.setIfInBounds_toArray, List.set_cons_zero, List.set_cons_succ])
        (refine wpAnyH_take (i := 14) (oi := ?_) (v := ?_) ?_ (by kernel_rfl) (by kernel_rfl) (by kernel_rfl) ?_ (Or.inl ⟨?_, ?_⟩) (by assumption) ?_; rotate_left 2; (· (simp only [List.getElem?_toArray, List.getElem?_cons_succ, List.getElem?_cons_zero]; first | done | rfl)); (· exact (fun _ _ _ h => h)); (· rfl); (· (intro w hSw; (try dsimp only at hSw); go_simp; (try with_reducible rfl))))
        (try simp only [Act.put, List.setIfInBounds_toArray, List.set_cons_zero, List.set_cons_succ])
        (refine wpAnyH_take (i := 15) (oi := ?_) (v := ?_) ?_ (by kernel_rfl) (by kernel_rfl) (by kernel_rfl) ?_ (Or.inl ⟨?_, ?_⟩) (by assumption) ?_; rotate_left 2; (· (simp only [List.getElem?_toArray, List.getElem?_cons_succ, List.getElem?_cons_zero]; first | done | rfl)); (· exact (fun _ _ _ h => h)); (· rfl); (· (intro w hSw; (try dsimp only at hSw); go_simp; (try with_reducible rfl))))
        (try simp only [Act.put, List.setIfInBounds_toArray, List.set_cons_zero, List.set_cons_succ])
        (refine wpAnyH_take (i := 16) (oi := ?_) (v := ?_) ?_ (by kernel_rfl) (by kernel_rfl) (by kernel_rfl) ?_ (Or.inl ⟨?_, ?_⟩) (by assumption) ?_; rotate_left 2; (· (simp only [List.getElem?_toArray, List.getElem?_cons_succ, List.getElem?_cons_zero]; first | done | rfl)); (· exact (fun _ _ _ h => h)); (· rfl); (· (intro w hSw; (try dsimp only at hSw); go_simp; (try with_reducible rfl))))
        (try simp only [Act.put, List.setIfInBounds_toArray, List.set_cons_zero, List.set_cons_succ])
        (refine wpAnyH_take (i := 17) (oi := ?_) (v := ?_) ?_ (by kernel_rfl) (by kernel_rfl) (by kernel_rfl) ?_ (Or.inl ⟨?_, ?_⟩) (by assumption) ?_; rotate_left 2; (· (simp only [List.getElem?_toArray, List.getElem?_cons_succ, List.getElem?_cons_zero]; first | done | rfl)); (· exact (fun _ _ _ h => h)); (· rfl); (· (intro w hSw; (try dsimp only at hSw); go_simp; (try with_reducible rfl))))
        (try simp only [Act.put, List.setIfInBounds_toArray, List.set_cons_zero, List.set_cons_succ])
        (refine wpAnyH_take (i := 18) (oi := ?_) (v := ?_) ?_ (by kernel_rfl) (by kernel_rfl) (by kernel_rfl) ?_ (Or.inl ⟨?_, ?_⟩) (by assumption) ?_; rotate_left 2; (· (simp only [List.getElem?_toArray, List.getElem?_cons_succ, List.getElem?_cons_zero]; first | done | rfl)); (· exact (fun _ _ _ h => h)); (· rfl); (· (intro w hSw; (try dsimp only at hSw); go_simp; (try with_reducible rfl))))
        (try simp only [Act.put, List.setIfInBounds_toArray, List.set_cons_zero, List.set_cons_succ])
        (refine wpAnyH_take (i := 19) (oi := ?_) (v := ?_) ?_ (by kernel_rfl) (by kernel_rfl) (by kernel_rfl) ?_ (Or.inl ⟨?_, ?_⟩) (by assumption) ?_; rotate_left 2; (· (simp only [List.getElem?_toArray, List.getElem?_cons_succ, List.getElem?_cons_zero]; first | done | rfl)); (· exact (fun _ _ _ h => h)); (· rfl); (· (intro w hSw; (try dsimp only at hSw); go_simp; (try with_reducible rfl))))
        (try simp only [Act.put, List.setIfInBounds_toArray, List.set_cons_zero, List.set_cons_succ])
        (refine wpAnyH_take (i := 20) (oi := ?_) (v := ?_) ?_ (by kernel_rfl) (by kernel_rfl) (by kernel_rfl) ?_ (Or.inl ⟨?_, ?_⟩) (by assumption) ?_; rotate_left 2; (· (simp only [List.getElem?_toArray, List.getElem?_cons_succ, List.getElem?_cons_zero]; first | done | rfl)); (· exact (fun _ _ _ h => h)); (· rfl); (· (intro w hSw; (try dsimp only at hSw); go_simp; (try with_reducible rfl))))
        (try simp only [Act.put, List.setIfInBounds_toArray, List.set_cons_zero, List.set_cons_succ])
        refine wpAnyH_ready (rs := [21]) (by kernel_rfl) (by simp) ?_
        refine AllReadyH.cons (o := ?_) ?_ (fun K hK => ?_) AllReadyH.nil
        rotate_left 1
        · (simp only [List.getElem?_toArray, List.getElem?_cons_succ, List.getElem?_cons_zero]; first | done | rfl)
        go_simp
        first | (refine hK.out _ _ ?_ (fun hq2 => ?_)) | ((go_at_call 100; (first | (with_reducible refine (HI1.out _).mono ?_) | (with_reducible refine (HI2.out _).mono ?_)); rintro e w7 ⟨rfl, hb7⟩); refine hK.out _ _ ?_ (fun hq2 => ?_)) | ((go_at_call 100; (first | (with_reducible refine (HI1.out _).mono ?_) | (with_reducible refine (HI2.out _).mono ?_)); rintro e w7 ⟨rfl, hb7⟩); go_wp2_with fail; refine hK.out _ _ ?_ (fun hq2 => ?_)) | fail
        · ((try dsimp only); (first | exact HST.out | assumption | exact nd_below (by assumption) (by assumption)))
        clear hK K
        (try simp only [Act.put, List.setIfInBounds_toArray, List.set_cons_zero, List.set_cons_succ])
        clear hq1
        (refine wpAnyH_take (i := 22) (oi := ?_) (v := ?_) ?_ (by kernel_rfl) (by kernel_rfl) (by kernel_rfl) ?_ (Or.inl ⟨?_, ?_⟩) (by assumption) ?_; rotate_left 2; (· (simp only [List.getElem?_toArray, List.getElem?_cons_succ, List.getElem?_cons_zero]; first | done | rfl)); (· exact (fun _ _ _ h => h)); (· rfl); (· (intro w hSw; (try dsimp only at hSw); go_simp; (try with_reducible rfl))))
        (try simp only [Act.put, List.setIfInBounds_toArray, List.set_cons_zero, List.set_cons_succ])
        (refine wpAnyH_take (i := 23) (oi := ?_) (v := ?_) ?_ (by kernel_rfl) (by kernel_rfl) (by kernel_rfl) ?_ (Or.inl ⟨?_, ?_⟩) (by assumption) ?_; rotate_left 2; (· (simp only [List.getElem?_toArray, List.getElem?_cons_succ, List.getElem?_cons_zero]; first | done | rfl)); (· exact (fun _ _ _ h => h)); (· rfl); (· (intro w hSw; (try dsimp only at hSw); go_simp; (try with_reducible rfl))))
        (try simp only [Act.put, List.setIfInBounds_toArray, List.set_cons_zero, List.set_cons_succ])
        (refine wpAnyH_take (i := 24) (oi := ?_) (v := ?_) ?_ (by kernel_rfl) (by kernel_rfl) (by kernel_rfl) ?_ (Or.inl ⟨?_, ?_⟩) (by assumption) ?_; rotate_left 2; (· (simp only [List.getElem?_toArray, List.getElem?_cons_succ, List.getElem?_cons_zero]; first | done | rfl)); (· exact (fun _ _ _ h => h)); (· rfl); (· (intro w hSw; (try dsimp only at hSw); go_simp; (try with_reducible rfl))))
        (try simp only [Act.put, List.setIfInBounds_toArray, List.set_cons_zero, List.set_cons_succ])
        refine wpAnyH_done (by kernel_rfl) ?_ _
        go_wp2_with fail
        exact ⟨⟨k + 1, by omega, by go_num, Lib.hid (by rw [needN, HP.out, HRO.out]; rfl), btrans HBR.out (nd_own (by assumption))⟩, by simp [intOf]; go_num⟩
    · obtain rfl : k = L.length := by omega
      have q1 : ¬ ((L.length : Nat) : Int) < (L.length : Int) := by omega
      go_wp2_with fail
      go_ret
      exact ⟨ret_bool HP.out.symm, HBR.out⟩
end Go.Proofs.YtnccpddjdgndcaaGreatDoor.Val
end

section
/- THE WALK OF filter.Norm. -/
namespace Go.Proofs.YtnccpddjdgndcaaGreatDoor.Val
open Go.RowKit Flt
/-- what is kept of the first k -/
def keepC (S : List C) : Nat → List C
  | 0 => []
  | k + 1 => keepC S k ++ (if needB S k then [] else [S[k]!])
def sortC (L : List C) : List C := isort L (L.length - 1)
/-- what a filter's conditions are brought to -/
def normL (L : List C) : List C := keepC (sortC (L.map canonC)) L.length
theorem keepC_len (S : List C) : ∀ k, (keepC S k).length ≤ k
  | 0 => Nat.le_refl _
  | k + 1 => by
    have := keepC_len S k
    rw [keepC, List.length_append]
    split <;> simp <;> omega
theorem info_cond : (Tryz.prog.info? 41).map (fun i => (i.zero, i.size, i.bytes)) = some (some (.agg #[.string .empty, .int .i64 0, .int .i64 0, .int .i64 0, .float .f64 0, .string .empty, .bool false]), 7, 72) := by kernel_rfl
theorem new_cond (w : World) (g : Nat) (hg : g = w.heap.size) (c : C) (e : TypeId) : ∀ j u, (flatC [c])[j]? = some u → (w.alloc (.cells #[.string ⟨c.name.toArray⟩, .int .i64 c.op, .int .i64 c.val.kind, .int .i64 c.val.int, .float .f64 c.val.num, .string ⟨c.val.text.toArray⟩, .bool c.val.yes] e)).cell? ((⟨g, 0, none⟩ : Addr).add j) = some u := by
  subst hg
  intro j u hj
  have hadd : (⟨w.heap.size, 0, none⟩ : Addr).add j = ⟨w.heap.size, j, none⟩ := by unfold Addr.add; split <;> simp_all
  rw [hadd]
  simpa [flatC, cells7, go_sem] using hj
theorem canon_small {c : C} (h : CSmall c ∧ 0 ≤ c.op ∧ c.op ≤ 7) : CSmall (canonC c) ∧ 0 ≤ (canonC c).op ∧ (canonC c).op ≤ 7 := by
  obtain ⟨nm, op, k, n, x, t, y⟩ := c
  obtain ⟨⟨h1, h2, h3, h4, h5⟩, h6, h7⟩ := h
  simp only at h1 h2 h3 h4 h5 h6 h7
  unfold canonC
  split
  · exact ⟨⟨h1, by show 0 ≤ _; omega, by show 0 < _; omega, by show _ ≤ (0 : Int); omega, by show (0 : Int) ≤ _; omega⟩, by show (0 : Int) ≤ 7; omega, by show (7 : Int) ≤ 7; omega⟩
  · have hv : (canonV ⟨k, n, x, t, y⟩).text.length ≤ 1000 ∧ (canonV ⟨k, n, x, t, y⟩).num < 18446744073709551616 ∧ -9223372036854775808 ≤ (canonV ⟨k, n, x, t, y⟩).int ∧ (canonV ⟨k, n, x, t, y⟩).int ≤ 9223372036854775807 := by
      unfold canonV
      split
      · exact ⟨by show 0 ≤ _; omega, by show 0 < _; omega, h4, h5⟩
      · split
        · exact ⟨by show 0 ≤ _; omega, canon_lt x h3, by show _ ≤ (0 : Int); omega, by show (0 : Int) ≤ _; omega⟩
        · split
          · exact ⟨h2, by show 0 < _; omega, by show _ ≤ (0 : Int); omega, by show (0 : Int) ≤ _; omega⟩
          · split <;> exact ⟨by show 0 ≤ _; omega, by show 0 < _; omega, by show _ ≤ (0 : Int); omega, by show (0 : Int) ≤ _; omega⟩
    exact ⟨⟨h1, hv.1, hv.2.1, hv.2.2.1, hv.2.2.2⟩, h6, h7⟩
theorem own_conds {w : World} {v : Value} {l : List C} {base : Nat} (h : w.ownsRow base 41 7 v l.length (flatC l)) :
    ∃ b0 cap, v = .slice b0 l.length cap ∧ Conds w b0 l := by
  rcases h.2 with ⟨rfl, h0⟩ | ⟨g, cp, cur, rfl, hb, hg, hh⟩
  · have : l = [] := List.eq_nil_of_length_eq_zero h0
    subst this
    exact ⟨none, 0, rfl, fun i hi => absurd hi (Nat.not_lt_zero _)⟩
  · refine ⟨some ⟨g, 0, none⟩, cp, rfl, fun i hi => ⟨_, rfl, ?_⟩⟩
    have k : ∀ j (hj : j < 7), w.cell? ⟨g, i * 7 + j, none⟩ = (cells7 l[i])[j]? := by
      intro j hj
      have hl := flatC_len l
      have hm := flatC_at l i j hi hj
      have hc : (cells7 l[i])[j]? = some ((cells7 l[i])[j]'(by simpa [cells7] using hj)) := by simp
      rw [hc] at hm ⊢
      have := h.cells rfl (i * 7 + j) _ hm
      have hadd : (⟨g, 0, none⟩ : Addr).add (i * 7 + j) = ⟨g, i * 7 + j, none⟩ := by unfold Addr.add; split <;> simp_all
      rw [← hadd]; exact this
    have hadd : (⟨g, 0, none⟩ : Addr).add (i * 7) = ⟨g, i * 7, none⟩ := by unfold Addr.add; split <;> simp_all
    rw [hadd]
    exact ⟨k 0 (by decide), k 1 (by decide), k 2 (by decide), k 3 (by decide), k 4 (by decide), k 5 (by decide), k 6 (by decide)⟩
theorem own_low7 {W W2 : World} {base e size : Nat} {v : Value} {n : Nat} {xs : List Value} (h : W.ownsRow base e size v n xs) (hb : Below W.heap.size W W2) : W2.ownsRow base e size v n xs :=
  Fmt.own_low h hb (fun k hk => (h.lt k hk).2)
/-- a row of the call's own, as a row of conditions -/
theorem own_row {w : World} {v : Value} {l : List C} {base : Nat} (h : w.ownsRow base 41 7 v l.length (flatC l)) (h0 : 0 < l.length) :
    ∃ g cap Z, v = .slice (some ⟨g, 0, none⟩) l.length cap ∧ base ≤ g ∧ Row w g l Z := by
  rcases h.2 with ⟨_, h1⟩ | ⟨g, cp, cur, rfl, hb, hg, _, _, hsz, ht⟩
  · omega
  · refine ⟨g, cp, cur.toList.drop (l.length * 7), rfl, hb, ?_⟩
    unfold Row
    rw [hg]
    refine congrArg (fun z => some (Obj.cells z 41 (0, 0))) (Array.ext' ?_)
    show cur.toList = flatC l ++ cur.toList.drop (l.length * 7)
    rw [← ht, List.take_append_drop]
attribute [local go_sem] run_store_flt
set_option maxRecDepth 20000 in
set_option maxHeartbeats 4000000 in
theorem norm_any (sf : List UInt8) (a0 : Option Addr) (cap : Nat) (L : List C) (w : World) (hl : Conds w a0 L) (hlm : L.length ≤ 19) (hw : Words w) (hT : Tab.Tabs w) (hs : ∀ c ∈ L, CSmall c ∧ 0 ≤ c.op ∧ c.op ≤ 7) :
    Calls Tryz.prog 45 #[ev sf a0 L.length cap] w fun e w' =>
      ∃ b0 cp, e = .returned (ev sf b0 (normL L).length cp) ∧ Conds w' b0 (normL L) ∧ Below w.heap.size w w' := by
  have HL := Lib.hid hl; have HW := Lib.hid hw; have HT := Lib.hid hT; have HS := Lib.hid hs
  clear hl hw hT hs
  obtain ⟨i0, hi, hz0, hz1, hz2⟩ := info_parts info_cond
  generalize hNN : normL L = N
  have HNN := Lib.hid hNN; clear hNN
  go_enter Tryz.func45, Tryz.ntmps45
  go_wp2_with fail
  have hW0 : Below w.heap.size w ((w.alloc (.cells #[.string ⟨sf.toArray⟩, .slice a0 L.length cap] 35)).alloc (.cells #[.string ⟨#[]⟩, .slice none 0 0] 35)) := balloc2 _ _ _
  have hsz0 : ((w.alloc (.cells #[.string ⟨sf.toArray⟩, .slice a0 L.length cap] 35)).alloc (.cells #[.string ⟨#[]⟩, .slice none 0 0] 35)).heap.size = w.heap.size + 2 := by simp
  have e0 : ∀ o, ((w.alloc (.cells #[.string ⟨sf.toArray⟩, .slice a0 L.length cap] 35)).alloc (.cells #[.string ⟨#[]⟩, .slice none 0 0] 35)).cell? ⟨w.heap.size, o, none⟩ = #[.string ⟨sf.toArray⟩, .slice a0 L.length cap][o]? := fun o => ((balloc (w.alloc (.cells #[.string ⟨sf.toArray⟩, .slice a0 L.length cap] 35)) _).cell (p := ⟨w.heap.size, o, none⟩) (by simp)).trans (World.cell?_alloc_at _ _ _ _ rfl)
  have e1 : ∀ o, ((w.alloc (.cells #[.string ⟨sf.toArray⟩, .slice a0 L.length cap] 35)).alloc (.cells #[.string ⟨#[]⟩, .slice none 0 0] 35)).cell? ⟨w.heap.size + 1, o, none⟩ = #[.string ⟨#[]⟩, .slice none 0 0][o]? := fun o => World.cell?_alloc_at _ _ _ _ (by simp)
  have e2 : ∀ o, ((w.alloc (.cells #[.string ⟨sf.toArray⟩, .slice a0 L.length cap] 35)).alloc (.cells #[.string ⟨#[]⟩, .slice none 0 0] 35)).frozen? ⟨w.heap.size + 1, o, none⟩ = false := fun o => by simp [go_sem]
  have x0 : ((w.alloc (.cells #[.string ⟨sf.toArray⟩, .slice a0 L.length cap] 35)).alloc (.cells #[.string ⟨#[]⟩, .slice none 0 0] 35)).cell? ⟨w.heap.size, 0, none⟩ = some (.string ⟨sf.toArray⟩) := e0 0
  have x1 : ((w.alloc (.cells #[.string ⟨sf.toArray⟩, .slice a0 L.length cap] 35)).alloc (.cells #[.string ⟨#[]⟩, .slice none 0 0] 35)).cell? ⟨w.heap.size, 1, none⟩ = some (.slice a0 L.length cap) := e0 1
  have x2 : ((w.alloc (.cells #[.string ⟨sf.toArray⟩, .slice a0 L.length cap] 35)).alloc (.cells #[.string ⟨#[]⟩, .slice none 0 0] 35)).cell? ⟨w.heap.size + 1, 0, none⟩ = some (.string ⟨#[]⟩) := e1 0
  have x3 : ((w.alloc (.cells #[.string ⟨sf.toArray⟩, .slice a0 L.length cap] 35)).alloc (.cells #[.string ⟨#[]⟩, .slice none 0 0] 35)).cell? ⟨w.heap.size + 1, 1, none⟩ = some (.slice none 0 0) := e1 1
  have x4 := e2 0; have x5 := e2 1
  have HX := Lib.hid (And.intro x0 (And.intro x1 (And.intro x2 (And.intro x3 (And.intro x4 x5)))))
  have HW0 := Lib.hid hW0; have HSZ0 := Lib.hid hsz0
  clear e0 e1 e2 x0 x1 x2 x3 x4 x5 hW0 hsz0
  generalize World.alloc _ _ = W0 at *
  go_loopw [3, 12] (fun vl vi wr => ∃ (k : Nat) (v : Value), k ≤ L.length ∧ vl = v ∧ vi = .int .i64 k ∧ wr.ownsRow W0.heap.size 41 7 v ((L.take k).map canonC).length (flatC ((L.take k).map canonC)) ∧ Below W0.heap.size W0 wr) (fun _ vi _ => L.length - (intOf vi).toNat)
  case atStart => exact ⟨0, _, Nat.zero_le _, rfl, rfl, World.ownsRow_nil _ _ _ _, Below.refl _ _⟩
  case round =>
    obtain ⟨k, v, hk, rfl, rfl, hown, hbr⟩ := hrel
    have OWN := Lib.hid hown; have HBR := Lib.hid hbr
    have hbw : Below w.heap.size w wr := btrans HW0.out hbr
    have hlen : ((L.take k).map canonC).length = k := by rw [List.length_map, List.length_take]; omega
    have HLEN := Lib.hid hlen
    clear hown hlen
    by_cases hlt : k < L.length
    · have i1 : (k : Int) < (L.length : Int) := by omega
      have i0' : (0 : Int) ≤ (k : Int) := by omega
      obtain ⟨a, rfl, v0, v1, v2, v3, v4, v5, v6⟩ := (HL.out.below hbw) k hlt
      have hni (W : World) := ccanon_any (L[k]'hlt).name (L[k]'hlt).op (L[k]'hlt).val.kind (L[k]'hlt).val.int (L[k]'hlt).val.num (L[k]'hlt).val.text (L[k]'hlt).val.yes W
      have e : canonC ⟨(L[k]'hlt).name, (L[k]'hlt).op, (L[k]'hlt).val.kind, (L[k]'hlt).val.int, (L[k]'hlt).val.num, (L[k]'hlt).val.text, (L[k]'hlt).val.yes⟩ = canonC (L[k]'hlt) := rfl
      rw [e] at hni
      clear e
      have hstep : (L.take (k + 1)).map canonC = (L.take k).map canonC ++ [canonC (L[k]'hlt)] := by rw [List.take_succ_eq_append_getElem hlt, List.map_append]; rfl
      generalize canonC (L[k]'hlt) = cn at *
      generalize (L[k]'hlt) = x at *
      have HN := Lib.hid hni; have HSTEP := Lib.hid hstep
      clear hni hstep hbr hbw
      obtain ⟨cn1, cn2, cn3, cn4, cn5, cn6, cn7⟩ := cn
      go_wp2_with (first
        | (go_at_call 24; refine (HN.out _).mono ?_; rintro e w3 ⟨rfl, hb3⟩; have HB3 := Lib.hid hb3; have OWN3 := Lib.hid (own_low7 (OWN.out.alloc _) hb3); clear hb3)
        | (at_builtin; refine wpList_append_own _ rfl _ _ 33 rfl W0.heap.size 41 i0 (.agg #[.string .empty, .int .i64 0, .int .i64 0, .int .i64 0, .float .f64 0, .string .empty, .bool false]) 7 72 Tryz.underlying33 hi hz0 hz1 hz2 rfl (by decide) _ _ _ rfl (OWN3.out.alloc _) ⟨w3.heap.size, 0, none⟩ 1 1 (flatC [⟨cn1, cn2, cn3, cn4, cn5, cn6, cn7⟩]) rfl rfl ?news (flatC_one _) (by unfold maxLen; have := HLEN.out; omega) (by have := HLEN.out; omega) (by have := HB3.out.size; have := HBR.out.size; simp at *; omega) ?_; rotate_left; (case news => exact new_cond w3 _ rfl _ _); intro v' w4 hown' hgrow3 hnil3)
        | fail)
      have hb4 : Below W0.heap.size W0 w4 := Below.grown (btrans (btrans HBR.out (btrans (balloc _ _) HB3.out)) (balloc _ _)) hgrow3 (by have := HB3.out.size; have := HBR.out.size; simp at *; omega) (fun q hq => (OWN3.out.lt q hq).1)
      refine ⟨⟨k + 1, v', by omega, rfl, by go_num, ?_, hb4⟩, by simp [intOf]; go_num⟩
      rw [HSTEP.out, List.length_append, flatC_app]
      exact hown'
    · obtain rfl : k = L.length := by omega
      have own := OWN.out
      rw [List.take_length] at own
      clear OWN HLEN
      have hsl : (L.map canonC).length = L.length := List.length_map ..
      have HBW := Lib.hid hbw
      clear hbr hbw
      by_cases hL0 : 0 < L.length
      · obtain ⟨g, cp, Z, rfl, hgb, hrow⟩ := own_row own (by rw [hsl]; exact hL0)
        have HSZW := HSZ0.out
        have hsm : ∀ c ∈ L.map canonC, CSmall c ∧ 0 ≤ c.op ∧ c.op ≤ 7 := fun c hc => by
          obtain ⟨d, hd, rfl⟩ := List.mem_map.1 hc
          exact canon_small (HS.out d hd)
        have hso := sort_any (L.map canonC) Z g cp w wr HW.out HT.out (by omega) HBW.out hrow (fun c hc => (hsm c hc).1) (by rw [hsl]; exact hlm) (by rw [hsl]; exact hL0)
        have hSl : (sortC (L.map canonC)).length = L.length := by unfold sortC; rw [isort_len, hsl]
        have hSm : ∀ c ∈ sortC (L.map canonC), CSmall c ∧ 0 ≤ c.op ∧ c.op ≤ 7 := fun c hc => hsm c (isort_mem _ _ (by rw [hsl]; omega) c hc)
        have hnorm : normL L = keepC (sortC (L.map canonC)) L.length := rfl
        have hsc : sortC (L.map canonC) = isort (L.map canonC) ((L.map canonC).length - 1) := rfl
        rw [← hsc] at hso
        rw [hsl] at hso ⊢
        have hN2 := HNN.out
        rw [hnorm] at hN2
        generalize sortC (L.map canonC) = S at *
        have HSO := Lib.hid hso; have HSM := Lib.hid hSm; have HSL := Lib.hid hSl; have HN2 := Lib.hid hN2
        clear hN2 hso hSm hSl hsm hnorm hsc own hrow HSZW
        go_wp2_with fail
        refine HSO.out.mono ?_
        rintro e w5 ⟨rfl, hrow5, hb5⟩
        have hb05 : Below W0.heap.size W0 w5 := HBR.out.trans (hb5.mono hgb)
        obtain ⟨x0, x1, x2, x3, x4, x5⟩ := HX.out
        have hcl : ∀ b o, b < W0.heap.size → w5.cell? ⟨b, o, none⟩ = W0.cell? ⟨b, o, none⟩ := fun b o h => hb05.cell (p := ⟨b, o, none⟩) h
        have hfl : ∀ b o, b < W0.heap.size → w5.frozen? ⟨b, o, none⟩ = W0.frozen? ⟨b, o, none⟩ := fun b o h => hb05.frozen (p := ⟨b, o, none⟩) h
        have hz := HSZ0.out
        replace x0 := (hcl _ _ (by omega)).trans x0
        replace x1 := (hcl _ _ (by omega)).trans x1
        replace x2 := (hcl _ _ (by omega)).trans x2
        replace x3 := (hcl _ _ (by omega)).trans x3
        replace x4 := (hfl _ _ (by omega)).trans x4
        replace x5 := (hfl _ _ (by omega)).trans x5
        have hsz5 := hb05.size
        have hw5 : w.heap.size < w5.heap.size := by omega
        have hw51 : w.heap.size + 1 < w5.heap.size := by omega
        have hg5 : g < w5.heap.size := hrow5.lt
        have hgw : w.heap.size + 1 < g := by omega
        have HROW5 := Lib.hid hrow5; have HB05 := Lib.hid hb05; have HGW := Lib.hid hgw
        clear hrow5 hb5 hb05 hcl hfl hz hsz5 hgw HSO HBR HBW HX HSZ0
        go_wp2_with fail
        have HF5 := Lib.hid (And.intro x2 (And.intro x3 (And.intro x4 x5)))
        clear x0 x1 x2 x3 x4 x5
        go_loopw [29] (fun vi wr => ∃ (kk : Nat) (v : Value), kk ≤ L.length ∧ vi = .int .i64 kk ∧ wr.cell? ⟨w5.heap.size, 0, none⟩ = some (.string ⟨sf.toArray⟩) ∧ wr.cell? ⟨w5.heap.size, 1, none⟩ = some v ∧ wr.frozen? ⟨w5.heap.size, 1, none⟩ = false ∧
          wr.ownsRow (w5.heap.size + 1) 41 7 v (keepC S kk).length (flatC (keepC S kk)) ∧ w5.heap.size + 1 ≤ wr.heap.size ∧ Below w5.heap.size w5 wr) (fun vi _ => L.length - (intOf vi).toNat)
        case atStart => refine ⟨0, .slice none 0 0, Nat.zero_le _, rfl, ?_, ?_, ?_, World.ownsRow_nil _ _ _ _, ?_, balloc _ _⟩ <;> simp [go_sem]
        case round =>
          obtain ⟨kk, v, hk, rfl, o0, o1, ofz, hown, hsz, hbr⟩ := hrel
          have hne : w5.heap.size < wr.heap.size := by omega
          have OWN := Lib.hid hown
          clear hown
          have hkl := keepC_len S kk
          by_cases hlt : kk < L.length
          · have i1 : (kk : Int) < (L.length : Int) := by omega
            have i0' : (0 : Int) ≤ (kk : Int) := by omega
            have hkS : kk < S.length := by rw [HSL.out]; exact hlt
            have hrow : Row wr g S Z := HROW5.out.below hbr hg5
            obtain ⟨v0, v1, v2, v3, v4, v5, v6⟩ := hrow.cat kk hkS
            have hnd (W : World) (h : Row W g S Z) := needless_any S Z g cp kk W h hkS (by rw [HSL.out]; omega) (fun c hc => ⟨(HSM.out c hc).2.1, (HSM.out c hc).2.2, (HSM.out c hc).1.2.2.1⟩)
            rw [HSL.out] at hnd
            have hks : keepC S (kk + 1) = keepC S kk ++ (if needB S kk then [] else [S[kk]'hkS]) := by rw [keepC, getElem!_pos S kk hkS]
            generalize (S[kk]'hkS) = x at *
            obtain ⟨cn1, cn2, cn3, cn4, cn5, cn6, cn7⟩ := x
            simp only at v0 v1 v2 v3 v4 v5 v6
            have HND := Lib.hid hnd; have HKS := Lib.hid hks; have HROWR := Lib.hid hrow; have HBR2 := Lib.hid hbr
            clear hnd hks hrow hbr
            have hgr : g < wr.heap.size := HROWR.out.lt
            cases hn : needB S kk
            · rw [hn] at HND HKS
              clear hn
              go_wp2_with (first
                | (go_at_call 69; refine (HND.out _ (HROWR.out.below (balloc _ _) HROWR.out.lt)).mono ?_; rintro e w6 ⟨rfl, hb6⟩; have HB6 := Lib.hid hb6; obtain ⟨hc6, hf6⟩ := bcell hb6)
                | (at_builtin; refine wpList_append_own _ rfl _ _ 33 rfl (w5.heap.size + 1) 41 i0 (.agg #[.string .empty, .int .i64 0, .int .i64 0, .int .i64 0, .float .f64 0, .string .empty, .bool false]) 7 72 Tryz.underlying33 hi hz0 hz1 hz2 rfl (by decide) v _ _ rfl ((own_low7 (OWN.out.alloc _) HB6.out).alloc _) ⟨w6.heap.size, 0, none⟩ 1 1 (flatC [⟨cn1, cn2, cn3, cn4, cn5, cn6, cn7⟩]) rfl rfl ?news (flatC_one _) (by unfold maxLen; omega) (by omega) (by have := HB6.out.size; simp at *; omega) ?_; rotate_left; (case news => exact new_cond w6 _ rfl _ _); intro v' w4 hown' hgrow3 hnil3; have hb7 := btrans (btrans (balloc wr (.cells #[.string ⟨cn1.toArray⟩, .int .i64 cn2, .int .i64 cn3, .int .i64 cn4, .float .f64 cn5, .string ⟨cn6.toArray⟩, .bool cn7] 41)) HB6.out) (balloc w6 (.cells #[.string ⟨cn1.toArray⟩, .int .i64 cn2, .int .i64 cn3, .int .i64 cn4, .float .f64 cn5, .string ⟨cn6.toArray⟩, .bool cn7] 41)); have hsz7 := hb7.size; have hg1 := hgrow3.block w5.heap.size (by omega) (fun h => by have := (OWN.out.lt _ h.symm).1; omega); have p0 := (World.cell?_of_block (a := ⟨w5.heap.size, 0, none⟩) hg1).trans ((hb7.cell (p := ⟨w5.heap.size, 0, none⟩) hne).trans o0); have p1 := (World.cell?_of_block (a := ⟨w5.heap.size, 1, none⟩) hg1).trans ((hb7.cell (p := ⟨w5.heap.size, 1, none⟩) hne).trans o1); have pfz := (World.frozen?_of_block (a := ⟨w5.heap.size, 1, none⟩) hg1).trans ((hb7.frozen (p := ⟨w5.heap.size, 1, none⟩) hne).trans ofz); have hb4 : Below w5.heap.size w5 w4 := Below.grown (HBR2.out.trans (hb7.mono (Nat.le_of_lt hne))) hgrow3 (by omega) (fun q hq => by have := (OWN.out.lt q hq).1; omega); have hsz4 : w5.heap.size + 1 ≤ w4.heap.size := (by have := hgrow3.size; omega); have hown2 : w4.ownsRow (w5.heap.size + 1) 41 7 v' (keepC S kk ++ [(⟨cn1, cn2, cn3, cn4, cn5, cn6, cn7⟩ : C)]).length (flatC (keepC S kk ++ [(⟨cn1, cn2, cn3, cn4, cn5, cn6, cn7⟩ : C)])) := (by rw [flatC_app, List.length_append]; exact hown'); obtain ⟨b1, cp1, hv1, _⟩ := own_conds hown2; subst hv1; have OWN4 := Lib.hid hown2; have HB4 := Lib.hid hb4; clear hown' hown2 hgrow3 hnil3 hb7 hg1 hb4 hc6 hf6)
                | fail)
              refine ⟨⟨kk + 1, _, by omega, by go_num, (World.cell?_setCell_other _ _ _ _ (by simp)).trans p0, World.cell?_setCell_same _ _ _ p1, by rw [World.frozen?_setCell]; exact pfz, ?_, by simpa [World.setCell] using hsz4, HB4.out.setCell (Nat.le_refl _) _⟩, by simp [intOf]; go_num⟩
              have o4 := OWN4.out
              rw [HKS.out]
              have el : (keepC S kk ++ [(⟨cn1, cn2, cn3, cn4, cn5, cn6, cn7⟩ : C)]).length = (keepC S kk).length + 1 := by simp
              rw [el] at o4
              show World.ownsRow _ _ _ _ _ (keepC S kk ++ [(⟨cn1, cn2, cn3, cn4, cn5, cn6, cn7⟩ : C)]).length (flatC (keepC S kk ++ [(⟨cn1, cn2, cn3, cn4, cn5, cn6, cn7⟩ : C)]))
              rw [el]
              exact ownsRow_setCell_below (a := ⟨w5.heap.size, 1, none⟩) o4 (by show w5.heap.size < w5.heap.size + 1; omega) _
            · rw [hn] at HND HKS
              clear hn
              go_wp2_with (first
                | (go_at_call 69; refine (HND.out _ (HROWR.out.below (balloc _ _) HROWR.out.lt)).mono ?_; rintro e w6 ⟨rfl, hb6⟩; have HB6 := Lib.hid hb6; obtain ⟨hc6, hf6⟩ := bcell hb6)
                | fail)
              have hb8 := btrans (balloc wr (.cells #[.string ⟨cn1.toArray⟩, .int .i64 cn2, .int .i64 cn3, .int .i64 cn4, .float .f64 cn5, .string ⟨cn6.toArray⟩, .bool cn7] 41)) HB6.out
              refine ⟨⟨kk + 1, v, by omega, by go_num, (hb8.cell (p := ⟨w5.heap.size, 0, none⟩) hne).trans o0, (hb8.cell (p := ⟨w5.heap.size, 1, none⟩) hne).trans o1, (hb8.frozen (p := ⟨w5.heap.size, 1, none⟩) hne).trans ofz, ?_, Nat.le_trans hsz hb8.size, HBR2.out.trans (hb8.mono (Nat.le_of_lt hne))⟩, by simp [intOf]; go_num⟩
              rw [HKS.out]
              simpa using own_low7 OWN.out hb8
          · obtain rfl : kk = L.length := by omega
            have i1 : ¬ ((L.length : Nat) : Int) < (L.length : Int) := by omega
            have own2 := OWN.out
            rw [HN2.out] at own2
            clear OWN hkl
            obtain ⟨y2, y3, y4, y5⟩ := HF5.out
            have hgw := HGW.out
            have z2 := (hbr.cell (p := ⟨w.heap.size + 1, 0, none⟩) hw51).trans y2
            have z3 := (hbr.cell (p := ⟨w.heap.size + 1, 1, none⟩) hw51).trans y3
            have z4 := (hbr.frozen (p := ⟨w.heap.size + 1, 0, none⟩) hw51).trans y4
            have z5 := (hbr.frozen (p := ⟨w.heap.size + 1, 1, none⟩) hw51).trans y5
            have hbw2 : Below w.heap.size w wr := (HW0.out.trans (HB05.out.mono HW0.out.size)).trans (hbr.mono (by omega))
            obtain ⟨b0, cp0, rfl, hcn⟩ := own_conds own2
            clear y2 y3 y4 y5
            go_wp2
            have e0 : ((wr.setCell ⟨w.heap.size + 1, 0, none⟩ (.string ⟨sf.toArray⟩)).setCell ⟨w.heap.size + 1, 1, none⟩ (.slice b0 N.length cp0)).cell? ⟨w.heap.size + 1, 0, none⟩ = some (.string ⟨sf.toArray⟩) := (World.cell?_setCell_other _ _ _ _ (by simp)).trans (World.cell?_setCell_same _ _ _ z2)
            have e1 : ((wr.setCell ⟨w.heap.size + 1, 0, none⟩ (.string ⟨sf.toArray⟩)).setCell ⟨w.heap.size + 1, 1, none⟩ (.slice b0 N.length cp0)).cell? ⟨w.heap.size + 1, 1, none⟩ = some (.slice b0 N.length cp0) := World.cell?_setCell_same _ _ _ ((World.cell?_setCell_other _ _ _ _ (by simp)).trans z3)
            have ow := ownsRow_setCell_below (a := ⟨w.heap.size + 1, 1, none⟩) (ownsRow_setCell_below (a := ⟨w.heap.size + 1, 0, none⟩) own2 (by show w.heap.size + 1 < w5.heap.size + 1; omega) (.string ⟨sf.toArray⟩)) (by show w.heap.size + 1 < w5.heap.size + 1; omega) (.slice b0 N.length cp0)
            have hbb := (hbw2.setCell (p := ⟨w.heap.size + 1, 0, none⟩) (by simp) (.string ⟨sf.toArray⟩)).setCell (p := ⟨w.heap.size + 1, 1, none⟩) (by simp) (.slice b0 N.length cp0)
            generalize World.setCell _ _ _ = W2 at *
            refine bodyPost_ret (v := ev sf b0 N.length cp0) (by simp [results, Tryz.results45, go_sem, e0, e1]; try rfl) rfl ?_
            obtain ⟨b1, cp1, he, hat2⟩ := own_conds ow
            cases he
            exact ⟨b0, ⟨cp0, rfl⟩, hat2, hbb⟩
      · obtain rfl : L = [] := List.length_eq_zero_iff.1 (by omega)
        obtain ⟨a1, cp1, rfl, _⟩ := own_conds own
        have hN2 : N = [] := HNN.out.symm
        subst hN2
        go_wp2_with fail
        refine (sort_none _ _ _).mono ?_
        rintro e w5 ⟨rfl, hb5⟩
        have hb05 : Below W0.heap.size W0 w5 := btrans HBR.out hb5
        obtain ⟨x0, x1, x2, x3, x4, x5⟩ := HX.out
        have hcl : ∀ b o, b < W0.heap.size → w5.cell? ⟨b, o, none⟩ = W0.cell? ⟨b, o, none⟩ := fun b o h => hb05.cell (p := ⟨b, o, none⟩) h
        have hfl : ∀ b o, b < W0.heap.size → w5.frozen? ⟨b, o, none⟩ = W0.frozen? ⟨b, o, none⟩ := fun b o h => hb05.frozen (p := ⟨b, o, none⟩) h
        have hz := HSZ0.out
        replace x0 := (hcl _ _ (by omega)).trans x0
        replace x1 := (hcl _ _ (by omega)).trans x1
        replace x2 := (hcl _ _ (by omega)).trans x2
        replace x3 := (hcl _ _ (by omega)).trans x3
        replace x4 := (hfl _ _ (by omega)).trans x4
        replace x5 := (hfl _ _ (by omega)).trans x5
        have hsz5 := hb05.size
        have hw5 : w.heap.size < w5.heap.size := by omega
        have hw51 : w.heap.size + 1 < w5.heap.size := by omega
        have hbw5 : Below w.heap.size w w5 := HW0.out.trans (hb05.mono HW0.out.size)
        have HBW5 := Lib.hid hbw5
        clear hb5 hb05 hcl hfl hz hsz5 HBR HBW HX HSZ0 own hsl hbw5
        go_wp2_with fail
        go_loopw [29] (fun vi wr => vi = .int .i64 0 ∧ wr = w5.alloc (.cells #[.string ⟨sf.toArray⟩, .slice none 0 0] 35)) (fun _ _ => 0)
        case atStart => exact ⟨rfl, rfl⟩
        case round =>
          obtain ⟨rfl, rfl⟩ := hrel
          go_wp2_with fail
          have f0 : ((w5.setCell ⟨w.heap.size + 1, 0, none⟩ (.string ⟨sf.toArray⟩)).setCell ⟨w.heap.size + 1, 1, none⟩ (.slice none 0 0)).cell? ⟨w.heap.size + 1, 0, none⟩ = some (.string ⟨sf.toArray⟩) := (World.cell?_setCell_other _ _ _ _ (by simp)).trans (World.cell?_setCell_same _ _ _ x2)
          have f1 : ((w5.setCell ⟨w.heap.size + 1, 0, none⟩ (.string ⟨sf.toArray⟩)).setCell ⟨w.heap.size + 1, 1, none⟩ (.slice none 0 0)).cell? ⟨w.heap.size + 1, 1, none⟩ = some (.slice none 0 0) := World.cell?_setCell_same _ _ _ ((World.cell?_setCell_other _ _ _ _ (by simp)).trans x3)
          have hbb := (HBW5.out.setCell (p := ⟨w.heap.size + 1, 0, none⟩) (by simp) (.string ⟨sf.toArray⟩)).setCell (p := ⟨w.heap.size + 1, 1, none⟩) (by simp) (.slice none 0 0)
          have hlt1 : w.heap.size + 1 < ((w5.setCell ⟨w.heap.size + 1, 0, none⟩ (.string ⟨sf.toArray⟩)).setCell ⟨w.heap.size + 1, 1, none⟩ (.slice none 0 0)).heap.size := by simpa [World.setCell] using hw51
          generalize ((w5.setCell ⟨w.heap.size + 1, 0, none⟩ (.string ⟨sf.toArray⟩)).setCell ⟨w.heap.size + 1, 1, none⟩ (.slice none 0 0)) = W1 at *
          have e0 : (W1.alloc (.cells #[.string ⟨sf.toArray⟩, .slice none 0 0] 35)).cell? ⟨w.heap.size + 1, 0, none⟩ = some (.string ⟨sf.toArray⟩) := ((balloc W1 _).cell (p := ⟨w.heap.size + 1, 0, none⟩) hlt1).trans f0
          have e1 : (W1.alloc (.cells #[.string ⟨sf.toArray⟩, .slice none 0 0] 35)).cell? ⟨w.heap.size + 1, 1, none⟩ = some (.slice none 0 0) := ((balloc W1 _).cell (p := ⟨w.heap.size + 1, 1, none⟩) hlt1).trans f1
          have hbz := btrans hbb (balloc W1 (.cells #[.string ⟨sf.toArray⟩, .slice none 0 0] 35))
          generalize World.alloc _ _ = W2 at *
          refine bodyPost_ret (v := ev sf none 0 0) (by simp [results, Tryz.results45, go_sem, e0, e1]; try rfl) rfl ?_
          exact ⟨none, 0, rfl, conds_nil _ _, hbz⟩
end Go.Proofs.YtnccpddjdgndcaaGreatDoor.Val
end

section
/- THE WALK OF filter.Print, over whatever cond.Print writes. -/
namespace Go.Proofs.YtnccpddjdgndcaaGreatDoor.Val
open Go.RowKit Flt
attribute [local go_sem] run_store_flt
def fprK (sc : List UInt8) (l : List C) (pr : C → List UInt8) : Nat → List UInt8
  | 0 => sc ++ [58]
  | k + 1 => (fprK sc l pr k ++ (if k = 0 then [] else [32, 38])) ++ ([32] ++ pr l[k]!)
theorem fprK_len (sc : List UInt8) (l : List C) (pr : C → List UInt8) (B : Nat) (k : Nat) (h : ∀ i, i < k → (pr l[i]!).length ≤ B) : (fprK sc l pr k).length ≤ sc.length + 1 + k * (B + 3) := by
  induction k with
  | zero => simp [fprK]
  | succ k ih =>
    have h1 := ih (fun i hi => h i (by omega))
    have h2 := h k (by omega)
    unfold fprK
    simp only [List.length_append, List.length_cons, List.length_nil]
    have h3 : (if k = 0 then ([] : List UInt8) else [32, 38]).length ≤ 2 := by split <;> simp
    rw [Nat.succ_mul]
    omega
set_option maxHeartbeats 2000000 in
theorem fprint_any (sf : List UInt8) (a0 : Option Addr) (cap : Nat) (l : List C) (pr : C → List UInt8) (w : World) (hw : Words w) (hl : Conds w a0 l) (hlm : l.length ≤ 20) (hsf : sf.length ≤ 1000000) (hpl : ∀ c ∈ l, (pr c).length ≤ 100000)
    (hp : ∀ c ∈ l, ∀ W, Words W → Below w.heap.size w W → Calls Tryz.prog 25 #[cc c] W fun e w' => e = .returned (.string ⟨(pr c).toArray⟩) ∧ Below W.heap.size W w') :
    Calls Tryz.prog 20 #[ev sf a0 l.length cap] w fun e w' => e = .returned (.string ⟨(fprK sf l pr l.length).toArray⟩) ∧ Below w.heap.size w w' := by
  have hfl (k : Nat) (h : k ≤ l.length) : (fprK sf l pr k).length ≤ 3000100 := by
    have := fprK_len sf l pr 100000 k (fun i hi => by
      rw [getElem!_pos l i (by omega)]; exact hpl _ (List.getElem_mem _))
    have h2 : k * 100003 ≤ 20 * 100003 := Nat.mul_le_mul_right _ (by omega)
    omega
  have h0 : fprK sf l pr 0 = sf ++ [58] := rfl
  have hst (k : Nat) (h : k < l.length) : fprK sf l pr (k + 1) = (fprK sf l pr k ++ (if k = 0 then [] else [32, 38])) ++ ([32] ++ pr l[k]) := by
    conv => lhs; unfold fprK
    rw [getElem!_pos l k h]
  have HL := Lib.hid hl; have HP := Lib.hid hp; have HW := Lib.hid hw; have HFL := Lib.hid hfl; have HST := Lib.hid hst; have HPL := Lib.hid hpl
  clear hl hp hw hfl hst hpl
  generalize hF : fprK sf l pr = F at *
  have r1 : ∀ w, (Op.stringOp .add ⟨sf.toArray⟩ ⟨#[58]⟩).run Tryz.prog w = .ok (.string ⟨(F 0).toArray⟩) w := fun w => by rw [h0]; exact run_string_add_lists w sf [58] (by omega) (by simp)
  clear hF h0
  go_enter Tryz.func20, Tryz.ntmps20
  go_wp2_with fail
  have hx1 := box2_new w sf a0 l.length cap 35
  have hbw := balloc w (.cells #[.string ⟨sf.toArray⟩, .slice a0 l.length cap] 35)
  have HX1 := Lib.hid hx1; have HBW := Lib.hid hbw
  clear hx1 hbw r1
  generalize w.alloc _ = W0 at *
  go_loopw [3, 12] (fun vs vi wr => ∃ k : Nat, k ≤ l.length ∧ vs = .string ⟨(F k).toArray⟩ ∧ vi = .int .i64 k ∧ Below W0.heap.size W0 wr) (fun _ vi _ => l.length - (intOf vi).toNat)
  case atStart => exact ⟨0, Nat.zero_le _, rfl, rfl, Below.refl _ _⟩
  case round =>
    obtain ⟨k, hk, rfl, rfl, hbr⟩ := hrel
    have hbz := btrans HBW.out hbr
    have HBZ := Lib.hid hbz; have HBR := Lib.hid hbr
    clear hbz hbr
    by_cases hlt : k < l.length
    · have i1 : (k : Int) < (l.length : Int) := by omega
      have i0 : (0 : Int) ≤ (k : Int) := by omega
      have hl1 := HFL.out k hk
      have hl2 := HPL.out _ (List.getElem_mem hlt)
      have hs := HST.out k hlt
      obtain ⟨a, rfl, v0, v1, v2, v3, v4, v5, v6⟩ := (HL.out.below HBZ.out) k hlt
      have hpc := HP.out _ (List.getElem_mem hlt)
      generalize hT : F (k + 1) = T at *
      have HT := Lib.hid hT; clear hT
      generalize F k = S at *
      generalize pr l[k] = p at *
      have HPC := Lib.hid hpc
      clear hpc
      obtain ⟨y1, hy1⟩ : ∃ y, y = [32] ++ p := ⟨_, rfl⟩
      have r1 : ∀ w, (Op.stringOp .add ⟨#[32]⟩ ⟨p.toArray⟩).run Tryz.prog w = .ok (.string ⟨y1.toArray⟩) w := fun w => by rw [hy1]; exact run_string_add_lists w [32] p (by simp) (by omega)
      have l1 : y1.length = p.length + 1 := by rw [hy1]; simp
      rw [← hy1] at hs
      by_cases hk0 : k = 0
      · rw [if_pos hk0, List.append_nil] at hs
        have k0 : ¬ (0 : Int) < (k : Int) := by omega
        clear hk0
        have r2 : ∀ w, (Op.stringOp .add ⟨S.toArray⟩ ⟨y1.toArray⟩).run Tryz.prog w = .ok (.string ⟨T.toArray⟩) w := fun w => by rw [hs]; exact run_string_add_lists w S y1 (by omega) (by omega)
        clear hy1 hs l1
        go_wp2_with (go_at_call 25; refine (HPC.out _ ((HW.out.below HBZ.out).below (balloc _ _)) (btrans HBZ.out (balloc _ _))).mono ?_; rintro e w5 ⟨rfl, hb5⟩)
        exact ⟨⟨k + 1, by omega, by rw [HT.out], by go_num, btrans (btrans HBR.out (balloc _ _)) hb5⟩, by simp [intOf]; go_num⟩
      · rw [if_neg hk0] at hs
        have k0 : (0 : Int) < (k : Int) := by omega
        obtain ⟨y2, hy2⟩ : ∃ y, y = S ++ [32, 38] := ⟨_, rfl⟩
        have r2 : ∀ w, (Op.stringOp .add ⟨S.toArray⟩ ⟨#[32, 38]⟩).run Tryz.prog w = .ok (.string ⟨y2.toArray⟩) w := fun w => by rw [hy2]; exact run_string_add_lists w S [32, 38] (by omega) (by simp)
        have l2 : y2.length = S.length + 2 := by rw [hy2]; simp
        rw [← hy2] at hs
        have r3 : ∀ w, (Op.stringOp .add ⟨y2.toArray⟩ ⟨y1.toArray⟩).run Tryz.prog w = .ok (.string ⟨T.toArray⟩) w := fun w => by rw [hs]; exact run_string_add_lists w y2 y1 (by omega) (by omega)
        clear hy1 hy2 hs l1 l2
        go_wp2_with (go_at_call 25; refine (HPC.out _ ((HW.out.below HBZ.out).below (balloc _ _)) (btrans HBZ.out (balloc _ _))).mono ?_; rintro e w5 ⟨rfl, hb5⟩)
        exact ⟨⟨k + 1, by omega, by rw [HT.out], by go_num, btrans (btrans HBR.out (balloc _ _)) hb5⟩, by simp [intOf]; go_num⟩
    · obtain rfl : k = l.length := by omega
      go_wp2
      go_ret
      exact ⟨rfl, HBZ.out⟩
end Go.Proofs.YtnccpddjdgndcaaGreatDoor.Val
end
