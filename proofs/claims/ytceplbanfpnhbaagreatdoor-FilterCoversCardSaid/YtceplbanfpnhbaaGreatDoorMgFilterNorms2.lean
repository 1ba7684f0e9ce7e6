/- MERGED BY A PROGRAM OF MINE (mg.py) out of my own texts, in their order: Need, Norm, FlatA, Insert, InsertFn, Ins. -/
import Derived.Test.YtceplbanfpnhbaaGreatDoorMgFilterNorms1
import Derived.Test.YtceplbanfpnhbaaGreatDoorFmtM
import Derived.Laws.AppendOwn
import Derived.Lib.SlicesS
import Derived.Laws.CopyRow
import Derived.Laws.CopyOwn
import Derived.Lib.AppendZerosOnto
import Derived.Lib.Overlaps
import Derived.Laws.OwnMore
import Derived.Deep.RegionLaw
import Derived.Shelf.Spec.SlicesInsert

section
/- THE WALK OF filter.needless: does another condition imply one? -/
namespace Go.Proofs.YtceplbanfpnhbaaGreatDoor.Val
open Go.RowKit Flt
/-- does the k-th make the i-th needless? -/
def hit (L : List C) (i k : Nat) : Bool := !(k == i) && (impliesB L[k]! L[i]! && (decide (k < i) || !impliesB L[i]! L[k]!))
def needN (L : List C) (i : Nat) : Nat → Bool
  | 0 => false
  | k + 1 => needN L i k || hit L i k
def needB (L : List C) (i : Nat) : Bool := needN L i L.length
theorem needN_hit (L : List C) (i k n : Nat) (h : k < n) (hk : hit L i k = true) : needN L i n = true := by
  induction n with
  | zero => omega
  | succ n ih =>
    unfold needN
    by_cases e : k = n
    · subst e; rw [hk]; simp
    · rw [ih (by omega)]; rfl
theorem nd_below {x y : C} {g i : Nat} {wr w1 w2 : World} (hb : Below w1.heap.size w1 w2) (h : w1.cell? ⟨wr.heap.size, 0, none⟩ = some (.string ⟨x.name.toArray⟩) ∧ w1.cell? ⟨wr.heap.size, 1, none⟩ = some (.int .i64 x.op) ∧ w1.cell? ⟨wr.heap.size, 2, none⟩ = some (.int .i64 x.val.kind) ∧ w1.cell? ⟨wr.heap.size, 3, none⟩ = some (.int .i64 x.val.int) ∧ w1.cell? ⟨wr.heap.size, 4, none⟩ = some (.float .f64 x.val.num) ∧ w1.cell? ⟨wr.heap.size, 5, none⟩ = some (.string ⟨x.val.text.toArray⟩) ∧ w1.cell? ⟨wr.heap.size, 6, none⟩ = some (.bool x.val.yes) ∧ w1.cell? ⟨g, i * 7, none⟩ = some (.string ⟨y.name.toArray⟩) ∧ w1.cell? ⟨g, i * 7 + 1, none⟩ = some (.int .i64 y.op) ∧ w1.cell? ⟨g, i * 7 + 2, none⟩ = some (.int .i64 y.val.kind) ∧ w1.cell? ⟨g, i * 7 + 3, none⟩ = some (.int .i64 y.val.int) ∧ w1.cell? ⟨g, i * 7 + 4, none⟩ = some (.float .f64 y.val.num) ∧ w1.cell? ⟨g, i * 7 + 5, none⟩ = some (.string ⟨y.val.text.toArray⟩) ∧ w1.cell? ⟨g, i * 7 + 6, none⟩ = some (.bool y.val.yes) ∧ Below wr.heap.size wr w1 ∧ wr.heap.size < w1.heap.size ∧ g < wr.heap.size) :
    w2.cell? ⟨wr.heap.size, 0, none⟩ = some (.string ⟨x.name.toArray⟩) ∧ w2.cell? ⟨wr.heap.size, 1, none⟩ = some (.int .i64 x.op) ∧ w2.cell? ⟨wr.heap.size, 2, none⟩ = some (.int .i64 x.val.kind) ∧ w2.cell? ⟨wr.heap.size, 3, none⟩ = some (.int .i64 x.val.int) ∧ w2.cell? ⟨wr.heap.size, 4, none⟩ = some (.float .f64 x.val.num) ∧ w2.cell? ⟨wr.heap.size, 5, none⟩ = some (.string ⟨x.val.text.toArray⟩) ∧ w2.cell? ⟨wr.heap.size, 6, none⟩ = some (.bool x.val.yes) ∧ w2.cell? ⟨g, i * 7, none⟩ = some (.string ⟨y.name.toArray⟩) ∧ w2.cell? ⟨g, i * 7 + 1, none⟩ = some (.int .i64 y.op) ∧ w2.cell? ⟨g, i * 7 + 2, none⟩ = some (.int .i64 y.val.kind) ∧ w2.cell? ⟨g, i * 7 + 3, none⟩ = some (.int .i64 y.val.int) ∧ w2.cell? ⟨g, i * 7 + 4, none⟩ = some (.float .f64 y.val.num) ∧ w2.cell? ⟨g, i * 7 + 5, none⟩ = some (.string ⟨y.val.text.toArray⟩) ∧ w2.cell? ⟨g, i * 7 + 6, none⟩ = some (.bool y.val.yes) ∧ Below wr.heap.size wr w2 ∧ wr.heap.size < w2.heap.size ∧ g < wr.heap.size := by
  obtain ⟨h0, h1, h2, h3, h4, h5, h6, h7, h8, h9, h10, h11, h12, h13, hB, hl, hg⟩ := h
  have hsz := hB.size
  have c : ∀ b o, b < w1.heap.size → w2.cell? ⟨b, o, none⟩ = w1.cell? ⟨b, o, none⟩ := fun b o h => hb.cell (p := ⟨b, o, none⟩) h
  exact ⟨(c _ _ (by omega)).trans h0, (c _ _ (by omega)).trans h1, (c _ _ (by omega)).trans h2, (c _ _ (by omega)).trans h3, (c _ _ (by omega)).trans h4, (c _ _ (by omega)).trans h5, (c _ _ (by omega)).trans h6, (c _ _ (by omega)).trans h7, (c _ _ (by omega)).trans h8, (c _ _ (by omega)).trans h9, (c _ _ (by omega)).trans h10, (c _ _ (by omega)).trans h11, (c _ _ (by omega)).trans h12, (c _ _ (by omega)).trans h13, btrans hB hb, Nat.lt_of_lt_of_le hl hb.size, hg⟩
theorem nd_start {L : List C} {Z : List Value} {x : C} {g i : Nat} {wr : World} {T : TypeId} (h : Row wr g L Z) (hi : i < L.length) : (wr.alloc (.cells #[(.string ⟨x.name.toArray⟩), (.int .i64 x.op), (.int .i64 x.val.kind), (.int .i64 x.val.int), (.float .f64 x.val.num), (.string ⟨x.val.text.toArray⟩), (.bool x.val.yes)] T)).drew.cell? ⟨wr.heap.size, 0, none⟩ = some (.string ⟨x.name.toArray⟩) ∧ (wr.alloc (.cells #[(.string ⟨x.name.toArray⟩), (.int .i64 x.op), (.int .i64 x.val.kind), (.int .i64 x.val.int), (.float .f64 x.val.num), (.string ⟨x.val.text.toArray⟩), (.bool x.val.yes)] T)).drew.cell? ⟨wr.heap.size, 1, none⟩ = some (.int .i64 x.op) ∧ (wr.alloc (.cells #[(.string ⟨x.name.toArray⟩), (.int .i64 x.op), (.int .i64 x.val.kind), (.int .i64 x.val.int), (.float .f64 x.val.num), (.string ⟨x.val.text.toArray⟩), (.bool x.val.yes)] T)).drew.cell? ⟨wr.heap.size, 2, none⟩ = some (.int .i64 x.val.kind) ∧ (wr.alloc (.cells #[(.string ⟨x.name.toArray⟩), (.int .i64 x.op), (.int .i64 x.val.kind), (.int .i64 x.val.int), (.float .f64 x.val.num), (.string ⟨x.val.text.toArray⟩), (.bool x.val.yes)] T)).drew.cell? ⟨wr.heap.size, 3, none⟩ = some (.int .i64 x.val.int) ∧ (wr.alloc (.cells #[(.string ⟨x.name.toArray⟩), (.int .i64 x.op), (.int .i64 x.val.kind), (.int .i64 x.val.int), (.float .f64 x.val.num), (.string ⟨x.val.text.toArray⟩), (.bool x.val.yes)] T)).drew.cell? ⟨wr.heap.size, 4, none⟩ = some (.float .f64 x.val.num) ∧ (wr.alloc (.cells #[(.string ⟨x.name.toArray⟩), (.int .i64 x.op), (.int .i64 x.val.kind), (.int .i64 x.val.int), (.float .f64 x.val.num), (.string ⟨x.val.text.toArray⟩), (.bool x.val.yes)] T)).drew.cell? ⟨wr.heap.size, 5, none⟩ = some (.string ⟨x.val.text.toArray⟩) ∧ (wr.alloc (.cells #[(.string ⟨x.name.toArray⟩), (.int .i64 x.op), (.int .i64 x.val.kind), (.int .i64 x.val.int), (.float .f64 x.val.num), (.string ⟨x.val.text.toArray⟩), (.bool x.val.yes)] T)).drew.cell? ⟨wr.heap.size, 6, none⟩ = some (.bool x.val.yes) ∧ (wr.alloc (.cells #[(.string ⟨x.name.toArray⟩), (.int .i64 x.op), (.int .i64 x.val.kind), (.int .i64 x.val.int), (.float .f64 x.val.num), (.string ⟨x.val.text.toArray⟩), (.bool x.val.yes)] T)).drew.cell? ⟨g, i * 7, none⟩ = some (.string ⟨(L[i]'hi).name.toArray⟩) ∧ (wr.alloc (.cells #[(.string ⟨x.name.toArray⟩), (.int .i64 x.op), (.int .i64 x.val.kind), (.int .i64 x.val.int), (.float .f64 x.val.num), (.string ⟨x.val.text.toArray⟩), (.bool x.val.yes)] T)).drew.cell? ⟨g, i * 7 + 1, none⟩ = some (.int .i64 (L[i]'hi).op) ∧ (wr.alloc (.cells #[(.string ⟨x.name.toArray⟩), (.int .i64 x.op), (.int .i64 x.val.kind), (.int .i64 x.val.int), (.float .f64 x.val.num), (.string ⟨x.val.text.toArray⟩), (.bool x.val.yes)] T)).drew.cell? ⟨g, i * 7 + 2, none⟩ = some (.int .i64 (L[i]'hi).val.kind) ∧ (wr.alloc (.cells #[(.string ⟨x.name.toArray⟩), (.int .i64 x.op), (.int .i64 x.val.kind), (.int .i64 x.val.int), (.float .f64 x.val.num), (.string ⟨x.val.text.toArray⟩), (.bool x.val.yes)] T)).drew.cell? ⟨g, i * 7 + 3, none⟩ = some (.int .i64 (L[i]'hi).val.int) ∧ (wr.alloc (.cells #[(.string ⟨x.name.toArray⟩), (.int .i64 x.op), (.int .i64 x.val.kind), (.int .i64 x.val.int), (.float .f64 x.val.num), (.string ⟨x.val.text.toArray⟩), (.bool x.val.yes)] T)).drew.cell? ⟨g, i * 7 + 4, none⟩ = some (.float .f64 (L[i]'hi).val.num) ∧ (wr.alloc (.cells #[(.string ⟨x.name.toArray⟩), (.int .i64 x.op), (.int .i64 x.val.kind), (.int .i64 x.val.int), (.float .f64 x.val.num), (.string ⟨x.val.text.toArray⟩), (.bool x.val.yes)] T)).drew.cell? ⟨g, i * 7 + 5, none⟩ = some (.string ⟨(L[i]'hi).val.text.toArray⟩) ∧ (wr.alloc (.cells #[(.string ⟨x.name.toArray⟩), (.int .i64 x.op), (.int .i64 x.val.kind), (.int .i64 x.val.int), (.float .f64 x.val.num), (.string ⟨x.val.text.toArray⟩), (.bool x.val.yes)] T)).drew.cell? ⟨g, i * 7 + 6, none⟩ = some (.bool (L[i]'hi).val.yes) ∧ Below wr.heap.size wr (wr.alloc (.cells #[(.string ⟨x.name.toArray⟩), (.int .i64 x.op), (.int .i64 x.val.kind), (.int .i64 x.val.int), (.float .f64 x.val.num), (.string ⟨x.val.text.toArray⟩), (.bool x.val.yes)] T)).drew ∧ wr.heap.size < (wr.alloc (.cells #[(.string ⟨x.name.toArray⟩), (.int .i64 x.op), (.int .i64 x.val.kind), (.int .i64 x.val.int), (.float .f64 x.val.num), (.string ⟨x.val.text.toArray⟩), (.bool x.val.yes)] T)).drew.heap.size ∧ g < wr.heap.size := by
  have b := h.cat i hi
  obtain ⟨b0, b1, b2, b3, b4, b5, b6⟩ := b
  have c : ∀ o, (wr.alloc (.cells #[(.string ⟨x.name.toArray⟩), (.int .i64 x.op), (.int .i64 x.val.kind), (.int .i64 x.val.int), (.float .f64 x.val.num), (.string ⟨x.val.text.toArray⟩), (.bool x.val.yes)] T)).drew.cell? ⟨wr.heap.size, o, none⟩ = #[(.string ⟨x.name.toArray⟩), (.int .i64 x.op), (.int .i64 x.val.kind), (.int .i64 x.val.int), (.float .f64 x.val.num), (.string ⟨x.val.text.toArray⟩), (.bool x.val.yes)][o]? := fun o => World.cell?_alloc_at _ _ _ _ rfl
  have d : ∀ o, (wr.alloc (.cells #[(.string ⟨x.name.toArray⟩), (.int .i64 x.op), (.int .i64 x.val.kind), (.int .i64 x.val.int), (.float .f64 x.val.num), (.string ⟨x.val.text.toArray⟩), (.bool x.val.yes)] T)).drew.cell? ⟨g, o, none⟩ = wr.cell? ⟨g, o, none⟩ := fun o => (balloc wr _).cell (p := ⟨g, o, none⟩) h.lt
  exact ⟨c 0, c 1, c 2, c 3, c 4, c 5, c 6, (d _).trans b0, (d _).trans b1, (d _).trans b2, (d _).trans b3, (d _).trans b4, (d _).trans b5, (d _).trans b6, bdrewN (balloc _ _) 1, by show wr.heap.size < (wr.alloc _).heap.size; simp, h.lt⟩
theorem nd_own {x y : C} {g i : Nat} {wr w1 : World} (h : w1.cell? ⟨wr.heap.size, 0, none⟩ = some (.string ⟨x.name.toArray⟩) ∧ w1.cell? ⟨wr.heap.size, 1, none⟩ = some (.int .i64 x.op) ∧ w1.cell? ⟨wr.heap.size, 2, none⟩ = some (.int .i64 x.val.kind) ∧ w1.cell? ⟨wr.heap.size, 3, none⟩ = some (.int .i64 x.val.int) ∧ w1.cell? ⟨wr.heap.size, 4, none⟩ = some (.float .f64 x.val.num) ∧ w1.cell? ⟨wr.heap.size, 5, none⟩ = some (.string ⟨x.val.text.toArray⟩) ∧ w1.cell? ⟨wr.heap.size, 6, none⟩ = some (.bool x.val.yes) ∧ w1.cell? ⟨g, i * 7, none⟩ = some (.string ⟨y.name.toArray⟩) ∧ w1.cell? ⟨g, i * 7 + 1, none⟩ = some (.int .i64 y.op) ∧ w1.cell? ⟨g, i * 7 + 2, none⟩ = some (.int .i64 y.val.kind) ∧ w1.cell? ⟨g, i * 7 + 3, none⟩ = some (.int .i64 y.val.int) ∧ w1.cell? ⟨g, i * 7 + 4, none⟩ = some (.float .f64 y.val.num) ∧ w1.cell? ⟨g, i * 7 + 5, none⟩ = some (.string ⟨y.val.text.toArray⟩) ∧ w1.cell? ⟨g, i * 7 + 6, none⟩ = some (.bool y.val.yes) ∧ Below wr.heap.size wr w1 ∧ wr.heap.size < w1.heap.size ∧ g < wr.heap.size) : Below wr.heap.size wr w1 := h.2.2.2.2.2.2.2.2.2.2.2.2.2.2.1
attribute [local go_sem] run_store_flt
set_option maxRecDepth 20000 in
set_option maxHeartbeats 2000000 in
theorem needless_any (L : List C) (Z : List Value) (g cap i : Nat) (w : World) (hr : Row w g L Z) (hi : i < L.length) (hl : L.length ≤ 1000) (hs : ∀ c ∈ L, 0 ≤ c.op ∧ c.op ≤ 7 ∧ c.val.num < 18446744073709551616) :
    Calls Tryz.prog 67 #[.slice (some ⟨g, 0, none⟩) L.length cap, .int .i64 (i : Nat)] w fun e w' => e = .returned (.bool (needB L i)) ∧ Below w.heap.size w w' := by
  have HR := Lib.hid hr; have HS := Lib.hid hs
  have hg := hr.lt
  clear hr hs
  go_enter Tryz.func67, Tryz.ntmps67
  have i0 : (0 : Int) ≤ (i : Int) := by omega
  have i1 : (i : Int) < (L.length : Int) := by omega
  go_wp2_with fail
  go_loopw [9] (fun vk wr => ∃ k : Nat, k ≤ L.length ∧ vk = .int .i64 k ∧ Hid (needN L i k = false) ∧ Below w.heap.size w wr) (fun vk _ => L.length - (intOf vk).toNat)
  case atStart => exact ⟨0, Nat.zero_le _, rfl, Lib.hid rfl, Below.refl _ _⟩
  case round =>
    obtain ⟨k, hk, rfl, HP, hbr⟩ := hrel
    have HBR := Lib.hid hbr
    by_cases hlt : k < L.length
    · have k0 : (0 : Int) ≤ (k : Int) := by omega
      have k1 : (k : Int) < (L.length : Int) := by omega
      have hrow : Row wr g L Z := HR.out.below hbr hg
      have ha := hrow.cat k hlt
      obtain ⟨v0, v1, v2, v3, v4, v5, v6⟩ := ha
      have hh : hit L i k = (!(k == i) && (impliesB (L[k]'hlt) (L[i]'hi) && (decide (k < i) || !impliesB (L[i]'hi) (L[k]'hlt)))) := by
        unfold hit; rw [getElem!_pos L k hlt, getElem!_pos L i hi]
      have hst : (wr.alloc (.cells #[(.string ⟨(L[k]'hlt).name.toArray⟩), (.int .i64 (L[k]'hlt).op), (.int .i64 (L[k]'hlt).val.kind), (.int .i64 (L[k]'hlt).val.int), (.float .f64 (L[k]'hlt).val.num), (.string ⟨(L[k]'hlt).val.text.toArray⟩), (.bool (L[k]'hlt).val.yes)] 31)).drew.cell? ⟨wr.heap.size, 0, none⟩ = some (.string ⟨(L[k]'hlt).name.toArray⟩) ∧ (wr.alloc (.cells #[(.string ⟨(L[k]'hlt).name.toArray⟩), (.int .i64 (L[k]'hlt).op), (.int .i64 (L[k]'hlt).val.kind), (.int .i64 (L[k]'hlt).val.int), (.float .f64 (L[k]'hlt).val.num), (.string ⟨(L[k]'hlt).val.text.toArray⟩), (.bool (L[k]'hlt).val.yes)] 31)).drew.cell? ⟨wr.heap.size, 1, none⟩ = some (.int .i64 (L[k]'hlt).op) ∧ (wr.alloc (.cells #[(.string ⟨(L[k]'hlt).name.toArray⟩), (.int .i64 (L[k]'hlt).op), (.int .i64 (L[k]'hlt).val.kind), (.int .i64 (L[k]'hlt).val.int), (.float .f64 (L[k]'hlt).val.num), (.string ⟨(L[k]'hlt).val.text.toArray⟩), (.bool (L[k]'hlt).val.yes)] 31)).drew.cell? ⟨wr.heap.size, 2, none⟩ = some (.int .i64 (L[k]'hlt).val.kind) ∧ (wr.alloc (.cells #[(.string ⟨(L[k]'hlt).name.toArray⟩), (.int .i64 (L[k]'hlt).op), (.int .i64 (L[k]'hlt).val.kind), (.int .i64 (L[k]'hlt).val.int), (.float .f64 (L[k]'hlt).val.num), (.string ⟨(L[k]'hlt).val.text.toArray⟩), (.bool (L[k]'hlt).val.yes)] 31)).drew.cell? ⟨wr.heap.size, 3, none⟩ = some (.int .i64 (L[k]'hlt).val.int) ∧ (wr.alloc (.cells #[(.string ⟨(L[k]'hlt).name.toArray⟩), (.int .i64 (L[k]'hlt).op), (.int .i64 (L[k]'hlt).val.kind), (.int .i64 (L[k]'hlt).val.int), (.float .f64 (L[k]'hlt).val.num), (.string ⟨(L[k]'hlt).val.text.toArray⟩), (.bool (L[k]'hlt).val.yes)] 31)).drew.cell? ⟨wr.heap.size, 4, none⟩ = some (.float .f64 (L[k]'hlt).val.num) ∧ (wr.alloc (.cells #[(.string ⟨(L[k]'hlt).name.toArray⟩), (.int .i64 (L[k]'hlt).op), (.int .i64 (L[k]'hlt).val.kind), (.int .i64 (L[k]'hlt).val.int), (.float .f64 (L[k]'hlt).val.num), (.string ⟨(L[k]'hlt).val.text.toArray⟩), (.bool (L[k]'hlt).val.yes)] 31)).drew.cell? ⟨wr.heap.size, 5, none⟩ = some (.string ⟨(L[k]'hlt).val.text.toArray⟩) ∧ (wr.alloc (.cells #[(.string ⟨(L[k]'hlt).name.toArray⟩), (.int .i64 (L[k]'hlt).op), (.int .i64 (L[k]'hlt).val.kind), (.int .i64 (L[k]'hlt).val.int), (.float .f64 (L[k]'hlt).val.num), (.string ⟨(L[k]'hlt).val.text.toArray⟩), (.bool (L[k]'hlt).val.yes)] 31)).drew.cell? ⟨wr.heap.size, 6, none⟩ = some (.bool (L[k]'hlt).val.yes) ∧ (wr.alloc (.cells #[(.string ⟨(L[k]'hlt).name.toArray⟩), (.int .i64 (L[k]'hlt).op), (.int .i64 (L[k]'hlt).val.kind), (.int .i64 (L[k]'hlt).val.int), (.float .f64 (L[k]'hlt).val.num), (.string ⟨(L[k]'hlt).val.text.toArray⟩), (.bool (L[k]'hlt).val.yes)] 31)).drew.cell? ⟨g, i * 7, none⟩ = some (.string ⟨(L[i]'hi).name.toArray⟩) ∧ (wr.alloc (.cells #[(.string ⟨(L[k]'hlt).name.toArray⟩), (.int .i64 (L[k]'hlt).op), (.int .i64 (L[k]'hlt).val.kind), (.int .i64 (L[k]'hlt).val.int), (.float .f64 (L[k]'hlt).val.num), (.string ⟨(L[k]'hlt).val.text.toArray⟩), (.bool (L[k]'hlt).val.yes)] 31)).drew.cell? ⟨g, i * 7 + 1, none⟩ = some (.int .i64 (L[i]'hi).op) ∧ (wr.alloc (.cells #[(.string ⟨(L[k]'hlt).name.toArray⟩), (.int .i64 (L[k]'hlt).op), (.int .i64 (L[k]'hlt).val.kind), (.int .i64 (L[k]'hlt).val.int), (.float .f64 (L[k]'hlt).val.num), (.string ⟨(L[k]'hlt).val.text.toArray⟩), (.bool (L[k]'hlt).val.yes)] 31)).drew.cell? ⟨g, i * 7 + 2, none⟩ = some (.int .i64 (L[i]'hi).val.kind) ∧ (wr.alloc (.cells #[(.string ⟨(L[k]'hlt).name.toArray⟩), (.int .i64 (L[k]'hlt).op), (.int .i64 (L[k]'hlt).val.kind), (.int .i64 (L[k]'hlt).val.int), (.float .f64 (L[k]'hlt).val.num), (.string ⟨(L[k]'hlt).val.text.toArray⟩), (.bool (L[k]'hlt).val.yes)] 31)).drew.cell? ⟨g, i * 7 + 3, none⟩ = some (.int .i64 (L[i]'hi).val.int) ∧ (wr.alloc (.cells #[(.string ⟨(L[k]'hlt).name.toArray⟩), (.int .i64 (L[k]'hlt).op), (.int .i64 (L[k]'hlt).val.kind), (.int .i64 (L[k]'hlt).val.int), (.float .f64 (L[k]'hlt).val.num), (.string ⟨(L[k]'hlt).val.text.toArray⟩), (.bool (L[k]'hlt).val.yes)] 31)).drew.cell? ⟨g, i * 7 + 4, none⟩ = some (.float .f64 (L[i]'hi).val.num) ∧ (wr.alloc (.cells #[(.string ⟨(L[k]'hlt).name.toArray⟩), (.int .i64 (L[k]'hlt).op), (.int .i64 (L[k]'hlt).val.kind), (.int .i64 (L[k]'hlt).val.int), (.float .f64 (L[k]'hlt).val.num), (.string ⟨(L[k]'hlt).val.text.toArray⟩), (.bool (L[k]'hlt).val.yes)] 31)).drew.cell? ⟨g, i * 7 + 5, none⟩ = some (.string ⟨(L[i]'hi).val.text.toArray⟩) ∧ (wr.alloc (.cells #[(.string ⟨(L[k]'hlt).name.toArray⟩), (.int .i64 (L[k]'hlt).op), (.int .i64 (L[k]'hlt).val.kind), (.int .i64 (L[k]'hlt).val.int), (.float .f64 (L[k]'hlt).val.num), (.string ⟨(L[k]'hlt).val.text.toArray⟩), (.bool (L[k]'hlt).val.yes)] 31)).drew.cell? ⟨g, i * 7 + 6, none⟩ = some (.bool (L[i]'hi).val.yes) ∧ Below wr.heap.size wr (wr.alloc (.cells #[(.string ⟨(L[k]'hlt).name.toArray⟩), (.int .i64 (L[k]'hlt).op), (.int .i64 (L[k]'hlt).val.kind), (.int .i64 (L[k]'hlt).val.int), (.float .f64 (L[k]'hlt).val.num), (.string ⟨(L[k]'hlt).val.text.toArray⟩), (.bool (L[k]'hlt).val.yes)] 31)).drew ∧ wr.heap.size < (wr.alloc (.cells #[(.string ⟨(L[k]'hlt).name.toArray⟩), (.int .i64 (L[k]'hlt).op), (.int .i64 (L[k]'hlt).val.kind), (.int .i64 (L[k]'hlt).val.int), (.float .f64 (L[k]'hlt).val.num), (.string ⟨(L[k]'hlt).val.text.toArray⟩), (.bool (L[k]'hlt).val.yes)] 31)).drew.heap.size ∧ g < wr.heap.size := nd_start (x := L[k]'hlt) (T := 31) hrow hi
      obtain ⟨s1, s2, s3⟩ := HS.out _ (List.getElem_mem hlt)
      obtain ⟨t1, t2, t3⟩ := HS.out _ (List.getElem_mem hi)
      have hi1 (W : World) := implies_any (L[k]'hlt).name (L[k]'hlt).op (L[k]'hlt).val.kind (L[k]'hlt).val.int (L[k]'hlt).val.num (L[k]'hlt).val.text (L[k]'hlt).val.yes (L[i]'hi).name (L[i]'hi).op (L[i]'hi).val.kind (L[i]'hi).val.int (L[i]'hi).val.num (L[i]'hi).val.text (L[i]'hi).val.yes W s1 s2 s3 t3
      have hi2 (W : World) := implies_any (L[i]'hi).name (L[i]'hi).op (L[i]'hi).val.kind (L[i]'hi).val.int (L[i]'hi).val.num (L[i]'hi).val.text (L[i]'hi).val.yes (L[k]'hlt).name (L[k]'hlt).op (L[k]'hlt).val.kind (L[k]'hlt).val.int (L[k]'hlt).val.num (L[k]'hlt).val.text (L[k]'hlt).val.yes W t1 t2 t3 s3
      have e1 : impliesB (L[k]'hlt) (L[i]'hi) = impliesB ⟨(L[k]'hlt).name, (L[k]'hlt).op, (L[k]'hlt).val.kind, (L[k]'hlt).val.int, (L[k]'hlt).val.num, (L[k]'hlt).val.text, (L[k]'hlt).val.yes⟩ ⟨(L[i]'hi).name, (L[i]'hi).op, (L[i]'hi).val.kind, (L[i]'hi).val.int, (L[i]'hi).val.num, (L[i]'hi).val.text, (L[i]'hi).val.yes⟩ := rfl
      have e2 : impliesB (L[i]'hi) (L[k]'hlt) = impliesB ⟨(L[i]'hi).name, (L[i]'hi).op, (L[i]'hi).val.kind, (L[i]'hi).val.int, (L[i]'hi).val.num, (L[i]'hi).val.text, (L[i]'hi).val.yes⟩ ⟨(L[k]'hlt).name, (L[k]'hlt).op, (L[k]'hlt).val.kind, (L[k]'hlt).val.int, (L[k]'hlt).val.num, (L[k]'hlt).val.text, (L[k]'hlt).val.yes⟩ := rfl
      rw [← e1] at hi1
      rw [← e2] at hi2
      clear e1 e2 s1 s2 s3 t1 t2 t3 hbr hrow
      generalize impliesB (L[k]'hlt) (L[i]'hi) = b1 at *
      generalize impliesB (L[i]'hi) (L[k]'hlt) = b2 at *
      generalize (L[k]'hlt) = x at *
      generalize (L[i]'hi) = y at *
      have HST := Lib.hid hst; have HI1 := Lib.hid hi1; have HI2 := Lib.hid hi2
      clear hst hi1 hi2
      by_cases hki : k = i
      · have m1 : ((k : Int) != (i : Int)) = false := by rw [hki]; simp
        have m3 : (k == i) = true := by rw [hki]; simp
        have hro : hit L i k = false := by rw [hh]; rw [m3]; rfl
        have HRO := Lib.hid hro
        clear hh hro hki m3
        go_wp2_with fail
        refine wp_region_held_drew (S := (fun w' => w'.cell? ⟨wr.heap.size, 0, none⟩ = some (.string ⟨x.name.toArray⟩) ∧ w'.cell? ⟨wr.heap.size, 1, none⟩ = some (.int .i64 x.op) ∧ w'.cell? ⟨wr.heap.size, 2, none⟩ = some (.int .i64 x.val.kind) ∧ w'.cell? ⟨wr.heap.size, 3, none⟩ = some (.int .i64 x.val.int) ∧ w'.cell? ⟨wr.heap.size, 4, none⟩ = some (.float .f64 x.val.num) ∧ w'.cell? ⟨wr.heap.size, 5, none⟩ = some (.string ⟨x.val.text.toArray⟩) ∧ w'.cell? ⟨wr.heap.size, 6, none⟩ = some (.bool x.val.yes) ∧ w'.cell? ⟨g, i * 7, none⟩ = some (.string ⟨y.name.toArray⟩) ∧ w'.cell? ⟨g, i * 7 + 1, none⟩ = some (.int .i64 y.op) ∧ w'.cell? ⟨g, i * 7 + 2, none⟩ = some (.int .i64 y.val.kind) ∧ w'.cell? ⟨g, i * 7 + 3, none⟩ = some (.int .i64 y.val.int) ∧ w'.cell? ⟨g, i * 7 + 4, none⟩ = some (.float .f64 y.val.num) ∧ w'.cell? ⟨g, i * 7 + 5, none⟩ = some (.string ⟨y.val.text.toArray⟩) ∧ w'.cell? ⟨g, i * 7 + 6, none⟩ = some (.bool y.val.yes) ∧ Below wr.heap.size wr w' ∧ wr.heap.size < w'.heap.size ∧ g < wr.heap.size)) (by kernel_rfl) ?_ (fun hq0 => ?_)
        · ((try dsimp only); (first | exact HST.out | assumption | exact nd_below (by assumption) (by assumption)))
        (refine wpAnyH_take (i := 0) (oi := ?_) (v := ?_) ?_ (by kernel_rfl) (by kernel_rfl) (by kernel_rfl) ?_ (Or.inl ⟨?_, ?_⟩) (by assumption) ?_; rotate_left 2; (· (simp only [List.getElem?_toArray, List.getElem?_cons_zero]; first | done | rfl)); (· exact (fun _ _ _ h => h)); (· rfl); (· (intro w hSw; (try dsimp only at hSw); go_simp; (try with_reducible rfl))))
        (try simp only [Act.put, List.setIfInBounds_toArray, List.set_cons_zero, List.set_cons_succ])
        (refine wpAnyH_take (i := 1) (oi := ?_) (v := ?_) ?_ (by kernel_rfl) (by kernel_rfl) (by kernel_rfl) ?_ (Or.inl ⟨?_, ?_⟩) (by assumption) ?_; rotate_left 2; (· (simp only [List.getElem?_toArray, List.getElem?_cons_succ, List.getElem?_cons_zero]; first | done | rfl)); (· exact (fun _ _ _ h => h)); (· rfl); (· (intro w hSw; (try dsimp only at hSw); go_simp; (try with_reducible rfl))))
        (try simp only [Act.put, List.setIfInBounds_toArray, List.set_cons_zero, List.set_cons_succ])
        (refine wpAnyH_take (i := 2) (oi := ?_) (v := ?_) ?_ (by kernel_rfl) (by kernel_rfl) (by kernel_rfl) ?_ (Or.inl ⟨?_, ?_⟩) (by assumption) ?_; rotate_left 2; (· (simp only [List.getElem?_toArray, List.getElem?_cons_succ, List.getElem?_cons_zero]; first | done | rfl)); (· exact (fun _ _ _ h => h)); (· rfl); (· (intro w hSw; (try dsimp only at hSw); go_simp; (try with_reducible rfl))))
        (try simp only [Act.put, List.setIfInBounds_toArray, List.set_cons_zero, List.set_cons_succ])
        (refine wpAnyH_take (i := 3) (oi := ?_) (v := ?_) ?_ (by kernel_rfl) (by kernel_rfl) (by kernel_rfl) ?_ (Or.inl ⟨?_, ?_⟩) (by assumption) ?_; rotate_left 2; (· (simp only [List.getElem?_toArray, List.getElem?_cons_succ, List.getElem?_cons_zero]; first | done | rfl)); (· exact (fun _ _ _ h => h)); (· rfl); (· (intro w hSw; (try dsimp only at hSw); go_simp; (try with_reducible rfl))))
        (try simp only [Act.put, List.setIfInBounds_toArray, List.set_cons_zero, List.set_cons_succ])
        (refine wpAnyH_take (i := 4) (oi := ?_) (v := ?_) ?_ (by kernel_rfl) (by kernel_rfl) (by kernel_rfl) ?_ (Or.inr ⟨?_, ?_⟩) (by assumption) ?_; rotate_left 2; (· (simp only [List.getElem?_toArray, List.getElem?_cons_succ, List.getElem?_cons_zero]; first | done | rfl)); (· exact (fun _ _ _ h => h)); (· rfl); (· rfl))
        (try simp only [Act.put, List.setIfInBounds_toArray, List.set_cons_zero, List.set_cons_succ])
        (refine wpAnyH_take (i := 5) (oi := ?_) (v := ?_) ?_ (by kernel_rfl) (by kernel_rfl) (by kernel_rfl) ?_ (Or.inr ⟨?_, ?_⟩) (by assumption) ?_; rotate_left 2; (· (simp only [List.getElem?_toArray, List.getElem?_cons_succ, List.getElem?_cons_zero]; first | done | rfl)); (· exact (fun _ _ _ h => h)); (· rfl); (· rfl))
        (try simp only [Act.put, List.setIfInBounds_toArray, List.set_cons_zero, List.set_cons_succ])
        (refine wpAnyH_take (i := 6) (oi := ?_) (v := ?_) ?_ (by kernel_rfl) (by kernel_rfl) (by kernel_rfl) ?_ (Or.inr ⟨?_, ?_⟩) (by assumption) ?_; rotate_left 2; (· (simp only [List.getElem?_toArray, List.getElem?_cons_succ, List.getElem?_cons_zero]; first | done | rfl)); (· exact (fun _ _ _ h => h)); (· rfl); (· rfl))
        (try simp only [Act.put, List.setIfInBounds_toArray, List.set_cons_zero, List.set_cons_succ])
        (refine wpAnyH_take (i := 7) (oi := ?_) (v := ?_) ?_ (by kernel_rfl) (by kernel_rfl) (by kernel_rfl) ?_ (Or.inr ⟨?_, ?_⟩) (by assumption) ?_; rotate_left 2; (· (simp only [List.getElem?_toArray, List.getElem?_cons_succ, List.getElem?_cons_zero]; first | done | rfl)); (· exact (fun _ _ _ h => h)); (· rfl); (· rfl))
        (try simp only [Act.put, List.setIfInBounds_toArray, List.set_cons_zero, List.set_cons_succ])
        (refine wpAnyH_take (i := 8) (oi := ?_) (v := ?_) ?_ (by kernel_rfl) (by kernel_rfl) (by kernel_rfl) ?_ (Or.inr ⟨?_, ?_⟩) (by assumption) ?_; rotate_left 2; (· (simp only [List.getElem?_toArray, List.getElem?_cons_succ, List.getElem?_cons_zero]; first | done | rfl)); (· exact (fun _ _ _ h => h)); (· rfl); (· rfl))
        (try simp only [Act.put, List.setIfInBounds_toArray, List.set_cons_zero, List.set_cons_succ])
        (refine wpAnyH_take (i := 9) (oi := ?_) (v := ?_) ?_ (by kernel_rfl) (by kernel_rfl) (by kernel_rfl) ?_ (Or.inr ⟨?_, ?_⟩) (by assumption) ?_; rotate_left 2; (· (simp only [List.getElem?_toArray, List.getElem?_cons_succ, List.getElem?_cons_zero]; first | done | rfl)); (· exact (fun _ _ _ h => h)); (· rfl); (· rfl))
        (try simp only [Act.put, List.setIfInBounds_toArray, List.set_cons_zero, List.set_cons_succ])
        (refine wpAnyH_take (i := 10) (oi := ?_) (v := ?_) ?_ (by kernel_rfl) (by kernel_rfl) (by kernel_rfl) ?_ (Or.inl ⟨?_, ?_⟩) (by assumption) ?_; rotate_left 2; (· (simp only [List.getElem?_toArray, List.getElem?_cons_succ, List.getElem?_cons_zero]; first | done | rfl)); (· exact (fun _ _ _ h => h)); (· rfl); (· (intro w hSw; (try dsimp only at hSw); go_simp; (try with_reducible rfl))))
        (try simp only [Act.put, List.setIfInBounds_toArray, List.set_cons_zero, List.set_cons_succ])
        (refine wpAnyH_take (i := 11) (oi := ?_) (v := ?_) ?_ (by kernel_rfl) (by kernel_rfl) (by kernel_rfl) ?_ (Or.inl ⟨?_, ?_⟩) (by assumption) ?_; rotate_left 2; (· (simp only [List.getElem?_toArray, List.getElem?_cons_succ, List.getElem?_cons_zero]; first | done | rfl)); (· exact (fun _ _ _ h => h)); (· rfl); (· (intro w hSw; (try dsimp only at hSw); go_simp; (try with_reducible rfl))))
        (try simp only [Act.put, List.setIfInBounds_toArray, List.set_cons_zero, List.set_cons_succ])
        (refine wpAnyH_take (i := 12) (oi := ?_) (v := ?_) ?_ (by kernel_rfl) (by kernel_rfl) (by kernel_rfl) ?_ (Or.inr ⟨?_, ?_⟩) (by assumption) ?_; rotate_left 2; (· (simp only [List.getElem?_toArray, List.getElem?_cons_succ, List.getElem?_cons_zero]; first | done | rfl)); (· exact (fun _ _ _ h => h)); (· rfl); (· rfl))
        (try simp only [Act.put, List.setIfInBounds_toArray, List.set_cons_zero, List.set_cons_succ])
        (refine wpAnyH_take (i := 13) (oi := ?_) (v := ?_) ?_ (by kernel_rfl) (by kernel_rfl) (by kernel_rfl) ?_ (Or.inr ⟨?_, ?_⟩) (by assumption) ?_; rotate_left 2; (· (simp only [List.getElem?_toArray, List.getElem?_cons_succ, List.getElem?_cons_zero]; first | done | rfl)); (· exact (fun _ _ _ h => h)); (· rfl); (· rfl))
        (try simp only [Act.put, List.setIfInBounds_toArray, List.set_cons_zero, List.set_cons_succ])
        (refine wpAnyH_take (i := 14) (oi := ?_) (v := ?_) ?_ (by kernel_rfl) (by kernel_rfl) (by kernel_rfl) ?_ (Or.inr ⟨?_, ?_⟩) (by assumption) ?_; rotate_left 2; (· (simp only [List.getElem?_toArray, List.getElem?_cons_succ, List.getElem?_cons_zero]; first | done | rfl)); (· exact (fun _ _ _ h => h)); (· rfl); (· rfl))
        (try simp only [Act.put, List.setIfInBounds_toArray, List.set_cons_zero, List.set_cons_succ])
        (refine wpAnyH_take (i := 15) (oi := ?_) (v := ?_) ?_ (by kernel_rfl) (by kernel_rfl) (by kernel_rfl) ?_ (Or.inr ⟨?_, ?_⟩) (by assumption) ?_; rotate_left 2; (· (simp only [List.getElem?_toArray, List.getElem?_cons_succ, List.getElem?_cons_zero]; first | done | rfl)); (· exact (fun _ _ _ h => h)); (· rfl); (· rfl))
        (try simp only [Act.put, List.setIfInBounds_toArray, List.set_cons_zero, List.set_cons_succ])
        (refine wpAnyH_take (i := 16) (oi := ?_) (v := ?_) ?_ (by kernel_rfl) (by kernel_rfl) (by kernel_rfl) ?_ (Or.inr ⟨?_, ?_⟩) (by assumption) ?_; rotate_left 2; (· (simp only [List.getElem?_toArray, List.getElem?_cons_succ, List.getElem?_cons_zero]; first | done | rfl)); (· exact (fun _ _ _ h => h)); (· rfl); (· rfl))
        (try simp only [Act.put, List.setIfInBounds_toArray, List.set_cons_zero, List.set_cons_succ])
        (refine wpAnyH_take (i := 17) (oi := ?_) (v := ?_) ?_ (by kernel_rfl) (by kernel_rfl) (by kernel_rfl) ?_ (Or.inr ⟨?_, ?_⟩) (by assumption) ?_; rotate_left 2; (· (simp only [List.getElem?_toArray, List.getElem?_cons_succ, List.getElem?_cons_zero]; first | done | rfl)); (· exact (fun _ _ _ h => h)); (· rfl); (· rfl))
        (try simp only [Act.put, List.setIfInBounds_toArray, List.set_cons_zero, List.set_cons_succ])
        (refine wpAnyH_take (i := 18) (oi := ?_) (v := ?_) ?_ (by kernel_rfl) (by kernel_rfl) (by kernel_rfl) ?_ (Or.inr ⟨?_, ?_⟩) (by assumption) ?_; rotate_left 2; (· (simp only [List.getElem?_toArray, List.getElem?_cons_succ, List.getElem?_cons_zero]; first | done | rfl)); (· exact (fun _ _ _ h => h)); (· rfl); (· rfl))
        (try simp only [Act.put, List.setIfInBounds_toArray, List.set_cons_zero, List.set_cons_succ])
        (refine wpAnyH_take (i := 19) (oi := ?_) (v := ?_) ?_ (by kernel_rfl) (by kernel_rfl) (by kernel_rfl) ?_ (Or.inr ⟨?_, ?_⟩) (by assumption) ?_; rotate_left 2; (· (simp only [List.getElem?_toArray, List.getElem?_cons_succ, List.getElem?_cons_zero]; first | done | rfl)); (· exact (fun _ _ _ h => h)); (· rfl); (· rfl))
        (try simp only [Act.put, List.setIfInBounds_toArray, List.set_cons_zero, List.set_cons_succ])
        (refine wpAnyH_take (i := 20) (oi := ?_) (v := ?_) ?_ (by kernel_rfl) (by kernel_rfl) (by kernel_rfl) ?_ (Or.inr ⟨?_, ?_⟩) (by assumption) ?_; rotate_left 2; (· (simp only [List.getElem?_toArray, List.getElem?_cons_succ, List.getElem?_cons_zero]; first | done | rfl)); (· exact (fun _ _ _ h => h)); (· rfl); (· rfl))
        (try simp only [Act.put, List.setIfInBounds_toArray, List.set_cons_zero, List.set_cons_succ])
        (refine wpAnyH_take (i := 21) (oi := ?_) (v := ?_) ?_ (by kernel_rfl) (by kernel_rfl) (by kernel_rfl) ?_ (Or.inr ⟨?_, ?_⟩) (by assumption) ?_; rotate_left 2; (· (simp only [List.getElem?_toArray, List.getElem?_cons_succ, List.getElem?_cons_zero]; first | done | rfl)); (· exact (fun _ _ _ h => h)); (· rfl); (· rfl))
        (try simp only [Act.put, List.setIfInBounds_toArray, List.set_cons_zero, List.set_cons_succ])
        (refine wpAnyH_take (i := 22) (oi := ?_) (v := ?_) ?_ (by kernel_rfl) (by kernel_rfl) (by kernel_rfl) ?_ (Or.inr ⟨?_, ?_⟩) (by assumption) ?_; rotate_left 2; (· (simp only [List.getElem?_toArray, List.getElem?_cons_succ, List.getElem?_cons_zero]; first | done | rfl)); (· exact (fun _ _ _ h => h)); (· rfl); (· rfl))
        (try simp only [Act.put, List.setIfInBounds_toArray, List.set_cons_zero, List.set_cons_succ])
        (refine wpAnyH_take (i := 23) (oi := ?_) (v := ?_) ?_ (by kernel_rfl) (by kernel_rfl) (by kernel_rfl) ?_ (Or.inr ⟨?_, ?_⟩) (by assumption) ?_; rotate_left 2; (· (simp only [List.getElem?_toArray, List.getElem?_cons_succ, List.getElem?_cons_zero]; first | done | rfl)); (· exact (fun _ _ _ h => h)); (· rfl); (· rfl))
        (try simp only [Act.put, List.setIfInBounds_toArray, List.set_cons_zero, List.set_cons_succ])
        (refine wpAnyH_take (i := 24) (oi := ?_) (v := ?_) ?_ (by kernel_rfl) (by kernel_rfl) (by kernel_rfl) ?_ (Or.inl ⟨?_, ?_⟩) (by assumption) ?_; rotate_left 2; (· (simp only [List.getElem?_toArray, List.getElem?_cons_succ, List.getElem?_cons_zero]; first | done | rfl)); (· exact (fun _ _ _ h => h)); (· rfl); (· (intro w hSw; (try dsimp only at hSw); go_simp; (try with_reducible rfl))))
        (try simp only [Act.put, List.setIfInBounds_toArray, List.set_cons_zero, List.set_cons_succ])
        refine wpAnyH_done (by kernel_rfl) ?_ _
        go_wp2_with fail
        exact ⟨⟨k + 1, by omega, by go_num, Lib.hid (by rw [needN, HP.out, HRO.out]; rfl), btrans HBR.out (nd_own (by assumption))⟩, by simp [intOf]; go_num⟩
      have m1 : ((k : Int) != (i : Int)) = true := by rw [bne_iff_ne]; omega
      have m2 : ¬ (k : Int) = (i : Int) := by omega
      have m3 : (k == i) = false := by rw [beq_eq_false_iff_ne]; exact hki
      have m4 : (k != i) = true := by rw [bne_iff_ne]; exact hki
      cases b1
      · skip
        have hro : hit L i k = false := by rw [hh]; rw [m3]; rfl
        have HRO := Lib.hid hro
        clear hh hro
        go_wp2_with fail
        refine wp_region_held_drew (S := (fun w' => w'.cell? ⟨wr.heap.size, 0, none⟩ = some (.string ⟨x.name.toArray⟩) ∧ w'.cell? ⟨wr.heap.size, 1, none⟩ = some (.int .i64 x.op) ∧ w'.cell? ⟨wr.heap.size, 2, none⟩ = some (.int .i64 x.val.kind) ∧ w'.cell? ⟨wr.heap.size, 3, none⟩ = some (.int .i64 x.val.int) ∧ w'.cell? ⟨wr.heap.size, 4, none⟩ = some (.float .f64 x.val.num) ∧ w'.cell? ⟨wr.heap.size, 5, none⟩ = some (.string ⟨x.val.text.toArray⟩) ∧ w'.cell? ⟨wr.heap.size, 6, none⟩ = some (.bool x.val.yes) ∧ w'.cell? ⟨g, i * 7, none⟩ = some (.string ⟨y.name.toArray⟩) ∧ w'.cell? ⟨g, i * 7 + 1, none⟩ = some (.int .i64 y.op) ∧ w'.cell? ⟨g, i * 7 + 2, none⟩ = some (.int .i64 y.val.kind) ∧ w'.cell? ⟨g, i * 7 + 3, none⟩ = some (.int .i64 y.val.int) ∧ w'.cell? ⟨g, i * 7 + 4, none⟩ = some (.float .f64 y.val.num) ∧ w'.cell? ⟨g, i * 7 + 5, none⟩ = some (.string ⟨y.val.text.toArray⟩) ∧ w'.cell? ⟨g, i * 7 + 6, none⟩ = some (.bool y.val.yes) ∧ Below wr.heap.size wr w' ∧ wr.heap.size < w'.heap.size ∧ g < wr.heap.size)) (by kernel_rfl) ?_ (fun hq0 => ?_)
        · ((try dsimp only); (first | exact HST.out | assumption | exact nd_below (by assumption) (by assumption)))
        (refine wpAnyH_take (i := 0) (oi := ?_) (v := ?_) ?_ (by kernel_rfl) (by kernel_rfl) (by kernel_rfl) ?_ (Or.inl ⟨?_, ?_⟩) (by assumption) ?_; rotate_left 2; (· (simp only [List.getElem?_toArray, List.getElem?_cons_zero]; first | done | rfl)); (· exact (fun _ _ _ h => h)); (· rfl); (· (intro w hSw; (try dsimp only at hSw); go_simp; (try with_reducible rfl))))
        (try simp only [Act.put, List.setIfInBounds_toArray, List.set_cons_zero, List.set_cons_succ])
        (refine wpAnyH_take (i := 1) (oi := ?_) (v := ?_) ?_ (by kernel_rfl) (by kernel_rfl) (by kernel_rfl) ?_ (Or.inl ⟨?_, ?_⟩) (by assumption) ?_; rotate_left 2; (· (simp only [List.getElem?_toArray, List.getElem?_cons_succ, List.getElem?_cons_zero]; first | done | rfl)); (· exact (fun _ _ _ h => h)); (· rfl); (· (intro w hSw; (try dsimp only at hSw); go_simp; (try with_reducible rfl))))
        (try simp only [Act.put, List.setIfInBounds_toArray, List.set_cons_zero, List.set_cons_succ])
        (refine wpAnyH_take (i := 2) (oi := ?_) (v := ?_) ?_ (by kernel_rfl) (by kernel_rfl) (by kernel_rfl) ?_ (Or.inl ⟨?_, ?_⟩) (by assumption) ?_; rotate_left 2; (· (simp only [List.getElem?_toArray, List.getElem?_cons_succ, List.getElem?_cons_zero]; first | done | rfl)); (· exact (fun _ _ _ h => h)); (· rfl); (· (intro w hSw; (try dsimp only at hSw); go_simp; (try with_reducible rfl))))
        (try simp only [Act.put, List.setIfInBounds_toArray, List.set_cons_zero, List.set_cons_succ])
        (refine wpAnyH_take (i := 3) (oi := ?_) (v := ?_) ?_ (by kernel_rfl) (by kernel_rfl) (by kernel_rfl) ?_ (Or.inl ⟨?_, ?_⟩) (by assumption) ?_; rotate_left 2; (· (simp only [List.getElem?_toArray, List.getElem?_cons_succ, List.getElem?_cons_zero]; first | done | rfl)); (· exact (fun _ _ _ h => h)); (· rfl); (· (intro w hSw; (try dsimp only at hSw); go_simp; (try with_reducible rfl))))
        (try simp only [Act.put, List.setIfInBounds_toArray, List.set_cons_zero, List.set_cons_succ])
        (refine wpAnyH_take (i := 4) (oi := ?_) (v := ?_) ?_ (by kernel_rfl) (by kernel_rfl) (by kernel_rfl) ?_ (Or.inl ⟨?_, ?_⟩) (by assumption) ?_; rotate_left 2; (· (simp only [List.getElem?_toArray, List.getElem?_cons_succ, List.getElem?_cons_zero]; first | done | rfl)); (· exact (fun _ _ _ h => h)); (· rfl); (· (intro w hSw; (try dsimp only at hSw); go_simp; (try with_reducible rfl))))
        (try simp only [Act.put, List.setIfInBounds_toArray, List.set_cons_zero, List.set_cons_succ])
        (refine wpAnyH_take (i := 5) (oi := ?_) (v := ?_) ?_ (by kernel_rfl) (by kernel_rfl) (by kernel_rfl) ?_ (Or.inl ⟨?_, ?_⟩) (by assumption) ?_; rotate_left 2; (· (simp only [List.getElem?_toArray, List.getElem?_cons_succ, List.getElem?_cons_zero]; first | done | rfl)); (· exact (fun _ _ _ h => h)); (· rfl); (· (intro w hSw; (try dsimp only at hSw); go_simp; (try with_reducible rfl))))
        (try simp only [Act.put, List.setIfInBounds_toArray, List.set_cons_zero, List.set_cons_succ])
        (refine wpAnyH_take (i := 6) (oi := ?_) (v := ?_) ?_ (by kernel_rfl) (by kernel_rfl) (by kernel_rfl) ?_ (Or.inl ⟨?_, ?_⟩) (by assumption) ?_; rotate_left 2; (· (simp only [List.getElem?_toArray, List.getElem?_cons_succ, List.getElem?_cons_zero]; first | done | rfl)); (· exact (fun _ _ _ h => h)); (· rfl); (· (intro w hSw; (try dsimp only at hSw); go_simp; (try with_reducible rfl))))
        (try simp only [Act.put, List.setIfInBounds_toArray, List.set_cons_zero, List.set_cons_succ])
        (refine wpAnyH_take (i := 7) (oi := ?_) (v := ?_) ?_ (by kernel_rfl) (by kernel_rfl) (by kernel_rfl) ?_ (Or.inl ⟨?_, ?_⟩) (by assumption) ?_; rotate_left 2; (· (simp only [List.getElem?_toArray, List.getElem?_cons_succ, List.getElem?_cons_zero]; first | done | rfl)); (· exact (fun _ _ _ h => h)); (· rfl); (· (intro w hSw; (try dsimp only at hSw); go_simp; (try with_reducible rfl))))
        (try simp only [Act.put, List.setIfInBounds_toArray, List.set_cons_zero, List.set_cons_succ])
        (refine wpAnyH_take (i := 8) (oi := ?_) (v := ?_) ?_ (by kernel_rfl) (by kernel_rfl) (by kernel_rfl) ?_ (Or.inl ⟨?_, ?_⟩) (by assumption) ?_; rotate_left 2; (· (simp only [List.getElem?_toArray, List.getElem?_cons_succ, List.getElem?_cons_zero]; first | done | rfl)); (· exact (fun _ _ _ h => h)); (· rfl); (· (intro w hSw; (try dsimp only at hSw); go_simp; (try with_reducible rfl))))
        (try simp only [Act.put, List.setIfInBounds_toArray, List.set_cons_zero, List.set_cons_succ])
        refine wpAnyH_ready (rs := [9]) (by kernel_rfl) (by simp) ?_
        refine AllReadyH.cons (o := ?_) ?_ (fun K hK => ?_) AllReadyH.nil
        rotate_left 1
        · (simp only [List.getElem?_toArray, List.getElem?_cons_succ, List.getElem?_cons_zero]; first | done | rfl)
        go_simp
        first | (refine hK.out _ _ ?_ (fun hq1 => ?_)) | ((go_at_call 35; (first | (with_reducible refine (HI1.out _).mono ?_) | (with_reducible refine (HI2.out _).mono ?_)); rintro e w7 ⟨rfl, hb7⟩); refine hK.out _ _ ?_ (fun hq1 => ?_)) | ((go_at_call 35; (first | (with_reducible refine (HI1.out _).mono ?_) | (with_reducible refine (HI2.out _).mono ?_)); rintro e w7 ⟨rfl, hb7⟩); go_wp2_with fail; refine hK.out _ _ ?_ (fun hq1 => ?_)) | fail
        · ((try dsimp only); (first | exact HST.out | assumption | exact nd_below (by assumption) (by assumption)))
        clear hK K
        (try simp only [Act.put, List.setIfInBounds_toArray, List.set_cons_zero, List.set_cons_succ])
        clear hq0
        (refine wpAnyH_take (i := 10) (oi := ?_) (v := ?_) ?_ (by kernel_rfl) (by kernel_rfl) (by kernel_rfl) ?_ (Or.inl ⟨?_, ?_⟩) (by assumption) ?_; rotate_left 2; (· (simp only [List.getElem?_toArray, List.getElem?_cons_succ, List.getElem?_cons_zero]; first | done | rfl)); (· exact (fun _ _ _ h => h)); (· rfl); (· (intro w hSw; (try dsimp only at hSw); go_simp; (try with_reducible rfl))))
        (try simp only [Act.put, List.setIfInBounds_toArray, List.set_cons_zero, List.set_cons_succ])
        (refine wpAnyH_take (i := 11) (oi := ?_) (v := ?_) ?_ (by kernel_rfl) (by kernel_rfl) (by kernel_rfl) ?_ (Or.inl ⟨?_, ?_⟩) (by assumption) ?_; rotate_left 2; (· (simp only [List.getElem?_toArray, List.getElem?_cons_succ, List.getElem?_cons_zero]; first | done | rfl)); (· exact (fun _ _ _ h => h)); (· rfl); (· (intro w hSw; (try dsimp only at hSw); go_simp; (try with_reducible rfl))))
        (try simp only [Act.put, List.setIfInBounds_toArray, List.set_cons_zero, List.set_cons_succ])
        (refine wpAnyH_take (i := 12) (oi := ?_) (v := ?_) ?_ (by kernel_rfl) (by kernel_rfl) (by kernel_rfl) ?_ (Or.inr ⟨?_, ?_⟩) (by assumption) ?_; rotate_left 2; (· (simp only [List.getElem?_toArray, List.getElem?_cons_succ, List.getElem?_cons_zero]; first | done | rfl)); (· exact (fun _ _ _ h => h)); (· rfl); (· rfl))
        (try simp only [Act.put, List.setIfInBounds_toArray, List.set_cons_zero, List.set_cons_succ])
        (refine wpAnyH_take (i := 13) (oi := ?_) (v := ?_) ?_ (by kernel_rfl) (by kernel_rfl) (by kernel_rfl) ?_ (Or.inr ⟨?_, ?_⟩) (by assumption) ?_; rotate_left 2; (· (simp only [List.getElem?_toArray, List.getElem?_cons_succ, List.getElem?_cons_zero]; first | done | rfl)); (· exact (fun _ _ _ h => h)); (· rfl); (· rfl))
        (try simp only [Act.put, List.setIfInBounds_toArray, List.set_cons_zero, List.set_cons_succ])
        (refine wpAnyH_take (i := 14) (oi := ?_) (v := ?_) ?_ (by kernel_rfl) (by kernel_rfl) (by kernel_rfl) ?_ (Or.inr ⟨?_, ?_⟩) (by assumption) ?_; rotate_left 2; (· (simp only [List.getElem?_toArray, List.getElem?_cons_succ, List.getElem?_cons_zero]; first | done | rfl)); (· exact (fun _ _ _ h => h)); (· rfl); (· rfl))
        (try simp only [Act.put, List.setIfInBounds_toArray, List.set_cons_zero, List.set_cons_succ])
        (refine wpAnyH_take (i := 15) (oi := ?_) (v := ?_) ?_ (by kernel_rfl) (by kernel_rfl) (by kernel_rfl) ?_ (Or.inr ⟨?_, ?_⟩) (by assumption) ?_; rotate_left 2; (· (simp only [List.getElem?_toArray, List.getElem?_cons_succ, List.getElem?_cons_zero]; first | done | rfl)); (· exact (fun _ _ _ h => h)); (· rfl); (· rfl))
        (try simp only [Act.put, List.setIfInBounds_toArray, List.set_cons_zero, List.set_cons_succ])
        (refine wpAnyH_take (i := 16) (oi := ?_) (v := ?_) ?_ (by kernel_rfl) (by kernel_rfl) (by kernel_rfl) ?_ (Or.inr ⟨?_, ?_⟩) (by assumption) ?_; rotate_left 2; (· (simp only [List.getElem?_toArray, List.getElem?_cons_succ, List.getElem?_cons_zero]; first | done | rfl)); (· exact (fun _ _ _ h => h)); (· rfl); (· rfl))
        (try simp only [Act.put, List.setIfInBounds_toArray, List.set_cons_zero, List.set_cons_succ])
        (refine wpAnyH_take (i := 17) (oi := ?_) (v := ?_) ?_ (by kernel_rfl) (by kernel_rfl) (by kernel_rfl) ?_ (Or.inr ⟨?_, ?_⟩) (by assumption) ?_; rotate_left 2; (· (simp only [List.getElem?_toArray, List.getElem?_cons_succ, List.getElem?_cons_zero]; first | done | rfl)); (· exact (fun _ _ _ h => h)); (· rfl); (· rfl))
        (try simp only [Act.put, List.setIfInBounds_toArray, List.set_cons_zero, List.set_cons_succ])
        (refine wpAnyH_take (i := 18) (oi := ?_) (v := ?_) ?_ (by kernel_rfl) (by kernel_rfl) (by kernel_rfl) ?_ (Or.inr ⟨?_, ?_⟩) (by assumption) ?_; rotate_left 2; (· (simp only [List.getElem?_toArray, List.getElem?_cons_succ, List.getElem?_cons_zero]; first | done | rfl)); (· exact (fun _ _ _ h => h)); (· rfl); (· rfl))
        (try simp only [Act.put, List.setIfInBounds_toArray, List.set_cons_zero, List.set_cons_succ])
        (refine wpAnyH_take (i := 19) (oi := ?_) (v := ?_) ?_ (by kernel_rfl) (by kernel_rfl) (by kernel_rfl) ?_ (Or.inr ⟨?_, ?_⟩) (by assumption) ?_; rotate_left 2; (· (simp only [List.getElem?_toArray, List.getElem?_cons_succ, List.getElem?_cons_zero]; first | done | rfl)); (· exact (fun _ _ _ h => h)); (· rfl); (· rfl))
        (try simp only [Act.put, List.setIfInBounds_toArray, List.set_cons_zero, List.set_cons_succ])
        (refine wpAnyH_take (i := 20) (oi := ?_) (v := ?_) ?_ (by kernel_rfl) (by kernel_rfl) (by kernel_rfl) ?_ (Or.inr ⟨?_, ?_⟩) (by assumption) ?_; rotate_left 2; (· (simp only [List.getElem?_toArray, List.getElem?_cons_succ, List.getElem?_cons_zero]; first | done | rfl)); (· exact (fun _ _ _ h => h)); (· rfl); (· rfl))
        (try simp only [Act.put, List.setIfInBounds_toArray, List.set_cons_zero, List.set_cons_succ])
        (refine wpAnyH_take (i := 21) (oi := ?_) (v := ?_) ?_ (by kernel_rfl) (by kernel_rfl) (by kernel_rfl) ?_ (Or.inr ⟨?_, ?_⟩) (by assumption) ?_; rotate_left 2; (· (simp only [List.getElem?_toArray, List.getElem?_cons_succ, List.getElem?_cons_zero]; first | done | rfl)); (· exact (fun _ _ _ h => h)); (· rfl); (· rfl))
        (try simp only [Act.put, List.setIfInBounds_toArray, List.set_cons_zero, List.set_cons_succ])
        (refine wpAnyH_take (i := 22) (oi := ?_) (v := ?_) ?_ (by kernel_rfl) (by kernel_rfl) (by kernel_rfl) ?_ (Or.inr ⟨?_, ?_⟩) (by assumption) ?_; rotate_left 2; (· (simp only [List.getElem?_toArray, List.getElem?_cons_succ, List.getElem?_cons_zero]; first | done | rfl)); (· exact (fun _ _ _ h => h)); (· rfl); (· rfl))
        (try simp only [Act.put, List.setIfInBounds_toArray, List.set_cons_zero, List.set_cons_succ])
        (refine wpAnyH_take (i := 23) (oi := ?_) (v := ?_) ?_ (by kernel_rfl) (by kernel_rfl) (by kernel_rfl) ?_ (Or.inr ⟨?_, ?_⟩) (by assumption) ?_; rotate_left 2; (· (simp only [List.getElem?_toArray, List.getElem?_cons_succ, List.getElem?_cons_zero]; first | done | rfl)); (· exact (fun _ _ _ h => h)); (· rfl); (· rfl))
        (try simp only [Act.put, List.setIfInBounds_toArray, List.set_cons_zero, List.set_cons_succ])
        (refine wpAnyH_take (i := 24) (oi := ?_) (v := ?_) ?_ (by kernel_rfl) (by kernel_rfl) (by kernel_rfl) ?_ (Or.inl ⟨?_, ?_⟩) (by assumption) ?_; rotate_left 2; (· (simp only [List.getElem?_toArray, List.getElem?_cons_succ, List.getElem?_cons_zero]; first | done | rfl)); (· exact (fun _ _ _ h => h)); (· rfl); (· (intro w hSw; (try dsimp only at hSw); go_simp; (try with_reducible rfl))))
        (try simp only [Act.put, List.setIfInBounds_toArray, List.set_cons_zero, List.set_cons_succ])
        refine wpAnyH_done (by kernel_rfl) ?_ _
        go_wp2_with fail
        exact ⟨⟨k + 1, by omega, by go_num, Lib.hid (by rw [needN, HP.out, HRO.out]; rfl), btrans HBR.out (nd_own (by assumption))⟩, by simp [intOf]; go_num⟩
      by_cases hlti : k < i
      · have n1 : (k : Int) < (i : Int) := by omega
        have n2 : decide ((k : Int) < (i : Int)) = true := by rw [decide_eq_true_iff]; exact n1
        have n3 : decide (k < i) = true := by rw [decide_eq_true_iff]; exact hlti
        have hro : hit L i k = true := by rw [hh]; rw [m3, n3]; rfl
        have HRO := Lib.hid hro
        clear hh hro
        go_wp2_with fail
        refine wp_region_held_drew (S := (fun w' => w'.cell? ⟨wr.heap.size, 0, none⟩ = some (.string ⟨x.name.toArray⟩) ∧ w'.cell? ⟨wr.heap.size, 1, none⟩ = some (.int .i64 x.op) ∧ w'.cell? ⟨wr.heap.size, 2, none⟩ = some (.int .i64 x.val.kind) ∧ w'.cell? ⟨wr.heap.size, 3, none⟩ = some (.int .i64 x.val.int) ∧ w'.cell? ⟨wr.heap.size, 4, none⟩ = some (.float .f64 x.val.num) ∧ w'.cell? ⟨wr.heap.size, 5, none⟩ = some (.string ⟨x.val.text.toArray⟩) ∧ w'.cell? ⟨wr.heap.size, 6, none⟩ = some (.bool x.val.yes) ∧ w'.cell? ⟨g, i * 7, none⟩ = some (.string ⟨y.name.toArray⟩) ∧ w'.cell? ⟨g, i * 7 + 1, none⟩ = some (.int .i64 y.op) ∧ w'.cell? ⟨g, i * 7 + 2, none⟩ = some (.int .i64 y.val.kind) ∧ w'.cell? ⟨g, i * 7 + 3, none⟩ = some (.int .i64 y.val.int) ∧ w'.cell? ⟨g, i * 7 + 4, none⟩ = some (.float .f64 y.val.num) ∧ w'.cell? ⟨g, i * 7 + 5, none⟩ = some (.string ⟨y.val.text.toArray⟩) ∧ w'.cell? ⟨g, i * 7 + 6, none⟩ = some (.bool y.val.yes) ∧ Below wr.heap.size wr w' ∧ wr.heap.size < w'.heap.size ∧ g < wr.heap.size)) (by kernel_rfl) ?_ (fun hq0 => ?_)
        · ((try dsimp only); (first | exact HST.out | assumption | exact nd_below (by assumption) (by assumption)))
        (refine wpAnyH_take (i := 0) (oi := ?_) (v := ?_) ?_ (by kernel_rfl) (by kernel_rfl) (by kernel_rfl) ?_ (Or.inl ⟨?_, ?_⟩) (by assumption) ?_; rotate_left 2; (· (simp only [List.getElem?_toArray, List.getElem?_cons_zero]; first | done | rfl)); (· exact (fun _ _ _ h => h)); (· rfl); (· (intro w hSw; (try dsimp only at hSw); go_simp; (try with_reducible rfl))))
        (try simp only [Act.put, List.setIfInBounds_toArray, List.set_cons_zero, List.set_cons_succ])
        (refine wpAnyH_take (i := 1) (oi := ?_) (v := ?_) ?_ (by kernel_rfl) (by kernel_rfl) (by kernel_rfl) ?_ (Or.inl ⟨?_, ?_⟩) (by assumption) ?_; rotate_left 2; (· (simp only [List.getElem?_toArray, List.getElem?_cons_succ, List.getElem?_cons_zero]; first | done | rfl)); (· exact (fun _ _ _ h => h)); (· rfl); (· (intro w hSw; (try dsimp only at hSw); go_simp; (try with_reducible rfl))))
        (try simp only [Act.put, List.setIfInBounds_toArray, List.set_cons_zero, List.set_cons_succ])
        (refine wpAnyH_take (i := 2) (oi := ?_) (v := ?_) ?_ (by kernel_rfl) (by kernel_rfl) (by kernel_rfl) ?_ (Or.inl ⟨?_, ?_⟩) (by assumption) ?_; rotate_left 2; (· (simp only [List.getElem?_toArray, List.getElem?_cons_succ, List.getElem?_cons_zero]; first | done | rfl)); (· exact (fun _ _ _ h => h)); (· rfl); (· (intro w hSw; (try dsimp only at hSw); go_simp; (try with_reducible rfl))))
        (try simp only [Act.put, List.setIfInBounds_toArray, List.set_cons_zero, List.set_cons_succ])
        (refine wpAnyH_take (i := 3) (oi := ?_) (v := ?_) ?_ (by kernel_rfl) (by kernel_rfl) (by kernel_rfl) ?_ (Or.inl ⟨?_, ?_⟩) (by assumption) ?_; rotate_left 2; (· (simp only [List.getElem?_toArray, List.getElem?_cons_succ, List.getElem?_cons_zero]; first | done | rfl)); (· exact (fun _ _ _ h => h)); (· rfl); (· (intro w hSw; (try dsimp only at hSw); go_simp; (try with_reducible rfl))))
        (try simp only [Act.put, List.setIfInBounds_toArray, List.set_cons_zero, List.set_cons_succ])
        (refine wpAnyH_take (i := 4) (oi := ?_) (v := ?_) ?_ (by kernel_rfl) (by kernel_rfl) (by kernel_rfl) ?_ (Or.inl ⟨?_, ?_⟩) (by assumption) ?_; rotate_left 2; (· (simp only [List.getElem?_toArray, List.getElem?_cons_succ, List.getElem?_cons_zero]; first | done | rfl)); (· exact (fun _ _ _ h => h)); (· rfl); (· (intro w hSw; (try dsimp only at hSw); go_simp; (try with_reducible rfl))))
        (try simp only [Act.put, List.setIfInBounds_toArray, List.set_cons_zero, List.set_cons_succ])
        (refine wpAnyH_take (i := 5) (oi := ?_) (v := ?_) ?_ (by kernel_rfl) (by kernel_rfl) (by kernel_rfl) ?_ (Or.inl ⟨?_, ?_⟩) (by assumption) ?_; rotate_left 2; (· (simp only [List.getElem?_toArray, List.getElem?_cons_succ, List.getElem?_cons_zero]; first | done | rfl)); (· exact (fun _ _ _ h => h)); (· rfl); (· (intro w hSw; (try dsimp only at hSw); go_simp; (try with_reducible rfl))))
        (try simp only [Act.put, List.setIfInBounds_toArray, List.set_cons_zero, List.set_cons_succ])
        (refine wpAnyH_take (i := 6) (oi := ?_) (v := ?_) ?_ (by kernel_rfl) (by kernel_rfl) (by kernel_rfl) ?_ (Or.inl ⟨?_, ?_⟩) (by assumption) ?_; rotate_left 2; (· (simp only [List.getElem?_toArray, List.getElem?_cons_succ, List.getElem?_cons_zero]; first | done | rfl)); (· exact (fun _ _ _ h => h)); (· rfl); (· (intro w hSw; (try dsimp only at hSw); go_simp; (try with_reducible rfl))))
        (try simp only [Act.put, List.setIfInBounds_toArray, List.set_cons_zero, List.set_cons_succ])
        (refine wpAnyH_take (i := 7) (oi := ?_) (v := ?_) ?_ (by kernel_rfl) (by kernel_rfl) (by kernel_rfl) ?_ (Or.inl ⟨?_, ?_⟩) (by assumption) ?_; rotate_left 2; (· (simp only [List.getElem?_toArray, List.getElem?_cons_succ, List.getElem?_cons_zero]; first | done | rfl)); (· exact (fun _ _ _ h => h)); (· rfl); (· (intro w hSw; (try dsimp only at hSw); go_simp; (try with_reducible rfl))))
        (try simp only [Act.put, List.setIfInBounds_toArray, List.set_cons_zero, List.set_cons_succ])
        (refine wpAnyH_take (i := 8) (oi := ?_) (v := ?_) ?_ (by kernel_rfl) (by kernel_rfl) (by kernel_rfl) ?_ (Or.inl ⟨?_, ?_⟩) (by assumption) ?_; rotate_left 2; (· (simp only [List.getElem?_toArray, List.getElem?_cons_succ, List.getElem?_cons_zero]; first | done | rfl)); (· exact (fun _ _ _ h => h)); (· rfl); (· (intro w hSw; (try dsimp only at hSw); go_simp; (try with_reducible rfl))))
        (try simp only [Act.put, List.setIfInBounds_toArray, List.set_cons_zero, List.set_cons_succ])
        refine wpAnyH_ready (rs := [9]) (by kernel_rfl) (by simp) ?_
        refine AllReadyH.cons (o := ?_) ?_ (fun K hK => ?_) AllReadyH.nil
        rotate_left 1
        · (simp only [List.getElem?_toArray, List.getElem?_cons_succ, List.getElem?_cons_zero]; first | done | rfl)
        go_simp
        first | (refine hK.out _ _ ?_ (fun hq1 => ?_)) | ((go_at_call 35; (first | (with_reducible refine (HI1.out _).mono ?_) | (with_reducible refine (HI2.out _).mono ?_)); rintro e w7 ⟨rfl, hb7⟩); refine hK.out _ _ ?_ (fun hq1 => ?_)) | ((go_at_call 35; (first | (with_reducible refine (HI1.out _).mono ?_) | (with_reducible refine (HI2.out _).mono ?_)); rintro e w7 ⟨rfl, hb7⟩); go_wp2_with fail; refine hK.out _ _ ?_ (fun hq1 => ?_)) | fail
        · ((try dsimp only); (first | exact HST.out | assumption | exact nd_below (by assumption) (by assumption)))
        clear hK K
        (try simp only [Act.put, List.setIfInBounds_toArray, List.set_cons_zero, List.set_cons_succ])
        clear hq0
        (refine wpAnyH_take (i := 10) (oi := ?_) (v := ?_) ?_ (by kernel_rfl) (by kernel_rfl) (by kernel_rfl) ?_ (Or.inl ⟨?_, ?_⟩) (by assumption) ?_; rotate_left 2; (· (simp only [List.getElem?_toArray, List.getElem?_cons_succ, List.getElem?_cons_zero]; first | done | rfl)); (· exact (fun _ _ _ h => h)); (· rfl); (· (intro w hSw; (try dsimp only at hSw); go_simp; (try with_reducible rfl))))
        (try simp only [Act.put, List.setIfInBounds_toArray, List.set_cons_zero, List.set_cons_succ])
        (refine wpAnyH_take (i := 11) (oi := ?_) (v := ?_) ?_ (by kernel_rfl) (by kernel_rfl) (by kernel_rfl) ?_ (Or.inl ⟨?_, ?_⟩) (by assumption) ?_; rotate_left 2; (· (simp only [List.getElem?_toArray, List.getElem?_cons_succ, List.getElem?_cons_zero]; first | done | rfl)); (· exact (fun _ _ _ h => h)); (· rfl); (· (intro w hSw; (try dsimp only at hSw); go_simp; (try with_reducible rfl))))
        (try simp only [Act.put, List.setIfInBounds_toArray, List.set_cons_zero, List.set_cons_succ])
        (refine wpAnyH_take (i := 12) (oi := ?_) (v := ?_) ?_ (by kernel_rfl) (by kernel_rfl) (by kernel_rfl) ?_ (Or.inl ⟨?_, ?_⟩) (by assumption) ?_; rotate_left 2; (· (simp only [List.getElem?_toArray, List.getElem?_cons_succ, List.getElem?_cons_zero]; first | done | rfl)); (· exact (fun _ _ _ h => h)); (· rfl); (· (intro w hSw; (try dsimp only at hSw); go_simp; (try with_reducible rfl))))
        (try simp only [Act.put, List.setIfInBounds_toArray, List.set_cons_zero, List.set_cons_succ])
        (refine wpAnyH_take (i := 13) (oi := ?_) (v := ?_) ?_ (by kernel_rfl) (by kernel_rfl) (by kernel_rfl) ?_ (Or.inl ⟨?_, ?_⟩) (by assumption) ?_; rotate_left 2; (· (simp only [List.getElem?_toArray, List.getElem?_cons_succ, List.getElem?_cons_zero]; first | done | rfl)); (· exact (fun _ _ _ h => h)); (· rfl); (· (intro w hSw; (try dsimp only at hSw); go_simp; (try with_reducible rfl))))
        (try simp only [Act.put, List.setIfInBounds_toArray, List.set_cons_zero, List.set_cons_succ])
        (refine wpAnyH_take (i := 14) (oi := ?_) (v := ?_) ?_ (by kernel_rfl) (by kernel_rfl) (by kernel_rfl) ?_ (Or.inl ⟨?_, ?_⟩) (by assumption) ?_; rotate_left 2; (· (simp only [List.getElem?_toArray, List.getElem?_cons_succ, List.getElem?_cons_zero]; first | done | rfl)); (· exact (fun _ _ _ h => h)); (· rfl); (· (intro w hSw; (try dsimp only at hSw); go_simp; (try with_reducible rfl))))
        (try simp only [Act.put, List.setIfInBounds_toArray, List.set_cons_zero, List.set_cons_succ])
        (refine wpAnyH_take (i := 15) (oi := ?_) (v := ?_) ?_ (by kernel_rfl) (by kernel_rfl) (by kernel_rfl) ?_ (Or.inl ⟨?_, ?_⟩) (by assumption) ?_; rotate_left 2; (· (simp only [List.getElem?_toArray, List.getElem?_cons_succ, List.getElem?_cons_zero]; first | done | rfl)); (· exact (fun _ _ _ h => h)); (· rfl); (· (intro w hSw; (try dsimp only at hSw); go_simp; (try with_reducible rfl))))
        (try simp only [Act.put, List.setIfInBounds_toArray, List.set_cons_zero, List.set_cons_succ])
        (refine wpAnyH_take (i := 16) (oi := ?_) (v := ?_) ?_ (by kernel_rfl) (by kernel_rfl) (by kernel_rfl) ?_ (Or.inr ⟨?_, ?_⟩) (by assumption) ?_; rotate_left 2; (· (simp only [List.getElem?_toArray, List.getElem?_cons_succ, List.getElem?_cons_zero]; first | done | rfl)); (· exact (fun _ _ _ h => h)); (· rfl); (· rfl))
        (try simp only [Act.put, List.setIfInBounds_toArray, List.set_cons_zero, List.set_cons_succ])
        (refine wpAnyH_take (i := 17) (oi := ?_) (v := ?_) ?_ (by kernel_rfl) (by kernel_rfl) (by kernel_rfl) ?_ (Or.inr ⟨?_, ?_⟩) (by assumption) ?_; rotate_left 2; (· (simp only [List.getElem?_toArray, List.getElem?_cons_succ, List.getElem?_cons_zero]; first | done | rfl)); (· exact (fun _ _ _ h => h)); (· rfl); (· rfl))
        (try simp only [Act.put, List.setIfInBounds_toArray, List.set_cons_zero, List.set_cons_succ])
        (refine wpAnyH_take (i := 18) (oi := ?_) (v := ?_) ?_ (by kernel_rfl) (by kernel_rfl) (by kernel_rfl) ?_ (Or.inr ⟨?_, ?_⟩) (by assumption) ?_; rotate_left 2; (· (simp only [List.getElem?_toArray, List.getElem?_cons_succ, List.getElem?_cons_zero]; first | done | rfl)); (· exact (fun _ _ _ h => h)); (· rfl); (· rfl))
        (try simp only [Act.put, List.setIfInBounds_toArray, List.set_cons_zero, List.set_cons_succ])
        (refine wpAnyH_take (i := 19) (oi := ?_) (v := ?_) ?_ (by kernel_rfl) (by kernel_rfl) (by kernel_rfl) ?_ (Or.inr ⟨?_, ?_⟩) (by assumption) ?_; rotate_left 2; (· (simp only [List.getElem?_toArray, List.getElem?_cons_succ, List.getElem?_cons_zero]; first | done | rfl)); (· exact (fun _ _ _ h => h)); (· rfl); (· rfl))
        (try simp only [Act.put, List.setIfInBounds_toArray, List.set_cons_zero, List.set_cons_succ])
        (refine wpAnyH_take (i := 20) (oi := ?_) (v := ?_) ?_ (by kernel_rfl) (by kernel_rfl) (by kernel_rfl) ?_ (Or.inr ⟨?_, ?_⟩) (by assumption) ?_; rotate_left 2; (· (simp only [List.getElem?_toArray, List.getElem?_cons_succ, List.getElem?_cons_zero]; first | done | rfl)); (· exact (fun _ _ _ h => h)); (· rfl); (· rfl))
        (try simp only [Act.put, List.setIfInBounds_toArray, List.set_cons_zero, List.set_cons_succ])
        (refine wpAnyH_take (i := 21) (oi := ?_) (v := ?_) ?_ (by kernel_rfl) (by kernel_rfl) (by kernel_rfl) ?_ (Or.inr ⟨?_, ?_⟩) (by assumption) ?_; rotate_left 2; (· (simp only [List.getElem?_toArray, List.getElem?_cons_succ, List.getElem?_cons_zero]; first | done | rfl)); (· exact (fun _ _ _ h => h)); (· rfl); (· rfl))
        (try simp only [Act.put, List.setIfInBounds_toArray, List.set_cons_zero, List.set_cons_succ])
        (refine wpAnyH_take (i := 22) (oi := ?_) (v := ?_) ?_ (by kernel_rfl) (by kernel_rfl) (by kernel_rfl) ?_ (Or.inr ⟨?_, ?_⟩) (by assumption) ?_; rotate_left 2; (· (simp only [List.getElem?_toArray, List.getElem?_cons_succ, List.getElem?_cons_zero]; first | done | rfl)); (· exact (fun _ _ _ h => h)); (· rfl); (· rfl))
        (try simp only [Act.put, List.setIfInBounds_toArray, List.set_cons_zero, List.set_cons_succ])
        (refine wpAnyH_take (i := 23) (oi := ?_) (v := ?_) ?_ (by kernel_rfl) (by kernel_rfl) (by kernel_rfl) ?_ (Or.inl ⟨?_, ?_⟩) (by assumption) ?_; rotate_left 2; (· (simp only [List.getElem?_toArray, List.getElem?_cons_succ, List.getElem?_cons_zero]; first | done | rfl)); (· exact (fun _ _ _ h => h)); (· rfl); (· (intro w hSw; (try dsimp only at hSw); go_simp; (try with_reducible rfl))))
        (try simp only [Act.put, List.setIfInBounds_toArray, List.set_cons_zero, List.set_cons_succ])
        (refine wpAnyH_take (i := 24) (oi := ?_) (v := ?_) ?_ (by kernel_rfl) (by kernel_rfl) (by kernel_rfl) ?_ (Or.inl ⟨?_, ?_⟩) (by assumption) ?_; rotate_left 2; (· (simp only [List.getElem?_toArray, List.getElem?_cons_succ, List.getElem?_cons_zero]; first | done | rfl)); (· exact (fun _ _ _ h => h)); (· rfl); (· (intro w hSw; (try dsimp only at hSw); go_simp; (try with_reducible rfl))))
        (try simp only [Act.put, List.setIfInBounds_toArray, List.set_cons_zero, List.set_cons_succ])
        refine wpAnyH_done (by kernel_rfl) ?_ _
        go_wp2_with fail
        go_ret
        exact ⟨ret_bool (by unfold needB; rw [needN_hit L i k _ hlt HRO.out]), btrans HBR.out (nd_own (by assumption))⟩
      have n1 : ¬ (k : Int) < (i : Int) := by omega
      have n2 : decide ((k : Int) < (i : Int)) = false := by rw [decide_eq_false_iff_not]; exact n1
      have n3 : decide (k < i) = false := by rw [decide_eq_false_iff_not]; exact hlti
      cases b2
      · skip
        have hro : hit L i k = true := by rw [hh]; rw [m3, n3]; rfl
        have HRO := Lib.hid hro
        clear hh hro
        go_wp2_with fail
        refine wp_region_held_drew (S := (fun w' => w'.cell? ⟨wr.heap.size, 0, none⟩ = some (.string ⟨x.name.toArray⟩) ∧ w'.cell? ⟨wr.heap.size, 1, none⟩ = some (.int .i64 x.op) ∧ w'.cell? ⟨wr.heap.size, 2, none⟩ = some (.int .i64 x.val.kind) ∧ w'.cell? ⟨wr.heap.size, 3, none⟩ = some (.int .i64 x.val.int) ∧ w'.cell? ⟨wr.heap.size, 4, none⟩ = some (.float .f64 x.val.num) ∧ w'.cell? ⟨wr.heap.size, 5, none⟩ = some (.string ⟨x.val.text.toArray⟩) ∧ w'.cell? ⟨wr.heap.size, 6, none⟩ = some (.bool x.val.yes) ∧ w'.cell? ⟨g, i * 7, none⟩ = some (.string ⟨y.name.toArray⟩) ∧ w'.cell? ⟨g, i * 7 + 1, none⟩ = some (.int .i64 y.op) ∧ w'.cell? ⟨g, i * 7 + 2, none⟩ = some (.int .i64 y.val.kind) ∧ w'.cell? ⟨g, i * 7 + 3, none⟩ = some (.int .i64 y.val.int) ∧ w'.cell? ⟨g, i * 7 + 4, none⟩ = some (.float .f64 y.val.num) ∧ w'.cell? ⟨g, i * 7 + 5, none⟩ = some (.string ⟨y.val.text.toArray⟩) ∧ w'.cell? ⟨g, i * 7 + 6, none⟩ = some (.bool y.val.yes) ∧ Below wr.heap.size wr w' ∧ wr.heap.size < w'.heap.size ∧ g < wr.heap.size)) (by kernel_rfl) ?_ (fun hq0 => ?_)
        · ((try dsimp only); (first | exact HST.out | assumption | exact nd_below (by assumption) (by assumption)))
        (refine wpAnyH_take (i := 0) (oi := ?_) (v := ?_) ?_ (by kernel_rfl) (by kernel_rfl) (by kernel_rfl) ?_ (Or.inl ⟨?_, ?_⟩) (by assumption) ?_; rotate_left 2; (· (simp only [List.getElem?_toArray, List.getElem?_cons_zero]; first | done | rfl)); (· exact (fun _ _ _ h => h)); (· rfl); (· (intro w hSw; (try dsimp only at hSw); go_simp; (try with_reducible rfl))))
        (try simp only [Act.put, List.setIfInBounds_toArray, List.set_cons_zero, List.set_cons_succ])
        (refine wpAnyH_take (i := 1) (oi := ?_) (v := ?_) ?_ (by kernel_rfl) (by kernel_rfl) (by kernel_rfl) ?_ (Or.inl ⟨?_, ?_⟩) (by assumption) ?_; rotate_left 2; (· (simp only [List.getElem?_toArray, List.getElem?_cons_succ, List.getElem?_cons_zero]; first | done | rfl)); (· exact (fun _ _ _ h => h)); (· rfl); (· (intro w hSw; (try dsimp only at hSw); go_simp; (try with_reducible rfl))))
        (try simp only [Act.put, List.setIfInBounds_toArray, List.set_cons_zero, List.set_cons_succ])
        (refine wpAnyH_take (i := 2) (oi := ?_) (v := ?_) ?_ (by kernel_rfl) (by kernel_rfl) (by kernel_rfl) ?_ (Or.inl ⟨?_, ?_⟩) (by assumption) ?_; rotate_left 2; (· (simp only [List.getElem?_toArray, List.getElem?_cons_succ, List.getElem?_cons_zero]; first | done | rfl)); (· exact (fun _ _ _ h => h)); (· rfl); (· (intro w hSw; (try dsimp only at hSw); go_simp; (try with_reducible rfl))))
        (try simp only [Act.put, List.setIfInBounds_toArray, List.set_cons_zero, List.set_cons_succ])
        (refine wpAnyH_take (i := 3) (oi := ?_) (v := ?_) ?_ (by kernel_rfl) (by kernel_rfl) (by kernel_rfl) ?_ (Or.inl ⟨?_, ?_⟩) (by assumption) ?_; rotate_left 2; (· (simp only [List.getElem?_toArray, List.getElem?_cons_succ, List.getElem?_cons_zero]; first | done | rfl)); (· exact (fun _ _ _ h => h)); (· rfl); (· (intro w hSw; (try dsimp only at hSw); go_simp; (try with_reducible rfl))))
        (try simp only [Act.put, List.setIfInBounds_toArray, List.set_cons_zero, List.set_cons_succ])
        (refine wpAnyH_take (i := 4) (oi := ?_) (v := ?_) ?_ (by kernel_rfl) (by kernel_rfl) (by kernel_rfl) ?_ (Or.inl ⟨?_, ?_⟩) (by assumption) ?_; rotate_left 2; (· (simp only [List.getElem?_toArray, List.getElem?_cons_succ, List.getElem?_cons_zero]; first | done | rfl)); (· exact (fun _ _ _ h => h)); (· rfl); (· (intro w hSw; (try dsimp only at hSw); go_simp; (try with_reducible rfl))))
        (try simp only [Act.put, List.setIfInBounds_toArray, List.set_cons_zero, List.set_cons_succ])
        (refine wpAnyH_take (i := 5) (oi := ?_) (v := ?_) ?_ (by kernel_rfl) (by kernel_rfl) (by kernel_rfl) ?_ (Or.inl ⟨?_, ?_⟩) (by assumption) ?_; rotate_left 2; (· (simp only [List.getElem?_toArray, List.getElem?_cons_succ, List.getElem?_cons_zero]; first | done | rfl)); (· exact (fun _ _ _ h => h)); (· rfl); (· (intro w hSw; (try dsimp only at hSw); go_simp; (try with_reducible rfl))))
        (try simp only [Act.put, List.setIfInBounds_toArray, List.set_cons_zero, List.set_cons_succ])
        (refine wpAnyH_take (i := 6) (oi := ?_) (v := ?_) ?_ (by kernel_rfl) (by kernel_rfl) (by kernel_rfl) ?_ (Or.inl ⟨?_, ?_⟩) (by assumption) ?_; rotate_left 2; (· (simp only [List.getElem?_toArray, List.getElem?_cons_succ, List.getElem?_cons_zero]; first | done | rfl)); (· exact (fun _ _ _ h => h)); (· rfl); (· (intro w hSw; (try dsimp only at hSw); go_simp; (try with_reducible rfl))))
        (try simp only [Act.put, List.setIfInBounds_toArray, List.set_cons_zero, List.set_cons_succ])
        (refine wpAnyH_take (i := 7) (oi := ?_) (v := ?_) ?_ (by kernel_rfl) (by kernel_rfl) (by kernel_rfl) ?_ (Or.inl ⟨?_, ?_⟩) (by assumption) ?_; rotate_left 2; (· (simp only [List.getElem?_toArray, List.getElem?_cons_succ, List.getElem?_cons_zero]; first | done | rfl)); (· exact (fun _ _ _ h => h)); (· rfl); (· (intro w hSw; (try dsimp only at hSw); go_simp; (try with_reducible rfl))))
        (try simp only [Act.put, List.setIfInBounds_toArray, List.set_cons_zero, List.set_cons_succ])
        (refine wpAnyH_take (i := 8) (oi := ?_) (v := ?_) ?_ (by kernel_rfl) (by kernel_rfl) (by kernel_rfl) ?_ (Or.inl ⟨?_, ?_⟩) (by assumption) ?_; rotate_left 2; (· (simp only [List.getElem?_toArray, List.getElem?_cons_succ, List.getElem?_cons_zero]; first | done | rfl)); (· exact (fun _ _ _ h => h)); (· rfl); (· (intro w hSw; (try dsimp only at hSw); go_simp; (try with_reducible rfl))))
        (try simp only [Act.put, List.setIfInBounds_toArray, List.set_cons_zero, List.set_cons_succ])
        refine wpAnyH_ready (rs := [9]) (by kernel_rfl) (by simp) ?_
        refine AllReadyH.cons (o := ?_) ?_ (fun K hK => ?_) AllReadyH.nil
        rotate_left 1
        · (simp only [List.getElem?_toArray, List.getElem?_cons_succ, List.getElem?_cons_zero]; first | done | rfl)
        go_simp
        first | (refine hK.out _ _ ?_ (fun hq1 => ?_)) | ((go_at_call 35; (first | (with_reducible refine (HI1.out _).mono ?_) | (with_reducible refine (HI2.out _).mono ?_)); rintro e w7 ⟨rfl, hb7⟩); refine hK.out _ _ ?_ (fun hq1 => ?_)) | ((go_at_call 35; (first | (with_reducible refine (HI1.out _).mono ?_) | (with_reducible refine (HI2.out _).mono ?_)); rintro e w7 ⟨rfl, hb7⟩); go_wp2_with fail; refine hK.out _ _ ?_ (fun hq1 => ?_)) | fail
        · ((try dsimp only); (first | exact HST.out | assumption | exact nd_below (by assumption) (by assumption)))
        clear hK K
        (try simp only [Act.put, List.setIfInBounds_toArray, List.set_cons_zero, List.set_cons_succ])
        clear hq0
        (refine wpAnyH_take (i := 10) (oi := ?_) (v := ?_) ?_ (by kernel_rfl) (by kernel_rfl) (by kernel_rfl) ?_ (Or.inl ⟨?_, ?_⟩) (by assumption) ?_; rotate_left 2; (· (simp only [List.getElem?_toArray, List.getElem?_cons_succ, List.getElem?_cons_zero]; first | done | rfl)); (· exact (fun _ _ _ h => h)); (· rfl); (· (intro w hSw; (try dsimp only at hSw); go_simp; (try with_reducible rfl))))
        (try simp only [Act.put, List.setIfInBounds_toArray, List.set_cons_zero, List.set_cons_succ])
        (refine wpAnyH_take (i := 11) (oi := ?_) (v := ?_) ?_ (by kernel_rfl) (by kernel_rfl) (by kernel_rfl) ?_ (Or.inl ⟨?_, ?_⟩) (by assumption) ?_; rotate_left 2; (· (simp only [List.getElem?_toArray, List.getElem?_cons_succ, List.getElem?_cons_zero]; first | done | rfl)); (· exact (fun _ _ _ h => h)); (· rfl); (· (intro w hSw; (try dsimp only at hSw); go_simp; (try with_reducible rfl))))
        (try simp only [Act.put, List.setIfInBounds_toArray, List.set_cons_zero, List.set_cons_succ])
        (refine wpAnyH_take (i := 12) (oi := ?_) (v := ?_) ?_ (by kernel_rfl) (by kernel_rfl) (by kernel_rfl) ?_ (Or.inl ⟨?_, ?_⟩) (by assumption) ?_; rotate_left 2; (· (simp only [List.getElem?_toArray, List.getElem?_cons_succ, List.getElem?_cons_zero]; first | done | rfl)); (· exact (fun _ _ _ h => h)); (· rfl); (· (intro w hSw; (try dsimp only at hSw); go_simp; (try with_reducible rfl))))
        (try simp only [Act.put, List.setIfInBounds_toArray, List.set_cons_zero, List.set_cons_succ])
        (refine wpAnyH_take (i := 13) (oi := ?_) (v := ?_) ?_ (by kernel_rfl) (by kernel_rfl) (by kernel_rfl) ?_ (Or.inl ⟨?_, ?_⟩) (by assumption) ?_; rotate_left 2; (· (simp only [List.getElem?_toArray, List.getElem?_cons_succ, List.getElem?_cons_zero]; first | done | rfl)); (· exact (fun _ _ _ h => h)); (· rfl); (· (intro w hSw; (try dsimp only at hSw); go_simp; (try with_reducible rfl))))
        (try simp only [Act.put, List.setIfInBounds_toArray, List.set_cons_zero, List.set_cons_succ])
        (refine wpAnyH_take (i := 14) (oi := ?_) (v := ?_) ?_ (by kernel_rfl) (by kernel_rfl) (by kernel_rfl) ?_ (Or.inl ⟨?_, ?_⟩) (by assumption) ?_; rotate_left 2; (· (simp only [List.getElem?_toArray, List.getElem?_cons_succ, List.getElem?_cons_zero]; first | done | rfl)); (· exact (fun _ _ _ h => h)); (· rfl); (· (intro w hSw; (try dsimp only at hSw); go_simp; (try with_reducible rfl))))
        (try simp only [Act.put, List.setIfInBounds_toArray, List.set_cons_zero, List.set_cons_succ])
        (refine wpAnyH_take (i := 15) (oi := ?_) (v := ?_) ?_ (by kernel_rfl) (by kernel_rfl) (by kernel_rfl) ?_ (Or.inl ⟨?_, ?_⟩) (by assumption) ?_; rotate_left 2; (· (simp only [List.getElem?_toArray, List.getElem?_cons_succ, List.getElem?_cons_zero]; first | done | rfl)); (· exact (fun _ _ _ h => h)); (· rfl); (· (intro w hSw; (try dsimp only at hSw); go_simp; (try with_reducible rfl))))
        (try simp only [Act.put, List.setIfInBounds_toArray, List.set_cons_zero, List.set_cons_succ])
        (refine wpAnyH_take (i := 16) (oi := ?_) (v := ?_) ?_ (by kernel_rfl) (by kernel_rfl) (by kernel_rfl) ?_ (Or.inl ⟨?_, ?_⟩) (by assumption) ?_; rotate_left 2; (· (simp only [List.getElem?_toArray, List.getElem?_cons_succ, List.getElem?_cons_zero]; first | done | rfl)); (· exact (fun _ _ _ h => h)); (· rfl); (· (intro w hSw; (try dsimp only at hSw); go_simp; (try with_reducible rfl))))
        (try simp only [Act.put, List.setIfInBounds_toArray, List.set_cons_zero, List.set_cons_succ])
        (refine wpAnyH_take (i := 17) (oi := ?_) (v := ?_) ?_ (by kernel_rfl) (by kernel_rfl) (by kernel_rfl) ?_ (Or.inl ⟨?_, ?_⟩) (by assumption) ?_; rotate_left 2; (· (simp only [List.getElem?_toArray, List.getElem?_cons_succ, List.getElem?_cons_zero]; first | done | rfl)); (· exact (fun _ _ _ h => h)); (· rfl); (· (intro w hSw; (try dsimp only at hSw); go_simp; (try with_reducible rfl))))
        (try simp only [Act.put, List.setIfInBounds_toArray, List.set_cons_zero, List.set_cons_succ])
        (refine wpAnyH_take (i := 18) (oi := ?_) (v := ?_) ?_ (by kernel_rfl) (by kernel_rfl) (by kernel_rfl) ?_ (Or.inl ⟨?_, ?_⟩) (by assumption) ?_; rotate_left 2; (· (simp only [List.getElem?_toArray, List.getElem?_cons_succ, List.getElem?_cons_zero]; first | done | rfl)); (· exact (fun _ _ _ h => h)); (· rfl); (· (intro w hSw; (try dsimp only at hSw); go_simp; (try with_reducible rfl))))
        (try simp only [Act.put, List.setIfInBounds_toArray, List.set_cons_zero, List.set_cons_succ])
        (refine wpAnyH_take (i := 19) (oi := ?_) (v := ?_) ?_ (by kernel_rfl) (by kernel_rfl) (by kernel_rfl) ?_ (Or.inl ⟨?_, ?_⟩) (by assumption) ?_; rotate_left 2; (· (simp only [List.getElem?_toArray, List.getElem?_cons_succ, List.getElem?_cons_zero]; first | done | rfl)); (· exact (fun _ _ _ h => h)); (· rfl); (· (intro w hSw; (try dsimp only at hSw); go_simp; (try with_reducible rfl))))
        (try simp only [Act.put, List.setIfInBounds_toArray, List.set_cons_zero, List.set_cons_succ])
        (refine wpAnyH_take (i := 20) (oi := ?_) (v := ?_) ?_ (by kernel_rfl) (by kernel_rfl) (by kernel_rfl) ?_ (Or.inl ⟨?_, ?_⟩) (by assumption) ?_; rotate_left 2; (· (simp only [List.getElem?_toArray, List.getElem?_cons_succ, List.getElem?_cons_zero]; first | done | rfl)); (· exact (fun _ _ _ h => h)); (· rfl); (· (intro w hSw; (try dsimp only at hSw); go_simp; (try with_reducible rfl))))
        (try simp only [Act.put, List.setIfInBounds_toArray, List.set_cons_zero, List.set_cons_succ])
        refine wpAnyH_ready (rs := [21]) (by kernel_rfl) (by simp) ?_
        refine AllReadyH.cons (o := ?_) ?_ (fun K hK => ?_) AllReadyH.nil
        rotate_left 1
        · (simp only [List.getElem?_toArray, List.getElem?_cons_succ, List.getElem?_cons_zero]; first | done | rfl)
        go_simp
        first | (refine hK.out _ _ ?_ (fun hq2 => ?_)) | ((go_at_call 35; (first | (with_reducible refine (HI1.out _).mono ?_) | (with_reducible refine (HI2.out _).mono ?_)); rintro e w7 ⟨rfl, hb7⟩); refine hK.out _ _ ?_ (fun hq2 => ?_)) | ((go_at_call 35; (first | (with_reducible refine (HI1.out _).mono ?_) | (with_reducible refine (HI2.out _).mono ?_)); rintro e w7 ⟨rfl, hb7⟩); go_wp2_with fail; refine hK.out _ _ ?_ (fun hq2 => ?_)) | fail
        · ((try dsimp only); (first | exact HST.out | assumption | exact nd_below (by assumption) (by assumption)))
        clear hK K
        (try simp only [Act.put, List.setIfInBounds_toArray, List.set_cons_zero, List.set_cons_succ])
        clear hq1
        (refine wpAnyH_take (i := 22) (oi := ?_) (v := ?_) ?_ (by kernel_rfl) (by kernel_rfl) (by kernel_rfl) ?_ (Or.inl ⟨?_, ?_⟩) (by assumption) ?_; rotate_left 2; (· (simp only [List.getElem?_toArray, List.getElem?_cons_succ, List.getElem?_cons_zero]; first | done | rfl)); (· exact (fun _ _ _ h => h)); (· rfl); (· (intro w hSw; (try dsimp only at hSw); go_simp; (try with_reducible rfl))))
        (try simp only [Act.put, List.setIfInBounds_toArray, List.set_cons_zero, List.set_cons_succ])
        (refine wpAnyH_take (i := 23) (oi := ?_) (v := ?_) ?_ (by kernel_rfl) (by kernel_rfl) (by kernel_rfl) ?_ (Or.inl ⟨?_, ?_⟩) (by assumption) ?_; rotate_left 2; (· (simp only [List.getElem?_toArray, List.getElem?_cons_succ, List.getElem?_cons_zero]; first | done | rfl)); (· exact (fun _ _ _ h => h)); (· rfl); (· (intro w hSw; (try dsimp only at hSw); go_simp; (try with_reducible rfl))))
        (try simp only [Act.put, List.setIfInBounds_toArray, List.set_cons_zero, List.set_cons_succ])
        (refine wpAnyH_take (i := 24) (oi := ?_) (v := ?_) ?_ (by kernel_rfl) (by kernel_rfl) (by kernel_rfl) ?_ (Or.inl ⟨?_, ?_⟩) (by assumption) ?_; rotate_left 2; (· (simp only [List.getElem?_toArray, List.getElem?_cons_succ, List.getElem?_cons_zero]; first | done | rfl)); (· exact (fun _ _ _ h => h)); (· rfl); (· (intro w hSw; (try dsimp only at hSw); go_simp; (try with_reducible rfl))))
        (try simp only [Act.put, List.setIfInBounds_toArray, List.set_cons_zero, List.set_cons_succ])
        refine wpAnyH_done (by kernel_rfl) ?_ _
        go_wp2_with fail
        go_ret
        exact ⟨ret_bool (by unfold needB; rw [needN_hit L i k _ hlt HRO.out]), btrans HBR.out (nd_own (by assumption))⟩
      · skip
        have hro : hit L i k = false := by rw [hh]; rw [m3, n3]; rfl
        have HRO := Lib.hid hro
        clear hh hro
        go_wp2_with fail
        refine wp_region_held_drew (S := (fun w' => w'.cell? ⟨wr.heap.size, 0, none⟩ = some (.string ⟨x.name.toArray⟩) ∧ w'.cell? ⟨wr.heap.size, 1, none⟩ = some (.int .i64 x.op) ∧ w'.cell? ⟨wr.heap.size, 2, none⟩ = some (.int .i64 x.val.kind) ∧ w'.cell? ⟨wr.heap.size, 3, none⟩ = some (.int .i64 x.val.int) ∧ w'.cell? ⟨wr.heap.size, 4, none⟩ = some (.float .f64 x.val.num) ∧ w'.cell? ⟨wr.heap.size, 5, none⟩ = some (.string ⟨x.val.text.toArray⟩) ∧ w'.cell? ⟨wr.heap.size, 6, none⟩ = some (.bool x.val.yes) ∧ w'.cell? ⟨g, i * 7, none⟩ = some (.string ⟨y.name.toArray⟩) ∧ w'.cell? ⟨g, i * 7 + 1, none⟩ = some (.int .i64 y.op) ∧ w'.cell? ⟨g, i * 7 + 2, none⟩ = some (.int .i64 y.val.kind) ∧ w'.cell? ⟨g, i * 7 + 3, none⟩ = some (.int .i64 y.val.int) ∧ w'.cell? ⟨g, i * 7 + 4, none⟩ = some (.float .f64 y.val.num) ∧ w'.cell? ⟨g, i * 7 + 5, none⟩ = some (.string ⟨y.val.text.toArray⟩) ∧ w'.cell? ⟨g, i * 7 + 6, none⟩ = some (.bool y.val.yes) ∧ Below wr.heap.size wr w' ∧ wr.heap.size < w'.heap.size ∧ g < wr.heap.size)) (by kernel_rfl) ?_ (fun hq0 => ?_)
        · ((try dsimp only); (first | exact HST.out | assumption | exact nd_below (by assumption) (by assumption)))
        (refine wpAnyH_take (i := 0) (oi := ?_) (v := ?_) ?_ (by kernel_rfl) (by kernel_rfl) (by kernel_rfl) ?_ (Or.inl ⟨?_, ?_⟩) (by assumption) ?_; rotate_left 2; (· (simp only [List.getElem?_toArray, List.getElem?_cons_zero]; first | done | rfl)); (· exact (fun _ _ _ h => h)); (· rfl); (· (intro w hSw; (try dsimp only at hSw); go_simp; (try with_reducible rfl))))
        (try simp only [Act.put, List.setIfInBounds_toArray, List.set_cons_zero, List.set_cons_succ])
        (refine wpAnyH_take (i := 1) (oi := ?_) (v := ?_) ?_ (by kernel_rfl) (by kernel_rfl) (by kernel_rfl) ?_ (Or.inl ⟨?_, ?_⟩) (by assumption) ?_; rotate_left 2; (· (simp only [List.getElem?_toArray, List.getElem?_cons_succ, List.getElem?_cons_zero]; first | done | rfl)); (· exact (fun _ _ _ h => h)); (· rfl); (· (intro w hSw; (try dsimp only at hSw); go_simp; (try with_reducible rfl))))
        (try simp only [Act.put, List.setIfInBounds_toArray, List.set_cons_zero, List.set_cons_succ])
        (refine wpAnyH_take (i := 2) (oi := ?_) (v := ?_) ?_ (by kernel_rfl) (by kernel_rfl) (by kernel_rfl) ?_ (Or.inl ⟨?_, ?_⟩) (by assumption) ?_; rotate_left 2; (· (simp only [List.getElem?_toArray, List.getElem?_cons_succ, List.getElem?_cons_zero]; first | done | rfl)); (· exact (fun _ _ _ h => h)); (· rfl); (· (intro w hSw; (try dsimp only at hSw); go_simp; (try with_reducible rfl))))
        (try simp only [Act.put, List.setIfInBounds_toArray, List.set_cons_zero, List.set_cons_succ])
        (refine wpAnyH_take (i := 3) (oi := ?_) (v := ?_) ?_ (by kernel_rfl) (by kernel_rfl) (by kernel_rfl) ?_ (Or.inl ⟨?_, ?_⟩) (by assumption) ?_; rotate_left 2; (· (simp only [List.getElem?_toArray, List.getElem?_cons_succ, List.getElem?_cons_zero]; first | done | rfl)); (· exact (fun _ _ _ h => h)); (· rfl); (· (intro w hSw; (try dsimp only at hSw); go_simp; (try with_reducible rfl))))
        (try simp only [Act.put, List.setIfInBounds_toArray, List.set_cons_zero, List.set_cons_succ])
        (refine wpAnyH_take (i := 4) (oi := ?_) (v := ?_) ?_ (by kernel_rfl) (by kernel_rfl) (by kernel_rfl) ?_ (Or.inl ⟨?_, ?_⟩) (by assumption) ?_; rotate_left 2; (· (simp only [List.getElem?_toArray, List.getElem?_cons_succ, List.getElem?_cons_zero]; first | done | rfl)); (· exact (fun _ _ _ h => h)); (· rfl); (· (intro w hSw; (try dsimp only at hSw); go_simp; (try with_reducible rfl))))
        (try simp only [Act.put, List.setIfInBounds_toArray, List.set_cons_zero, List.set_cons_succ])
        (refine wpAnyH_take (i := 5) (oi := ?_) (v := ?_) ?_ (by kernel_rfl) (by kernel_rfl) (by kernel_rfl) ?_ (Or.inl ⟨?_, ?_⟩) (by assumption) ?_; rotate_left 2; (· (simp only [List.getElem?_toArray, List.getElem?_cons_succ, List.getElem?_cons_zero]; first | done | rfl)); (· exact (fun _ _ _ h => h)); (· rfl); (· (intro w hSw; (try dsimp only at hSw); go_simp; (try with_reducible rfl))))
        (try simp only [Act.put, List.setIfInBounds_toArray, List.set_cons_zero, List.set_cons_succ])
        (refine wpAnyH_take (i := 6) (oi := ?_) (v := ?_) ?_ (by kernel_rfl) (by kernel_rfl) (by kernel_rfl) ?_ (Or.inl ⟨?_, ?_⟩) (by assumption) ?_; rotate_left 2; (· (simp only [List.getElem?_toArray, List.getElem?_cons_succ, List.getElem?_cons_zero]; first | done | rfl)); (· exact (fun _ _ _ h => h)); (· rfl); (· (intro w hSw; (try dsimp only at hSw); go_simp; (try with_reducible rfl))))
        (try simp only [Act.put, List.setIfInBounds_toArray, List.set_cons_zero, List.set_cons_succ])
        (refine wpAnyH_take (i := 7) (oi := ?_) (v := ?_) ?_ (by kernel_rfl) (by kernel_rfl) (by kernel_rfl) ?_ (Or.inl ⟨?_, ?_⟩) (by assumption) ?_; rotate_left 2; (· (simp only [List.getElem?_toArray, List.getElem?_cons_succ, List.getElem?_cons_zero]; first | done | rfl)); (· exact (fun _ _ _ h => h)); (· rfl); (· (intro w hSw; (try dsimp only at hSw); go_simp; (try with_reducible rfl))))
        (try simp only [Act.put, List.setIfInBounds_toArray, List.set_cons_zero, List.set_cons_succ])
        (refine wpAnyH_take (i := 8) (oi := ?_) (v := ?_) ?_ (by kernel_rfl) (by kernel_rfl) (by kernel_rfl) ?_ (Or.inl ⟨?_, ?_⟩) (by assumption) ?_; rotate_left 2; (· (simp only [List.getElem?_toArray, List.getElem?_cons_succ, List.getElem?_cons_zero]; first | done | rfl)); (· exact (fun _ _ _ h => h)); (· rfl); (· (intro w hSw; (try dsimp only at hSw); go_simp; (try with_reducible rfl))))
        (try simp only [Act.put, List.setIfInBounds_toArray, List.set_cons_zero, List.set_cons_succ])
        refine wpAnyH_ready (rs := [9]) (by kernel_rfl) (by simp) ?_
        refine AllReadyH.cons (o := ?_) ?_ (fun K hK => ?_) AllReadyH.nil
        rotate_left 1
        · (simp only [List.getElem?_toArray, List.getElem?_cons_succ, List.getElem?_cons_zero]; first | done | rfl)
        go_simp
        first | (refine hK.out _ _ ?_ (fun hq1 => ?_)) | ((go_at_call 35; (first | (with_reducible refine (HI1.out _).mono ?_) | (with_reducible refine (HI2.out _).mono ?_)); rintro e w7 ⟨rfl, hb7⟩); refine hK.out _ _ ?_ (fun hq1 => ?_)) | ((go_at_call 35; (first | (with_reducible refine (HI1.out _).mono ?_) | (with_reducible refine (HI2.out _).mono ?_)); rintro e w7 ⟨rfl, hb7⟩); go_wp2_with fail; refine hK.out _ _ ?_ (fun hq1 => ?_)) | fail
        · ((try dsimp only); (first | exact HST.out | assumption | exact nd_below (by assumption) (by assumption)))
        clear hK K
        (try simp only [Act.put, List.setIfInBounds_toArray, List.set_cons_zero, List.set_cons_succ])
        clear hq0
        (refine wpAnyH_take (i := 10) (oi := ?_) (v := ?_) ?_ (by kernel_rfl) (by kernel_rfl) (by kernel_rfl) ?_ (Or.inl ⟨?_, ?_⟩) (by assumption) ?_; rotate_left 2; (· (simp only [List.getElem?_toArray, List.getElem?_cons_succ, List.getElem?_cons_zero]; first | done | rfl)); (· exact (fun _ _ _ h => h)); (· rfl); (· (intro w hSw; (try dsimp only at hSw); go_simp; (try with_reducible rfl))))
        (try simp only [Act.put, List.setIfInBounds_toArray, List.set_cons_zero, List.set_cons_succ])
        (refine wpAnyH_take (i := 11) (oi := ?_) (v := ?_) ?_ (by kernel_rfl) (by kernel_rfl) (by kernel_rfl) ?_ (Or.inl ⟨?_, ?_⟩) (by assumption) ?_; rotate_left 2; (· (simp only [List.getElem?_toArray, List.getElem?_cons_succ, List.getElem?_cons_zero]; first | done | rfl)); (· exact (fun _ _ _ h => h)); (· rfl); (· (intro w hSw; (try dsimp only at hSw); go_simp; (try with_reducible rfl))))
        (try simp only [Act.put, List.setIfInBounds_toArray, List.set_cons_zero, List.set_cons_succ])
        (refine wpAnyH_take (i := 12) (oi := ?_) (v := ?_) ?_ (by kernel_rfl) (by kernel_rfl) (by kernel_rfl) ?_ (Or.inl ⟨?_, ?_⟩) (by assumption) ?_; rotate_left 2; (· (simp only [List.getElem?_toArray, List.getElem?_cons_succ, List.getElem?_cons_zero]; first | done | rfl)); (· exact (fun _ _ _ h => h)); (· rfl); (· (intro w hSw; (try dsimp only at hSw); go_simp; (try with_reducible rfl))))
        (try simp only [Act.put, List.setIfInBounds_toArray, List.set_cons_zero, List.set_cons_succ])
        (refine wpAnyH_take (i := 13) (oi := ?_) (v := ?_) ?_ (by kernel_rfl) (by kernel_rfl) (by kernel_rfl) ?_ (Or.inl ⟨?_, ?_⟩) (by assumption) ?_; rotate_left 2; (· (simp only [List.getElem?_toArray, List.getElem?_cons_succ, List.getElem?_cons_zero]; first | done | rfl)); (· exact (fun _ _ _ h => h)); (· rfl); (· (intro w hSw; (try dsimp only at hSw); go_simp; (try with_reducible rfl))))
        (try simp only [Act.put, List.setIfInBounds_toArray, List.set_cons_zero, List.set_cons_succ])
        (refine wpAnyH_take (i := 14) (oi := ?_) (v := ?_) ?_ (by kernel_rfl) (by kernel_rfl) (by kernel_rfl) ?_ (Or.inl ⟨?_, ?_⟩) (by assumption) ?_; rotate_left 2; (· (simp only [List.getElem?_toArray, List.getElem?_cons_succ, List.getElem?_cons_zero]; first | done | rfl)); (· exact (fun _ _ _ h => h)); (· rfl); (· (intro w hSw; (try dsimp only at hSw); go_simp; (try with_reducible rfl))))
        (try simp only [Act.put, List.setIfInBounds_toArray, List.set_cons_zero, List.set_cons_succ])
        (refine wpAnyH_take (i := 15) (oi := ?_) (v := ?_) ?_ (by kernel_rfl) (by kernel_rfl) (by kernel_rfl) ?_ (Or.inl ⟨?_, ?_⟩) (by assumption) ?_; rotate_left 2; (· (simp only [List.getElem?_toArray, List.getElem?_cons_succ, List.getElem?_cons_zero]; first | done | rfl)); (· exact (fun _ _ _ h => h)); (· rfl); (· (intro w hSw; (try dsimp only at hSw); go_simp; (try with_reducible rfl))))
        (try simp only [Act.put, List.setIfInBounds_toArray, List.set_cons_zero, List.set_cons_succ])
        (refine wpAnyH_take (i := 16) (oi := ?_) (v := ?_) ?_ (by kernel_rfl) (by kernel_rfl) (by kernel_rfl) ?_ (Or.inl ⟨?_, ?_⟩) (by assumption) ?_; rotate_left 2; (· (simp only [List.getElem?_toArray, List.getElem?_cons_succ, List.getElem?_cons_zero]; first | done | rfl)); (· exact (fun _ _ _ h => h)); (· rfl); (· (intro w hSw; (try dsimp only at hSw); go_simp; (try with_reducible rfl))))
        (try simp only [Act.put, List.setIfInBounds_toArray, List.set_cons_zero, List.set_cons_succ])
        (refine wpAnyH_take (i := 17) (oi := ?_) (v := ?_) ?_ (by kernel_rfl) (by kernel_rfl) (by kernel_rfl) ?_ (Or.inl ⟨?_, ?_⟩) (by assumption) ?_; rotate_left 2; (· (simp only [List.getElem?_toArray, List.getElem?_cons_succ, List.getElem?_cons_zero]; first | done | rfl)); (· exact (fun _ _ _ h => h)); (· rfl); (· (intro w hSw; (try dsimp only at hSw); go_simp; (try with_reducible rfl))))
        (try simp only [Act.put, List.setIfInBounds_toArray, List.set_cons_zero, List.set_cons_succ])
        (refine wpAnyH_take (i := 18) (oi := ?_) (v := ?_) ?_ (by kernel_rfl) (by kernel_rfl) (by kernel_rfl) ?_ (Or.inl ⟨?_, ?_⟩) (by assumption) ?_; rotate_left 2; (· (simp only [List.getElem?_toArray, List.getElem?_cons_succ, List.getElem?_cons_zero]; first | done | rfl)); (· exact (fun _ _ _ h => h)); (· rfl); (· (intro w hSw; (try dsimp only at hSw); go_simp; (try with_reducible rfl))))
        (try simp only [Act.put, List.setIfInBounds_toArray, List.set_cons_zero, List.set_cons_succ])
        (refine wpAnyH_take (i := 19) (oi := ?_) (v := ?_) ?_ (by kernel_rfl) (by kernel_rfl) (by kernel_rfl) ?_ (Or.inl ⟨?_, ?_⟩) (by assumption) ?_; rotate_left 2; (· (simp only [List.getElem?_toArray, List.getElem?_cons_succ, List.getElem?_cons_zero]; first | done | rfl)); (· exact (fun _ _ _ h => h)); (· rfl); (· (intro w hSw; (try dsimp only at hSw); go_simp; (try with_reducible rfl))))
        (try simp only [Act.put, List.setIfInBounds_toArray, List.set_cons_zero, List.set_cons_succ])
        (refine wpAnyH_take (i := 20) (oi := ?_) (v := ?_) ?_ (by kernel_rfl) (by kernel_rfl) (by kernel_rfl) ?_ (Or.inl ⟨?_, ?_⟩) (by assumption) ?_; rotate_left 2; (· (simp only [List.getElem?_toArray, List.getElem?_cons_succ, List.getElem?_cons_zero]; first | done | rfl)); (· exact (fun _ _ _ h => h)); (· rfl); (· (intro w hSw; (try dsimp only at hSw); go_simp; (try with_reducible rfl))))
        (try simp only [Act.put, List.setIfInBounds_toArray, List.set_cons_zero, List.set_cons_succ])
        refine wpAnyH_ready (rs := [21]) (by kernel_rfl) (by simp) ?_
        refine AllReadyH.cons (o := ?_) ?_ (fun K hK => ?_) AllReadyH.nil
        rotate_left 1
        · (simp only [List.getElem?_toArray, List.getElem?_cons_succ, List.getElem?_cons_zero]; first | done | rfl)
        go_simp
        first | (refine hK.out _ _ ?_ (fun hq2 => ?_)) | ((go_at_call 35; (first | (with_reducible refine (HI1.out _).mono ?_) | (with_reducible refine (HI2.out _).mono ?_)); rintro e w7 ⟨rfl, hb7⟩); refine hK.out _ _ ?_ (fun hq2 => ?_)) | ((go_at_call 35; (first | (with_reducible refine (HI1.out _).mono ?_) | (with_reducible refine (HI2.out _).mono ?_)); rintro e w7 ⟨rfl, hb7⟩); go_wp2_with fail; refine hK.out _ _ ?_ (fun hq2 => ?_)) | fail
        · ((try dsimp only); (first | exact HST.out | assumption | exact nd_below (by assumption) (by assumption)))
        clear hK K
        (try simp only [Act.put, List.setIfInBounds_toArray, List.set_cons_zero, List.set_cons_succ])
        clear hq1
        (refine wpAnyH_take (i := 22) (oi := ?_) (v := ?_) ?_ (by kernel_rfl) (by kernel_rfl) (by kernel_rfl) ?_ (Or.inl ⟨?_, ?_⟩) (by assumption) ?_; rotate_left 2; (· (simp only [List.getElem?_toArray, List.getElem?_cons_succ, List.getElem?_cons_zero]; first | done | rfl)); (· exact (fun _ _ _ h => h)); (· rfl); (· (intro w hSw; (try dsimp only at hSw); go_simp; (try with_reducible rfl))))
        (try simp only [Act.put, List.setIfInBounds_toArray, List.set_cons_zero, List.set_cons_succ])
        (refine wpAnyH_take (i := 23) (oi := ?_) (v := ?_) ?_ (by kernel_rfl) (by kernel_rfl) (by kernel_rfl) ?_ (Or.inl ⟨?_, ?_⟩) (by assumption) ?_; rotate_left 2; (· (simp only [List.getElem?_toArray, List.getElem?_cons_succ, List.getElem?_cons_zero]; first | done | rfl)); (· exact (fun _ _ _ h => h)); (· rfl); (· (intro w hSw; (try dsimp only at hSw); go_simp; (try with_reducible rfl))))
        (try simp only [Act.put, List.setIfInBounds_toArray, List.set_cons_zero, List.set_cons_succ])
        (refine wpAnyH_take (i := 24) (oi := ?_) (v := ?_) ?_ (by kernel_rfl) (by kernel_rfl) (by kernel_rfl) ?_ (Or.inl ⟨?_, ?_⟩) (by assumption) ?_; rotate_left 2; (· (simp only [List.getElem?_toArray, List.getElem?_cons_succ, List.getElem?_cons_zero]; first | done | rfl)); (· exact (fun _ _ _ h => h)); (· rfl); (· (intro w hSw; (try dsimp only at hSw); go_simp; (try with_reducible rfl))))
        (try simp only [Act.put, List.setIfInBounds_toArray, List.set_cons_zero, List.set_cons_succ])
        refine wpAnyH_done (by kernel_rfl) ?_ _
        go_wp2_with fail
        exact ⟨⟨k + 1, by omega, by go_num, Lib.hid (by rw [needN, HP.out, HRO.out]; rfl), btrans HBR.out (nd_own (by assumption))⟩, by simp [intOf]; go_num⟩
    · obtain rfl : k = L.length := by omega
      have q1 : ¬ ((L.length : Nat) : Int) < (L.length : Int) := by omega
      go_wp2_with fail
      go_ret
      exact ⟨ret_bool HP.out.symm, HBR.out⟩
end Go.Proofs.YtceplbanfpnhbaaGreatDoor.Val
end

section
/- THE WALK OF filter.Norm. -/
namespace Go.Proofs.YtceplbanfpnhbaaGreatDoor.Val
open Go.RowKit Flt
/-- what is kept of the first k -/
def keepC (S : List C) : Nat → List C
  | 0 => []
  | k + 1 => keepC S k ++ (if needB S k then [] else [S[k]!])
def sortC (L : List C) : List C := isort L (L.length - 1)
/-- what a filter's conditions are brought to -/
def normL (L : List C) : List C := keepC (sortC (L.map canonC)) L.length
theorem keepC_len (S : List C) : ∀ k, (keepC S k).length ≤ k
  | 0 => Nat.le_refl _
  | k + 1 => by
    have := keepC_len S k
    rw [keepC, List.length_append]
    split <;> simp <;> omega
theorem info_cond : (Tryz.prog.info? 31).map (fun i => (i.zero, i.size, i.bytes)) = some (some (.agg #[.string .empty, .int .i64 0, .int .i64 0, .int .i64 0, .float .f64 0, .string .empty, .bool false]), 7, 72) := by kernel_rfl
theorem new_cond (w : World) (g : Nat) (hg : g = w.heap.size) (c : C) (e : TypeId) : ∀ j u, (flatC [c])[j]? = some u → (w.alloc (.cells #[.string ⟨c.name.toArray⟩, .int .i64 c.op, .int .i64 c.val.kind, .int .i64 c.val.int, .float .f64 c.val.num, .string ⟨c.val.text.toArray⟩, .bool c.val.yes] e)).cell? ((⟨g, 0, none⟩ : Addr).add j) = some u := by
  subst hg
  intro j u hj
  have hadd : (⟨w.heap.size, 0, none⟩ : Addr).add j = ⟨w.heap.size, j, none⟩ := by unfold Addr.add; split <;> simp_all
  rw [hadd]
  simpa [flatC, cells7, go_sem] using hj
theorem canon_small {c : C} (h : CSmall c ∧ 0 ≤ c.op ∧ c.op ≤ 7) : CSmall (canonC c) ∧ 0 ≤ (canonC c).op ∧ (canonC c).op ≤ 7 := by
  obtain ⟨nm, op, k, n, x, t, y⟩ := c
  obtain ⟨⟨h1, h2, h3, h4, h5⟩, h6, h7⟩ := h
  simp only at h1 h2 h3 h4 h5 h6 h7
  unfold canonC
  split
  · exact ⟨⟨h1, by show 0 ≤ _; omega, by show 0 < _; omega, by show _ ≤ (0 : Int); omega, by show (0 : Int) ≤ _; omega⟩, by show (0 : Int) ≤ 7; omega, by show (7 : Int) ≤ 7; omega⟩
  · have hv : (canonV ⟨k, n, x, t, y⟩).text.length ≤ 1000 ∧ (canonV ⟨k, n, x, t, y⟩).num < 18446744073709551616 ∧ -9223372036854775808 ≤ (canonV ⟨k, n, x, t, y⟩).int ∧ (canonV ⟨k, n, x, t, y⟩).int ≤ 9223372036854775807 := by
      unfold canonV
      split
      · exact ⟨by show 0 ≤ _; omega, by show 0 < _; omega, h4, h5⟩
      · split
        · exact ⟨by show 0 ≤ _; omega, canon_lt x h3, by show _ ≤ (0 : Int); omega, by show (0 : Int) ≤ _; omega⟩
        · split
          · exact ⟨h2, by show 0 < _; omega, by show _ ≤ (0 : Int); omega, by show (0 : Int) ≤ _; omega⟩
          · split <;> exact ⟨by show 0 ≤ _; omega, by show 0 < _; omega, by show _ ≤ (0 : Int); omega, by show (0 : Int) ≤ _; omega⟩
    exact ⟨⟨h1, hv.1, hv.2.1, hv.2.2.1, hv.2.2.2⟩, h6, h7⟩
theorem own_conds {w : World} {v : Value} {l : List C} {base : Nat} (h : w.ownsRow base 31 7 v l.length (flatC l)) :
    ∃ b0 cap, v = .slice b0 l.length cap ∧ Conds w b0 l := by
  rcases h.2 with ⟨rfl, h0⟩ | ⟨g, cp, cur, rfl, hb, hg, hh⟩
  · have : l = [] := List.eq_nil_of_length_eq_zero h0
    subst this
    exact ⟨none, 0, rfl, fun i hi => absurd hi (Nat.not_lt_zero _)⟩
  · refine ⟨some ⟨g, 0, none⟩, cp, rfl, fun i hi => ⟨_, rfl, ?_⟩⟩
    have k : ∀ j (hj : j < 7), w.cell? ⟨g, i * 7 + j, none⟩ = (cells7 l[i])[j]? := by
      intro j hj
      have hl := flatC_len l
      have hm := flatC_at l i j hi hj
      have hc : (cells7 l[i])[j]? = some ((cells7 l[i])[j]'(by simpa [cells7] using hj)) := by simp
      rw [hc] at hm ⊢
      have := h.cells rfl (i * 7 + j) _ hm
      have hadd : (⟨g, 0, none⟩ : Addr).add (i * 7 + j) = ⟨g, i * 7 + j, none⟩ := by unfold Addr.add; split <;> simp_all
      rw [← hadd]; exact this
    have hadd : (⟨g, 0, none⟩ : Addr).add (i * 7) = ⟨g, i * 7, none⟩ := by unfold Addr.add; split <;> simp_all
    rw [hadd]
    exact ⟨k 0 (by decide), k 1 (by decide), k 2 (by decide), k 3 (by decide), k 4 (by decide), k 5 (by decide), k 6 (by decide)⟩
theorem own_low7 {W W2 : World} {base e size : Nat} {v : Value} {n : Nat} {xs : List Value} (h : W.ownsRow base e size v n xs) (hb : Below W.heap.size W W2) : W2.ownsRow base e size v n xs :=
  Fmt.own_low h hb (fun k hk => (h.lt k hk).2)
/-- a row of the call's own, as a row of conditions -/
theorem own_row {w : World} {v : Value} {l : List C} {base : Nat} (h : w.ownsRow base 31 7 v l.length (flatC l)) (h0 : 0 < l.length) :
    ∃ g cap Z, v = .slice (some ⟨g, 0, none⟩) l.length cap ∧ base ≤ g ∧ Row w g l Z := by
  rcases h.2 with ⟨_, h1⟩ | ⟨g, cp, cur, rfl, hb, hg, _, _, hsz, ht⟩
  · omega
  · refine ⟨g, cp, cur.toList.drop (l.length * 7), rfl, hb, ?_⟩
    unfold Row
    rw [hg]
    refine congrArg (fun z => some (Obj.cells z 31 (0, 0))) (Array.ext' ?_)
    show cur.toList = flatC l ++ cur.toList.drop (l.length * 7)
    rw [← ht, List.take_append_drop]
attribute [local go_sem] run_store_flt
set_option maxRecDepth 20000 in
set_option maxHeartbeats 4000000 in
theorem norm_any (sf : List UInt8) (a0 : Option Addr) (cap : Nat) (L : List C) (w : World) (hl : Conds w a0 L) (hlm : L.length ≤ 19) (hw : Words w) (hT : Tab.Tabs w) (hs : ∀ c ∈ L, CSmall c ∧ 0 ≤ c.op ∧ c.op ≤ 7) :
    Calls Tryz.prog 31 #[ev sf a0 L.length cap] w fun e w' =>
      ∃ b0 cp, e = .returned (ev sf b0 (normL L).length cp) ∧ Conds w' b0 (normL L) ∧ Below w.heap.size w w' := by
  have HL := Lib.hid hl; have HW := Lib.hid hw; have HT := Lib.hid hT; have HS := Lib.hid hs
  clear hl hw hT hs
  obtain ⟨i0, hi, hz0, hz1, hz2⟩ := info_parts info_cond
  generalize hNN : normL L = N
  have HNN := Lib.hid hNN; clear hNN
  go_enter Tryz.func31, Tryz.ntmps31
  go_wp2_with fail
  have hW0 : Below w.heap.size w ((w.alloc (.cells #[.string ⟨sf.toArray⟩, .slice a0 L.length cap] 24)).alloc (.cells #[.string ⟨#[]⟩, .slice none 0 0] 24)) := balloc2 _ _ _
  have hsz0 : ((w.alloc (.cells #[.string ⟨sf.toArray⟩, .slice a0 L.length cap] 24)).alloc (.cells #[.string ⟨#[]⟩, .slice none 0 0] 24)).heap.size = w.heap.size + 2 := by simp
  have e0 : ∀ o, ((w.alloc (.cells #[.string ⟨sf.toArray⟩, .slice a0 L.length cap] 24)).alloc (.cells #[.string ⟨#[]⟩, .slice none 0 0] 24)).cell? ⟨w.heap.size, o, none⟩ = #[.string ⟨sf.toArray⟩, .slice a0 L.length cap][o]? := fun o => ((balloc (w.alloc (.cells #[.string ⟨sf.toArray⟩, .slice a0 L.length cap] 24)) _).cell (p := ⟨w.heap.size, o, none⟩) (by simp)).trans (World.cell?_alloc_at _ _ _ _ rfl)
  have e1 : ∀ o, ((w.alloc (.cells #[.string ⟨sf.toArray⟩, .slice a0 L.length cap] 24)).alloc (.cells #[.string ⟨#[]⟩, .slice none 0 0] 24)).cell? ⟨w.heap.size + 1, o, none⟩ = #[.string ⟨#[]⟩, .slice none 0 0][o]? := fun o => World.cell?_alloc_at _ _ _ _ (by simp)
  have e2 : ∀ o, ((w.alloc (.cells #[.string ⟨sf.toArray⟩, .slice a0 L.length cap] 24)).alloc (.cells #[.string ⟨#[]⟩, .slice none 0 0] 24)).frozen? ⟨w.heap.size + 1, o, none⟩ = false := fun o => by simp [go_sem]
  have x0 : ((w.alloc (.cells #[.string ⟨sf.toArray⟩, .slice a0 L.length cap] 24)).alloc (.cells #[.string ⟨#[]⟩, .slice none 0 0] 24)).cell? ⟨w.heap.size, 0, none⟩ = some (.string ⟨sf.toArray⟩) := e0 0
  have x1 : ((w.alloc (.cells #[.string ⟨sf.toArray⟩, .slice a0 L.length cap] 24)).alloc (.cells #[.string ⟨#[]⟩, .slice none 0 0] 24)).cell? ⟨w.heap.size, 1, none⟩ = some (.slice a0 L.length cap) := e0 1
  have x2 : ((w.alloc (.cells #[.string ⟨sf.toArray⟩, .slice a0 L.length cap] 24)).alloc (.cells #[.string ⟨#[]⟩, .slice none 0 0] 24)).cell? ⟨w.heap.size + 1, 0, none⟩ = some (.string ⟨#[]⟩) := e1 0
  have x3 : ((w.alloc (.cells #[.string ⟨sf.toArray⟩, .slice a0 L.length cap] 24)).alloc (.cells #[.string ⟨#[]⟩, .slice none 0 0] 24)).cell? ⟨w.heap.size + 1, 1, none⟩ = some (.slice none 0 0) := e1 1
  have x4 := e2 0; have x5 := e2 1
  have HX := Lib.hid (And.intro x0 (And.intro x1 (And.intro x2 (And.intro x3 (And.intro x4 x5)))))
  have HW0 := Lib.hid hW0; have HSZ0 := Lib.hid hsz0
  clear e0 e1 e2 x0 x1 x2 x3 x4 x5 hW0 hsz0
  generalize World.alloc _ _ = W0 at *
  go_loopw [3, 12] (fun vl vi wr => ∃ (k : Nat) (v : Value), k ≤ L.length ∧ vl = v ∧ vi = .int .i64 k ∧ wr.ownsRow W0.heap.size 31 7 v ((L.take k).map canonC).length (flatC ((L.take k).map canonC)) ∧ Below W0.heap.size W0 wr) (fun _ vi _ => L.length - (intOf vi).toNat)
  case atStart => exact ⟨0, _, Nat.zero_le _, rfl, rfl, World.ownsRow_nil _ _ _ _, Below.refl _ _⟩
  case round =>
    obtain ⟨k, v, hk, rfl, rfl, hown, hbr⟩ := hrel
    have OWN := Lib.hid hown; have HBR := Lib.hid hbr
    have hbw : Below w.heap.size w wr := btrans HW0.out hbr
    have hlen : ((L.take k).map canonC).length = k := by rw [List.length_map, List.length_take]; omega
    have HLEN := Lib.hid hlen
    clear hown hlen
    by_cases hlt : k < L.length
    · have i1 : (k : Int) < (L.length : Int) := by omega
      have i0' : (0 : Int) ≤ (k : Int) := by omega
      obtain ⟨a, rfl, v0, v1, v2, v3, v4, v5, v6⟩ := (HL.out.below hbw) k hlt
      have hni (W : World) := ccanon_any (L[k]'hlt).name (L[k]'hlt).op (L[k]'hlt).val.kind (L[k]'hlt).val.int (L[k]'hlt).val.num (L[k]'hlt).val.text (L[k]'hlt).val.yes W
      have e : canonC ⟨(L[k]'hlt).name, (L[k]'hlt).op, (L[k]'hlt).val.kind, (L[k]'hlt).val.int, (L[k]'hlt).val.num, (L[k]'hlt).val.text, (L[k]'hlt).val.yes⟩ = canonC (L[k]'hlt) := rfl
      rw [e] at hni
      clear e
      have hstep : (L.take (k + 1)).map canonC = (L.take k).map canonC ++ [canonC (L[k]'hlt)] := by rw [List.take_succ_eq_append_getElem hlt, List.map_append]; rfl
      generalize canonC (L[k]'hlt) = cn at *
      generalize (L[k]'hlt) = x at *
      have HN := Lib.hid hni; have HSTEP := Lib.hid hstep
      clear hni hstep hbr hbw
      obtain ⟨cn1, cn2, cn3, cn4, cn5, cn6, cn7⟩ := cn
      go_wp2_with (first
        | (go_at_call 63; refine (HN.out _).mono ?_; rintro e w3 ⟨rfl, hb3⟩; have HB3 := Lib.hid hb3; have OWN3 := Lib.hid (own_low7 (OWN.out.alloc _) hb3); clear hb3)
        | (at_builtin; refine wpList_append_own _ rfl _ _ 22 rfl W0.heap.size 31 i0 (.agg #[.string .empty, .int .i64 0, .int .i64 0, .int .i64 0, .float .f64 0, .string .empty, .bool false]) 7 72 Tryz.underlying22 hi hz0 hz1 hz2 rfl (by decide) _ _ _ rfl (OWN3.out.alloc _) ⟨w3.heap.size, 0, none⟩ 1 1 (flatC [⟨cn1, cn2, cn3, cn4, cn5, cn6, cn7⟩]) rfl rfl ?news (flatC_one _) (by unfold maxLen; have := HLEN.out; omega) (by have := HLEN.out; omega) (by have := HB3.out.size; have := HBR.out.size; simp at *; omega) ?_; rotate_left; (case news => exact new_cond w3 _ rfl _ _); intro v' w4 hown' hgrow3 hnil3)
        | fail)
      have hb4 : Below W0.heap.size W0 w4 := Below.grown (btrans (btrans HBR.out (btrans (balloc _ _) HB3.out)) (balloc _ _)) hgrow3 (by have := HB3.out.size; have := HBR.out.size; simp at *; omega) (fun q hq => (OWN3.out.lt q hq).1)
      refine ⟨⟨k + 1, v', by omega, rfl, by go_num, ?_, hb4⟩, by simp [intOf]; go_num⟩
      rw [HSTEP.out, List.length_append, flatC_app]
      exact hown'
    · obtain rfl : k = L.length := by omega
      have own := OWN.out
      rw [List.take_length] at own
      clear OWN HLEN
      have hsl : (L.map canonC).length = L.length := List.length_map ..
      have HBW := Lib.hid hbw
      clear hbr hbw
      by_cases hL0 : 0 < L.length
      · obtain ⟨g, cp, Z, rfl, hgb, hrow⟩ := own_row own (by rw [hsl]; exact hL0)
        have HSZW := HSZ0.out
        have hsm : ∀ c ∈ L.map canonC, CSmall c ∧ 0 ≤ c.op ∧ c.op ≤ 7 := fun c hc => by
          obtain ⟨d, hd, rfl⟩ := List.mem_map.1 hc
          exact canon_small (HS.out d hd)
        have hso := sort_any (L.map canonC) Z g cp w wr HW.out HT.out (by omega) HBW.out hrow (fun c hc => (hsm c hc).1) (by rw [hsl]; exact hlm) (by rw [hsl]; exact hL0)
        have hSl : (sortC (L.map canonC)).length = L.length := by unfold sortC; rw [isort_len, hsl]
        have hSm : ∀ c ∈ sortC (L.map canonC), CSmall c ∧ 0 ≤ c.op ∧ c.op ≤ 7 := fun c hc => hsm c (isort_mem _ _ (by rw [hsl]; omega) c hc)
        have hnorm : normL L = keepC (sortC (L.map canonC)) L.length := rfl
        have hsc : sortC (L.map canonC) = isort (L.map canonC) ((L.map canonC).length - 1) := rfl
        rw [← hsc] at hso
        rw [hsl] at hso ⊢
        have hN2 := HNN.out
        rw [hnorm] at hN2
        generalize sortC (L.map canonC) = S at *
        have HSO := Lib.hid hso; have HSM := Lib.hid hSm; have HSL := Lib.hid hSl; have HN2 := Lib.hid hN2
        clear hN2 hso hSm hSl hsm hnorm hsc own hrow HSZW
        go_wp2_with fail
        refine HSO.out.mono ?_
        rintro e w5 ⟨rfl, hrow5, hb5⟩
        have hb05 : Below W0.heap.size W0 w5 := HBR.out.trans (hb5.mono hgb)
        obtain ⟨x0, x1, x2, x3, x4, x5⟩ := HX.out
        have hcl : ∀ b o, b < W0.heap.size → w5.cell? ⟨b, o, none⟩ = W0.cell? ⟨b, o, none⟩ := fun b o h => hb05.cell (p := ⟨b, o, none⟩) h
        have hfl : ∀ b o, b < W0.heap.size → w5.frozen? ⟨b, o, none⟩ = W0.frozen? ⟨b, o, none⟩ := fun b o h => hb05.frozen (p := ⟨b, o, none⟩) h
        have hz := HSZ0.out
        replace x0 := (hcl _ _ (by omega)).trans x0
        replace x1 := (hcl _ _ (by omega)).trans x1
        replace x2 := (hcl _ _ (by omega)).trans x2
        replace x3 := (hcl _ _ (by omega)).trans x3
        replace x4 := (hfl _ _ (by omega)).trans x4
        replace x5 := (hfl _ _ (by omega)).trans x5
        have hsz5 := hb05.size
        have hw5 : w.heap.size < w5.heap.size := by omega
        have hw51 : w.heap.size + 1 < w5.heap.size := by omega
        have hg5 : g < w5.heap.size := hrow5.lt
        have hgw : w.heap.size + 1 < g := by omega
        have HROW5 := Lib.hid hrow5; have HB05 := Lib.hid hb05; have HGW := Lib.hid hgw
        clear hrow5 hb5 hb05 hcl hfl hz hsz5 hgw HSO HBR HBW HX HSZ0
        go_wp2_with fail
        have HF5 := Lib.hid (And.intro x2 (And.intro x3 (And.intro x4 x5)))
        clear x0 x1 x2 x3 x4 x5
        go_loopw [29] (fun vi wr => ∃ (kk : Nat) (v : Value), kk ≤ L.length ∧ vi = .int .i64 kk ∧ wr.cell? ⟨w5.heap.size, 0, none⟩ = some (.string ⟨sf.toArray⟩) ∧ wr.cell? ⟨w5.heap.size, 1, none⟩ = some v ∧ wr.frozen? ⟨w5.heap.size, 1, none⟩ = false ∧
          wr.ownsRow (w5.heap.size + 1) 31 7 v (keepC S kk).length (flatC (keepC S kk)) ∧ w5.heap.size + 1 ≤ wr.heap.size ∧ Below w5.heap.size w5 wr) (fun vi _ => L.length - (intOf vi).toNat)
        case atStart => refine ⟨0, .slice none 0 0, Nat.zero_le _, rfl, ?_, ?_, ?_, World.ownsRow_nil _ _ _ _, ?_, balloc _ _⟩ <;> simp [go_sem]
        case round =>
          obtain ⟨kk, v, hk, rfl, o0, o1, ofz, hown, hsz, hbr⟩ := hrel
          have hne : w5.heap.size < wr.heap.size := by omega
          have OWN := Lib.hid hown
          clear hown
          have hkl := keepC_len S kk
          by_cases hlt : kk < L.length
          · have i1 : (kk : Int) < (L.length : Int) := by omega
            have i0' : (0 : Int) ≤ (kk : Int) := by omega
            have hkS : kk < S.length := by rw [HSL.out]; exact hlt
            have hrow : Row wr g S Z := HROW5.out.below hbr hg5
            obtain ⟨v0, v1, v2, v3, v4, v5, v6⟩ := hrow.cat kk hkS
            have hnd (W : World) (h : Row W g S Z) := needless_any S Z g cp kk W h hkS (by rw [HSL.out]; omega) (fun c hc => ⟨(HSM.out c hc).2.1, (HSM.out c hc).2.2, (HSM.out c hc).1.2.2.1⟩)
            rw [HSL.out] at hnd
            have hks : keepC S (kk + 1) = keepC S kk ++ (if needB S kk then [] else [S[kk]'hkS]) := by rw [keepC, getElem!_pos S kk hkS]
            generalize (S[kk]'hkS) = x at *
            obtain ⟨cn1, cn2, cn3, cn4, cn5, cn6, cn7⟩ := x
            simp only at v0 v1 v2 v3 v4 v5 v6
            have HND := Lib.hid hnd; have HKS := Lib.hid hks; have HROWR := Lib.hid hrow; have HBR2 := Lib.hid hbr
            clear hnd hks hrow hbr
            have hgr : g < wr.heap.size := HROWR.out.lt
            cases hn : needB S kk
            · rw [hn] at HND HKS
              clear hn
              go_wp2_with (first
                | (go_at_call 67; refine (HND.out _ (HROWR.out.below (balloc _ _) HROWR.out.lt)).mono ?_; rintro e w6 ⟨rfl, hb6⟩; have HB6 := Lib.hid hb6; obtain ⟨hc6, hf6⟩ := bcell hb6)
                | (at_builtin; refine wpList_append_own _ rfl _ _ 22 rfl (w5.heap.size + 1) 31 i0 (.agg #[.string .empty, .int .i64 0, .int .i64 0, .int .i64 0, .float .f64 0, .string .empty, .bool false]) 7 72 Tryz.underlying22 hi hz0 hz1 hz2 rfl (by decide) v _ _ rfl ((own_low7 (OWN.out.alloc _) HB6.out).alloc _) ⟨w6.heap.size, 0, none⟩ 1 1 (flatC [⟨cn1, cn2, cn3, cn4, cn5, cn6, cn7⟩]) rfl rfl ?news (flatC_one _) (by unfold maxLen; omega) (by omega) (by have := HB6.out.size; simp at *; omega) ?_; rotate_left; (case news => exact new_cond w6 _ rfl _ _); intro v' w4 hown' hgrow3 hnil3; have hb7 := btrans (btrans (balloc wr (.cells #[.string ⟨cn1.toArray⟩, .int .i64 cn2, .int .i64 cn3, .int .i64 cn4, .float .f64 cn5, .string ⟨cn6.toArray⟩, .bool cn7] 31)) HB6.out) (balloc w6 (.cells #[.string ⟨cn1.toArray⟩, .int .i64 cn2, .int .i64 cn3, .int .i64 cn4, .float .f64 cn5, .string ⟨cn6.toArray⟩, .bool cn7] 31)); have hsz7 := hb7.size; have hg1 := hgrow3.block w5.heap.size (by omega) (fun h => by have := (OWN.out.lt _ h.symm).1; omega); have p0 := (World.cell?_of_block (a := ⟨w5.heap.size, 0, none⟩) hg1).trans ((hb7.cell (p := ⟨w5.heap.size, 0, none⟩) hne).trans o0); have p1 := (World.cell?_of_block (a := ⟨w5.heap.size, 1, none⟩) hg1).trans ((hb7.cell (p := ⟨w5.heap.size, 1, none⟩) hne).trans o1); have pfz := (World.frozen?_of_block (a := ⟨w5.heap.size, 1, none⟩) hg1).trans ((hb7.frozen (p := ⟨w5.heap.size, 1, none⟩) hne).trans ofz); have hb4 : Below w5.heap.size w5 w4 := Below.grown (HBR2.out.trans (hb7.mono (Nat.le_of_lt hne))) hgrow3 (by omega) (fun q hq => by have := (OWN.out.lt q hq).1; omega); have hsz4 : w5.heap.size + 1 ≤ w4.heap.size := (by have := hgrow3.size; omega); have hown2 : w4.ownsRow (w5.heap.size + 1) 31 7 v' (keepC S kk ++ [(⟨cn1, cn2, cn3, cn4, cn5, cn6, cn7⟩ : C)]).length (flatC (keepC S kk ++ [(⟨cn1, cn2, cn3, cn4, cn5, cn6, cn7⟩ : C)])) := (by rw [flatC_app, List.length_append]; exact hown'); obtain ⟨b1, cp1, hv1, _⟩ := own_conds hown2; subst hv1; have OWN4 := Lib.hid hown2; have HB4 := Lib.hid hb4; clear hown' hown2 hgrow3 hnil3 hb7 hg1 hb4 hc6 hf6)
                | fail)
              refine ⟨⟨kk + 1, _, by omega, by go_num, (World.cell?_setCell_other _ _ _ _ (by simp)).trans p0, World.cell?_setCell_same _ _ _ p1, by rw [World.frozen?_setCell]; exact pfz, ?_, by simpa [World.setCell] using hsz4, HB4.out.setCell (Nat.le_refl _) _⟩, by simp [intOf]; go_num⟩
              have o4 := OWN4.out
              rw [HKS.out]
              have el : (keepC S kk ++ [(⟨cn1, cn2, cn3, cn4, cn5, cn6, cn7⟩ : C)]).length = (keepC S kk).length + 1 := by simp
              rw [el] at o4
              show World.ownsRow _ _ _ _ _ (keepC S kk ++ [(⟨cn1, cn2, cn3, cn4, cn5, cn6, cn7⟩ : C)]).length (flatC (keepC S kk ++ [(⟨cn1, cn2, cn3, cn4, cn5, cn6, cn7⟩ : C)]))
              rw [el]
              exact ownsRow_setCell_below (a := ⟨w5.heap.size, 1, none⟩) o4 (by show w5.heap.size < w5.heap.size + 1; omega) _
            · rw [hn] at HND HKS
              clear hn
              go_wp2_with (first
                | (go_at_call 67; refine (HND.out _ (HROWR.out.below (balloc _ _) HROWR.out.lt)).mono ?_; rintro e w6 ⟨rfl, hb6⟩; have HB6 := Lib.hid hb6; obtain ⟨hc6, hf6⟩ := bcell hb6)
                | fail)
              have hb8 := btrans (balloc wr (.cells #[.string ⟨cn1.toArray⟩, .int .i64 cn2, .int .i64 cn3, .int .i64 cn4, .float .f64 cn5, .string ⟨cn6.toArray⟩, .bool cn7] 31)) HB6.out
              refine ⟨⟨kk + 1, v, by omega, by go_num, (hb8.cell (p := ⟨w5.heap.size, 0, none⟩) hne).trans o0, (hb8.cell (p := ⟨w5.heap.size, 1, none⟩) hne).trans o1, (hb8.frozen (p := ⟨w5.heap.size, 1, none⟩) hne).trans ofz, ?_, Nat.le_trans hsz hb8.size, HBR2.out.trans (hb8.mono (Nat.le_of_lt hne))⟩, by simp [intOf]; go_num⟩
              rw [HKS.out]
              simpa using own_low7 OWN.out hb8
          · obtain rfl : kk = L.length := by omega
            have i1 : ¬ ((L.length : Nat) : Int) < (L.length : Int) := by omega
            have own2 := OWN.out
            rw [HN2.out] at own2
            clear OWN hkl
            obtain ⟨y2, y3, y4, y5⟩ := HF5.out
            have hgw := HGW.out
            have z2 := (hbr.cell (p := ⟨w.heap.size + 1, 0, none⟩) hw51).trans y2
            have z3 := (hbr.cell (p := ⟨w.heap.size + 1, 1, none⟩) hw51).trans y3
            have z4 := (hbr.frozen (p := ⟨w.heap.size + 1, 0, none⟩) hw51).trans y4
            have z5 := (hbr.frozen (p := ⟨w.heap.size + 1, 1, none⟩) hw51).trans y5
            have hbw2 : Below w.heap.size w wr := (HW0.out.trans (HB05.out.mono HW0.out.size)).trans (hbr.mono (by omega))
            obtain ⟨b0, cp0, rfl, hcn⟩ := own_conds own2
            clear y2 y3 y4 y5
            go_wp2
            have e0 : ((wr.setCell ⟨w.heap.size + 1, 0, none⟩ (.string ⟨sf.toArray⟩)).setCell ⟨w.heap.size + 1, 1, none⟩ (.slice b0 N.length cp0)).cell? ⟨w.heap.size + 1, 0, none⟩ = some (.string ⟨sf.toArray⟩) := (World.cell?_setCell_other _ _ _ _ (by simp)).trans (World.cell?_setCell_same _ _ _ z2)
            have e1 : ((wr.setCell ⟨w.heap.size + 1, 0, none⟩ (.string ⟨sf.toArray⟩)).setCell ⟨w.heap.size + 1, 1, none⟩ (.slice b0 N.length cp0)).cell? ⟨w.heap.size + 1, 1, none⟩ = some (.slice b0 N.length cp0) := World.cell?_setCell_same _ _ _ ((World.cell?_setCell_other _ _ _ _ (by simp)).trans z3)
            have ow := ownsRow_setCell_below (a := ⟨w.heap.size + 1, 1, none⟩) (ownsRow_setCell_below (a := ⟨w.heap.size + 1, 0, none⟩) own2 (by show w.heap.size + 1 < w5.heap.size + 1; omega) (.string ⟨sf.toArray⟩)) (by show w.heap.size + 1 < w5.heap.size + 1; omega) (.slice b0 N.length cp0)
            have hbb := (hbw2.setCell (p := ⟨w.heap.size + 1, 0, none⟩) (by simp) (.string ⟨sf.toArray⟩)).setCell (p := ⟨w.heap.size + 1, 1, none⟩) (by simp) (.slice b0 N.length cp0)
            generalize World.setCell _ _ _ = W2 at *
            refine bodyPost_ret (v := ev sf b0 N.length cp0) (by simp [results, Tryz.results31, go_sem, e0, e1]; try rfl) rfl ?_
            obtain ⟨b1, cp1, he, hat2⟩ := own_conds ow
            cases he
            exact ⟨b0, ⟨cp0, rfl⟩, hat2, hbb⟩
      · obtain rfl : L = [] := List.length_eq_zero_iff.1 (by omega)
        obtain ⟨a1, cp1, rfl, _⟩ := own_conds own
        have hN2 : N = [] := HNN.out.symm
        subst hN2
        go_wp2_with fail
        refine (sort_none _ _ _).mono ?_
        rintro e w5 ⟨rfl, hb5⟩
        have hb05 : Below W0.heap.size W0 w5 := btrans HBR.out hb5
        obtain ⟨x0, x1, x2, x3, x4, x5⟩ := HX.out
        have hcl : ∀ b o, b < W0.heap.size → w5.cell? ⟨b, o, none⟩ = W0.cell? ⟨b, o, none⟩ := fun b o h => hb05.cell (p := ⟨b, o, none⟩) h
        have hfl : ∀ b o, b < W0.heap.size → w5.frozen? ⟨b, o, none⟩ = W0.frozen? ⟨b, o, none⟩ := fun b o h => hb05.frozen (p := ⟨b, o, none⟩) h
        have hz := HSZ0.out
        replace x0 := (hcl _ _ (by omega)).trans x0
        replace x1 := (hcl _ _ (by omega)).trans x1
        replace x2 := (hcl _ _ (by omega)).trans x2
        replace x3 := (hcl _ _ (by omega)).trans x3
        replace x4 := (hfl _ _ (by omega)).trans x4
        replace x5 := (hfl _ _ (by omega)).trans x5
        have hsz5 := hb05.size
        have hw5 : w.heap.size < w5.heap.size := by omega
        have hw51 : w.heap.size + 1 < w5.heap.size := by omega
        have hbw5 : Below w.heap.size w w5 := HW0.out.trans (hb05.mono HW0.out.size)
        have HBW5 := Lib.hid hbw5
        clear hb5 hb05 hcl hfl hz hsz5 HBR HBW HX HSZ0 own hsl hbw5
        go_wp2_with fail
        go_loopw [29] (fun vi wr => vi = .int .i64 0 ∧ wr = w5.alloc (.cells #[.string ⟨sf.toArray⟩, .slice none 0 0] 24)) (fun _ _ => 0)
        case atStart => exact ⟨rfl, rfl⟩
        case round =>
          obtain ⟨rfl, rfl⟩ := hrel
          go_wp2_with fail
          have f0 : ((w5.setCell ⟨w.heap.size + 1, 0, none⟩ (.string ⟨sf.toArray⟩)).setCell ⟨w.heap.size + 1, 1, none⟩ (.slice none 0 0)).cell? ⟨w.heap.size + 1, 0, none⟩ = some (.string ⟨sf.toArray⟩) := (World.cell?_setCell_other _ _ _ _ (by simp)).trans (World.cell?_setCell_same _ _ _ x2)
          have f1 : ((w5.setCell ⟨w.heap.size + 1, 0, none⟩ (.string ⟨sf.toArray⟩)).setCell ⟨w.heap.size + 1, 1, none⟩ (.slice none 0 0)).cell? ⟨w.heap.size + 1, 1, none⟩ = some (.slice none 0 0) := World.cell?_setCell_same _ _ _ ((World.cell?_setCell_other _ _ _ _ (by simp)).trans x3)
          have hbb := (HBW5.out.setCell (p := ⟨w.heap.size + 1, 0, none⟩) (by simp) (.string ⟨sf.toArray⟩)).setCell (p := ⟨w.heap.size + 1, 1, none⟩) (by simp) (.slice none 0 0)
          have hlt1 : w.heap.size + 1 < ((w5.setCell ⟨w.heap.size + 1, 0, none⟩ (.string ⟨sf.toArray⟩)).setCell ⟨w.heap.size + 1, 1, none⟩ (.slice none 0 0)).heap.size := by simpa [World.setCell] using hw51
          generalize ((w5.setCell ⟨w.heap.size + 1, 0, none⟩ (.string ⟨sf.toArray⟩)).setCell ⟨w.heap.size + 1, 1, none⟩ (.slice none 0 0)) = W1 at *
          have e0 : (W1.alloc (.cells #[.string ⟨sf.toArray⟩, .slice none 0 0] 24)).cell? ⟨w.heap.size + 1, 0, none⟩ = some (.string ⟨sf.toArray⟩) := ((balloc W1 _).cell (p := ⟨w.heap.size + 1, 0, none⟩) hlt1).trans f0
          have e1 : (W1.alloc (.cells #[.string ⟨sf.toArray⟩, .slice none 0 0] 24)).cell? ⟨w.heap.size + 1, 1, none⟩ = some (.slice none 0 0) := ((balloc W1 _).cell (p := ⟨w.heap.size + 1, 1, none⟩) hlt1).trans f1
          have hbz := btrans hbb (balloc W1 (.cells #[.string ⟨sf.toArray⟩, .slice none 0 0] 24))
          generalize World.alloc _ _ = W2 at *
          refine bodyPost_ret (v := ev sf none 0 0) (by simp [results, Tryz.results31, go_sem, e0, e1]; try rfl) rfl ?_
          exact ⟨none, 0, rfl, conds_nil _ _, hbz⟩
end Go.Proofs.YtceplbanfpnhbaaGreatDoor.Val
end

section
/- ATTRIBUTES in a row: their cells one behind the other. -/
namespace Go.Proofs.YtceplbanfpnhbaaGreatDoor.Val
open Go.RowKit Flt
def cells6 (a : A) : List Value := [.string ⟨a.name.toArray⟩, .int .i64 a.val.kind, .int .i64 a.val.int, .float .f64 a.val.num, .string ⟨a.val.text.toArray⟩, .bool a.val.yes]
def flatA (l : List A) : List Value := l.flatMap cells6
theorem flatA_len (l : List A) : (flatA l).length = l.length * 6 := by
  induction l with
  | nil => rfl
  | cons v l ih => unfold flatA at *; rw [List.flatMap_cons, List.length_append, ih]; simp [cells6]; omega
theorem flatA_at : ∀ (l : List A) (i j : Nat) (hi : i < l.length), j < 6 → (flatA l)[i * 6 + j]? = (cells6 l[i])[j]?
  | v :: l, 0, j, _, hj => by
    unfold flatA; rw [List.flatMap_cons, List.getElem?_append_left (by simp [cells6]; omega)]; simp
  | v :: l, i + 1, j, hi, hj => by
    unfold flatA; rw [List.flatMap_cons, List.getElem?_append_right (by simp [cells6]; omega)]
    have e : (i + 1) * 6 + j - (cells6 v).length = i * 6 + j := by simp [cells6]; omega
    rw [e]
    exact flatA_at l i j (by simpa using hi) hj
theorem flatA_one (l : List A) : ∀ u ∈ flatA l, u.oneCell' = true := by
  intro u hu
  obtain ⟨v, _, hv⟩ := List.mem_flatMap.1 hu
  simp only [cells6, List.mem_cons, List.not_mem_nil, or_false] at hv
  rcases hv with rfl | rfl | rfl | rfl | rfl | rfl <;> rfl
theorem flatA_app (l : List A) (a : A) : flatA (l ++ [a]) = flatA l ++ flatA [a] := by simp [flatA]
theorem info_attr : (Tryz.prog.info? 87).map (fun i => (i.zero, i.size, i.bytes)) = some (some (.agg #[.string .empty, .int .i64 0, .int .i64 0, .float .f64 0, .string .empty, .bool false]), 6, 64) := by kernel_rfl
theorem liesA {w : World} {g : Nat} {l : List A} (h : ∀ j u, (flatA l)[j]? = some u → w.cell? ((⟨g, 0, none⟩ : Addr).add j) = some u) : Attrs w (some ⟨g, 0, none⟩) l := by
  intro i hi
  refine ⟨_, rfl, ?_⟩
  have k : ∀ j (hj : j < 6), w.cell? (((⟨g, 0, none⟩ : Addr).add (i * 6)).add j) = (cells6 l[i])[j]? := by
    intro j hj
    rw [Deep.add_add]
    have : (flatA l)[i * 6 + j]? = some ((cells6 l[i])[j]'(by simpa [cells6] using hj)) := by rw [flatA_at l i j hi hj]; simp
    rw [h _ _ this]; simp
  exact ⟨k 0 (by decide), k 1 (by decide), k 2 (by decide), k 3 (by decide), k 4 (by decide), k 5 (by decide)⟩
/-- what the call's own row holds, as attributes; nil too -/
theorem own_attrs {w : World} {e : TypeId} {v : Value} {l : List A} {base : Nat} (h : w.ownsRow base e 6 v l.length (flatA l)) :
    ∃ a0 cap, v = .slice a0 l.length cap ∧ Attrs w a0 l := by
  rcases h.2 with ⟨rfl, h0⟩ | ⟨g, cp, cur, rfl, hb, _⟩
  · have : l = [] := List.eq_nil_of_length_eq_zero h0
    subst this
    exact ⟨none, 0, rfl, fun i hi => absurd hi (Nat.not_lt_zero _)⟩
  · exact ⟨some ⟨g, 0, none⟩, cp, rfl, liesA (h.cells rfl)⟩
theorem new_attr (w : World) (a : A) (e : TypeId) : ∀ j u, (flatA [a])[j]? = some u → (w.alloc (.cells #[.string ⟨a.name.toArray⟩, .int .i64 a.val.kind, .int .i64 a.val.int, .float .f64 a.val.num, .string ⟨a.val.text.toArray⟩, .bool a.val.yes] e)).cell? ((⟨w.heap.size, 0, none⟩ : Addr).add j) = some u := by
  intro j u hj
  have hadd : (⟨w.heap.size, 0, none⟩ : Addr).add j = ⟨w.heap.size, j, none⟩ := by unfold Addr.add; split <;> simp_all
  rw [hadd]
  simpa [flatA, cells6, go_sem] using hj
theorem new_attr2 (w : World) (g : Nat) (hg : g = w.heap.size) (a : A) (e : TypeId) : ∀ j u, (flatA [a])[j]? = some u → (w.alloc (.cells #[.string ⟨a.name.toArray⟩, .int .i64 a.val.kind, .int .i64 a.val.int, .float .f64 a.val.num, .string ⟨a.val.text.toArray⟩, .bool a.val.yes] e)).cell? ((⟨g, 0, none⟩ : Addr).add j) = some u := by
  subst hg; exact new_attr w a e
theorem keep_blk {wr w1 w3 : World} {base : Nat} {e : TypeId} {v : Value} {n : Nat} {xs : List Value} (hown : wr.ownsRow base e 6 v n xs) (hg : w1.grownBy w3 v.ownBlock) {p : Nat} (hp : p < base) (hp2 : p < w1.heap.size) : w3.heap[p]? = w1.heap[p]? :=
  hg.block p hp2 (fun h => by have := (hown.lt p h.symm).1; omega)
def keepB (zs : List ByteArray) (l : List A) : List A := l.filter fun a => !Lib.containsS zs ⟨a.name.toArray⟩
theorem keep_succ (zs : List ByteArray) (l : List A) (k : Nat) (h : k < l.length) : keepB zs (l.take (k + 1)) = keepB zs (l.take k) ++ (if Lib.containsS zs ⟨l[k].name.toArray⟩ then [] else [l[k]]) := by
  unfold keepB
  rw [List.take_succ_eq_append_getElem h, List.filter_append]
  cases hc : Lib.containsS zs ⟨l[k].name.toArray⟩ <;> simp [hc]
theorem keep_len (zs : List ByteArray) (l : List A) (k : Nat) : (keepB zs (l.take k)).length ≤ l.length :=
  Nat.le_trans (List.length_filter_le _ _) (by rw [List.length_take]; omega)
end Go.Proofs.YtceplbanfpnhbaaGreatDoor.Val
end

section
/- THE WALK OF slices.Insert at attributes, one element, onto a row of the call's own: at the end. -/
namespace Go.Proofs.YtceplbanfpnhbaaGreatDoor.Val
open Go.RowKit Flt
theorem liesA_one {w : World} {b off : Nat} {a : A} (h : AAt w ⟨b, off, none⟩ a) : ∀ j u, (flatA [a])[j]? = some u → w.cell? ((⟨b, off, none⟩ : Addr).add j) = some u := by
  intro j u hj
  obtain ⟨h0, h1, h2, h3, h4, h5⟩ := h
  have hadd : (⟨b, off, none⟩ : Addr).add j = ⟨b, off + j, none⟩ := by unfold Addr.add; split <;> simp_all
  rw [hadd]
  have hjl : j < 6 := by have := (List.getElem?_eq_some_iff.1 hj).1; simpa [flatA, cells6] using this
  match j, hjl, hj with
  | 0, _, hj => simp [flatA, cells6] at hj; subst hj; exact h0
  | 1, _, hj => simp [flatA, cells6] at hj; subst hj; exact h1
  | 2, _, hj => simp [flatA, cells6] at hj; subst hj; exact h2
  | 3, _, hj => simp [flatA, cells6] at hj; subst hj; exact h3
  | 4, _, hj => simp [flatA, cells6] at hj; subst hj; exact h4
  | 5, _, hj => simp [flatA, cells6] at hj; subst hj; exact h5
set_option maxRecDepth 20000 in
set_option maxHeartbeats 4000000 in
theorem insert_end (a0 : Option Addr) (cap : Nat) (l : List A) (a : A) (b off c base : Nat) (w : World) (hown : w.ownsRow base 87 6 (.slice a0 l.length cap) l.length (flatA l)) (hba : base ≤ w.heap.size) (hlm : l.length ≤ 1000000) (ha : AAt w ⟨b, off, none⟩ a) :
    Calls Tryz.prog 93 #[.slice a0 l.length cap, .int .i64 l.length, .slice (some ⟨b, off, none⟩) 1 c] w fun e w' =>
      ∃ v', e = .returned v' ∧ w'.ownsRow base 87 6 v' (l ++ [a]).length (flatA (l ++ [a])) ∧ w.grownBy w' (Value.slice a0 l.length cap).ownBlock := by
  have OWN := Lib.hid hown
  have hlc : l.length ≤ cap := by
    rcases hown.2 with ⟨h, h0⟩ | ⟨g, cp, cur, h, _, _, hn, _⟩
    · omega
    · cases h; exact hn
  clear hown
  have HA := Lib.hid (liesA_one ha); clear ha
  obtain ⟨i0, hi, hz0, hz1, hz2⟩ := info_parts info_attr
  go_enter Tryz.func93, Tryz.ntmps93
  go_wp2_with (at_builtin; refine wpList_append_own _ rfl _ _ 54 rfl base 87 i0 (.agg #[.string .empty, .int .i64 0, .int .i64 0, .float .f64 0, .string .empty, .bool false]) 6 64 Tryz.underlying54 hi hz0 hz1 hz2 rfl (by decide) (.slice a0 l.length cap) l.length (flatA l) rfl OWN.out ⟨b, off, none⟩ 1 c (flatA [a]) rfl rfl HA.out (flatA_one _) (by unfold maxLen; omega) (by omega) hba ?_; intro v' w4 hown' hgrow3 hnil3)
  all_goals
    go_ret
    refine ⟨v', rfl, ?_, ?_⟩
    · first | exact hown' | (rw [flatA_app]; exact hown') | simpa [flatA_app] using hown'
    · first | exact hgrow3 | simpa [*] using hgrow3 | (rename_i hq; rw [← hq]; exact hgrow3) | (rename_i hq; rw [hq]; exact hgrow3)
end Go.Proofs.YtceplbanfpnhbaaGreatDoor.Val
end

section
/- COPIES OF ELEMENTS OF SEVERAL CELLS INTO A ROW THAT IS KNOWN WHOLE; what an insertion leaves of a row. No walk. -/
namespace Go.Proofs.YtceplbanfpnhbaaGreatDoor.Val
open Go.RowKit Flt
theorem run_copy_rowN {P : Program} (w : World) (dT sT ty elem : TypeId) (size g o dLen dCap : Nat) (a : Addr) (sLen sCap : Nat) (cur : List Value) (t : TypeId) (cs : List Value)
    (hu : P.underlying dT = some (.slice elem)) (hs : (P.info? elem).map (·.size) = some size)
    (hg : w.heap[g]? = some (.cells cur.toArray t (0, 0))) (hn : cs.length = Nat.min sLen dLen * size)
    (hsrc : ∀ j v, cs[j]? = some v → w.cell? (a.add j) = some v) (hfit : o + cs.length ≤ cur.length) (h1 : ∀ v ∈ cs, v.oneCell' = true) :
    (Builtin.copy_ #[dT, sT] ty #[.slice (some ⟨g, o, none⟩) dLen dCap, .slice (some a) sLen sCap]).run P w =
      .ok (goInt (Nat.min sLen dLen : Nat)) (w.setRow g (splice cur o cs).toArray) := by
  have hl := run_loadCells_list (P := P) w a cs hsrc
  have hst := run_storeCells_at P g o t cs 0 cur.toArray w hg (by simpa using hfit) h1
  cases hq : P.info? elem with
  | none => simp [hq] at hs
  | some i =>
    have hi : i.size = size := by simpa [hq] using hs
    simp [Builtin.copy_, run_underlying hu, Builtin.lenOf, Builtin.firstCells, sizeOf, typeInfo, hq, hi, ← hn, hl, hst, splice]
theorem splice_take {α : Type} (L : List α) (off : Nat) (cs : List α) (j : Nat) (h : j ≤ off) (ho : off ≤ L.length) : (splice L off cs).take j = L.take j := by
  unfold splice
  rw [List.take_append_of_le_length (by rw [List.length_take]; omega), List.take_take]
  congr 1; omega
theorem splice_drop {α : Type} (L : List α) (off : Nat) (cs : List α) (ho : off ≤ L.length) : (splice L off cs).drop off = cs ++ L.drop (off + cs.length) := by
  unfold splice
  exact List.drop_left' (by rw [List.length_take]; omega)
theorem flatA_split (l : List A) (i : Nat) : flatA (l.take i) ++ flatA (l.drop i) = flatA l := by
  rw [← flatA_app2, List.take_append_drop]
where flatA_app2 : ∀ {l m : List A}, flatA (l ++ m) = flatA l ++ flatA m := by intro l m; simp [flatA]
theorem flatA_apps (l m : List A) : flatA (l ++ m) = flatA l ++ flatA m := by simp [flatA]
theorem flatA_take (l : List A) (i : Nat) (hi : i ≤ l.length) : (flatA l).take (i * 6) = flatA (l.take i) := by
  rw [← flatA_split l i]
  exact List.take_left' (by rw [flatA_len, List.length_take]; congr 1; omega)
theorem flatA_drop (l : List A) (i : Nat) (hi : i ≤ l.length) : (flatA l).drop (i * 6) = flatA (l.drop i) := by
  rw [← flatA_split l i]
  exact List.drop_left' (by rw [flatA_len, List.length_take]; congr 1; omega)
/-- there is room: what stands from i on is moved, the new one laid -/
theorem row_shift (l : List A) (a : A) (i cap : Nat) (cur : List Value) (hi : i < l.length) (hroom : l.length + 1 ≤ cap) (hcur : cur.length = cap * 6) (ht : cur.take (l.length * 6) = flatA l) :
    (splice (splice cur ((i + 1) * 6) (flatA (l.drop i))) (i * 6) (flatA [a])).length = cap * 6 ∧
    (splice (splice cur ((i + 1) * 6) (flatA (l.drop i))) (i * 6) (flatA [a])).take ((l.take i ++ a :: l.drop i).length * 6) = flatA (l.take i ++ a :: l.drop i) := by
  have hdl : (flatA (l.drop i)).length = (l.length - i) * 6 := by rw [flatA_len, List.length_drop]
  have h1l : (flatA [a]).length = 6 := by rw [flatA_len]; rfl
  have e1 : (splice cur ((i + 1) * 6) (flatA (l.drop i))).length = cap * 6 := by rw [length_splice _ _ _ (by rw [hdl, hcur]; omega), hcur]
  refine ⟨by rw [length_splice _ _ _ (by rw [e1, h1l]; omega), e1], ?_⟩
  have ea : (l.take i ++ a :: l.drop i).length * 6 = i * 6 + 6 + (l.length - i) * 6 := by
    simp only [List.length_append, List.length_take, List.length_cons, List.length_drop]; omega
  rw [ea]
  have f1 := splice_take cur ((i + 1) * 6) (flatA (l.drop i)) (i * 6) (by omega) (by rw [hcur]; omega)
  have f2 : (splice cur ((i + 1) * 6) (flatA (l.drop i))).drop (i * 6 + 6) = flatA (l.drop i) ++ cur.drop ((i + 1) * 6 + (flatA (l.drop i)).length) := by
    rw [show i * 6 + 6 = (i + 1) * 6 by omega]; exact splice_drop _ _ _ (by rw [hcur]; omega)
  generalize splice cur ((i + 1) * 6) (flatA (l.drop i)) = X at *
  unfold splice
  rw [f1, h1l, f2]
  have e3 : cur.take (i * 6) = flatA (l.take i) := by
    rw [← flatA_take l i (by omega), ← ht, List.take_take]; congr 1; omega
  rw [e3, show flatA (l.take i ++ a :: l.drop i) = flatA (l.take i) ++ (flatA [a] ++ flatA (l.drop i)) by rw [flatA_apps, show a :: l.drop i = [a] ++ l.drop i from rfl, flatA_apps]]
  rw [← List.append_assoc, ← List.append_assoc, ← List.append_assoc]
  refine List.take_left' ?_
  simp only [List.length_append, hdl, h1l, flatA_len, List.length_take]
  omega
/-- there is no room: a new row -/
theorem row_grow (l : List A) (a : A) (i G : Nat) (Z : List Value) (hi : i < l.length) (hG : l.length + 1 ≤ G) (hZ : (flatA (l.take i) ++ Z).length = G * 6) :
    (splice (splice (flatA (l.take i) ++ Z) (i * 6) (flatA [a])) ((i + 1) * 6) (flatA (l.drop i))).length = G * 6 ∧
    (splice (splice (flatA (l.take i) ++ Z) (i * 6) (flatA [a])) ((i + 1) * 6) (flatA (l.drop i))).take ((l.take i ++ a :: l.drop i).length * 6) = flatA (l.take i ++ a :: l.drop i) := by
  have hdl : (flatA (l.drop i)).length = (l.length - i) * 6 := by rw [flatA_len, List.length_drop]
  have htl : (flatA (l.take i)).length = i * 6 := by rw [flatA_len, List.length_take]; congr 1; omega
  have h1l : (flatA [a]).length = 6 := by rw [flatA_len]; rfl
  have e1 : (splice (flatA (l.take i) ++ Z) (i * 6) (flatA [a])).length = G * 6 := by rw [length_splice _ _ _ (by rw [h1l, hZ]; omega), hZ]
  refine ⟨by rw [length_splice _ _ _ (by rw [e1, hdl]; omega), e1], ?_⟩
  have ea : (l.take i ++ a :: l.drop i).length * 6 = i * 6 + 6 + (l.length - i) * 6 := by
    simp only [List.length_append, List.length_take, List.length_cons, List.length_drop]; omega
  rw [ea]
  have e3 : (splice (flatA (l.take i) ++ Z) (i * 6) (flatA [a])).take ((i + 1) * 6) = flatA (l.take i) ++ flatA [a] := by
    unfold splice
    rw [← List.append_assoc]
    have e4 : (flatA (l.take i) ++ Z).take (i * 6) = flatA (l.take i) := List.take_left' htl
    rw [e4]
    refine List.take_left' ?_
    rw [List.length_append, htl, h1l]; omega
  generalize splice (flatA (l.take i) ++ Z) (i * 6) (flatA [a]) = X at *
  unfold splice
  rw [e3, show flatA (l.take i ++ a :: l.drop i) = flatA (l.take i) ++ flatA [a] ++ flatA (l.drop i) by rw [flatA_apps, show a :: l.drop i = [a] ++ l.drop i from rfl, flatA_apps, List.append_assoc]]
  rw [← List.append_assoc]
  refine List.take_left' ?_
  simp only [List.length_append, hdl, h1l, htl]
end Go.Proofs.YtceplbanfpnhbaaGreatDoor.Val
end

section
/- THE WALK OF slices.Insert at attributes, one element, onto a row of the call's own: ahead of others. -/
namespace Go.Proofs.YtceplbanfpnhbaaGreatDoor.Val
open Go.RowKit Flt Go.Lib
theorem overlaps_apart (w : World) (vb g n1 n2 c1 c2 o : Nat) (tA tB : TypeId) (xs ys : Array Value) (hne : vb ≠ g) (hA : w.heap[vb]? = some (.cells xs tA (0, 0))) (hB : w.heap[g]? = some (.cells ys tB (0, 0))) (hy : ys.size ≠ 0) :
    (callFunc 118 #[.slice (some ⟨vb, 0, none⟩) n1 c1, .slice (some ⟨g, o, none⟩) n2 c2]).run Tryz.prog w = .ok (.value (.bool false)) w := by
  rw [run_callFunc_extern Tryz.func118 (by kernel_rfl) (by kernel_rfl) (by kernel_rfl) (e := Extern.SlicesOverlaps.overlaps #[54, 54] #[4]) (by kernel_rfl),
    Lib.run_overlaps_apart w 54 4 87 Tryz.underlying54 6 (fun w => by kernel_rfl) ⟨vb, 0, none⟩ ⟨g, o, none⟩ n1 c1 n2 c2 hne tA tB xs.size ys.size
      (by simp [World.shape?, hA]) (by simp [World.shape?, hB]) hy (by simp [World.frozen?, hA]) (by simp [World.frozen?, hA])]
  rfl
theorem addj (b o j : Nat) : (⟨b, o, none⟩ : Addr).add j = ⟨b, o + j, none⟩ := by unfold Addr.add; split <;> simp_all
set_option maxHeartbeats 4000000 in
set_option maxRecDepth 100000 in
theorem insert_room (g cap vb vc i : Nat) (l : List A) (a : A) (cur : List Value) (tv : TypeId) (w : World) (hi : i < l.length) (hroom : l.length + 1 ≤ cap) (hc63 : cap ≤ 9223372036854775807)
    (hg : w.heap[g]? = some (.cells cur.toArray 87 (0, 0))) (hcur : cur.length = cap * 6) (ht : cur.take (l.length * 6) = flatA l) (hv : w.heap[vb]? = some (.cells (flatA [a]).toArray tv (0, 0))) (hne : vb ≠ g) :
    Calls Tryz.prog 93 #[.slice (some ⟨g, 0, none⟩) l.length cap, .int .i64 i, .slice (some ⟨vb, 0, none⟩) 1 vc] w fun e w' =>
      e = .returned (.slice (some ⟨g, 0, none⟩) (l.length + 1) cap) ∧ w' = (w.drew.setRow g (splice cur ((i + 1) * 6) (flatA (l.drop i))).toArray).setRow g (splice (splice cur ((i + 1) * 6) (flatA (l.drop i))) (i * 6) (flatA [a])).toArray := by
  have hz2 : ¬ ((i : Int) = (l.length : Int)) := by omega
  have hov : ∀ lb cb, (callFunc 118 #[.slice (some ⟨vb, 0, none⟩) 1 vc, .slice (some ⟨g, (i + 1) * 6, none⟩) lb cb]).run Tryz.prog w = .ok (.value (.bool false)) w :=
    fun lb cb => overlaps_apart w vb g 1 lb vc cb _ _ _ _ _ hne hv hg (by rw [List.size_toArray]; omega)
  have hdl : (flatA (l.drop i)).length = (l.length - i) * 6 := by rw [flatA_len, List.length_drop]
  have h1l : (flatA [a]).length = 6 := by rw [flatA_len]; rfl
  have hs6 : (Tryz.prog.info? 87).map (·.size) = some 6 := by
    obtain ⟨i0, hi, hz0, hz1, hz2⟩ := info_parts info_attr
    rw [hi]; simp [hz1]
  have hsrc : ∀ j v, (flatA (l.drop i))[j]? = some v → w.cell? ⟨g, i * 6 + j, none⟩ = some v := fun j v hj => by
    rw [cell_of_row w g _ cur.toArray _ _ hg, List.getElem?_toArray]
    rw [← flatA_drop l i (by omega), List.getElem?_drop, ← ht, List.getElem?_take] at hj
    split at hj
    · exact hj
    · cases hj
  have hcp1 : ∀ ty dc sc, (Builtin.copy_ #[54, 54] ty #[.slice (some ⟨g, (i + 1) * 6, none⟩) (l.length - i) dc, .slice (some ⟨g, i * 6, none⟩) (l.length + 1 - i) sc]).run Tryz.prog w.drew = .ok (goInt (Nat.min (l.length + 1 - i) (l.length - i) : Nat)) (w.drew.setRow g (splice cur ((i + 1) * 6) (flatA (l.drop i))).toArray) := fun ty dc sc =>
    run_copy_rowN w.drew _ _ ty 87 6 g ((i + 1) * 6) _ dc ⟨g, i * 6, none⟩ _ sc cur 87 (flatA (l.drop i)) Tryz.underlying54 hs6 hg (by rw [hdl]; congr 1; simp only [Nat.min_def]; split <;> omega)
      (fun j v hj => by rw [addj]; exact hsrc j v hj) (by rw [hdl, hcur]; omega) (flatA_one _)
  obtain ⟨X, hX⟩ : ∃ X, X = splice cur ((i + 1) * 6) (flatA (l.drop i)) := ⟨_, rfl⟩
  have hXl : X.length = cap * 6 := by rw [hX, length_splice _ _ _ (by rw [hdl, hcur]; omega), hcur]
  rw [← hX] at hcp1 ⊢
  have hcp2 : ∀ ty dc, (Builtin.copy_ #[54, 54] ty #[.slice (some ⟨g, i * 6, none⟩) (l.length + 1 - i) dc, .slice (some ⟨vb, 0, none⟩) 1 vc]).run Tryz.prog (w.drew.setRow g X.toArray) = .ok (goInt (Nat.min 1 (l.length + 1 - i) : Nat)) ((w.drew.setRow g X.toArray).setRow g (splice X (i * 6) (flatA [a])).toArray) := fun ty dc =>
    run_copy_rowN (w.drew.setRow g X.toArray) _ _ ty 87 6 g (i * 6) _ dc ⟨vb, 0, none⟩ _ vc X 87 (flatA [a]) Tryz.underlying54 hs6 (setRow_heap w.drew g _ _ _ _ hg) (by rw [h1l]; simp only [Nat.min_def]; split <;> omega)
      (fun j v hj => by
        rw [addj, cell_setRow_other _ _ _ _ hne]
        show w.cell? _ = _
        rw [cell_of_row w vb _ _ _ _ hv, List.getElem?_toArray, Nat.zero_add]; exact hj) (by rw [h1l, hXl]; omega) (flatA_one _)
  have hw1 : IntKind.i64.wrap ((i : Int) + 1) = (i : Int) + 1 := by rw [IntKind.wrap_i64]; omega
  have hb1 : (0 : Int) ≤ (i : Int) + 1 := by omega
  have htn : ((i : Int) + 1).toNat = i + 1 := by omega
  have hb3 : (i : Int) ≤ (l.length : Int) + 1 := by omega
  have hb4 : ¬ (cap = i) := by omega
  have hb5 : ¬ (cap = i + 1) := by omega
  have hin : i ≤ l.length := by omega
  clear hX hsrc hdl h1l hs6 ht hcur hXl hg hv
  go_enter Tryz.func93, Tryz.ntmps93
  go_wp2_with (simp only [hov])
  go_region_law (refine step_copy_runI rfl _ _ 54 54 rfl _ _ (by simp [Act.eval, Act.put]) (by simp [Act.eval, Act.put]) (hcp1 _ _ _) ?_)
  go_wp2_with (at_builtin; refine wpList_copy_runI _ rfl _ _ 54 54 rfl _ _ rfl rfl (hcp2 _ _) ?_)
  go_ret
  exact ⟨rfl, rfl⟩
theorem zero_attr_cells : (Value.agg #[.string .empty, .int .i64 0, .int .i64 0, .float .f64 0, .string .empty, .bool false]).cells.size = 6 := by kernel_rfl
set_option maxHeartbeats 4000000 in
set_option maxRecDepth 100000 in
theorem insert_grow (g cap vb vc i : Nat) (l : List A) (a : A) (cur : List Value) (tv : TypeId) (w : World) (hi : i < l.length) (hlm : l.length ≤ 1000000) (hnc : l.length ≤ cap) (hroom : cap < l.length + 1)
    (hg : w.heap[g]? = some (.cells cur.toArray 87 (0, 0))) (ht : cur.take (l.length * 6) = flatA l) (hv : w.heap[vb]? = some (.cells (flatA [a]).toArray tv (0, 0))) :
    Calls Tryz.prog 93 #[.slice (some ⟨g, 0, none⟩) l.length cap, .int .i64 i, .slice (some ⟨vb, 0, none⟩) 1 vc] w fun e w' =>
      ∃ (G : Nat) (Z : List Value), l.length + 1 ≤ G ∧ G ≤ maxLen ∧ (flatA (l.take i) ++ Z).length = G * 6 ∧ e = .returned (.slice (some ⟨w.heap.size, 0, none⟩) (l.length + 1) G) ∧
        w'.heap[w.heap.size]? = some (.cells (splice (splice (flatA (l.take i) ++ Z) (i * 6) (flatA [a])) ((i + 1) * 6) (flatA (l.drop i))).toArray 87 (0, 0)) ∧ Below w.heap.size w w' := by
  have hz2 : ¬ ((i : Int) = (l.length : Int)) := by omega
  have hz3 : (cap : Int) < (l.length : Int) + 1 := by omega
  obtain ⟨i0, hi0, hzz, hzs, hzb⟩ := info_parts info_attr
  have hdl : (flatA (l.drop i)).length = (l.length - i) * 6 := by rw [flatA_len, List.length_drop]
  have htl : (flatA (l.take i)).length = i * 6 := by rw [flatA_len, List.length_take]; congr 1; omega
  have h1l : (flatA [a]).length = 6 := by rw [flatA_len]; rfl
  have hs6 : (Tryz.prog.info? 87).map (·.size) = some 6 := by rw [hi0]; simp [hzs]
  have hgs : g < w.heap.size := (Array.getElem?_eq_some_iff.1 hg).1
  have hvs : vb < w.heap.size := (Array.getElem?_eq_some_iff.1 hv).1
  have hcell : ∀ j v, (flatA l)[j]? = some v → w.cell? ⟨g, j, none⟩ = some v := fun j v hj => by
    rw [cell_of_row w g _ cur.toArray _ _ hg, List.getElem?_toArray]
    rw [← ht, List.getElem?_take] at hj
    split at hj
    · exact hj
    · cases hj
  have hold : (Builtin.firstCells i0.size i (.slice (some ⟨g, 0, none⟩) i cap)).run Tryz.prog w.drew = .ok (flatA (l.take i)).toArray w.drew := by
    rw [hzs]
    exact run_firstCells_some w.drew 6 i ⟨g, 0, none⟩ i cap (flatA (l.take i)) htl (fun j v hj => by
      rw [addj, Nat.zero_add]
      refine hcell j v ?_
      rw [← flatA_take l i (by omega), List.getElem?_take] at hj
      split at hj
      · exact hj
      · cases hj)
  have hik : i + (l.length + 1 - i) = l.length + 1 := by omega
  have hkk : (l.length : Int) + 1 - (i : Int) = ((l.length + 1 - i : Nat) : Int) := by omega
  obtain ⟨G, hG⟩ : ∃ G, G = grownCap w (l.length + 1) cap 87 := ⟨_, rfl⟩
  obtain ⟨Z, hZ⟩ : ∃ Z : List Value, Z = (Builtin.zeroCells (Value.agg #[.string .empty, .int .i64 0, .int .i64 0, .float .f64 0, .string .empty, .bool false]).cells (l.length + 1 - i) ++ Builtin.zeroCells (Value.agg #[.string .empty, .int .i64 0, .int .i64 0, .float .f64 0, .string .empty, .bool false]).cells (G - (l.length + 1))).toList := ⟨_, rfl⟩
  have hrz : ∀ ty, (Builtin.append_ #[54, 3] ty #[.slice (some ⟨g, 0, none⟩) i cap, .int .i64 ((l.length : Int) + 1 - (i : Int))]).run Tryz.prog w =
      .ok (.slice (some ⟨w.heap.size, 0, none⟩) (l.length + 1) G) (w.drew.alloc (.cells (flatA (l.take i) ++ Z).toArray 87)) := fun ty => by
    have h := Lib.run_append_grow_zeros w 54 3 ty 87 i0 _ .i64 .i64 Tryz.underlying54 Tryz.underlying3 hi0 hzz (some ⟨g, 0, none⟩) i cap (flatA (l.take i)) hold (l.length + 1 - i) (by omega) (by omega) (by omega) (by omega) (by rw [hzb]; omega) (by rw [hzb, hik]; exact growslice_fits (by omega) (by omega))
    rw [hik] at h
    rw [hkk, h, hZ, hG]
    congr 3
    apply Array.toList_inj.1
    simp
  have hGn : l.length + 1 ≤ G := by rw [hG]; exact grownCap_ge w _ _ _
  have hGm : G ≤ maxLen := by rw [hG]; exact grownCap_le_maxLen w (l.length + 1) cap 87 (by unfold maxLen; omega)
  have hG63 : G ≤ 9223372036854775807 := by have := hGm; unfold maxLen at this; omega
  have hZl : (flatA (l.take i) ++ Z).length = G * 6 := by
    rw [List.length_append, htl, hZ, Array.length_toList, Array.size_append, size_zeroCells, size_zeroCells, zero_attr_cells]
    omega
  clear hZ hG
  obtain ⟨R, hR⟩ : ∃ R, R = flatA (l.take i) ++ Z := ⟨_, rfl⟩
  rw [← hR] at hrz hZl
  obtain ⟨W1, hW1⟩ : ∃ W1, W1 = w.drew.alloc (.cells R.toArray 87) := ⟨_, rfl⟩
  have hW1g : W1.heap[w.heap.size]? = some (.cells R.toArray 87 (0, 0)) := by rw [hW1]; exact heap_alloc_new w.drew _
  have hO : ∀ b j, b < w.heap.size → W1.cell? ⟨b, j, none⟩ = w.cell? ⟨b, j, none⟩ := fun b j h => by rw [hW1, World.cell?_alloc_past (w := w.drew) _ b j h]; rfl
  have hb1 : Below w.heap.size w W1 := by rw [hW1]; exact ((Below.refl w.heap.size w).drew).alloc (Nat.le_refl _) _
  rw [← hW1] at hrz
  have hcpA : ∀ (W : World), W.heap = W1.heap → ∀ ty dc, (Builtin.copy_ #[54, 54] ty #[.slice (some ⟨w.heap.size, i * 6, none⟩) (l.length + 1 - i) dc, .slice (some ⟨vb, 0, none⟩) 1 vc]).run Tryz.prog W = .ok (goInt (Nat.min 1 (l.length + 1 - i) : Nat)) (W.setRow w.heap.size (splice R (i * 6) (flatA [a])).toArray) := fun W hWh ty dc =>
    run_copy_rowN W _ _ ty 87 6 w.heap.size (i * 6) _ dc ⟨vb, 0, none⟩ _ vc R 87 (flatA [a]) Tryz.underlying54 hs6 (by rw [hWh]; exact hW1g) (by rw [h1l]; simp only [Nat.min_def]; split <;> omega)
      (fun j v hj => by
        rw [addj, show W.cell? ⟨vb, 0 + j, none⟩ = W1.cell? ⟨vb, 0 + j, none⟩ by simp [World.cell?, hWh], hO _ _ hvs]
        rw [cell_of_row w vb _ _ _ _ hv, List.getElem?_toArray, Nat.zero_add]; exact hj) (by rw [h1l, hZl]; omega) (flatA_one _)
  obtain ⟨X, hX⟩ : ∃ X, X = splice R (i * 6) (flatA [a]) := ⟨_, rfl⟩
  have hXl : X.length = G * 6 := by rw [hX, length_splice _ _ _ (by rw [h1l, hZl]; omega), hZl]
  rw [← hX] at hcpA
  have hcpB : ∀ (W : World), W.heap = (W1.setRow w.heap.size X.toArray).heap → ∀ ty dc sc, (Builtin.copy_ #[54, 54] ty #[.slice (some ⟨w.heap.size, (i + 1) * 6, none⟩) (l.length - i) dc, .slice (some ⟨g, i * 6, none⟩) (l.length - i) sc]).run Tryz.prog W = .ok (goInt (Nat.min (l.length - i) (l.length - i) : Nat)) (W.setRow w.heap.size (splice X ((i + 1) * 6) (flatA (l.drop i))).toArray) := fun W hWh ty dc sc =>
    run_copy_rowN W _ _ ty 87 6 w.heap.size ((i + 1) * 6) _ dc ⟨g, i * 6, none⟩ _ sc X 87 (flatA (l.drop i)) Tryz.underlying54 hs6 (by rw [hWh]; exact setRow_heap W1 _ _ _ _ _ hW1g) (by rw [hdl]; congr 1; simp only [Nat.min_def]; split <;> omega)
      (fun j v hj => by
        rw [addj, show W.cell? ⟨g, i * 6 + j, none⟩ = (W1.setRow w.heap.size X.toArray).cell? ⟨g, i * 6 + j, none⟩ by simp [World.cell?, hWh], cell_setRow_other _ _ _ _ (by show g ≠ w.heap.size; omega), hO _ _ hgs]
        refine hcell _ v ?_
        rwa [← flatA_drop l i (by omega), List.getElem?_drop] at hj) (by rw [hdl, hXl]; omega) (flatA_one _)
  have hfin : ∀ (W : World), W.heap = (W1.setRow w.heap.size X.toArray).heap → (W.setRow w.heap.size (splice X ((i + 1) * 6) (flatA (l.drop i))).toArray).heap[w.heap.size]? = some (.cells (splice X ((i + 1) * 6) (flatA (l.drop i))).toArray 87 (0, 0)) := fun W hWh =>
    setRow_heap W _ _ _ _ _ (by rw [hWh]; exact setRow_heap W1 _ _ _ _ _ hW1g)
  have hbf : ∀ (W : World), Below w.heap.size w W → Below w.heap.size w (W.setRow w.heap.size (splice X ((i + 1) * 6) (flatA (l.drop i))).toArray) := fun W h => below_setRow h (Nat.le_refl _) _
  have hbX : Below w.heap.size w (W1.setRow w.heap.size X.toArray) := below_setRow hb1 (Nat.le_refl _) _
  have hw1 : IntKind.i64.wrap ((i : Int) + 1) = (i : Int) + 1 := by rw [IntKind.wrap_i64]; omega
  have hp1 : (0 : Int) ≤ (i : Int) + 1 := by omega
  have htn : ((i : Int) + 1).toNat = i + 1 := by omega
  have hb3 : (i : Int) ≤ (l.length : Int) := by omega
  have hGi : ¬ (G = i) := by omega
  have hGim : ¬ (G = i + 1) := by omega
  have hci : ¬ (cap = i) := by omega
  have hin : i ≤ l.length := by omega
  have HX := Lib.hid hX; have HR := Lib.hid hR; have HZL := Lib.hid hZl; have HFIN := Lib.hid hfin; have HBF := Lib.hid hbf; have HBX := Lib.hid hbX
  clear hX hR hZl hfin hbf hbX hkk hik hold hcell hdl htl h1l hs6 ht hXl hg hv hO hb1 hW1g
  subst hW1
  go_enter Tryz.func93, Tryz.ntmps93
  go_wp2_with (first
    | (at_builtin; refine Lib.wpList_append_run _ rfl _ _ _ _ rfl _ _ rfl rfl _ _ (hrz _) ?_)
    | (with_reducible refine wpList_copy_runI _ rfl (.tmp 43) (.tmp 44) 54 54 rfl _ _ rfl rfl (hcpA _ (by with_unfolding_all rfl) _ _) ?_))
  go_region_law (refine step_copy_runI rfl _ _ 54 54 rfl _ _ (by simp [Act.eval, Act.put]) (by simp [Act.eval, Act.put]) (hcpB ((w.alloc (.cells R.toArray 87)).drew.setRow w.heap.size X.toArray).drew rfl 3 (G - (i + 1)) (cap - i)) ?_)
  go_wp2
  go_ret
  refine ⟨G, Z, by omega, hGm, by rw [← HR.out]; exact HZL.out, rfl, ?_, ?_⟩
  · rw [← HR.out, ← HX.out]; exact HFIN.out _ rfl
  · exact HBF.out _ HBX.out.drew
theorem grown_of_below {w w' : World} (h : Below w.heap.size w w') (row : Option Nat) : w.grownBy w' row := by
  obtain ⟨h1, h2, h3, h4, h5⟩ := h
  exact ⟨h1, h2, h3, h4, fun k hk _ => h5 k hk⟩
theorem insert_any (a0 : Option Addr) (cap : Nat) (l : List A) (a : A) (i vb vc base : Nat) (tv : TypeId) (w : World) (hown : w.ownsRow base 87 6 (.slice a0 l.length cap) l.length (flatA l)) (hba : base ≤ w.heap.size) (hlm : l.length ≤ 1000000) (hi : i ≤ l.length)
    (hv : w.heap[vb]? = some (.cells (flatA [a]).toArray tv (0, 0))) (hne : (Value.slice a0 l.length cap).ownBlock ≠ some vb) :
    Calls Tryz.prog 93 #[.slice a0 l.length cap, .int .i64 i, .slice (some ⟨vb, 0, none⟩) 1 vc] w fun e w' =>
      ∃ v', e = .returned v' ∧ w'.ownsRow base 87 6 v' (l.length + 1) (flatA (l.take i ++ a :: l.drop i)) ∧ w.grownBy w' (Value.slice a0 l.length cap).ownBlock := by
  by_cases hil : i = l.length
  · subst hil
    have ha : AAt w ⟨vb, 0, none⟩ a := by
      refine ⟨?_, ?_, ?_, ?_, ?_, ?_⟩ <;> (rw [cell_of_row w vb _ _ _ _ hv]; rfl)
    refine (insert_end a0 cap l a vb 0 vc base w hown hba hlm ha).mono ?_
    rintro e w' ⟨v', h1, h2, h3⟩
    refine ⟨v', h1, ?_, h3⟩
    rw [List.take_length, List.drop_length]
    simpa using h2
  · have hlt : i < l.length := by omega
    rcases hown.2 with ⟨_, h0⟩ | ⟨g, cp, cur, he, hbg, hg, hnc, hcm, hcs, htk⟩
    · omega
    · obtain ⟨rfl, _, rfl⟩ : a0 = some ⟨g, 0, none⟩ ∧ True ∧ cap = cp := by cases he; exact ⟨rfl, trivial, rfl⟩
      have hg' : w.heap[g]? = some (.cells cur.toList.toArray 87 (0, 0)) := by rw [Array.toArray_toList]; exact hg
      have hlen : (flatA (l.take i ++ a :: l.drop i)).length = (l.length + 1) * 6 := by
        rw [flatA_len]; congr 1
        simp only [List.length_append, List.length_take, List.length_cons, List.length_drop]; omega
      have htl : (l.take i ++ a :: l.drop i).length = l.length + 1 := by
        simp only [List.length_append, List.length_take, List.length_cons, List.length_drop]; omega
      by_cases hroom : l.length + 1 ≤ cap
      · obtain ⟨r1, r2⟩ := row_shift l a i cap cur.toList hlt hroom (by simpa using hcs) htk
        refine (insert_room g cap vb vc i l a cur.toList tv w hlt hroom (by unfold maxLen at hcm; omega) hg' (by simpa using hcs) htk hv (fun e => hne (by rw [e]; rfl))).mono ?_
        rintro e w' ⟨rfl, rfl⟩
        refine ⟨_, rfl, ⟨hlen, .inr ⟨g, cap, _, rfl, hbg, setRow_heap _ g _ _ _ _ (setRow_heap w.drew g _ _ _ _ hg'), hroom, hcm, ?_, ?_⟩⟩, ?_⟩
        · simpa using r1
        · rw [List.toList_toArray, ← htl]; exact r2
        · exact ⟨rfl, rfl, rfl, by simp [World.setRow], fun k _ hk => by
            have hkg : k ≠ g := fun e => hk (by rw [e]; rfl)
            rw [setRow_other _ g k _ hkg, setRow_other _ g k _ hkg]; rfl⟩
      · refine (insert_grow g cap vb vc i l a cur.toList tv w hlt hlm hnc (by omega) hg' htk hv).mono ?_
        rintro e w' ⟨G, Z, q1, q2, q3, rfl, q4, q5⟩
        obtain ⟨r1, r2⟩ := row_grow l a i G Z hlt q1 q3
        refine ⟨_, rfl, ⟨hlen, .inr ⟨w.heap.size, G, _, rfl, hba, q4, q1, q2, ?_, ?_⟩⟩, grown_of_below q5 _⟩
        · simpa using r1
        · rw [List.toList_toArray, ← htl]; exact r2
end Go.Proofs.YtceplbanfpnhbaaGreatDoor.Val
end
