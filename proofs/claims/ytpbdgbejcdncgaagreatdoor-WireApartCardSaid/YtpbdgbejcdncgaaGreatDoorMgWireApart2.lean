/- MERGED BY A PROGRAM OF MINE (pmg.py) out of my own texts, pruned, in their order: Need, Norm, FlatA, NewFn, New, Fit03, Light03, ESame, ERight, RightA, ScFn, FilFn, Sc, ScL, Fil, FPrint, Key, VInj, NormFn, Keep, TurnsFn, NormsFn, WrFn. -/
import Derived.Test.YtpbdgbejcdncgaaGreatDoorMgWireApart1
import Derived.Test.YtpbdgbejcdncgaaGreatDoorFmtM
import Derived.Laws.AppendOwn
import Derived.Lib.SlicesS
import Derived.Laws.OwnMore
import Derived.Test.YtpbdgbejcdncgaaGreatDoorCondFit
import Derived.Laws.StructEq
import Derived.Test.YtpbdgbejcdncgaaGreatDoorNameFn
import Derived.Lib.Bytealg
import Derived.Lib.Strings
import Derived.Test.YtpbdgbejcdncgaaGreatDoorRows
import Derived.Test.YtpbdgbejcdncgaaGreatDoorName
import Derived.Test.YtpbdgbejcdncgaaGreatDoorShelf
import Derived.WalkKit
import Derived.WalkSpells
import Derived.WalkLawsBesides
import Derived.Lib.Hide
import Derived.Lib.PathFns
import Derived.Deep.Draws
import Derived.Test.YtpbdgbejcdncgaaGreatDoorPrint
import Derived.Test.YtpbdgbejcdncgaaGreatDoorOrdFn

section
/- THE WALK OF filter.needless: does another condition imply one? -/
namespace Go.Proofs.YtpbdgbejcdncgaaGreatDoor.Val
open Go.RowKit Flt
/-- does the k-th make the i-th needless? -/
def hit (L : List C) (i k : Nat) : Bool := !(k == i) && (impliesB L[k]! L[i]! && (decide (k < i) || !impliesB L[i]! L[k]!))
def needN (L : List C) (i : Nat) : Nat → Bool
  | 0 => false
  | k + 1 => needN L i k || hit L i k
def needB (L : List C) (i : Nat) : Bool := needN L i L.length
theorem needN_hit (L : List C) (i k n : Nat) (h : k < n) (hk : hit L i k = true) : needN L i n = true := by
  induction n with
  | zero => omega
  | succ n ih =>
    unfold needN
    by_cases e : k = n
    · subst e; rw [hk]; simp
    · rw [ih (by omega)]; rfl
theorem nd_below {x y : C} {g i : Nat} {wr w1 w2 : World} (hb : Below w1.heap.size w1 w2) (h : w1.cell? ⟨wr.heap.size, 0, none⟩ = some (.string ⟨x.name.toArray⟩) ∧ w1.cell? ⟨wr.heap.size, 1, none⟩ = some (.int .i64 x.op) ∧ w1.cell? ⟨wr.heap.size, 2, none⟩ = some (.int .i64 x.val.kind) ∧ w1.cell? ⟨wr.heap.size, 3, none⟩ = some (.int .i64 x.val.int) ∧ w1.cell? ⟨wr.heap.size, 4, none⟩ = some (.float .f64 x.val.num) ∧ w1.cell? ⟨wr.heap.size, 5, none⟩ = some (.string ⟨x.val.text.toArray⟩) ∧ w1.cell? ⟨wr.heap.size, 6, none⟩ = some (.bool x.val.yes) ∧ w1.cell? ⟨g, i * 7, none⟩ = some (.string ⟨y.name.toArray⟩) ∧ w1.cell? ⟨g, i * 7 + 1, none⟩ = some (.int .i64 y.op) ∧ w1.cell? ⟨g, i * 7 + 2, none⟩ = some (.int .i64 y.val.kind) ∧ w1.cell? ⟨g, i * 7 + 3, none⟩ = some (.int .i64 y.val.int) ∧ w1.cell? ⟨g, i * 7 + 4, none⟩ = some (.float .f64 y.val.num) ∧ w1.cell? ⟨g, i * 7 + 5, none⟩ = some (.string ⟨y.val.text.toArray⟩) ∧ w1.cell? ⟨g, i * 7 + 6, none⟩ = some (.bool y.val.yes) ∧ Below wr.heap.size wr w1 ∧ wr.heap.size < w1.heap.size ∧ g < wr.heap.size) :
    w2.cell? ⟨wr.heap.size, 0, none⟩ = some (.string ⟨x.name.toArray⟩) ∧ w2.cell? ⟨wr.heap.size, 1, none⟩ = some (.int .i64 x.op) ∧ w2.cell? ⟨wr.heap.size, 2, none⟩ = some (.int .i64 x.val.kind) ∧ w2.cell? ⟨wr.heap.size, 3, none⟩ = some (.int .i64 x.val.int) ∧ w2.cell? ⟨wr.heap.size, 4, none⟩ = some (.float .f64 x.val.num) ∧ w2.cell? ⟨wr.heap.size, 5, none⟩ = some (.string ⟨x.val.text.toArray⟩) ∧ w2.cell? ⟨wr.heap.size, 6, none⟩ = some (.bool x.val.yes) ∧ w2.cell? ⟨g, i * 7, none⟩ = some (.string ⟨y.name.toArray⟩) ∧ w2.cell? ⟨g, i * 7 + 1, none⟩ = some (.int .i64 y.op) ∧ w2.cell? ⟨g, i * 7 + 2, none⟩ = some (.int .i64 y.val.kind) ∧ w2.cell? ⟨g, i * 7 + 3, none⟩ = some (.int .i64 y.val.int) ∧ w2.cell? ⟨g, i * 7 + 4, none⟩ = some (.float .f64 y.val.num) ∧ w2.cell? ⟨g, i * 7 + 5, none⟩ = some (.string ⟨y.val.text.toArray⟩) ∧ w2.cell? ⟨g, i * 7 + 6, none⟩ = some (.bool y.val.yes) ∧ Below wr.heap.size wr w2 ∧ wr.heap.size < w2.heap.size ∧ g < wr.heap.size := by
  obtain ⟨h0, h1, h2, h3, h4, h5, h6, h7, h8, h9, h10, h11, h12, h13, hB, hl, hg⟩ := h
  have hsz := hB.size
  have c : ∀ b o, b < w1.heap.size → w2.cell? ⟨b, o, none⟩ = w1.cell? ⟨b, o, none⟩ := fun b o h => hb.cell (p := ⟨b, o, none⟩) h
  exact ⟨(c _ _ (by omega)).trans h0, (c _ _ (by omega)).trans h1, (c _ _ (by omega)).trans h2, (c _ _ (by omega)).trans h3, (c _ _ (by omega)).trans h4, (c _ _ (by omega)).trans h5, (c _ _ (by omega)).trans h6, (c _ _ (by omega)).trans h7, (c _ _ (by omega)).trans h8, (c _ _ (by omega)).trans h9, (c _ _ (by omega)).trans h10, (c _ _ (by omega)).trans h11, (c _ _ (by omega)).trans h12, (c _ _ (by omega)).trans h13, btrans hB hb, Nat.lt_of_lt_of_le hl hb.size, hg⟩
theorem nd_start {L : List C} {Z : List Value} {x : C} {g i : Nat} {wr : World} {T : TypeId} (h : Row wr g L Z) (hi : i < L.length) : (wr.alloc (.cells #[(.string ⟨x.name.toArray⟩), (.int .i64 x.op), (.int .i64 x.val.kind), (.int .i64 x.val.int), (.float .f64 x.val.num), (.string ⟨x.val.text.toArray⟩), (.bool x.val.yes)] T)).drew.cell? ⟨wr.heap.size, 0, none⟩ = some (.string ⟨x.name.toArray⟩) ∧ (wr.alloc (.cells #[(.string ⟨x.name.toArray⟩), (.int .i64 x.op), (.int .i64 x.val.kind), (.int .i64 x.val.int), (.float .f64 x.val.num), (.string ⟨x.val.text.toArray⟩), (.bool x.val.yes)] T)).drew.cell? ⟨wr.heap.size, 1, none⟩ = some (.int .i64 x.op) ∧ (wr.alloc (.cells #[(.string ⟨x.name.toArray⟩), (.int .i64 x.op), (.int .i64 x.val.kind), (.int .i64 x.val.int), (.float .f64 x.val.num), (.string ⟨x.val.text.toArray⟩), (.bool x.val.yes)] T)).drew.cell? ⟨wr.heap.size, 2, none⟩ = some (.int .i64 x.val.kind) ∧ (wr.alloc (.cells #[(.string ⟨x.name.toArray⟩), (.int .i64 x.op), (.int .i64 x.val.kind), (.int .i64 x.val.int), (.float .f64 x.val.num), (.string ⟨x.val.text.toArray⟩), (.bool x.val.yes)] T)).drew.cell? ⟨wr.heap.size, 3, none⟩ = some (.int .i64 x.val.int) ∧ (wr.alloc (.cells #[(.string ⟨x.name.toArray⟩), (.int .i64 x.op), (.int .i64 x.val.kind), (.int .i64 x.val.int), (.float .f64 x.val.num), (.string ⟨x.val.text.toArray⟩), (.bool x.val.yes)] T)).drew.cell? ⟨wr.heap.size, 4, none⟩ = some (.float .f64 x.val.num) ∧ (wr.alloc (.cells #[(.string ⟨x.name.toArray⟩), (.int .i64 x.op), (.int .i64 x.val.kind), (.int .i64 x.val.int), (.float .f64 x.val.num), (.string ⟨x.val.text.toArray⟩), (.bool x.val.yes)] T)).drew.cell? ⟨wr.heap.size, 5, none⟩ = some (.string ⟨x.val.text.toArray⟩) ∧ (wr.alloc (.cells #[(.string ⟨x.name.toArray⟩), (.int .i64 x.op), (.int .i64 x.val.kind), (.int .i64 x.val.int), (.float .f64 x.val.num), (.string ⟨x.val.text.toArray⟩), (.bool x.val.yes)] T)).drew.cell? ⟨wr.heap.size, 6, none⟩ = some (.bool x.val.yes) ∧ (wr.alloc (.cells #[(.string ⟨x.name.toArray⟩), (.int .i64 x.op), (.int .i64 x.val.kind), (.int .i64 x.val.int), (.float .f64 x.val.num), (.string ⟨x.val.text.toArray⟩), (.bool x.val.yes)] T)).drew.cell? ⟨g, i * 7, none⟩ = some (.string ⟨(L[i]'hi).name.toArray⟩) ∧ (wr.alloc (.cells #[(.string ⟨x.name.toArray⟩), (.int .i64 x.op), (.int .i64 x.val.kind), (.int .i64 x.val.int), (.float .f64 x.val.num), (.string ⟨x.val.text.toArray⟩), (.bool x.val.yes)] T)).drew.cell? ⟨g, i * 7 + 1, none⟩ = some (.int .i64 (L[i]'hi).op) ∧ (wr.alloc (.cells #[(.string ⟨x.name.toArray⟩), (.int .i64 x.op), (.int .i64 x.val.kind), (.int .i64 x.val.int), (.float .f64 x.val.num), (.string ⟨x.val.text.toArray⟩), (.bool x.val.yes)] T)).drew.cell? ⟨g, i * 7 + 2, none⟩ = some (.int .i64 (L[i]'hi).val.kind) ∧ (wr.alloc (.cells #[(.string ⟨x.name.toArray⟩), (.int .i64 x.op), (.int .i64 x.val.kind), (.int .i64 x.val.int), (.float .f64 x.val.num), (.string ⟨x.val.text.toArray⟩), (.bool x.val.yes)] T)).drew.cell? ⟨g, i * 7 + 3, none⟩ = some (.int .i64 (L[i]'hi).val.int) ∧ (wr.alloc (.cells #[(.string ⟨x.name.toArray⟩), (.int .i64 x.op), (.int .i64 x.val.kind), (.int .i64 x.val.int), (.float .f64 x.val.num), (.string ⟨x.val.text.toArray⟩), (.bool x.val.yes)] T)).drew.cell? ⟨g, i * 7 + 4, none⟩ = some (.float .f64 (L[i]'hi).val.num) ∧ (wr.alloc (.cells #[(.string ⟨x.name.toArray⟩), (.int .i64 x.op), (.int .i64 x.val.kind), (.int .i64 x.val.int), (.float .f64 x.val.num), (.string ⟨x.val.text.toArray⟩), (.bool x.val.yes)] T)).drew.cell? ⟨g, i * 7 + 5, none⟩ = some (.string ⟨(L[i]'hi).val.text.toArray⟩) ∧ (wr.alloc (.cells #[(.string ⟨x.name.toArray⟩), (.int .i64 x.op), (.int .i64 x.val.kind), (.int .i64 x.val.int), (.float .f64 x.val.num), (.string ⟨x.val.text.toArray⟩), (.bool x.val.yes)] T)).drew.cell? ⟨g, i * 7 + 6, none⟩ = some (.bool (L[i]'hi).val.yes) ∧ Below wr.heap.size wr (wr.alloc (.cells #[(.string ⟨x.name.toArray⟩), (.int .i64 x.op), (.int .i64 x.val.kind), (.int .i64 x.val.int), (.float .f64 x.val.num), (.string ⟨x.val.text.toArray⟩), (.bool x.val.yes)] T)).drew ∧ wr.heap.size < (wr.alloc (.cells #[(.string ⟨x.name.toArray⟩), (.int .i64 x.op), (.int .i64 x.val.kind), (.int .i64 x.val.int), (.float .f64 x.val.num), (.string ⟨x.val.text.toArray⟩), (.bool x.val.yes)] T)).drew.heap.size ∧ g < wr.heap.size := by
  have b := h.cat i hi
  obtain ⟨b0, b1, b2, b3, b4, b5, b6⟩ := b
  have c : ∀ o, (wr.alloc (.cells #[(.string ⟨x.name.toArray⟩), (.int .i64 x.op), (.int .i64 x.val.kind), (.int .i64 x.val.int), (.float .f64 x.val.num), (.string ⟨x.val.text.toArray⟩), (.bool x.val.yes)] T)).drew.cell? ⟨wr.heap.size, o, none⟩ = #[(.string ⟨x.name.toArray⟩), (.int .i64 x.op), (.int .i64 x.val.kind), (.int .i64 x.val.int), (.float .f64 x.val.num), (.string ⟨x.val.text.toArray⟩), (.bool x.val.yes)][o]? := fun o => World.cell?_alloc_at _ _ _ _ rfl
  have d : ∀ o, (wr.alloc (.cells #[(.string ⟨x.name.toArray⟩), (.int .i64 x.op), (.int .i64 x.val.kind), (.int .i64 x.val.int), (.float .f64 x.val.num), (.string ⟨x.val.text.toArray⟩), (.bool x.val.yes)] T)).drew.cell? ⟨g, o, none⟩ = wr.cell? ⟨g, o, none⟩ := fun o => (balloc wr _).cell (p := ⟨g, o, none⟩) h.lt
  exact ⟨c 0, c 1, c 2, c 3, c 4, c 5, c 6, (d _).trans b0, (d _).trans b1, (d _).trans b2, (d _).trans b3, (d _).trans b4, (d _).trans b5, (d _).trans b6, bdrewN (balloc _ _) 1, by show wr.heap.size < (wr.alloc _).heap.size; simp, h.lt⟩
theorem nd_own {x y : C} {g i : Nat} {wr w1 : World} (h : w1.cell? ⟨wr.heap.size, 0, none⟩ = some (.string ⟨x.name.toArray⟩) ∧ w1.cell? ⟨wr.heap.size, 1, none⟩ = some (.int .i64 x.op) ∧ w1.cell? ⟨wr.heap.size, 2, none⟩ = some (.int .i64 x.val.kind) ∧ w1.cell? ⟨wr.heap.size, 3, none⟩ = some (.int .i64 x.val.int) ∧ w1.cell? ⟨wr.heap.size, 4, none⟩ = some (.float .f64 x.val.num) ∧ w1.cell? ⟨wr.heap.size, 5, none⟩ = some (.string ⟨x.val.text.toArray⟩) ∧ w1.cell? ⟨wr.heap.size, 6, none⟩ = some (.bool x.val.yes) ∧ w1.cell? ⟨g, i * 7, none⟩ = some (.string ⟨y.name.toArray⟩) ∧ w1.cell? ⟨g, i * 7 + 1, none⟩ = some (.int .i64 y.op) ∧ w1.cell? ⟨g, i * 7 + 2, none⟩ = some (.int .i64 y.val.kind) ∧ w1.cell? ⟨g, i * 7 + 3, none⟩ = some (.int .i64 y.val.int) ∧ w1.cell? ⟨g, i * 7 + 4, none⟩ = some (.float .f64 y.val.num) ∧ w1.cell? ⟨g, i * 7 + 5, none⟩ = some (.string ⟨y.val.text.toArray⟩) ∧ w1.cell? ⟨g, i * 7 + 6, none⟩ = some (.bool y.val.yes) ∧ Below wr.heap.size wr w1 ∧ wr.heap.size < w1.heap.size ∧ g < wr.heap.size) : Below wr.heap.size wr w1 := h.2.2.2.2.2.2.2.2.2.2.2.2.2.2.1
attribute [local go_sem] run_store_flt
set_option maxRecDepth 20000 in
set_option maxHeartbeats 2000000 in
theorem needless_any (L : List C) (Z : List Value) (g cap i : Nat) (w : World) (hr : Row w g L Z) (hi : i < L.length) (hl : L.length ≤ 1000) (hs : ∀ c ∈ L, 0 ≤ c.op ∧ c.op ≤ 7 ∧ c.val.num < 18446744073709551616) :
    Calls Tryz.prog 21 #[.slice (some ⟨g, 0, none⟩) L.length cap, .int .i64 (i : Nat)] w fun e w' => e = .returned (.bool (needB L i)) ∧ Below w.heap.size w w' := by
  have HR := Lib.hid hr; have HS := Lib.hid hs
  have hg := hr.lt
  clear hr hs
  go_enter Tryz.func21, Tryz.ntmps21
  have i0 : (0 : Int) ≤ (i : Int) := by omega
  have i1 : (i : Int) < (L.length : Int) := by omega
  go_wp2_with fail
  go_loopw [9] (fun vk wr => ∃ k : Nat, k ≤ L.length ∧ vk = .int .i64 k ∧ Hid (needN L i k = false) ∧ Below w.heap.size w wr) (fun vk _ => L.length - (intOf vk).toNat)
  case atStart => exact ⟨0, Nat.zero_le _, rfl, Lib.hid rfl, Below.refl _ _⟩
  case round =>
    obtain ⟨k, hk, rfl, HP, hbr⟩ := hrel
    have HBR := Lib.hid hbr
    by_cases hlt : k < L.length
    · have k0 : (0 : Int) ≤ (k : Int) := by omega
      have k1 : (k : Int) < (L.length : Int) := by omega
      have hrow : Row wr g L Z := HR.out.below hbr hg
      have ha := hrow.cat k hlt
      obtain ⟨v0, v1, v2, v3, v4, v5, v6⟩ := ha
      have hh : hit L i k = (!(k == i) && (impliesB (L[k]'hlt) (L[i]'hi) && (decide (k < i) || !impliesB (L[i]'hi) (L[k]'hlt)))) := by
        unfold hit; rw [getElem!_pos L k hlt, getElem!_pos L i hi]
      have hst : (wr.alloc (.cells #[(.string ⟨(L[k]'hlt).name.toArray⟩), (.int .i64 (L[k]'hlt).op), (.int .i64 (L[k]'hlt).val.kind), (.int .i64 (L[k]'hlt).val.int), (.float .f64 (L[k]'hlt).val.num), (.string ⟨(L[k]'hlt).val.text.toArray⟩), (.bool (L[k]'hlt).val.yes)] 49)).drew.cell? ⟨wr.heap.size, 0, none⟩ = some (.string ⟨(L[k]'hlt).name.toArray⟩) ∧ (wr.alloc (.cells #[(.string ⟨(L[k]'hlt).name.toArray⟩), (.int .i64 (L[k]'hlt).op), (.int .i64 (L[k]'hlt).val.kind), (.int .i64 (L[k]'hlt).val.int), (.float .f64 (L[k]'hlt).val.num), (.string ⟨(L[k]'hlt).val.text.toArray⟩), (.bool (L[k]'hlt).val.yes)] 49)).drew.cell? ⟨wr.heap.size, 1, none⟩ = some (.int .i64 (L[k]'hlt).op) ∧ (wr.alloc (.cells #[(.string ⟨(L[k]'hlt).name.toArray⟩), (.int .i64 (L[k]'hlt).op), (.int .i64 (L[k]'hlt).val.kind), (.int .i64 (L[k]'hlt).val.int), (.float .f64 (L[k]'hlt).val.num), (.string ⟨(L[k]'hlt).val.text.toArray⟩), (.bool (L[k]'hlt).val.yes)] 49)).drew.cell? ⟨wr.heap.size, 2, none⟩ = some (.int .i64 (L[k]'hlt).val.kind) ∧ (wr.alloc (.cells #[(.string ⟨(L[k]'hlt).name.toArray⟩), (.int .i64 (L[k]'hlt).op), (.int .i64 (L[k]'hlt).val.kind), (.int .i64 (L[k]'hlt).val.int), (.float .f64 (L[k]'hlt).val.num), (.string ⟨(L[k]'hlt).val.text.toArray⟩), (.bool (L[k]'hlt).val.yes)] 49)).drew.cell? ⟨wr.heap.size, 3, none⟩ = some (.int .i64 (L[k]'hlt).val.int) ∧ (wr.alloc (.cells #[(.string ⟨(L[k]'hlt).name.toArray⟩), (.int .i64 (L[k]'hlt).op), (.int .i64 (L[k]'hlt).val.kind), (.int .i64 (L[k]'hlt).val.int), (.float .f64 (L[k]'hlt).val.num), (.string ⟨(L[k]'hlt).val.text.toArray⟩), (.bool (L[k]'hlt).val.yes)] 49)).drew.cell? ⟨wr.heap.size, 4, none⟩ = some (.float .f64 (L[k]'hlt).val.num) ∧ (wr.alloc (.cells #[(.string ⟨(L[k]'hlt).name.toArray⟩), (.int .i64 (L[k]'hlt).op), (.int .i64 (L[k]'hlt).val.kind), (.int .i64 (L[k]'hlt).val.int), (.float .f64 (L[k]'hlt).val.num), (.string ⟨(L[k]'hlt).val.text.toArray⟩), (.bool (L[k]'hlt).val.yes)] 49)).drew.cell? ⟨wr.heap.size, 5, none⟩ = some (.string ⟨(L[k]'hlt).val.text.toArray⟩) ∧ (wr.alloc (.cells #[(.string ⟨(L[k]'hlt).name.toArray⟩), (.int .i64 (L[k]'hlt).op), (.int .i64 (L[k]'hlt).val.kind), (.int .i64 (L[k]'hlt).val.int), (.float .f64 (L[k]'hlt).val.num), (.string ⟨(L[k]'hlt).val.text.toArray⟩), (.bool (L[k]'hlt).val.yes)] 49)).drew.cell? ⟨wr.heap.size, 6, none⟩ = some (.bool (L[k]'hlt).val.yes) ∧ (wr.alloc (.cells #[(.string ⟨(L[k]'hlt).name.toArray⟩), (.int .i64 (L[k]'hlt).op), (.int .i64 (L[k]'hlt).val.kind), (.int .i64 (L[k]'hlt).val.int), (.float .f64 (L[k]'hlt).val.num), (.string ⟨(L[k]'hlt).val.text.toArray⟩), (.bool (L[k]'hlt).val.yes)] 49)).drew.cell? ⟨g, i * 7, none⟩ = some (.string ⟨(L[i]'hi).name.toArray⟩) ∧ (wr.alloc (.cells #[(.string ⟨(L[k]'hlt).name.toArray⟩), (.int .i64 (L[k]'hlt).op), (.int .i64 (L[k]'hlt).val.kind), (.int .i64 (L[k]'hlt).val.int), (.float .f64 (L[k]'hlt).val.num), (.string ⟨(L[k]'hlt).val.text.toArray⟩), (.bool (L[k]'hlt).val.yes)] 49)).drew.cell? ⟨g, i * 7 + 1, none⟩ = some (.int .i64 (L[i]'hi).op) ∧ (wr.alloc (.cells #[(.string ⟨(L[k]'hlt).name.toArray⟩), (.int .i64 (L[k]'hlt).op), (.int .i64 (L[k]'hlt).val.kind), (.int .i64 (L[k]'hlt).val.int), (.float .f64 (L[k]'hlt).val.num), (.string ⟨(L[k]'hlt).val.text.toArray⟩), (.bool (L[k]'hlt).val.yes)] 49)).drew.cell? ⟨g, i * 7 + 2, none⟩ = some (.int .i64 (L[i]'hi).val.kind) ∧ (wr.alloc (.cells #[(.string ⟨(L[k]'hlt).name.toArray⟩), (.int .i64 (L[k]'hlt).op), (.int .i64 (L[k]'hlt).val.kind), (.int .i64 (L[k]'hlt).val.int), (.float .f64 (L[k]'hlt).val.num), (.string ⟨(L[k]'hlt).val.text.toArray⟩), (.bool (L[k]'hlt).val.yes)] 49)).drew.cell? ⟨g, i * 7 + 3, none⟩ = some (.int .i64 (L[i]'hi).val.int) ∧ (wr.alloc (.cells #[(.string ⟨(L[k]'hlt).name.toArray⟩), (.int .i64 (L[k]'hlt).op), (.int .i64 (L[k]'hlt).val.kind), (.int .i64 (L[k]'hlt).val.int), (.float .f64 (L[k]'hlt).val.num), (.string ⟨(L[k]'hlt).val.text.toArray⟩), (.bool (L[k]'hlt).val.yes)] 49)).drew.cell? ⟨g, i * 7 + 4, none⟩ = some (.float .f64 (L[i]'hi).val.num) ∧ (wr.alloc (.cells #[(.string ⟨(L[k]'hlt).name.toArray⟩), (.int .i64 (L[k]'hlt).op), (.int .i64 (L[k]'hlt).val.kind), (.int .i64 (L[k]'hlt).val.int), (.float .f64 (L[k]'hlt).val.num), (.string ⟨(L[k]'hlt).val.text.toArray⟩), (.bool (L[k]'hlt).val.yes)] 49)).drew.cell? ⟨g, i * 7 + 5, none⟩ = some (.string ⟨(L[i]'hi).val.text.toArray⟩) ∧ (wr.alloc (.cells #[(.string ⟨(L[k]'hlt).name.toArray⟩), (.int .i64 (L[k]'hlt).op), (.int .i64 (L[k]'hlt).val.kind), (.int .i64 (L[k]'hlt).val.int), (.float .f64 (L[k]'hlt).val.num), (.string ⟨(L[k]'hlt).val.text.toArray⟩), (.bool (L[k]'hlt).val.yes)] 49)).drew.cell? ⟨g, i * 7 + 6, none⟩ = some (.bool (L[i]'hi).val.yes) ∧ Below wr.heap.size wr (wr.alloc (.cells #[(.string ⟨(L[k]'hlt).name.toArray⟩), (.int .i64 (L[k]'hlt).op), (.int .i64 (L[k]'hlt).val.kind), (.int .i64 (L[k]'hlt).val.int), (.float .f64 (L[k]'hlt).val.num), (.string ⟨(L[k]'hlt).val.text.toArray⟩), (.bool (L[k]'hlt).val.yes)] 49)).drew ∧ wr.heap.size < (wr.alloc (.cells #[(.string ⟨(L[k]'hlt).name.toArray⟩), (.int .i64 (L[k]'hlt).op), (.int .i64 (L[k]'hlt).val.kind), (.int .i64 (L[k]'hlt).val.int), (.float .f64 (L[k]'hlt).val.num), (.string ⟨(L[k]'hlt).val.text.toArray⟩), (.bool (L[k]'hlt).val.yes)] 49)).drew.heap.size ∧ g < wr.heap.size := nd_start (x := L[k]'hlt) (T := 49) hrow hi
      obtain ⟨s1, s2, s3⟩ := HS.out _ (List.getElem_mem hlt)
      obtain ⟨t1, t2, t3⟩ := HS.out _ (List.getElem_mem hi)
      have hi1 (W : World) := implies_any (L[k]'hlt).name (L[k]'hlt).op (L[k]'hlt).val.kind (L[k]'hlt).val.int (L[k]'hlt).val.num (L[k]'hlt).val.text (L[k]'hlt).val.yes (L[i]'hi).name (L[i]'hi).op (L[i]'hi).val.kind (L[i]'hi).val.int (L[i]'hi).val.num (L[i]'hi).val.text (L[i]'hi).val.yes W s1 s2 s3 t3
      have hi2 (W : World) := implies_any (L[i]'hi).name (L[i]'hi).op (L[i]'hi).val.kind (L[i]'hi).val.int (L[i]'hi).val.num (L[i]'hi).val.text (L[i]'hi).val.yes (L[k]'hlt).name (L[k]'hlt).op (L[k]'hlt).val.kind (L[k]'hlt).val.int (L[k]'hlt).val.num (L[k]'hlt).val.text (L[k]'hlt).val.yes W t1 t2 t3 s3
      have e1 : impliesB (L[k]'hlt) (L[i]'hi) = impliesB ⟨(L[k]'hlt).name, (L[k]'hlt).op, (L[k]'hlt).val.kind, (L[k]'hlt).val.int, (L[k]'hlt).val.num, (L[k]'hlt).val.text, (L[k]'hlt).val.yes⟩ ⟨(L[i]'hi).name, (L[i]'hi).op, (L[i]'hi).val.kind, (L[i]'hi).val.int, (L[i]'hi).val.num, (L[i]'hi).val.text, (L[i]'hi).val.yes⟩ := rfl
      have e2 : impliesB (L[i]'hi) (L[k]'hlt) = impliesB ⟨(L[i]'hi).name, (L[i]'hi).op, (L[i]'hi).val.kind, (L[i]'hi).val.int, (L[i]'hi).val.num, (L[i]'hi).val.text, (L[i]'hi).val.yes⟩ ⟨(L[k]'hlt).name, (L[k]'hlt).op, (L[k]'hlt).val.kind, (L[k]'hlt).val.int, (L[k]'hlt).val.num, (L[k]'hlt).val.text, (L[k]'hlt).val.yes⟩ := rfl
      rw [← e1] at hi1
      rw [← e2] at hi2
      clear e1 e2 s1 s2 s3 t1 t2 t3 hbr hrow
      generalize impliesB (L[k]'hlt) (L[i]'hi) = b1 at *
      generalize impliesB (L[i]'hi) (L[k]'hlt) = b2 at *
      generalize (L[k]'hlt) = x at *
      generalize (L[i]'hi) = y at *
      have HST := Lib.hid hst; have HI1 := Lib.hid hi1; have HI2 := Lib.hid hi2
      clear hst hi1 hi2
      by_cases hki : k = i
      · have m1 : ((k : Int) != (i : Int)) = false := by rw [hki]; simp
        have m3 : (k == i) = true := by rw [hki]; simp
        have hro : hit L i k = false := by rw [hh]; rw [m3]; rfl
        have HRO := Lib.hid hro
        clear hh hro hki m3
        go_wp2_with fail
        refine wp_region_held_drew (S := (fun w' => w'.cell? ⟨wr.heap.size, 0, none⟩ = some (.string ⟨x.name.toArray⟩) ∧ w'.cell? ⟨wr.heap.size, 1, none⟩ = some (.int .i64 x.op) ∧ w'.cell? ⟨wr.heap.size, 2, none⟩ = some (.int .i64 x.val.kind) ∧ w'.cell? ⟨wr.heap.size, 3, none⟩ = some (.int .i64 x.val.int) ∧ w'.cell? ⟨wr.heap.size, 4, none⟩ = some (.float .f64 x.val.num) ∧ w'.cell? ⟨wr.heap.size, 5, none⟩ = some (.string ⟨x.val.text.toArray⟩) ∧ w'.cell? ⟨wr.heap.size, 6, none⟩ = some (.bool x.val.yes) ∧ w'.cell? ⟨g, i * 7, none⟩ = some (.string ⟨y.name.toArray⟩) ∧ w'.cell? ⟨g, i * 7 + 1, none⟩ = some (.int .i64 y.op) ∧ w'.cell? ⟨g, i * 7 + 2, none⟩ = some (.int .i64 y.val.kind) ∧ w'.cell? ⟨g, i * 7 + 3, none⟩ = some (.int .i64 y.val.int) ∧ w'.cell? ⟨g, i * 7 + 4, none⟩ = some (.float .f64 y.val.num) ∧ w'.cell? ⟨g, i * 7 + 5, none⟩ = some (.string ⟨y.val.text.toArray⟩) ∧ w'.cell? ⟨g, i * 7 + 6, none⟩ = some (.bool y.val.yes) ∧ Below wr.heap.size wr w' ∧ wr.heap.size < w'.heap.size ∧ g < wr.heap.size)) (by kernel_rfl) ?_ (fun hq0 => ?_)
        · ((try dsimp only); (first | exact HST.out | assumption | exact nd_below (by assumption) (by assumption)))
        (refine wpAnyH_take (i := 0) (oi := ?_) (v := ?_) ?_ (by kernel_rfl) (by kernel_rfl) (by kernel_rfl) ?_ (Or.inl ⟨?_, ?_⟩) (by assumption) ?_; rotate_left 2; (· (simp only [List.getElem?_toArray, List.getElem?_cons_zero]; first | done | rfl)); (· exact (fun _ _ _ h => h)); (· rfl); (· (intro w hSw; (try dsimp only at hSw); go_simp; (try with_reducible rfl))))
        (try simp only [Act.put, List.setIfInBounds_toArray, List.set_cons_zero, List.set_cons_succ])
        (refine wpAnyH_take (i := 1) (oi := ?_) (v := ?_) ?_ (by kernel_rfl) (by kernel_rfl) (by kernel_rfl) ?_ (Or.inl ⟨?_, ?_⟩) (by assumption) ?_; rotate_left 2; (· (simp only [List.getElem?_toArray, List.getElem?_cons_succ, List.getElem?_cons_zero]; first | done | rfl)); (· exact (fun _ _ _ h => h)); (· rfl); (· (intro w hSw; (try dsimp only at hSw); go_simp; (try with_reducible rfl))))
        (try simp only [Act.put, List.setIfInBounds_toArray, List.set_cons_zero, List.set_cons_succ])
        (refine wpAnyH_take (i := 2) (oi := ?_) (v := ?_) ?_ (by kernel_rfl) (by kernel_rfl) (by kernel_rfl) ?_ (Or.inl ⟨?_, ?_⟩) (by assumption) ?_; rotate_left 2; (· (simp only [List.getElem?_toArray, List.getElem?_cons_succ, List.getElem?_cons_zero]; first | done | rfl)); (· exact (fun _ _ _ h => h)); (· rfl); (· (intro w hSw; (try dsimp only at hSw); go_simp; (try with_reducible rfl))))
        (try simp only [Act.put, List.setIfInBounds_toArray, List.set_cons_zero, List.set_cons_succ])
        (refine wpAnyH_take (i := 3) (oi := ?_) (v := ?_) ?_ (by kernel_rfl) (by kernel_rfl) (by kernel_rfl) ?_ (Or.inl ⟨?_, ?_⟩) (by assumption) ?_; rotate_left 2; (· (simp only [List.getElem?_toArray, List.getElem?_cons_succ, List.getElem?_cons_zero]; first | done | rfl)); (· exact (fun _ _ _ h => h)); (· rfl); (· (intro w hSw; (try dsimp only at hSw); go_simp; (try with_reducible rfl))))
        (try simp only [Act.put, List.setIfInBounds_toArray, List.set_cons_zero, List.set_cons_succ])
        (refine wpAnyH_take (i := 4) (oi := ?_) (v := ?_) ?_ (by kernel_rfl) (by kernel_rfl) (by kernel_rfl) ?_ (Or.inr ⟨?_, ?_⟩) (by assumption) ?_; rotate_left 2; (· (simp only [List.getElem?_toArray, List.getElem?_cons_succ, List.getElem?_cons_zero]; first | done | rfl)); (· exact (fun _ _ _ h => h)); (· rfl); (· rfl))
        (try simp only [Act.put, List.setIfInBounds_toArray, List.set_cons_zero, List.set_cons_succ])
        (refine wpAnyH_take (i := 5) (oi := ?_) (v := ?_) ?_ (by kernel_rfl) (by kernel_rfl) (by kernel_rfl) ?_ (Or.inr ⟨?_, ?_⟩) (by assumption) ?_; rotate_left 2; (· (simp only [List.getElem?_toArray, List.getElem?_cons_succ, List.getElem?_cons_zero]; first | done | rfl)); (· exact (fun _ _ _ h => h)); (· rfl); (· rfl))
        (try simp only [Act.put, List.setIfInBounds_toArray, List.set_cons_zero, List.set_cons_succ])
        (refine wpAnyH_take (i := 6) (oi := ?_) (v := ?_) ?_ (by kernel_rfl) (by kernel_rfl) (by kernel_rfl) ?_ (Or.inr ⟨?_, ?_⟩) (by assumption) ?_; rotate_left 2; (· (simp only [List.getElem?_toArray, List.getElem?_cons_succ, List.getElem?_cons_zero]; first | done | rfl)); (· exact (fun _ _ _ h => h)); (· rfl); (· rfl))
        (try simp only [Act.put, List.setIfInBounds_toArray, List.set_cons_zero, List.set_cons_succ])
        (refine wpAnyH_take (i := 7) (oi := ?_) (v := ?_) ?_ (by kernel_rfl) (by kernel_rfl) (by kernel_rfl) ?_ (Or.inr ⟨?_, ?_⟩) (by assumption) ?_; rotate_left 2; (· (simp only [List.getElem?_toArray, List.getElem?_cons_succ, List.getElem?_cons_zero]; first | done | rfl)); (· exact (fun _ _ _ h => h)); (· rfl); (· rfl))
        (try simp only [Act.put, List.setIfInBounds_toArray, List.set_cons_zero, List.set_cons_succ])
        (refine wpAnyH_take (i := 8) (oi := ?_) (v := ?_) ?_ (by kernel_rfl) (by kernel_rfl) (by kernel_rfl) ?_ (Or.inr ⟨?_, ?_⟩) (by assumption) ?_; rotate_left 2; (· (simp only [List.getElem?_toArray, List.getElem?_cons_succ, List.getElem?_cons_zero]; first | done | rfl)); (· exact (fun _ _ _ h => h)); (· rfl); (· rfl))
        (try simp only [Act.put, List.setIfInBounds_toArray, List.set_cons_zero, List.set_cons_succ])
        (refine wpAnyH_take (i := 9) (oi := ?_) (v := ?_) ?_ (by kernel_rfl) (by kernel_rfl) (by kernel_rfl) ?_ (Or.inr ⟨?_, ?_⟩) (by assumption) ?_; rotate_left 2; (· (simp only [List.getElem?_toArray, List.getElem?_cons_succ, List.getElem?_cons_zero]; first | done | rfl)); (· exact (fun _ _ _ h => h)); (· rfl); (· rfl))
        (try simp only [Act.put, List.setIfInBounds_toArray, List.set_cons_zero, List.set_cons_succ])
        (refine wpAnyH_take (i := 10) (oi := ?_) (v := ?_) ?_ (by kernel_rfl) (by kernel_rfl) (by kernel_rfl) ?_ (Or.inl ⟨?_, ?_⟩) (by assumption) ?_; rotate_left 2; (· (simp only [List.getElem?_toArray, List.getElem?_cons_succ, List.getElem?_cons_zero]; first | done | rfl)); (· exact (fun _ _ _ h => h)); (· rfl); (· (intro w hSw; (try dsimp only at hSw); go_simp; (try with_reducible rfl))))
        (try simp only [Act.put, List.setIfInBounds_toArray, List.set_cons_zero, List.set_cons_succ])
        (refine wpAnyH_take (i := 11) (oi := ?_) (v := ?_) ?_ (by kernel_rfl) (by kernel_rfl) (by kernel_rfl) ?_ (Or.inl ⟨?_, ?_⟩) (by assumption) ?_; rotate_left 2; (· (simp only [List.getElem?_toArray, List.getElem?_cons_succ, List.getElem?_cons_zero]; first | done | rfl)); (· exact (fun _ _ _ h => h)); (· rfl); (· (intro w hSw; (try dsimp only at hSw); go_simp; (try with_reducible rfl))))
        (try simp only [Act.put, List.setIfInBounds_toArray, List.set_cons_zero, List.set_cons_succ])
        (refine wpAnyH_take (i := 12) (oi := ?_) (v := ?_) ?_ (by kernel_rfl) (by kernel_rfl) (by kernel_rfl) ?_ (Or.inr ⟨?_, ?_⟩) (by assumption) ?_; rotate_left 2; (· (simp only [List.getElem?_toArray, List.getElem?_cons_succ, List.getElem?_cons_zero]; first | done | rfl)); (· exact (fun _ _ _ h => h)); (· rfl); (· rfl))
        (try simp only [Act.put, List.setIfInBounds_toArray, List.set_cons_zero, List.set_cons_succ])
        (refine wpAnyH_take (i := 13) (oi := ?_) (v := ?_) ?_ (by kernel_rfl) (by kernel_rfl) (by kernel_rfl) ?_ (Or.inr ⟨?_, ?_⟩) (by assumption) ?_; rotate_left 2; (· (simp only [List.getElem?_toArray, List.getElem?_cons_succ, List.getElem?_cons_zero]; first | done | rfl)); (· exact (fun _ _ _ h => h)); (· rfl); (· rfl))
        (try simp only [Act.put, List.setIfInBounds_toArray, List.set_cons_zero, List.set_cons_succ])
        (refine wpAnyH_take (i := 14) (oi := ?_) (v := ?_) ?_ (by kernel_rfl) (by kernel_rfl) (by kernel_rfl) ?_ (Or.inr ⟨?_, ?_⟩) (by assumption) ?_; rotate_left 2; (· (simp only [List.getElem?_toArray, List.getElem?_cons_succ, List.getElem?_cons_zero]; first | done | rfl)); (· exact (fun _ _ _ h => h)); (· rfl); (· rfl))
        (try simp only [Act.put, List.setIfInBounds_toArray, List.set_cons_zero, List.set_cons_succ])
        (refine wpAnyH_take (i := 15) (oi := ?_) (v := ?_) ?_ (by kernel_rfl) (by kernel_rfl) (by kernel_rfl) ?_ (Or.inr ⟨?_, ?_⟩) (by assumption) ?_; rotate_left 2; (· (simp only [List.getElem?_toArray, List.getElem?_cons_succ, List.getElem?_cons_zero]; first | done | rfl)); (· exact (fun _ _ _ h => h)); (· rfl); (· rfl))
        (try simp only [Act.put, List.setIfInBounds_toArray, List.set_cons_zero, List.set_cons_succ])
        (refine wpAnyH_take (i := 16) (oi := ?_) (v := ?_) ?_ (by kernel_rfl) (by kernel_rfl) (by kernel_rfl) ?_ (Or.inr ⟨?_, ?_⟩) (by assumption) ?_; rotate_left 2; (· (simp only [List.getElem?_toArray, List.getElem?_cons_succ, List.getElem?_cons_zero]; first | done | rfl)); (· exact (fun _ _ _ h => h)); (· rfl); (· rfl))
        (try simp only [Act.put, List.setIfInBounds_toArray, List.set_cons_zero, List.set_cons_succ])
        (refine wpAnyH_take (i := 17) (oi := ?_) (v := ?_) ?_ (by kernel_rfl) (by kernel_rfl) (by kernel_rfl) ?_ (Or.inr ⟨?_, ?_⟩) (by assumption) ?_; rotate_left 2; (· (simp only [List.getElem?_toArray, List.getElem?_cons_succ, List.getElem?_cons_zero]; first | done | rfl)); (· exact (fun _ _ _ h => h)); (· rfl); (· rfl))
        (try simp only [Act.put, List.setIfInBounds_toArray, List.set_cons_zero, List.set_cons_succ])
        (refine wpAnyH_take (i := 18) (oi := ?_) (v := ?_) ?_ (by kernel_rfl) (by kernel_rfl) (by kernel_rfl) ?_ (Or.inr ⟨?_, ?_⟩) (by assumption) ?_; rotate_left 2; (· (simp only [List.getElem?_toArray, List.getElem?_cons_succ, List.getElem?_cons_zero]; first | done | rfl)); (· exact (fun _ _ _ h => h)); (· rfl); (· rfl))
        (try simp only [Act.put, List.setIfInBounds_toArray, List.set_cons_zero, List.set_cons_succ])
        (refine wpAnyH_take (i := 19) (oi := ?_) (v := ?_) ?_ (by kernel_rfl) (by kernel_rfl) (by kernel_rfl) ?_ (Or.inr ⟨?_, ?_⟩) (by assumption) ?_; rotate_left 2; (· (simp only [List.getElem?_toArray, List.getElem?_cons_succ, List.getElem?_cons_zero]; first | done | rfl)); (· exact (fun _ _ _ h => h)); (· rfl); (· rfl))
        (try simp only [Act.put, List.setIfInBounds_toArray, List.set_cons_zero, List.set_cons_succ])
        (refine wpAnyH_take (i := 20) (oi := ?_) (v := ?_) ?_ (by kernel_rfl) (by kernel_rfl) (by kernel_rfl) ?_ (Or.inr ⟨?_, ?_⟩) (by assumption) ?_; rotate_left 2; (· (simp only [List.getElem?_toArray, List.getElem?_cons_succ, List.getElem?_cons_zero]; first | done | rfl)); (· exact (fun _ _ _ h => h)); (· rfl); (· rfl))
        (try simp only [Act.put, List.setIfInBounds_toArray, List.set_cons_zero, List.set_cons_succ])
        (refine wpAnyH_take (i := 21) (oi := ?_) (v := ?_) ?_ (by kernel_rfl) (by kernel_rfl) (by kernel_rfl) ?_ (Or.inr ⟨?_, ?_⟩) (by assumption) ?_; rotate_left 2; (· (simp only [List.getElem?_toArray, List.getElem?_cons_succ, List.getElem?_cons_zero]; first | done | rfl)); (· exact (fun _ _ _ h => h)); (· rfl); (· rfl))
        (try simp only [Act.put, List.setIfInBounds_toArray, List.set_cons_zero, List.set_cons_succ])
        (refine wpAnyH_take (i := 22) (oi := ?_) (v := ?_) ?_ (by kernel_rfl) (by kernel_rfl) (by kernel_rfl) ?_ (Or.inr ⟨?_, ?_⟩) (by assumption) ?_; rotate_left 2; (· (simp only [List.getElem?_toArray, List.getElem?_cons_succ, List.getElem?_cons_zero]; first | done | rfl)); (· exact (fun _ _ _ h => h)); (· rfl); (· rfl))
        (try simp only [Act.put, List.setIfInBounds_toArray, List.set_cons_zero, List.set_cons_succ])
        (refine wpAnyH_take (i := 23) (oi := ?_) (v := ?_) ?_ (by kernel_rfl) (by kernel_rfl) (by kernel_rfl) ?_ (Or.inr ⟨?_, ?_⟩) (by assumption) ?_; rotate_left 2; (· (simp only [List.getElem?_toArray, List.getElem?_cons_succ, List.getElem?_cons_zero]; first | done | rfl)); (· exact (fun _ _ _ h => h)); (· rfl); (· rfl))
        (try simp only [Act.put, List.setIfInBounds_toArray, List.set_cons_zero, List.set_cons_succ])
        (refine wpAnyH_take (i := 24) (oi := ?_) (v := ?_) ?_ (by kernel_rfl) (by kernel_rfl) (by kernel_rfl) ?_ (Or.inl ⟨?_, ?_⟩) (by assumption) ?_; rotate_left 2; (· (simp only [List.getElem?_toArray, List.getElem?_cons_succ, List.getElem?_cons_zero]; first | done | rfl)); (· exact (fun _ _ _ h => h)); (· rfl); (· (intro w hSw; (try dsimp only at hSw); go_simp; (try with_reducible rfl))))
        (try simp only [Act.put, List.setIfInBounds_toArray, List.set_cons_zero, List.set_cons_succ])
        refine wpAnyH_done (by kernel_rfl) ?_ _
        go_wp2_with fail
        exact ⟨⟨k + 1, by omega, by go_num, Lib.hid (by rw [needN, HP.out, HRO.out]; rfl), btrans HBR.out (nd_own (by assumption))⟩, by simp [intOf]; go_num⟩
      have m1 : ((k : Int) != (i : Int)) = true := by rw [bne_iff_ne]; omega
      have m2 : ¬ (k : Int) = (i : Int) := by omega
      have m3 : (k == i) = false := by rw [beq_eq_false_iff_ne]; exact hki
      have m4 : (k != i) = true := by rw [bne_iff_ne]; exact hki
      cases b1
      · skip
        have hro : hit L i k = false := by rw [hh]; rw [m3]; rfl
        have HRO := Lib.hid hro
        clear hh hro
        go_wp2_with fail
        refine wp_region_held_drew (S := (fun w' => w'.cell? ⟨wr.heap.size, 0, none⟩ = some (.string ⟨x.name.toArray⟩) ∧ w'.cell? ⟨wr.heap.size, 1, none⟩ = some (.int .i64 x.op) ∧ w'.cell? ⟨wr.heap.size, 2, none⟩ = some (.int .i64 x.val.kind) ∧ w'.cell? ⟨wr.heap.size, 3, none⟩ = some (.int .i64 x.val.int) ∧ w'.cell? ⟨wr.heap.size, 4, none⟩ = some (.float .f64 x.val.num) ∧ w'.cell? ⟨wr.heap.size, 5, none⟩ = some (.string ⟨x.val.text.toArray⟩) ∧ w'.cell? ⟨wr.heap.size, 6, none⟩ = some (.bool x.val.yes) ∧ w'.cell? ⟨g, i * 7, none⟩ = some (.string ⟨y.name.toArray⟩) ∧ w'.cell? ⟨g, i * 7 + 1, none⟩ = some (.int .i64 y.op) ∧ w'.cell? ⟨g, i * 7 + 2, none⟩ = some (.int .i64 y.val.kind) ∧ w'.cell? ⟨g, i * 7 + 3, none⟩ = some (.int .i64 y.val.int) ∧ w'.cell? ⟨g, i * 7 + 4, none⟩ = some (.float .f64 y.val.num) ∧ w'.cell? ⟨g, i * 7 + 5, none⟩ = some (.string ⟨y.val.text.toArray⟩) ∧ w'.cell? ⟨g, i * 7 + 6, none⟩ = some (.bool y.val.yes) ∧ Below wr.heap.size wr w' ∧ wr.heap.size < w'.heap.size ∧ g < wr.heap.size)) (by kernel_rfl) ?_ (fun hq0 => ?_)
        · ((try dsimp only); (first | exact HST.out | assumption | exact nd_below (by assumption) (by assumption)))
        (refine wpAnyH_take (i := 0) (oi := ?_) (v := ?_) ?_ (by kernel_rfl) (by kernel_rfl) (by kernel_rfl) ?_ (Or.inl ⟨?_, ?_⟩) (by assumption) ?_; rotate_left 2; (· (simp only [List.getElem?_toArray, List.getElem?_cons_zero]; first | done | rfl)); (· exact (fun _ _ _ h => h)); (· rfl); (· (intro w hSw; (try dsimp only at hSw); go_simp; (try with_reducible rfl))))
        (try simp only [Act.put, List.setIfInBounds_toArray, List.set_cons_zero, List.set_cons_succ])
        (refine wpAnyH_take (i := 1) (oi := ?_) (v := ?_) ?_ (by kernel_rfl) (by kernel_rfl) (by kernel_rfl) ?_ (Or.inl ⟨?_, ?_⟩) (by assumption) ?_; rotate_left 2; (· (simp only [List.getElem?_toArray, List.getElem?_cons_succ, List.getElem?_cons_zero]; first | done | rfl)); (· exact (fun _ _ _ h => h)); (· rfl); (· (intro w hSw; (try dsimp only at hSw); go_simp; (try with_reducible rfl))))
        (try simp only [Act.put, List.setIfInBounds_toArray, List.set_cons_zero, List.set_cons_succ])
        (refine wpAnyH_take (i := 2) (oi := ?_) (v := ?_) ?_ (by kernel_rfl) (by kernel_rfl) (by kernel_rfl) ?_ (Or.inl ⟨?_, ?_⟩) (by assumption) ?_; rotate_left 2; (· (simp only [List.getElem?_toArray, List.getElem?_cons_succ, List.getElem?_cons_zero]; first | done | rfl)); (· exact (fun _ _ _ h => h)); (· rfl); (· (intro w hSw; (try dsimp only at hSw); go_simp; (try with_reducible rfl))))
        (try simp only [Act.put, List.setIfInBounds_toArray, List.set_cons_zero, List.set_cons_succ])
        (refine wpAnyH_take (i := 3) (oi := ?_) (v := ?_) ?_ (by kernel_rfl) (by kernel_rfl) (by kernel_rfl) ?_ (Or.inl ⟨?_, ?_⟩) (by assumption) ?_; rotate_left 2; (· (simp only [List.getElem?_toArray, List.getElem?_cons_succ, List.getElem?_cons_zero]; first | done | rfl)); (· exact (fun _ _ _ h => h)); (· rfl); (· (intro w hSw; (try dsimp only at hSw); go_simp; (try with_reducible rfl))))
        (try simp only [Act.put, List.setIfInBounds_toArray, List.set_cons_zero, List.set_cons_succ])
        (refine wpAnyH_take (i := 4) (oi := ?_) (v := ?_) ?_ (by kernel_rfl) (by kernel_rfl) (by kernel_rfl) ?_ (Or.inl ⟨?_, ?_⟩) (by assumption) ?_; rotate_left 2; (· (simp only [List.getElem?_toArray, List.getElem?_cons_succ, List.getElem?_cons_zero]; first | done | rfl)); (· exact (fun _ _ _ h => h)); (· rfl); (· (intro w hSw; (try dsimp only at hSw); go_simp; (try with_reducible rfl))))
        (try simp only [Act.put, List.setIfInBounds_toArray, List.set_cons_zero, List.set_cons_succ])
        (refine wpAnyH_take (i := 5) (oi := ?_) (v := ?_) ?_ (by kernel_rfl) (by kernel_rfl) (by kernel_rfl) ?_ (Or.inl ⟨?_, ?_⟩) (by assumption) ?_; rotate_left 2; (· (simp only [List.getElem?_toArray, List.getElem?_cons_succ, List.getElem?_cons_zero]; first | done | rfl)); (· exact (fun _ _ _ h => h)); (· rfl); (· (intro w hSw; (try dsimp only at hSw); go_simp; (try with_reducible rfl))))
        (try simp only [Act.put, List.setIfInBounds_toArray, List.set_cons_zero, List.set_cons_succ])
        (refine wpAnyH_take (i := 6) (oi := ?_) (v := ?_) ?_ (by kernel_rfl) (by kernel_rfl) (by kernel_rfl) ?_ (Or.inl ⟨?_, ?_⟩) (by assumption) ?_; rotate_left 2; (· (simp only [List.getElem?_toArray, List.getElem?_cons_succ, List.getElem?_cons_zero]; first | done | rfl)); (· exact (fun _ _ _ h => h)); (· rfl); (· (intro w hSw; (try dsimp only at hSw); go_simp; (try with_reducible rfl))))
        (try simp only [Act.put, List.setIfInBounds_toArray, List.set_cons_zero, List.set_cons_succ])
        (refine wpAnyH_take (i := 7) (oi := ?_) (v := ?_) ?_ (by kernel_rfl) (by kernel_rfl) (by kernel_rfl) ?_ (Or.inl ⟨?_, ?_⟩) (by assumption) ?_; rotate_left 2; (· (simp only [List.getElem?_toArray, List.getElem?_cons_succ, List.getElem?_cons_zero]; first | done | rfl)); (· exact (fun _ _ _ h => h)); (· rfl); (· (intro w hSw; (try dsimp only at hSw); go_simp; (try with_reducible rfl))))
        (try simp only [Act.put, List.setIfInBounds_toArray, List.set_cons_zero, List.set_cons_succ])
        (refine wpAnyH_take (i := 8) (oi := ?_) (v := ?_) ?_ (by kernel_rfl) (by kernel_rfl) (by kernel_rfl) ?_ (Or.inl ⟨?_, ?_⟩) (by assumption) ?_; rotate_left 2; (· (simp only [List.getElem?_toArray, List.getElem?_cons_succ, List.getElem?_cons_zero]; first | done | rfl)); (· exact (fun _ _ _ h => h)); (· rfl); (· (intro w hSw; (try dsimp only at hSw); go_simp; (try with_reducible rfl))))
        (try simp only [Act.put, List.setIfInBounds_toArray, List.set_cons_zero, List.set_cons_succ])
        refine wpAnyH_ready (rs := [9]) (by kernel_rfl) (by simp) ?_
        refine AllReadyH.cons (o := ?_) ?_ (fun K hK => ?_) AllReadyH.nil
        rotate_left 1
        · (simp only [List.getElem?_toArray, List.getElem?_cons_succ, List.getElem?_cons_zero]; first | done | rfl)
        go_simp
        first | (refine hK.out _ _ ?_ (fun hq1 => ?_)) | ((go_at_call 45; (first | (with_reducible refine (HI1.out _).mono ?_) | (with_reducible refine (HI2.out _).mono ?_)); rintro e w7 ⟨rfl, hb7⟩); refine hK.out _ _ ?_ (fun hq1 => ?_)) | ((go_at_call 45; (first | (with_reducible refine (HI1.out _).mono ?_) | (with_reducible refine (HI2.out _).mono ?_)); rintro e w7 ⟨rfl, hb7⟩); go_wp2_with fail; refine hK.out _ _ ?_ (fun hq1 => ?_)) | fail
        · ((try dsimp only); (first | exact HST.out | assumption | exact nd_below (by assumption) (by assumption)))
        clear hK K
        (try simp only [Act.put, List.setIfInBounds_toArray, List.set_cons_zero, List.set_cons_succ])
        clear hq0
        (refine wpAnyH_take (i := 10) (oi := ?_) (v := ?_) ?_ (by kernel_rfl) (by kernel_rfl) (by kernel_rfl) ?_ (Or.inl ⟨?_, ?_⟩) (by assumption) ?_; rotate_left 2; (· (simp only [List.getElem?_toArray, List.getElem?_cons_succ, List.getElem?_cons_zero]; first | done | rfl)); (· exact (fun _ _ _ h => h)); (· rfl); (· (intro w hSw; (try dsimp only at hSw); go_simp; (try with_reducible rfl))))
        (try simp only [Act.put, List.setIfInBounds_toArray, List.set_cons_zero, List.set_cons_succ])
        (refine wpAnyH_take (i := 11) (oi := ?_) (v := ?_) ?_ (by kernel_rfl) (by kernel_rfl) (by kernel_rfl) ?_ (Or.inl ⟨?_, ?_⟩) (by assumption) ?_; rotate_left 2; (· (simp only [List.getElem?_toArray, List.getElem?_cons_succ, List.getElem?_cons_zero]; first | done | rfl)); (· exact (fun _ _ _ h => h)); (· rfl); (· (intro w hSw; (try dsimp only at hSw); go_simp; (try with_reducible rfl))))
        (try simp only [Act.put, List.setIfInBounds_toArray, List.set_cons_zero, List.set_cons_succ])
        (refine wpAnyH_take (i := 12) (oi := ?_) (v := ?_) ?_ (by kernel_rfl) (by kernel_rfl) (by kernel_rfl) ?_ (Or.inr ⟨?_, ?_⟩) (by assumption) ?_; rotate_left 2; (· (simp only [List.getElem?_toArray, List.getElem?_cons_succ, List.getElem?_cons_zero]; first | done | rfl)); (· exact (fun _ _ _ h => h)); (· rfl); (· rfl))
        (try simp only [Act.put, List.setIfInBounds_toArray, List.set_cons_zero, List.set_cons_succ])
        (refine wpAnyH_take (i := 13) (oi := ?_) (v := ?_) ?_ (by kernel_rfl) (by kernel_rfl) (by kernel_rfl) ?_ (Or.inr ⟨?_, ?_⟩) (by assumption) ?_; rotate_left 2; (· (simp only [List.getElem?_toArray, List.getElem?_cons_succ, List.getElem?_cons_zero]; first | done | rfl)); (· exact (fun _ _ _ h => h)); (· rfl); (· rfl))
        (try simp only [Act.put, List.setIfInBounds_toArray, List.set_cons_zero, List.set_cons_succ])
        (refine wpAnyH_take (i := 14) (oi := ?_) (v := ?_) ?_ (by kernel_rfl) (by kernel_rfl) (by kernel_rfl) ?_ (Or.inr ⟨?_, ?_⟩) (by assumption) ?_; rotate_left 2; (· (simp only [List.getElem?_toArray, List.getElem?_cons_succ, List.getElem?_cons_zero]; first | done | rfl)); (· exact (fun _ _ _ h => h)); (· rfl); (· rfl))
        (try simp only [Act.put, List.setIfInBounds_toArray, List.set_cons_zero, List.set_cons_succ])
        (refine wpAnyH_take (i := 15) (oi := ?_) (v := ?_) ?_ (by kernel_rfl) (by kernel_rfl) (by kernel_rfl) ?_ (Or.inr ⟨?_, ?_⟩) (by assumption) ?_; rotate_left 2; (· (simp only [List.getElem?_toArray, List.getElem?_cons_succ, List.getElem?_cons_zero]; first | done | rfl)); (· exact (fun _ _ _ h => h)); (· rfl); (· rfl))
        (try simp only [Act.put, List.setIfInBounds_toArray, List.set_cons_zero, List.set_cons_succ])
        (refine wpAnyH_take (i := 16) (oi := ?_) (v := ?_) ?_ (by kernel_rfl) (by kernel_rfl) (by kernel_rfl) ?_ (Or.inr ⟨?_, ?_⟩) (by assumption) ?_; rotate_left 2; (· (simp only [List.getElem?_toArray, List.getElem?_cons_succ, List.getElem?_cons_zero]; first | done | rfl)); (· exact (fun _ _ _ h => h)); (· rfl); (· rfl))
        (try simp only [Act.put, List.setIfInBounds_toArray, List.set_cons_zero, List.set_cons_succ])
        (refine wpAnyH_take (i := 17) (oi := ?_) (v := ?_) ?_ (by kernel_rfl) (by kernel_rfl) (by kernel_rfl) ?_ (Or.inr ⟨?_, ?_⟩) (by assumption) ?_; rotate_left 2; (· (simp only [List.getElem?_toArray, List.getElem?_cons_succ, List.getElem?_cons_zero]; first | done | rfl)); (· exact (fun _ _ _ h => h)); (· rfl); (· rfl))
        (try simp only [Act.put, List.setIfInBounds_toArray, List.set_cons_zero, List.set_cons_succ])
        (refine wpAnyH_take (i := 18) (oi := ?_) (v := ?_) ?_ (by kernel_rfl) (by kernel_rfl) (by kernel_rfl) ?_ (Or.inr ⟨?_, ?_⟩) (by assumption) ?_; rotate_left 2; (· (simp only [List.getElem?_toArray, List.getElem?_cons_succ, List.getElem?_cons_zero]; first | done | rfl)); (· exact (fun _ _ _ h => h)); (· rfl); (· rfl))
        (try simp only [Act.put, List.setIfInBounds_toArray, List.set_cons_zero, List.set_cons_succ])
        (refine wpAnyH_take (i := 19) (oi := ?_) (v := ?_) ?_ (by kernel_rfl) (by kernel_rfl) (by kernel_rfl) ?_ (Or.inr ⟨?_, ?_⟩) (by assumption) ?_; rotate_left 2; (· (simp only [List.getElem?_toArray, List.getElem?_cons_succ, List.getElem?_cons_zero]; first | done | rfl)); (· exact (fun _ _ _ h => h)); (· rfl); (· rfl))
        (try simp only [Act.put, List.setIfInBounds_toArray, List.set_cons_zero, List.set_cons_succ])
        (refine wpAnyH_take (i := 20) (oi := ?_) (v := ?_) ?_ (by kernel_rfl) (by kernel_rfl) (by kernel_rfl) ?_ (Or.inr ⟨?_, ?_⟩) (by assumption) ?_; rotate_left 2; (· (simp only [List.getElem?_toArray, List.getElem?_cons_succ, List.getElem?_cons_zero]; first | done | rfl)); (· exact (fun _ _ _ h => h)); (· rfl); (· rfl))
        (try simp only [Act.put, List.setIfInBounds_toArray, List.set_cons_zero, List.set_cons_succ])
        (refine wpAnyH_take (i := 21) (oi := ?_) (v := ?_) ?_ (by kernel_rfl) (by kernel_rfl) (by kernel_rfl) ?_ (Or.inr ⟨?_, ?_⟩) (by assumption) ?_; rotate_left 2; (· (simp only [List.getElem?_toArray, List.getElem?_cons_succ, List.getElem?_cons_zero]; first | done | rfl)); (· exact (fun _ _ _ h => h)); (· rfl); (· rfl))
        (try simp only [Act.put, List.setIfInBounds_toArray, List.set_cons_zero, List.set_cons_succ])
        (refine wpAnyH_take (i := 22) (oi := ?_) (v := ?_) ?_ (by kernel_rfl) (by kernel_rfl) (by kernel_rfl) ?_ (Or.inr ⟨?_, ?_⟩) (by assumption) ?_; rotate_left 2; (· (simp only [List.getElem?_toArray, List.getElem?_cons_succ, List.getElem?_cons_zero]; first | done | rfl)); (· exact (fun _ _ _ h => h)); (· rfl); (· rfl))
        (try simp only [Act.put, List.setIfInBounds_toArray, List.set_cons_zero, List.set_cons_succ])
        (refine wpAnyH_take (i := 23) (oi := ?_) (v := ?_) ?_ (by kernel_rfl) (by kernel_rfl) (by kernel_rfl) ?_ (Or.inr ⟨?_, ?_⟩) (by assumption) ?_; rotate_left 2; (· (simp only [List.getElem?_toArray, List.getElem?_cons_succ, List.getElem?_cons_zero]; first | done | rfl)); (· exact (fun _ _ _ h => h)); (· rfl); (· rfl))
        (try simp only [Act.put, List.setIfInBounds_toArray, List.set_cons_zero, List.set_cons_succ])
        (refine wpAnyH_take (i := 24) (oi := ?_) (v := ?_) ?_ (by kernel_rfl) (by kernel_rfl) (by kernel_rfl) ?_ (Or.inl ⟨?_, ?_⟩) (by assumption) ?_; rotate_left 2; (· (simp only [List.getElem?_toArray, List.getElem?_cons_succ, List.getElem?_cons_zero]; first | done | rfl)); (· exact (fun _ _ _ h => h)); (· rfl); (· (intro w hSw; (try dsimp only at hSw); go_simp; (try with_reducible rfl))))
        (try simp only [Act.put, List.setIfInBounds_toArray, List.set_cons_zero, List.set_cons_succ])
        refine wpAnyH_done (by kernel_rfl) ?_ _
        go_wp2_with fail
        exact ⟨⟨k + 1, by omega, by go_num, Lib.hid (by rw [needN, HP.out, HRO.out]; rfl), btrans HBR.out (nd_own (by assumption))⟩, by simp [intOf]; go_num⟩
      by_cases hlti : k < i
      · have n1 : (k : Int) < (i : Int) := by omega
        have n2 : decide ((k : Int) < (i : Int)) = true := by rw [decide_eq_true_iff]; exact n1
        have n3 : decide (k < i) = true := by rw [decide_eq_true_iff]; exact hlti
        have hro : hit L i k = true := by rw [hh]; rw [m3, n3]; rfl
        have HRO := Lib.hid hro
        clear hh hro
        go_wp2_with fail
        refine wp_region_held_drew (S := (fun w' => w'.cell? ⟨wr.heap.size, 0, none⟩ = some (.string ⟨x.name.toArray⟩) ∧ w'.cell? ⟨wr.heap.size, 1, none⟩ = some (.int .i64 x.op) ∧ w'.cell? ⟨wr.heap.size, 2, none⟩ = some (.int .i64 x.val.kind) ∧ w'.cell? ⟨wr.heap.size, 3, none⟩ = some (.int .i64 x.val.int) ∧ w'.cell? ⟨wr.heap.size, 4, none⟩ = some (.float .f64 x.val.num) ∧ w'.cell? ⟨wr.heap.size, 5, none⟩ = some (.string ⟨x.val.text.toArray⟩) ∧ w'.cell? ⟨wr.heap.size, 6, none⟩ = some (.bool x.val.yes) ∧ w'.cell? ⟨g, i * 7, none⟩ = some (.string ⟨y.name.toArray⟩) ∧ w'.cell? ⟨g, i * 7 + 1, none⟩ = some (.int .i64 y.op) ∧ w'.cell? ⟨g, i * 7 + 2, none⟩ = some (.int .i64 y.val.kind) ∧ w'.cell? ⟨g, i * 7 + 3, none⟩ = some (.int .i64 y.val.int) ∧ w'.cell? ⟨g, i * 7 + 4, none⟩ = some (.float .f64 y.val.num) ∧ w'.cell? ⟨g, i * 7 + 5, none⟩ = some (.string ⟨y.val.text.toArray⟩) ∧ w'.cell? ⟨g, i * 7 + 6, none⟩ = some (.bool y.val.yes) ∧ Below wr.heap.size wr w' ∧ wr.heap.size < w'.heap.size ∧ g < wr.heap.size)) (by kernel_rfl) ?_ (fun hq0 => ?_)
        · ((try dsimp only); (first | exact HST.out | assumption | exact nd_below (by assumption) (by assumption)))
        (refine wpAnyH_take (i := 0) (oi := ?_) (v := ?_) ?_ (by kernel_rfl) (by kernel_rfl) (by kernel_rfl) ?_ (Or.inl ⟨?_, ?_⟩) (by assumption) ?_; rotate_left 2; (· (simp only [List.getElem?_toArray, List.getElem?_cons_zero]; first | done | rfl)); (· exact (fun _ _ _ h => h)); (· rfl); (· (intro w hSw; (try dsimp only at hSw); go_simp; (try with_reducible rfl))))
        (try simp only [Act.put, List.setIfInBounds_toArray, List.set_cons_zero, List.set_cons_succ])
        (refine wpAnyH_take (i := 1) (oi := ?_) (v := ?_) ?_ (by kernel_rfl) (by kernel_rfl) (by kernel_rfl) ?_ (Or.inl ⟨?_, ?_⟩) (by assumption) ?_; rotate_left 2; (· (simp only [List.getElem?_toArray, List.getElem?_cons_succ, List.getElem?_cons_zero]; first | done | rfl)); (· exact (fun _ _ _ h => h)); (· rfl); (· (intro w hSw; (try dsimp only at hSw); go_simp; (try with_reducible rfl))))
        (try simp only [Act.put, List.setIfInBounds_toArray, List.set_cons_zero, List.set_cons_succ])
        (refine wpAnyH_take (i := 2) (oi := ?_) (v := ?_) ?_ (by kernel_rfl) (by kernel_rfl) (by kernel_rfl) ?_ (Or.inl ⟨?_, ?_⟩) (by assumption) ?_; rotate_left 2; (· (simp only [List.getElem?_toArray, List.getElem?_cons_succ, List.getElem?_cons_zero]; first | done | rfl)); (· exact (fun _ _ _ h => h)); (· rfl); (· (intro w hSw; (try dsimp only at hSw); go_simp; (try with_reducible rfl))))
        (try simp only [Act.put, List.setIfInBounds_toArray, List.set_cons_zero, List.set_cons_succ])
        (refine wpAnyH_take (i := 3) (oi := ?_) (v := ?_) ?_ (by kernel_rfl) (by kernel_rfl) (by kernel_rfl) ?_ (Or.inl ⟨?_, ?_⟩) (by assumption) ?_; rotate_left 2; (· (simp only [List.getElem?_toArray, List.getElem?_cons_succ, List.getElem?_cons_zero]; first | done | rfl)); (· exact (fun _ _ _ h => h)); (· rfl); (· (intro w hSw; (try dsimp only at hSw); go_simp; (try with_reducible rfl))))
        (try simp only [Act.put, List.setIfInBounds_toArray, List.set_cons_zero, List.set_cons_succ])
        (refine wpAnyH_take (i := 4) (oi := ?_) (v := ?_) ?_ (by kernel_rfl) (by kernel_rfl) (by kernel_rfl) ?_ (Or.inl ⟨?_, ?_⟩) (by assumption) ?_; rotate_left 2; (· (simp only [List.getElem?_toArray, List.getElem?_cons_succ, List.getElem?_cons_zero]; first | done | rfl)); (· exact (fun _ _ _ h => h)); (· rfl); (· (intro w hSw; (try dsimp only at hSw); go_simp; (try with_reducible rfl))))
        (try simp only [Act.put, List.setIfInBounds_toArray, List.set_cons_zero, List.set_cons_succ])
        (refine wpAnyH_take (i := 5) (oi := ?_) (v := ?_) ?_ (by kernel_rfl) (by kernel_rfl) (by kernel_rfl) ?_ (Or.inl ⟨?_, ?_⟩) (by assumption) ?_; rotate_left 2; (· (simp only [List.getElem?_toArray, List.getElem?_cons_succ, List.getElem?_cons_zero]; first | done | rfl)); (· exact (fun _ _ _ h => h)); (· rfl); (· (intro w hSw; (try dsimp only at hSw); go_simp; (try with_reducible rfl))))
        (try simp only [Act.put, List.setIfInBounds_toArray, List.set_cons_zero, List.set_cons_succ])
        (refine wpAnyH_take (i := 6) (oi := ?_) (v := ?_) ?_ (by kernel_rfl) (by kernel_rfl) (by kernel_rfl) ?_ (Or.inl ⟨?_, ?_⟩) (by assumption) ?_; rotate_left 2; (· (simp only [List.getElem?_toArray, List.getElem?_cons_succ, List.getElem?_cons_zero]; first | done | rfl)); (· exact (fun _ _ _ h => h)); (· rfl); (· (intro w hSw; (try dsimp only at hSw); go_simp; (try with_reducible rfl))))
        (try simp only [Act.put, List.setIfInBounds_toArray, List.set_cons_zero, List.set_cons_succ])
        (refine wpAnyH_take (i := 7) (oi := ?_) (v := ?_) ?_ (by kernel_rfl) (by kernel_rfl) (by kernel_rfl) ?_ (Or.inl ⟨?_, ?_⟩) (by assumption) ?_; rotate_left 2; (· (simp only [List.getElem?_toArray, List.getElem?_cons_succ, List.getElem?_cons_zero]; first | done | rfl)); (· exact (fun _ _ _ h => h)); (· rfl); (· (intro w hSw; (try dsimp only at hSw); go_simp; (try with_reducible rfl))))
        (try simp only [Act.put, List.setIfInBounds_toArray, List.set_cons_zero, List.set_cons_succ])
        (refine wpAnyH_take (i := 8) (oi := ?_) (v := ?_) ?_ (by kernel_rfl) (by kernel_rfl) (by kernel_rfl) ?_ (Or.inl ⟨?_, ?_⟩) (by assumption) ?_; rotate_left 2; (· (simp only [List.getElem?_toArray, List.getElem?_cons_succ, List.getElem?_cons_zero]; first | done | rfl)); (· exact (fun _ _ _ h => h)); (· rfl); (· (intro w hSw; (try dsimp only at hSw); go_simp; (try with_reducible rfl))))
        (try simp only [Act.put, List.setIfInBounds_toArray, List.set_cons_zero, List.set_cons_succ])
        refine wpAnyH_ready (rs := [9]) (by kernel_rfl) (by simp) ?_
        refine AllReadyH.cons (o := ?_) ?_ (fun K hK => ?_) AllReadyH.nil
        rotate_left 1
        · (simp only [List.getElem?_toArray, List.getElem?_cons_succ, List.getElem?_cons_zero]; first | done | rfl)
        go_simp
        first | (refine hK.out _ _ ?_ (fun hq1 => ?_)) | ((go_at_call 45; (first | (with_reducible refine (HI1.out _).mono ?_) | (with_reducible refine (HI2.out _).mono ?_)); rintro e w7 ⟨rfl, hb7⟩); refine hK.out _ _ ?_ (fun hq1 => ?_)) | ((go_at_call 45; (first | (with_reducible refine (HI1.out _).mono ?_) | (with_reducible refine (HI2.out _).mono ?_)); rintro e w7 ⟨rfl, hb7⟩); go_wp2_with fail; refine hK.out _ _ ?_ (fun hq1 => ?_)) | fail
        · ((try dsimp only); (first | exact HST.out | assumption | exact nd_below (by assumption) (by assumption)))
        clear hK K
        (try simp only [Act.put, List.setIfInBounds_toArray, List.set_cons_zero, List.set_cons_succ])
        clear hq0
        (refine wpAnyH_take (i := 10) (oi := ?_) (v := ?_) ?_ (by kernel_rfl) (by kernel_rfl) (by kernel_rfl) ?_ (Or.inl ⟨?_, ?_⟩) (by assumption) ?_; rotate_left 2; (· (simp only [List.getElem?_toArray, List.getElem?_cons_succ, List.getElem?_cons_zero]; first | done | rfl)); (· exact (fun _ _ _ h => h)); (· rfl); (· (intro w hSw; (try dsimp only at hSw); go_simp; (try with_reducible rfl))))
        (try simp only [Act.put, List.setIfInBounds_toArray, List.set_cons_zero, List.set_cons_succ])
        (refine wpAnyH_take (i := 11) (oi := ?_) (v := ?_) ?_ (by kernel_rfl) (by kernel_rfl) (by kernel_rfl) ?_ (Or.inl ⟨?_, ?_⟩) (by assumption) ?_; rotate_left 2; (· (simp only [List.getElem?_toArray, List.getElem?_cons_succ, List.getElem?_cons_zero]; first | done | rfl)); (· exact (fun _ _ _ h => h)); (· rfl); (· (intro w hSw; (try dsimp only at hSw); go_simp; (try with_reducible rfl))))
        (try simp only [Act.put, List.setIfInBounds_toArray, List.set_cons_zero, List.set_cons_succ])
        (refine wpAnyH_take (i := 12) (oi := ?_) (v := ?_) ?_ (by kernel_rfl) (by kernel_rfl) (by kernel_rfl) ?_ (Or.inl ⟨?_, ?_⟩) (by assumption) ?_; rotate_left 2; (· (simp only [List.getElem?_toArray, List.getElem?_cons_succ, List.getElem?_cons_zero]; first | done | rfl)); (· exact (fun _ _ _ h => h)); (· rfl); (· (intro w hSw; (try dsimp only at hSw); go_simp; (try with_reducible rfl))))
        (try simp only [Act.put, List.setIfInBounds_toArray, List.set_cons_zero, List.set_cons_succ])
        (refine wpAnyH_take (i := 13) (oi := ?_) (v := ?_) ?_ (by kernel_rfl) (by kernel_rfl) (by kernel_rfl) ?_ (Or.inl ⟨?_, ?_⟩) (by assumption) ?_; rotate_left 2; (· (simp only [List.getElem?_toArray, List.getElem?_cons_succ, List.getElem?_cons_zero]; first | done | rfl)); (· exact (fun _ _ _ h => h)); (· rfl); (· (intro w hSw; (try dsimp only at hSw); go_simp; (try with_reducible rfl))))
        (try simp only [Act.put, List.setIfInBounds_toArray, List.set_cons_zero, List.set_cons_succ])
        (refine wpAnyH_take (i := 14) (oi := ?_) (v := ?_) ?_ (by kernel_rfl) (by kernel_rfl) (by kernel_rfl) ?_ (Or.inl ⟨?_, ?_⟩) (by assumption) ?_; rotate_left 2; (· (simp only [List.getElem?_toArray, List.getElem?_cons_succ, List.getElem?_cons_zero]; first | done | rfl)); (· exact (fun _ _ _ h => h)); (· rfl); (· (intro w hSw; (try dsimp only at hSw); go_simp; (try with_reducible rfl))))
        (try simp only [Act.put, List.setIfInBounds_toArray, List.set_cons_zero, List.set_cons_succ])
        (refine wpAnyH_take (i := 15) (oi := ?_) (v := ?_) ?_ (by kernel_rfl) (by kernel_rfl) (by kernel_rfl) ?_ (Or.inl ⟨?_, ?_⟩) (by assumption) ?_; rotate_left 2; (· (simp only [List.getElem?_toArray, List.getElem?_cons_succ, List.getElem?_cons_zero]; first | done | rfl)); (· exact (fun _ _ _ h => h)); (· rfl); (· (intro w hSw; (try dsimp only at hSw); go_simp; (try with_reducible rfl))))
        (try simp only [Act.put, List.setIfInBounds_toArray, List.set_cons_zero, List.set_cons_succ])
        (refine wpAnyH_take (i := 16) (oi := ?_) (v := ?_) ?_ (by kernel_rfl) (by kernel_rfl) (by kernel_rfl) ?_ (Or.inr ⟨?_, ?_⟩) (by assumption) ?_; rotate_left 2; (· (simp only [List.getElem?_toArray, List.getElem?_cons_succ, List.getElem?_cons_zero]; first | done | rfl)); (· exact (fun _ _ _ h => h)); (· rfl); (· rfl))
        (try simp only [Act.put, List.setIfInBounds_toArray, List.set_cons_zero, List.set_cons_succ])
        (refine wpAnyH_take (i := 17) (oi := ?_) (v := ?_) ?_ (by kernel_rfl) (by kernel_rfl) (by kernel_rfl) ?_ (Or.inr ⟨?_, ?_⟩) (by assumption) ?_; rotate_left 2; (· (simp only [List.getElem?_toArray, List.getElem?_cons_succ, List.getElem?_cons_zero]; first | done | rfl)); (· exact (fun _ _ _ h => h)); (· rfl); (· rfl))
        (try simp only [Act.put, List.setIfInBounds_toArray, List.set_cons_zero, List.set_cons_succ])
        (refine wpAnyH_take (i := 18) (oi := ?_) (v := ?_) ?_ (by kernel_rfl) (by kernel_rfl) (by kernel_rfl) ?_ (Or.inr ⟨?_, ?_⟩) (by assumption) ?_; rotate_left 2; (· (simp only [List.getElem?_toArray, List.getElem?_cons_succ, List.getElem?_cons_zero]; first | done | rfl)); (· exact (fun _ _ _ h => h)); (· rfl); (· rfl))
        (try simp only [Act.put, List.setIfInBounds_toArray, List.set_cons_zero, List.set_cons_succ])
        (refine wpAnyH_take (i := 19) (oi := ?_) (v := ?_) ?_ (by kernel_rfl) (by kernel_rfl) (by kernel_rfl) ?_ (Or.inr ⟨?_, ?_⟩) (by assumption) ?_; rotate_left 2; (· (simp only [List.getElem?_toArray, List.getElem?_cons_succ, List.getElem?_cons_zero]; first | done | rfl)); (· exact (fun _ _ _ h => h)); (· rfl); (· rfl))
        (try simp only [Act.put, List.setIfInBounds_toArray, List.set_cons_zero, List.set_cons_succ])
        (refine wpAnyH_take (i := 20) (oi := ?_) (v := ?_) ?_ (by kernel_rfl) (by kernel_rfl) (by kernel_rfl) ?_ (Or.inr ⟨?_, ?_⟩) (by assumption) ?_; rotate_left 2; (· (simp only [List.getElem?_toArray, List.getElem?_cons_succ, List.getElem?_cons_zero]; first | done | rfl)); (· exact (fun _ _ _ h => h)); (· rfl); (· rfl))
        (try simp only [Act.put, List.setIfInBounds_toArray, List.set_cons_zero, List.set_cons_succ])
        (refine wpAnyH_take (i := 21) (oi := ?_) (v := ?_) ?_ (by kernel_rfl) (by kernel_rfl) (by kernel_rfl) ?_ (Or.inr ⟨?_, ?_⟩) (by assumption) ?_; rotate_left 2; (· (simp only [List.getElem?_toArray, List.getElem?_cons_succ, List.getElem?_cons_zero]; first | done | rfl)); (· exact (fun _ _ _ h => h)); (· rfl); (· rfl))
        (try simp only [Act.put, List.setIfInBounds_toArray, List.set_cons_zero, List.set_cons_succ])
        (refine wpAnyH_take (i := 22) (oi := ?_) (v := ?_) ?_ (by kernel_rfl) (by kernel_rfl) (by kernel_rfl) ?_ (Or.inr ⟨?_, ?_⟩) (by assumption) ?_; rotate_left 2; (· (simp only [List.getElem?_toArray, List.getElem?_cons_succ, List.getElem?_cons_zero]; first | done | rfl)); (· exact (fun _ _ _ h => h)); (· rfl); (· rfl))
        (try simp only [Act.put, List.setIfInBounds_toArray, List.set_cons_zero, List.set_cons_succ])
        (refine wpAnyH_take (i := 23) (oi := ?_) (v := ?_) ?_ (by kernel_rfl) (by kernel_rfl) (by kernel_rfl) ?_ (Or.inl ⟨?_, ?_⟩) (by assumption) ?_; rotate_left 2; (· (simp only [List.getElem?_toArray, List.getElem?_cons_succ, List.getElem?_cons_zero]; first | done | rfl)); (· exact (fun _ _ _ h => h)); (· rfl); (· (intro w hSw; (try dsimp only at hSw); go_simp; (try with_reducible rfl))))
        (try simp only [Act.put, List.setIfInBounds_toArray, List.set_cons_zero, List.set_cons_succ])
        (refine wpAnyH_take (i := 24) (oi := ?_) (v := ?_) ?_ (by kernel_rfl) (by kernel_rfl) (by kernel_rfl) ?_ (Or.inl ⟨?_, ?_⟩) (by assumption) ?_; rotate_left 2; (· (simp only [List.getElem?_toArray, List.getElem?_cons_succ, List.getElem?_cons_zero]; first | done | rfl)); (· exact (fun _ _ _ h => h)); (· rfl); (· (intro w hSw; (try dsimp only at hSw); go_simp; (try with_reducible rfl))))
        (try simp only [Act.put, List.setIfInBounds_toArray, List.set_cons_zero, List.set_cons_succ])
        refine wpAnyH_done (by kernel_rfl) ?_ _
        go_wp2_with fail
        go_ret
        exact ⟨ret_bool (by unfold needB; rw [needN_hit L i k _ hlt HRO.out]), btrans HBR.out (nd_own (by assumption))⟩
      have n1 : ¬ (k : Int) < (i : Int) := by omega
      have n2 : decide ((k : Int) < (i : Int)) = false := by rw [decide_eq_false_iff_not]; exact n1
      have n3 : decide (k < i) = false := by rw [decide_eq_false_iff_not]; exact hlti
      cases b2
      · skip
        have hro : hit L i k = true := by rw [hh]; rw [m3, n3]; rfl
        have HRO := Lib.hid hro
        clear hh hro
        go_wp2_with fail
        refine wp_region_held_drew (S := (fun w' => w'.cell? ⟨wr.heap.size, 0, none⟩ = some (.string ⟨x.name.toArray⟩) ∧ w'.cell? ⟨wr.heap.size, 1, none⟩ = some (.int .i64 x.op) ∧ w'.cell? ⟨wr.heap.size, 2, none⟩ = some (.int .i64 x.val.kind) ∧ w'.cell? ⟨wr.heap.size, 3, none⟩ = some (.int .i64 x.val.int) ∧ w'.cell? ⟨wr.heap.size, 4, none⟩ = some (.float .f64 x.val.num) ∧ w'.cell? ⟨wr.heap.size, 5, none⟩ = some (.string ⟨x.val.text.toArray⟩) ∧ w'.cell? ⟨wr.heap.size, 6, none⟩ = some (.bool x.val.yes) ∧ w'.cell? ⟨g, i * 7, none⟩ = some (.string ⟨y.name.toArray⟩) ∧ w'.cell? ⟨g, i * 7 + 1, none⟩ = some (.int .i64 y.op) ∧ w'.cell? ⟨g, i * 7 + 2, none⟩ = some (.int .i64 y.val.kind) ∧ w'.cell? ⟨g, i * 7 + 3, none⟩ = some (.int .i64 y.val.int) ∧ w'.cell? ⟨g, i * 7 + 4, none⟩ = some (.float .f64 y.val.num) ∧ w'.cell? ⟨g, i * 7 + 5, none⟩ = some (.string ⟨y.val.text.toArray⟩) ∧ w'.cell? ⟨g, i * 7 + 6, none⟩ = some (.bool y.val.yes) ∧ Below wr.heap.size wr w' ∧ wr.heap.size < w'.heap.size ∧ g < wr.heap.size)) (by kernel_rfl) ?_ (fun hq0 => ?_)
        · ((try dsimp only); (first | exact HST.out | assumption | exact nd_below (by assumption) (by assumption)))
        (refine wpAnyH_take (i := 0) (oi := ?_) (v := ?_) ?_ (by kernel_rfl) (by kernel_rfl) (by kernel_rfl) ?_ (Or.inl ⟨?_, ?_⟩) (by assumption) ?_; rotate_left 2; (· (simp only [List.getElem?_toArray, List.getElem?_cons_zero]; first | done | rfl)); (· exact (fun _ _ _ h => h)); (· rfl); (· (intro w hSw; (try dsimp only at hSw); go_simp; (try with_reducible rfl))))
        (try simp only [Act.put, List.setIfInBounds_toArray, List.set_cons_zero, List.set_cons_succ])
        (refine wpAnyH_take (i := 1) (oi := ?_) (v := ?_) ?_ (by kernel_rfl) (by kernel_rfl) (by kernel_rfl) ?_ (Or.inl ⟨?_, ?_⟩) (by assumption) ?_; rotate_left 2; (· (simp only [List.getElem?_toArray, List.getElem?_cons_succ, List.getElem?_cons_zero]; first | done | rfl)); (· exact (fun _ _ _ h => h)); (· rfl); (· (intro w hSw; (try dsimp only at hSw); go_simp; (try with_reducible rfl))))
        (try simp only [Act.put, List.setIfInBounds_toArray, List.set_cons_zero, List.set_cons_succ])
        (refine wpAnyH_take (i := 2) (oi := ?_) (v := ?_) ?_ (by kernel_rfl) (by kernel_rfl) (by kernel_rfl) ?_ (Or.inl ⟨?_, ?_⟩) (by assumption) ?_; rotate_left 2; (· (simp only [List.getElem?_toArray, List.getElem?_cons_succ, List.getElem?_cons_zero]; first | done | rfl)); (· exact (fun _ _ _ h => h)); (· rfl); (· (intro w hSw; (try dsimp only at hSw); go_simp; (try with_reducible rfl))))
        (try simp only [Act.put, List.setIfInBounds_toArray, List.set_cons_zero, List.set_cons_succ])
        (refine wpAnyH_take (i := 3) (oi := ?_) (v := ?_) ?_ (by kernel_rfl) (by kernel_rfl) (by kernel_rfl) ?_ (Or.inl ⟨?_, ?_⟩) (by assumption) ?_; rotate_left 2; (· (simp only [List.getElem?_toArray, List.getElem?_cons_succ, List.getElem?_cons_zero]; first | done | rfl)); (· exact (fun _ _ _ h => h)); (· rfl); (· (intro w hSw; (try dsimp only at hSw); go_simp; (try with_reducible rfl))))
        (try simp only [Act.put, List.setIfInBounds_toArray, List.set_cons_zero, List.set_cons_succ])
        (refine wpAnyH_take (i := 4) (oi := ?_) (v := ?_) ?_ (by kernel_rfl) (by kernel_rfl) (by kernel_rfl) ?_ (Or.inl ⟨?_, ?_⟩) (by assumption) ?_; rotate_left 2; (· (simp only [List.getElem?_toArray, List.getElem?_cons_succ, List.getElem?_cons_zero]; first | done | rfl)); (· exact (fun _ _ _ h => h)); (· rfl); (· (intro w hSw; (try dsimp only at hSw); go_simp; (try with_reducible rfl))))
        (try simp only [Act.put, List.setIfInBounds_toArray, List.set_cons_zero, List.set_cons_succ])
        (refine wpAnyH_take (i := 5) (oi := ?_) (v := ?_) ?_ (by kernel_rfl) (by kernel_rfl) (by kernel_rfl) ?_ (Or.inl ⟨?_, ?_⟩) (by assumption) ?_; rotate_left 2; (· (simp only [List.getElem?_toArray, List.getElem?_cons_succ, List.getElem?_cons_zero]; first | done | rfl)); (· exact (fun _ _ _ h => h)); (· rfl); (· (intro w hSw; (try dsimp only at hSw); go_simp; (try with_reducible rfl))))
        (try simp only [Act.put, List.setIfInBounds_toArray, List.set_cons_zero, List.set_cons_succ])
        (refine wpAnyH_take (i := 6) (oi := ?_) (v := ?_) ?_ (by kernel_rfl) (by kernel_rfl) (by kernel_rfl) ?_ (Or.inl ⟨?_, ?_⟩) (by assumption) ?_; rotate_left 2; (· (simp only [List.getElem?_toArray, List.getElem?_cons_succ, List.getElem?_cons_zero]; first | done | rfl)); (· exact (fun _ _ _ h => h)); (· rfl); (· (intro w hSw; (try dsimp only at hSw); go_simp; (try with_reducible rfl))))
        (try simp only [Act.put, List.setIfInBounds_toArray, List.set_cons_zero, List.set_cons_succ])
        (refine wpAnyH_take (i := 7) (oi := ?_) (v := ?_) ?_ (by kernel_rfl) (by kernel_rfl) (by kernel_rfl) ?_ (Or.inl ⟨?_, ?_⟩) (by assumption) ?_; rotate_left 2; (· (simp only [List.getElem?_toArray, List.getElem?_cons_succ, List.getElem?_cons_zero]; first | done | rfl)); (· exact (fun _ _ _ h => h)); (· rfl); (· (intro w hSw; (try dsimp only at hSw); go_simp; (try with_reducible rfl))))
        (try simp only [Act.put, List.setIfInBounds_toArray, List.set_cons_zero, List.set_cons_succ])
        (refine wpAnyH_take (i := 8) (oi := ?_) (v := ?_) ?_ (by kernel_rfl) (by kernel_rfl) (by kernel_rfl) ?_ (Or.inl ⟨?_, ?_⟩) (by assumption) ?_; rotate_left 2; (· (simp only [List.getElem?_toArray, List.getElem?_cons_succ, List.getElem?_cons_zero]; first | done | rfl)); (· exact (fun _ _ _ h => h)); (· rfl); (· (intro w hSw; (try dsimp only at hSw); go_simp; (try with_reducible rfl))))
        (try simp only [Act.put, List.setIfInBounds_toArray, List.set_cons_zero, List.set_cons_succ])
        refine wpAnyH_ready (rs := [9]) (by kernel_rfl) (by simp) ?_
        refine AllReadyH.cons (o := ?_) ?_ (fun K hK => ?_) AllReadyH.nil
        rotate_left 1
        · (simp only [List.getElem?_toArray, List.getElem?_cons_succ, List.getElem?_cons_zero]; first | done | rfl)
        go_simp
        first | (refine hK.out _ _ ?_ (fun hq1 => ?_)) | ((go_at_call 45; (first | (with_reducible refine (HI1.out _).mono ?_) | (with_reducible refine (HI2.out _).mono ?_)); rintro e w7 ⟨rfl, hb7⟩); refine hK.out _ _ ?_ (fun hq1 => ?_)) | ((go_at_call 45; (first | (with_reducible refine (HI1.out _).mono ?_) | (with_reducible refine (HI2.out _).mono ?_)); rintro e w7 ⟨rfl, hb7⟩); go_wp2_with fail; refine hK.out _ _ ?_ (fun hq1 => ?_)) | fail
        · ((try dsimp only); (first | exact HST.out | assumption | exact nd_below (by assumption) (by assumption)))
        clear hK K
        (try simp only [Act.put, List.setIfInBounds_toArray, List.set_cons_zero, List.set_cons_succ])
        clear hq0
        (refine wpAnyH_take (i := 10) (oi := ?_) (v := ?_) ?_ (by kernel_rfl) (by kernel_rfl) (by kernel_rfl) ?_ (Or.inl ⟨?_, ?_⟩) (by assumption) ?_; rotate_left 2; (· (simp only [List.getElem?_toArray, List.getElem?_cons_succ, List.getElem?_cons_zero]; first | done | rfl)); (· exact (fun _ _ _ h => h)); (· rfl); (· (intro w hSw; (try dsimp only at hSw); go_simp; (try with_reducible rfl))))
        (try simp only [Act.put, List.setIfInBounds_toArray, List.set_cons_zero, List.set_cons_succ])
        (refine wpAnyH_take (i := 11) (oi := ?_) (v := ?_) ?_ (by kernel_rfl) (by kernel_rfl) (by kernel_rfl) ?_ (Or.inl ⟨?_, ?_⟩) (by assumption) ?_; rotate_left 2; (· (simp only [List.getElem?_toArray, List.getElem?_cons_succ, List.getElem?_cons_zero]; first | done | rfl)); (· exact (fun _ _ _ h => h)); (· rfl); (· (intro w hSw; (try dsimp only at hSw); go_simp; (try with_reducible rfl))))
        (try simp only [Act.put, List.setIfInBounds_toArray, List.set_cons_zero, List.set_cons_succ])
        (refine wpAnyH_take (i := 12) (oi := ?_) (v := ?_) ?_ (by kernel_rfl) (by kernel_rfl) (by kernel_rfl) ?_ (Or.inl ⟨?_, ?_⟩) (by assumption) ?_; rotate_left 2; (· (simp only [List.getElem?_toArray, List.getElem?_cons_succ, List.getElem?_cons_zero]; first | done | rfl)); (· exact (fun _ _ _ h => h)); (· rfl); (· (intro w hSw; (try dsimp only at hSw); go_simp; (try with_reducible rfl))))
        (try simp only [Act.put, List.setIfInBounds_toArray, List.set_cons_zero, List.set_cons_succ])
        (refine wpAnyH_take (i := 13) (oi := ?_) (v := ?_) ?_ (by kernel_rfl) (by kernel_rfl) (by kernel_rfl) ?_ (Or.inl ⟨?_, ?_⟩) (by assumption) ?_; rotate_left 2; (· (simp only [List.getElem?_toArray, List.getElem?_cons_succ, List.getElem?_cons_zero]; first | done | rfl)); (· exact (fun _ _ _ h => h)); (· rfl); (· (intro w hSw; (try dsimp only at hSw); go_simp; (try with_reducible rfl))))
        (try simp only [Act.put, List.setIfInBounds_toArray, List.set_cons_zero, List.set_cons_succ])
        (refine wpAnyH_take (i := 14) (oi := ?_) (v := ?_) ?_ (by kernel_rfl) (by kernel_rfl) (by kernel_rfl) ?_ (Or.inl ⟨?_, ?_⟩) (by assumption) ?_; rotate_left 2; (· (simp only [List.getElem?_toArray, List.getElem?_cons_succ, List.getElem?_cons_zero]; first | done | rfl)); (· exact (fun _ _ _ h => h)); (· rfl); (· (intro w hSw; (try dsimp only at hSw); go_simp; (try with_reducible rfl))))
        (try simp only [Act.put, List.setIfInBounds_toArray, List.set_cons_zero, List.set_cons_succ])
        (refine wpAnyH_take (i := 15) (oi := ?_) (v := ?_) ?_ (by kernel_rfl) (by kernel_rfl) (by kernel_rfl) ?_ (Or.inl ⟨?_, ?_⟩) (by assumption) ?_; rotate_left 2; (· (simp only [List.getElem?_toArray, List.getElem?_cons_succ, List.getElem?_cons_zero]; first | done | rfl)); (· exact (fun _ _ _ h => h)); (· rfl); (· (intro w hSw; (try dsimp only at hSw); go_simp; (try with_reducible rfl))))
        (try simp only [Act.put, List.setIfInBounds_toArray, List.set_cons_zero, List.set_cons_succ])
        (refine wpAnyH_take (i := 16) (oi := ?_) (v := ?_) ?_ (by kernel_rfl) (by kernel_rfl) (by kernel_rfl) ?_ (Or.inl ⟨?_, ?_⟩) (by assumption) ?_; rotate_left 2; (· (simp only [List.getElem?_toArray, List.getElem?_cons_succ, List.getElem?_cons_zero]; first | done | rfl)); (· exact (fun _ _ _ h => h)); (· rfl); (· (intro w hSw; (try dsimp only at hSw); go_simp; (try with_reducible rfl))))
        (try simp only [Act.put, List.setIfInBounds_toArray, List.set_cons_zero, List.set_cons_succ])
        (refine wpAnyH_take (i := 17) (oi := ?_) (v := ?_) ?_ (by kernel_rfl) (by kernel_rfl) (by kernel_rfl) ?_ (Or.inl ⟨?_, ?_⟩) (by assumption) ?_; rotate_left 2; (· (simp only [List.getElem?_toArray, List.getElem?_cons_succ, List.getElem?_cons_zero]; first | done | rfl)); (· exact (fun _ _ _ h => h)); (· rfl); (· (intro w hSw; (try dsimp only at hSw); go_simp; (try with_reducible rfl))))
        (try simp only [Act.put, List.setIfInBounds_toArray, List.set_cons_zero, List.set_cons_succ])
        (refine wpAnyH_take (i := 18) (oi := ?_) (v := ?_) ?_ (by kernel_rfl) (by kernel_rfl) (by kernel_rfl) ?_ (Or.inl ⟨?_, ?_⟩) (by assumption) ?_; rotate_left 2; (· (simp only [List.getElem?_toArray, List.getElem?_cons_succ, List.getElem?_cons_zero]; first | done | rfl)); (· exact (fun _ _ _ h => h)); (· rfl); (· (intro w hSw; (try dsimp only at hSw); go_simp; (try with_reducible rfl))))
        (try simp only [Act.put, List.setIfInBounds_toArray, List.set_cons_zero, List.set_cons_succ])
        (refine wpAnyH_take (i := 19) (oi := ?_) (v := ?_) ?_ (by kernel_rfl) (by kernel_rfl) (by kernel_rfl) ?_ (Or.inl ⟨?_, ?_⟩) (by assumption) ?_; rotate_left 2; (· (simp only [List.getElem?_toArray, List.getElem?_cons_succ, List.getElem?_cons_zero]; first | done | rfl)); (· exact (fun _ _ _ h => h)); (· rfl); (· (intro w hSw; (try dsimp only at hSw); go_simp; (try with_reducible rfl))))
        (try simp only [Act.put, List.setIfInBounds_toArray, List.set_cons_zero, List.set_cons_succ])
        (refine wpAnyH_take (i := 20) (oi := ?_) (v := ?_) ?_ (by kernel_rfl) (by kernel_rfl) (by kernel_rfl) ?_ (Or.inl ⟨?_, ?_⟩) (by assumption) ?_; rotate_left 2; (· (simp only [List.getElem?_toArray, List.getElem?_cons_succ, List.getElem?_cons_zero]; first | done | rfl)); (· exact (fun _ _ _ h => h)); (· rfl); (· (intro w hSw; (try dsimp only at hSw); go_simp; (try with_reducible rfl))))
        (try simp only [Act.put, List.setIfInBounds_toArray, List.set_cons_zero, List.set_cons_succ])
        refine wpAnyH_ready (rs := [21]) (by kernel_rfl) (by simp) ?_
        refine AllReadyH.cons (o := ?_) ?_ (fun K hK => ?_) AllReadyH.nil
        rotate_left 1
        · (simp only [List.getElem?_toArray, List.getElem?_cons_succ, List.getElem?_cons_zero]; first | done | rfl)
        go_simp
        first | (refine hK.out _ _ ?_ (fun hq2 => ?_)) | ((go_at_call 45; (first | (with_reducible refine (HI1.out _).mono ?_) | (with_reducible refine (HI2.out _).mono ?_)); rintro e w7 ⟨rfl, hb7⟩); refine hK.out _ _ ?_ (fun hq2 => ?_)) | ((go_at_call 45; (first | (with_reducible refine (HI1.out _).mono ?_) | (with_reducible refine (HI2.out _).mono ?_)); rintro e w7 ⟨rfl, hb7⟩); go_wp2_with fail; refine hK.out _ _ ?_ (fun hq2 => ?_)) | fail
        · ((try dsimp only); (first | exact HST.out | assumption | exact nd_below (by assumption) (by assumption)))
        clear hK K
        (try simp only [Act.put, List.setIfInBounds_toArray, List.set_cons_zero, List.set_cons_succ])
        clear hq1
        (refine wpAnyH_take (i := 22) (oi := ?_) (v := ?_) ?_ (by kernel_rfl) (by kernel_rfl) (by kernel_rfl) ?_ (Or.inl ⟨?_, ?_⟩) (by assumption) ?_; rotate_left 2; (· (simp only [List.getElem?_toArray, List.getElem?_cons_succ, List.getElem?_cons_zero]; first | done | rfl)); (· exact (fun _ _ _ h => h)); (· rfl); (· (intro w hSw; (try dsimp only at hSw); go_simp; (try with_reducible rfl))))
        (try simp only [Act.put, List.setIfInBounds_toArray, List.set_cons_zero, List.set_cons_succ])
        (refine wpAnyH_take (i := 23) (oi := ?_) (v := ?_) ?_ (by kernel_rfl) (by kernel_rfl) (by kernel_rfl) ?_ (Or.inl ⟨?_, ?_⟩) (by assumption) ?_; rotate_left 2; (· (simp only [List.getElem?_toArray, List.getElem?_cons_succ, List.getElem?_cons_zero]; first | done | rfl)); (· exact (fun _ _ _ h => h)); (· rfl); (· (intro w hSw; (try dsimp only at hSw); go_simp; (try with_reducible rfl))))
        (try simp only [Act.put, List.setIfInBounds_toArray, List.set_cons_zero, List.set_cons_succ])
        (refine wpAnyH_take (i := 24) (oi := ?_) (v := ?_) ?_ (by kernel_rfl) (by kernel_rfl) (by kernel_rfl) ?_ (Or.inl ⟨?_, ?_⟩) (by assumption) ?_; rotate_left 2; (· (simp only [List.getElem?_toArray, List.getElem?_cons_succ, List.getElem?_cons_zero]; first | done | rfl)); (· exact (fun _ _ _ h => h)); (· rfl); (· (intro w hSw; (try dsimp only at hSw); go_simp; (try with_reducible rfl))))
        (try simp only [Act.put, List.setIfInBounds_toArray, List.set_cons_zero, List.set_cons_succ])
        refine wpAnyH_done (by kernel_rfl) ?_ _
        go_wp2_with fail
        go_ret
        exact ⟨ret_bool (by unfold needB; rw [needN_hit L i k _ hlt HRO.out]), btrans HBR.out (nd_own (by assumption))⟩
      · skip
        have hro : hit L i k = false := by rw [hh]; rw [m3, n3]; rfl
        have HRO := Lib.hid hro
        clear hh hro
        go_wp2_with fail
        refine wp_region_held_drew (S := (fun w' => w'.cell? ⟨wr.heap.size, 0, none⟩ = some (.string ⟨x.name.toArray⟩) ∧ w'.cell? ⟨wr.heap.size, 1, none⟩ = some (.int .i64 x.op) ∧ w'.cell? ⟨wr.heap.size, 2, none⟩ = some (.int .i64 x.val.kind) ∧ w'.cell? ⟨wr.heap.size, 3, none⟩ = some (.int .i64 x.val.int) ∧ w'.cell? ⟨wr.heap.size, 4, none⟩ = some (.float .f64 x.val.num) ∧ w'.cell? ⟨wr.heap.size, 5, none⟩ = some (.string ⟨x.val.text.toArray⟩) ∧ w'.cell? ⟨wr.heap.size, 6, none⟩ = some (.bool x.val.yes) ∧ w'.cell? ⟨g, i * 7, none⟩ = some (.string ⟨y.name.toArray⟩) ∧ w'.cell? ⟨g, i * 7 + 1, none⟩ = some (.int .i64 y.op) ∧ w'.cell? ⟨g, i * 7 + 2, none⟩ = some (.int .i64 y.val.kind) ∧ w'.cell? ⟨g, i * 7 + 3, none⟩ = some (.int .i64 y.val.int) ∧ w'.cell? ⟨g, i * 7 + 4, none⟩ = some (.float .f64 y.val.num) ∧ w'.cell? ⟨g, i * 7 + 5, none⟩ = some (.string ⟨y.val.text.toArray⟩) ∧ w'.cell? ⟨g, i * 7 + 6, none⟩ = some (.bool y.val.yes) ∧ Below wr.heap.size wr w' ∧ wr.heap.size < w'.heap.size ∧ g < wr.heap.size)) (by kernel_rfl) ?_ (fun hq0 => ?_)
        · ((try dsimp only); (first | exact HST.out | assumption | exact nd_below (by assumption) (by assumption)))
        (refine wpAnyH_take (i := 0) (oi := ?_) (v := ?_) ?_ (by kernel_rfl) (by kernel_rfl) (by kernel_rfl) ?_ (Or.inl ⟨?_, ?_⟩) (by assumption) ?_; rotate_left 2; (· (simp only [List.getElem?_toArray, List.getElem?_cons_zero]; first | done | rfl)); (· exact (fun _ _ _ h => h)); (· rfl); (· (intro w hSw; (try dsimp only at hSw); go_simp; (try with_reducible rfl))))
        (try simp only [Act.put, List.setIfInBounds_toArray, List.set_cons_zero, List.set_cons_succ])
        (refine wpAnyH_take (i := 1) (oi := ?_) (v := ?_) ?_ (by kernel_rfl) (by kernel_rfl) (by kernel_rfl) ?_ (Or.inl ⟨?_, ?_⟩) (by assumption) ?_; rotate_left 2; (· (simp only [List.getElem?_toArray, List.getElem?_cons_succ, List.getElem?_cons_zero]; first | done | rfl)); (· exact (fun _ _ _ h => h)); (· rfl); (· (intro w hSw; (try dsimp only at hSw); go_simp; (try with_reducible rfl))))
        (try simp only [Act.put, List.setIfInBounds_toArray, List.set_cons_zero, List.set_cons_succ])
        (refine wpAnyH_take (i := 2) (oi := ?_) (v := ?_) ?_ (by kernel_rfl) (by kernel_rfl) (by kernel_rfl) ?_ (Or.inl ⟨?_, ?_⟩) (by assumption) ?_; rotate_left 2; (· (simp only [List.getElem?_toArray, List.getElem?_cons_succ, List.getElem?_cons_zero]; first | done | rfl)); (· exact (fun _ _ _ h => h)); (· rfl); (· (intro w hSw; (try dsimp only at hSw); go_simp; (try with_reducible rfl))))
        (try simp only [Act.put, List.setIfInBounds_toArray, List.set_cons_zero, List.set_cons_succ])
        (refine wpAnyH_take (i := 3) (oi := ?_) (v := ?_) ?_ (by kernel_rfl) (by kernel_rfl) (by kernel_rfl) ?_ (Or.inl ⟨?_, ?_⟩) (by assumption) ?_; rotate_left 2; (· (simp only [List.getElem?_toArray, List.getElem?_cons_succ, List.getElem?_cons_zero]; first | done | rfl)); (· exact (fun _ _ _ h => h)); (· rfl); (· (intro w hSw; (try dsimp only at hSw); go_simp; (try with_reducible rfl))))
        (try simp only [Act.put, List.setIfInBounds_toArray, List.set_cons_zero, List.set_cons_succ])
        (refine wpAnyH_take (i := 4) (oi := ?_) (v := ?_) ?_ (by kernel_rfl) (by kernel_rfl) (by kernel_rfl) ?_ (Or.inl ⟨?_, ?_⟩) (by assumption) ?_; rotate_left 2; (· (simp only [List.getElem?_toArray, List.getElem?_cons_succ, List.getElem?_cons_zero]; first | done | rfl)); (· exact (fun _ _ _ h => h)); (· rfl); (· (intro w hSw; (try dsimp only at hSw); go_simp; (try with_reducible rfl))))
        (try simp only [Act.put, List.setIfInBounds_toArray, List.set_cons_zero, List.set_cons_succ])
        (refine wpAnyH_take (i := 5) (oi := ?_) (v := ?_) ?_ (by kernel_rfl) (by kernel_rfl) (by kernel_rfl) ?_ (Or.inl ⟨?_, ?_⟩) (by assumption) ?_; rotate_left 2; (· (simp only [List.getElem?_toArray, List.getElem?_cons_succ, List.getElem?_cons_zero]; first | done | rfl)); (· exact (fun _ _ _ h => h)); (· rfl); (· (intro w hSw; (try dsimp only at hSw); go_simp; (try with_reducible rfl))))
        (try simp only [Act.put, List.setIfInBounds_toArray, List.set_cons_zero, List.set_cons_succ])
        (refine wpAnyH_take (i := 6) (oi := ?_) (v := ?_) ?_ (by kernel_rfl) (by kernel_rfl) (by kernel_rfl) ?_ (Or.inl ⟨?_, ?_⟩) (by assumption) ?_; rotate_left 2; (· (simp only [List.getElem?_toArray, List.getElem?_cons_succ, List.getElem?_cons_zero]; first | done | rfl)); (· exact (fun _ _ _ h => h)); (· rfl); (· (intro w hSw; (try dsimp only at hSw); go_simp; (try with_reducible rfl))))
        (try simp only [Act.put, List.setIfInBounds_toArray, List.set_cons_zero, List.set_cons_succ])
        (refine wpAnyH_take (i := 7) (oi := ?_) (v := ?_) ?_ (by kernel_rfl) (by kernel_rfl) (by kernel_rfl) ?_ (Or.inl ⟨?_, ?_⟩) (by assumption) ?_; rotate_left 2; (· (simp only [List.getElem?_toArray, List.getElem?_cons_succ, List.getElem?_cons_zero]; first | done | rfl)); (· exact (fun _ _ _ h => h)); (· rfl); (· (intro w hSw; (try dsimp only at hSw); go_simp; (try with_reducible rfl))))
        (try simp only [Act.put, List.setIfInBounds_toArray, List.set_cons_zero, List.set_cons_succ])
        (refine wpAnyH_take (i := 8) (oi := ?_) (v := ?_) ?_ (by kernel_rfl) (by kernel_rfl) (by kernel_rfl) ?_ (Or.inl ⟨?_, ?_⟩) (by assumption) ?_; rotate_left 2; (· (simp only [List.getElem?_toArray, List.getElem?_cons_succ, List.getElem?_cons_zero]; first | done | rfl)); (· exact (fun _ _ _ h => h)); (· rfl); (· (intro w hSw; (try dsimp only at hSw); go_simp; (try with_reducible rfl))))
        (try simp only [Act.put, List.setIfInBounds_toArray, List.set_cons_zero, List.set_cons_succ])
        refine wpAnyH_ready (rs := [9]) (by kernel_rfl) (by simp) ?_
        refine AllReadyH.cons (o := ?_) ?_ (fun K hK => ?_) AllReadyH.nil
        rotate_left 1
        · (simp only [List.getElem?_toArray, List.getElem?_cons_succ, List.getElem?_cons_zero]; first | done | rfl)
        go_simp
        first | (refine hK.out _ _ ?_ (fun hq1 => ?_)) | ((go_at_call 45; (first | (with_reducible refine (HI1.out _).mono ?_) | (with_reducible refine (HI2.out _).mono ?_)); rintro e w7 ⟨rfl, hb7⟩); refine hK.out _ _ ?_ (fun hq1 => ?_)) | ((go_at_call 45; (first | (with_reducible refine (HI1.out _).mono ?_) | (with_reducible refine (HI2.out _).mono ?_)); rintro e w7 ⟨rfl, hb7⟩); go_wp2_with fail; refine hK.out _ _ ?_ (fun hq1 => ?_)) | fail
        · ((try dsimp only); (first | exact HST.out | assumption | exact nd_below (by assumption) (by assumption)))
        clear hK K
        (try simp only [Act.put, List.setIfInBounds_toArray, List.set_cons_zero, List.set_cons_succ])
        clear hq0
        (refine wpAnyH_take (i := 10) (oi := ?_) (v := ?_) ?_ (by kernel_rfl) (by kernel_rfl) (by kernel_rfl) ?_ (Or.inl ⟨?_, ?_⟩) (by assumption) ?_; rotate_left 2; (· (simp only [List.getElem?_toArray, List.getElem?_cons_succ, List.getElem?_cons_zero]; first | done | rfl)); (· exact (fun _ _ _ h => h)); (· rfl); (· (intro w hSw; (try dsimp only at hSw); go_simp; (try with_reducible rfl))))
        (try simp only [Act.put, List.setIfInBounds_toArray, List.set_cons_zero, List.set_cons_succ])
        (refine wpAnyH_take (i := 11) (oi := ?_) (v := ?_) ?_ (by kernel_rfl) (by kernel_rfl) (by kernel_rfl) ?_ (Or.inl ⟨?_, ?_⟩) (by assumption) ?_; rotate_left 2; (· (simp only [List.getElem?_toArray, List.getElem?_cons_succ, List.getElem?_cons_zero]; first | done | rfl)); (· exact (fun _ _ _ h => h)); (· rfl); (· (intro w hSw; (try dsimp only at hSw); go_simp; (try with_reducible rfl))))
        (try simp only [Act.put, List.setIfInBounds_toArray, List.set_cons_zero, List.set_cons_succ])
        (refine wpAnyH_take (i := 12) (oi := ?_) (v := ?_) ?_ (by kernel_rfl) (by kernel_rfl) (by kernel_rfl) ?_ (Or.inl ⟨?_, ?_⟩) (by assumption) ?_; rotate_left 2; (· (simp only [List.getElem?_toArray, List.getElem?_cons_succ, List.getElem?_cons_zero]; first | done | rfl)); (· exact (fun _ _ _ h => h)); (· rfl); (· (intro w hSw; (try dsimp only at hSw); go_simp; (try with_reducible rfl))))
        (try simp only [Act.put, List.setIfInBounds_toArray, List.set_cons_zero, List.set_cons_succ])
        (refine wpAnyH_take (i := 13) (oi := ?_) (v := ?_) ?_ (by kernel_rfl) (by kernel_rfl) (by kernel_rfl) ?_ (Or.inl ⟨?_, ?_⟩) (by assumption) ?_; rotate_left 2; (· (simp only [List.getElem?_toArray, List.getElem?_cons_succ, List.getElem?_cons_zero]; first | done | rfl)); (· exact (fun _ _ _ h => h)); (· rfl); (· (intro w hSw; (try dsimp only at hSw); go_simp; (try with_reducible rfl))))
        (try simp only [Act.put, List.setIfInBounds_toArray, List.set_cons_zero, List.set_cons_succ])
        (refine wpAnyH_take (i := 14) (oi := ?_) (v := ?_) ?_ (by kernel_rfl) (by kernel_rfl) (by kernel_rfl) ?_ (Or.inl ⟨?_, ?_⟩) (by assumption) ?_; rotate_left 2; (· (simp only [List.getElem?_toArray, List.getElem?_cons_succ, List.getElem?_cons_zero]; first | done | rfl)); (· exact (fun _ _ _ h => h)); (· rfl); (· (intro w hSw; (try dsimp only at hSw); go_simp; (try with_reducible rfl))))
        (try simp only [Act.put, List.setIfInBounds_toArray, List.set_cons_zero, List.set_cons_succ])
        (refine wpAnyH_take (i := 15) (oi := ?_) (v := ?_) ?_ (by kernel_rfl) (by kernel_rfl) (by kernel_rfl) ?_ (Or.inl ⟨?_, ?_⟩) (by assumption) ?_; rotate_left 2; (· (simp only [List.getElem?_toArray, List.getElem?_cons_succ, List.getElem?_cons_zero]; first | done | rfl)); (· exact (fun _ _ _ h => h)); (· rfl); (· (intro w hSw; (try dsimp only at hSw); go_simp; (try with_reducible rfl))))
        (try simp only [Act.put, List.setIfInBounds_toArray, List.set_cons_zero, List.set_cons_succ])
        (refine wpAnyH_take (i := 16) (oi := ?_) (v := ?_) ?_ (by kernel_rfl) (by kernel_rfl) (by kernel_rfl) ?_ (Or.inl ⟨?_, ?_⟩) (by assumption) ?_; rotate_left 2; (· (simp only [List.getElem?_toArray, List.getElem?_cons_succ, List.getElem?_cons_zero]; first | done | rfl)); (· exact (fun _ _ _ h => h)); (· rfl); (· (intro w hSw; (try dsimp only at hSw); go_simp; (try with_reducible rfl))))
        (try simp only [Act.put, List.setIfInBounds_toArray, List.set_cons_zero, List.set_cons_succ])
        (refine wpAnyH_take (i := 17) (oi := ?_) (v := ?_) ?_ (by kernel_rfl) (by kernel_rfl) (by kernel_rfl) ?_ (Or.inl ⟨?_, ?_⟩) (by assumption) ?_; rotate_left 2; (· (simp only [List.getElem?_toArray, List.getElem?_cons_succ, List.getElem?_cons_zero]; first | done | rfl)); (· exact (fun _ _ _ h => h)); (· rfl); (· (intro w hSw; (try dsimp only at hSw); go_simp; (try with_reducible rfl))))
        (try simp only [Act.put, List.setIfInBounds_toArray, List.set_cons_zero, List.set_cons_succ])
        (refine wpAnyH_take (i := 18) (oi := ?_) (v := ?_) ?_ (by kernel_rfl) (by kernel_rfl) (by kernel_rfl) ?_ (Or.inl ⟨?_, ?_⟩) (by assumption) ?_; rotate_left 2; (· (simp only [List.getElem?_toArray, List.getElem?_cons_succ, List.getElem?_cons_zero]; first | done | rfl)); (· exact (fun _ _ _ h => h)); (· rfl); (· (intro w hSw; (try dsimp only at hSw); go_simp; (try with_reducible rfl))))
        (try simp only [Act.put, List.setIfInBounds_toArray, List.set_cons_zero, List.set_cons_succ])
        (refine wpAnyH_take (i := 19) (oi := ?_) (v := ?_) ?_ (by kernel_rfl) (by kernel_rfl) (by kernel_rfl) ?_ (Or.inl ⟨?_, ?_⟩) (by assumption) ?_; rotate_left 2; (· (simp only [List.getElem?_toArray, List.getElem?_cons_succ, List.getElem?_cons_zero]; first | done | rfl)); (· exact (fun _ _ _ h => h)); (· rfl); (· (intro w hSw; (try dsimp only at hSw); go_simp; (try with_reducible rfl))))
        (try simp only [Act.put, List.setIfInBounds_toArray, List.set_cons_zero, List.set_cons_succ])
        (refine wpAnyH_take (i := 20) (oi := ?_) (v := ?_) ?_ (by kernel_rfl) (by kernel_rfl) (by kernel_rfl) ?_ (Or.inl ⟨?_, ?_⟩) (by assumption) ?_; rotate_left 2; (· (simp only [List.getElem?_toArray, List.getElem?_cons_succ, List.getElem?_cons_zero]; first | done | rfl)); (· exact (fun _ _ _ h => h)); (· rfl); (· (intro w hSw; (try dsimp only at hSw); go_simp; (try with_reducible rfl))))
        (try simp only [Act.put, List.setIfInBounds_toArray, List.set_cons_zero, List.set_cons_succ])
        refine wpAnyH_ready (rs := [21]) (by kernel_rfl) (by simp) ?_
        refine AllReadyH.cons (o := ?_) ?_ (fun K hK => ?_) AllReadyH.nil
        rotate_left 1
        · (simp only [List.getElem?_toArray, List.getElem?_cons_succ, List.getElem?_cons_zero]; first | done | rfl)
        go_simp
        first | (refine hK.out _ _ ?_ (fun hq2 => ?_)) | ((go_at_call 45; (first | (with_reducible refine (HI1.out _).mono ?_) | (with_reducible refine (HI2.out _).mono ?_)); rintro e w7 ⟨rfl, hb7⟩); refine hK.out _ _ ?_ (fun hq2 => ?_)) | ((go_at_call 45; (first | (with_reducible refine (HI1.out _).mono ?_) | (with_reducible refine (HI2.out _).mono ?_)); rintro e w7 ⟨rfl, hb7⟩); go_wp2_with fail; refine hK.out _ _ ?_ (fun hq2 => ?_)) | fail
        · ((try dsimp only); (first | exact HST.out | assumption | exact nd_below (by assumption) (by assumption)))
        clear hK K
        (try simp only [Act.put, List.setIfInBounds_toArray, List.set_cons_zero, List.set_cons_succ])
        clear hq1
        (refine wpAnyH_take (i := 22) (oi := ?_) (v := ?_) ?_ (by kernel_rfl) (by kernel_rfl) (by kernel_rfl) ?_ (Or.inl ⟨?_, ?_⟩) (by assumption) ?_; rotate_left 2; (· (simp only [List.getElem?_toArray, List.getElem?_cons_succ, List.getElem?_cons_zero]; first | done | rfl)); (· exact (fun _ _ _ h => h)); (· rfl); (· (intro w hSw; (try dsimp only at hSw); go_simp; (try with_reducible rfl))))
        (try simp only [Act.put, List.setIfInBounds_toArray, List.set_cons_zero, List.set_cons_succ])
        (refine wpAnyH_take (i := 23) (oi := ?_) (v := ?_) ?_ (by kernel_rfl) (by kernel_rfl) (by kernel_rfl) ?_ (Or.inl ⟨?_, ?_⟩) (by assumption) ?_; rotate_left 2; (· (simp only [List.getElem?_toArray, List.getElem?_cons_succ, List.getElem?_cons_zero]; first | done | rfl)); (· exact (fun _ _ _ h => h)); (· rfl); (· (intro w hSw; (try dsimp only at hSw); go_simp; (try with_reducible rfl))))
        (try simp only [Act.put, List.setIfInBounds_toArray, List.set_cons_zero, List.set_cons_succ])
        (refine wpAnyH_take (i := 24) (oi := ?_) (v := ?_) ?_ (by kernel_rfl) (by kernel_rfl) (by kernel_rfl) ?_ (Or.inl ⟨?_, ?_⟩) (by assumption) ?_; rotate_left 2; (· (simp only [List.getElem?_toArray, List.getElem?_cons_succ, List.getElem?_cons_zero]; first | done | rfl)); (· exact (fun _ _ _ h => h)); (· rfl); (· (intro w hSw; (try dsimp only at hSw); go_simp; (try with_reducible rfl))))
        (try simp only [Act.put, List.setIfInBounds_toArray, List.set_cons_zero, List.set_cons_succ])
        refine wpAnyH_done (by kernel_rfl) ?_ _
        go_wp2_with fail
        exact ⟨⟨k + 1, by omega, by go_num, Lib.hid (by rw [needN, HP.out, HRO.out]; rfl), btrans HBR.out (nd_own (by assumption))⟩, by simp [intOf]; go_num⟩
    · obtain rfl : k = L.length := by omega
      have q1 : ¬ ((L.length : Nat) : Int) < (L.length : Int) := by omega
      go_wp2_with fail
      go_ret
      exact ⟨ret_bool HP.out.symm, HBR.out⟩
end Go.Proofs.YtpbdgbejcdncgaaGreatDoor.Val
end

section
/- THE WALK OF filter.Norm. -/
namespace Go.Proofs.YtpbdgbejcdncgaaGreatDoor.Val
open Go.RowKit Flt
/-- what is kept of the first k -/
def keepC (S : List C) : Nat → List C
  | 0 => []
  | k + 1 => keepC S k ++ (if needB S k then [] else [S[k]!])
def sortC (L : List C) : List C := isort L (L.length - 1)
/-- what a filter's conditions are brought to -/
def normL (L : List C) : List C := keepC (sortC (L.map canonC)) L.length
theorem keepC_len (S : List C) : ∀ k, (keepC S k).length ≤ k
  | 0 => Nat.le_refl _
  | k + 1 => by
    have := keepC_len S k
    rw [keepC, List.length_append]
    split <;> simp <;> omega
theorem info_cond : (Tryz.prog.info? 49).map (fun i => (i.zero, i.size, i.bytes)) = some (some (.agg #[.string .empty, .int .i64 0, .int .i64 0, .int .i64 0, .float .f64 0, .string .empty, .bool false]), 7, 72) := by kernel_rfl
theorem new_cond (w : World) (g : Nat) (hg : g = w.heap.size) (c : C) (e : TypeId) : ∀ j u, (flatC [c])[j]? = some u → (w.alloc (.cells #[.string ⟨c.name.toArray⟩, .int .i64 c.op, .int .i64 c.val.kind, .int .i64 c.val.int, .float .f64 c.val.num, .string ⟨c.val.text.toArray⟩, .bool c.val.yes] e)).cell? ((⟨g, 0, none⟩ : Addr).add j) = some u := by
  subst hg
  intro j u hj
  have hadd : (⟨w.heap.size, 0, none⟩ : Addr).add j = ⟨w.heap.size, j, none⟩ := by unfold Addr.add; split <;> simp_all
  rw [hadd]
  simpa [flatC, cells7, go_sem] using hj
theorem canon_small {c : C} (h : CSmall c ∧ 0 ≤ c.op ∧ c.op ≤ 7) : CSmall (canonC c) ∧ 0 ≤ (canonC c).op ∧ (canonC c).op ≤ 7 := by
  obtain ⟨nm, op, k, n, x, t, y⟩ := c
  obtain ⟨⟨h1, h2, h3, h4, h5⟩, h6, h7⟩ := h
  simp only at h1 h2 h3 h4 h5 h6 h7
  unfold canonC
  split
  · exact ⟨⟨h1, by show 0 ≤ _; omega, by show 0 < _; omega, by show _ ≤ (0 : Int); omega, by show (0 : Int) ≤ _; omega⟩, by show (0 : Int) ≤ 7; omega, by show (7 : Int) ≤ 7; omega⟩
  · have hv : (canonV ⟨k, n, x, t, y⟩).text.length ≤ 1000 ∧ (canonV ⟨k, n, x, t, y⟩).num < 18446744073709551616 ∧ -9223372036854775808 ≤ (canonV ⟨k, n, x, t, y⟩).int ∧ (canonV ⟨k, n, x, t, y⟩).int ≤ 9223372036854775807 := by
      unfold canonV
      split
      · exact ⟨by show 0 ≤ _; omega, by show 0 < _; omega, h4, h5⟩
      · split
        · exact ⟨by show 0 ≤ _; omega, canon_lt x h3, by show _ ≤ (0 : Int); omega, by show (0 : Int) ≤ _; omega⟩
        · split
          · exact ⟨h2, by show 0 < _; omega, by show _ ≤ (0 : Int); omega, by show (0 : Int) ≤ _; omega⟩
          · split <;> exact ⟨by show 0 ≤ _; omega, by show 0 < _; omega, by show _ ≤ (0 : Int); omega, by show (0 : Int) ≤ _; omega⟩
    exact ⟨⟨h1, hv.1, hv.2.1, hv.2.2.1, hv.2.2.2⟩, h6, h7⟩
theorem own_conds {w : World} {v : Value} {l : List C} {base : Nat} (h : w.ownsRow base 49 7 v l.length (flatC l)) :
    ∃ b0 cap, v = .slice b0 l.length cap ∧ Conds w b0 l := by
  rcases h.2 with ⟨rfl, h0⟩ | ⟨g, cp, cur, rfl, hb, hg, hh⟩
  · have : l = [] := List.eq_nil_of_length_eq_zero h0
    subst this
    exact ⟨none, 0, rfl, fun i hi => absurd hi (Nat.not_lt_zero _)⟩
  · refine ⟨some ⟨g, 0, none⟩, cp, rfl, fun i hi => ⟨_, rfl, ?_⟩⟩
    have k : ∀ j (hj : j < 7), w.cell? ⟨g, i * 7 + j, none⟩ = (cells7 l[i])[j]? := by
      intro j hj
      have hl := flatC_len l
      have hm := flatC_at l i j hi hj
      have hc : (cells7 l[i])[j]? = some ((cells7 l[i])[j]'(by simpa [cells7] using hj)) := by simp
      rw [hc] at hm ⊢
      have := h.cells rfl (i * 7 + j) _ hm
      have hadd : (⟨g, 0, none⟩ : Addr).add (i * 7 + j) = ⟨g, i * 7 + j, none⟩ := by unfold Addr.add; split <;> simp_all
      rw [← hadd]; exact this
    have hadd : (⟨g, 0, none⟩ : Addr).add (i * 7) = ⟨g, i * 7, none⟩ := by unfold Addr.add; split <;> simp_all
    rw [hadd]
    exact ⟨k 0 (by decide), k 1 (by decide), k 2 (by decide), k 3 (by decide), k 4 (by decide), k 5 (by decide), k 6 (by decide)⟩
theorem own_low7 {W W2 : World} {base e size : Nat} {v : Value} {n : Nat} {xs : List Value} (h : W.ownsRow base e size v n xs) (hb : Below W.heap.size W W2) : W2.ownsRow base e size v n xs :=
  Fmt.own_low h hb (fun k hk => (h.lt k hk).2)
/-- a row of the call's own, as a row of conditions -/
theorem own_row {w : World} {v : Value} {l : List C} {base : Nat} (h : w.ownsRow base 49 7 v l.length (flatC l)) (h0 : 0 < l.length) :
    ∃ g cap Z, v = .slice (some ⟨g, 0, none⟩) l.length cap ∧ base ≤ g ∧ Row w g l Z := by
  rcases h.2 with ⟨_, h1⟩ | ⟨g, cp, cur, rfl, hb, hg, _, _, hsz, ht⟩
  · omega
  · refine ⟨g, cp, cur.toList.drop (l.length * 7), rfl, hb, ?_⟩
    unfold Row
    rw [hg]
    refine congrArg (fun z => some (Obj.cells z 49 (0, 0))) (Array.ext' ?_)
    show cur.toList = flatC l ++ cur.toList.drop (l.length * 7)
    rw [← ht, List.take_append_drop]
attribute [local go_sem] run_store_flt
set_option maxRecDepth 20000 in
set_option maxHeartbeats 4000000 in
theorem norm_any (sf : List UInt8) (a0 : Option Addr) (cap : Nat) (L : List C) (w : World) (hl : Conds w a0 L) (hlm : L.length ≤ 19) (hw : Words w) (hT : Tab.Tabs w) (hs : ∀ c ∈ L, CSmall c ∧ 0 ≤ c.op ∧ c.op ≤ 7) :
    Calls Tryz.prog 7 #[ev sf a0 L.length cap] w fun e w' =>
      ∃ b0 cp, e = .returned (ev sf b0 (normL L).length cp) ∧ Conds w' b0 (normL L) ∧ Below w.heap.size w w' := by
  have HL := Lib.hid hl; have HW := Lib.hid hw; have HT := Lib.hid hT; have HS := Lib.hid hs
  clear hl hw hT hs
  obtain ⟨i0, hi, hz0, hz1, hz2⟩ := info_parts info_cond
  generalize hNN : normL L = N
  have HNN := Lib.hid hNN; clear hNN
  go_enter Tryz.func7, Tryz.ntmps7
  go_wp2_with fail
  have hW0 : Below w.heap.size w ((w.alloc (.cells #[.string ⟨sf.toArray⟩, .slice a0 L.length cap] 24)).alloc (.cells #[.string ⟨#[]⟩, .slice none 0 0] 24)) := balloc2 _ _ _
  have hsz0 : ((w.alloc (.cells #[.string ⟨sf.toArray⟩, .slice a0 L.length cap] 24)).alloc (.cells #[.string ⟨#[]⟩, .slice none 0 0] 24)).heap.size = w.heap.size + 2 := by simp
  have e0 : ∀ o, ((w.alloc (.cells #[.string ⟨sf.toArray⟩, .slice a0 L.length cap] 24)).alloc (.cells #[.string ⟨#[]⟩, .slice none 0 0] 24)).cell? ⟨w.heap.size, o, none⟩ = #[.string ⟨sf.toArray⟩, .slice a0 L.length cap][o]? := fun o => ((balloc (w.alloc (.cells #[.string ⟨sf.toArray⟩, .slice a0 L.length cap] 24)) _).cell (p := ⟨w.heap.size, o, none⟩) (by simp)).trans (World.cell?_alloc_at _ _ _ _ rfl)
  have e1 : ∀ o, ((w.alloc (.cells #[.string ⟨sf.toArray⟩, .slice a0 L.length cap] 24)).alloc (.cells #[.string ⟨#[]⟩, .slice none 0 0] 24)).cell? ⟨w.heap.size + 1, o, none⟩ = #[.string ⟨#[]⟩, .slice none 0 0][o]? := fun o => World.cell?_alloc_at _ _ _ _ (by simp)
  have e2 : ∀ o, ((w.alloc (.cells #[.string ⟨sf.toArray⟩, .slice a0 L.length cap] 24)).alloc (.cells #[.string ⟨#[]⟩, .slice none 0 0] 24)).frozen? ⟨w.heap.size + 1, o, none⟩ = false := fun o => by simp [go_sem]
  have x0 : ((w.alloc (.cells #[.string ⟨sf.toArray⟩, .slice a0 L.length cap] 24)).alloc (.cells #[.string ⟨#[]⟩, .slice none 0 0] 24)).cell? ⟨w.heap.size, 0, none⟩ = some (.string ⟨sf.toArray⟩) := e0 0
  have x1 : ((w.alloc (.cells #[.string ⟨sf.toArray⟩, .slice a0 L.length cap] 24)).alloc (.cells #[.string ⟨#[]⟩, .slice none 0 0] 24)).cell? ⟨w.heap.size, 1, none⟩ = some (.slice a0 L.length cap) := e0 1
  have x2 : ((w.alloc (.cells #[.string ⟨sf.toArray⟩, .slice a0 L.length cap] 24)).alloc (.cells #[.string ⟨#[]⟩, .slice none 0 0] 24)).cell? ⟨w.heap.size + 1, 0, none⟩ = some (.string ⟨#[]⟩) := e1 0
  have x3 : ((w.alloc (.cells #[.string ⟨sf.toArray⟩, .slice a0 L.length cap] 24)).alloc (.cells #[.string ⟨#[]⟩, .slice none 0 0] 24)).cell? ⟨w.heap.size + 1, 1, none⟩ = some (.slice none 0 0) := e1 1
  have x4 := e2 0; have x5 := e2 1
  have HX := Lib.hid (And.intro x0 (And.intro x1 (And.intro x2 (And.intro x3 (And.intro x4 x5)))))
  have HW0 := Lib.hid hW0; have HSZ0 := Lib.hid hsz0
  clear e0 e1 e2 x0 x1 x2 x3 x4 x5 hW0 hsz0
  generalize World.alloc _ _ = W0 at *
  go_loopw [3, 12] (fun vl vi wr => ∃ (k : Nat) (v : Value), k ≤ L.length ∧ vl = v ∧ vi = .int .i64 k ∧ wr.ownsRow W0.heap.size 49 7 v ((L.take k).map canonC).length (flatC ((L.take k).map canonC)) ∧ Below W0.heap.size W0 wr) (fun _ vi _ => L.length - (intOf vi).toNat)
  case atStart => exact ⟨0, _, Nat.zero_le _, rfl, rfl, World.ownsRow_nil _ _ _ _, Below.refl _ _⟩
  case round =>
    obtain ⟨k, v, hk, rfl, rfl, hown, hbr⟩ := hrel
    have OWN := Lib.hid hown; have HBR := Lib.hid hbr
    have hbw : Below w.heap.size w wr := btrans HW0.out hbr
    have hlen : ((L.take k).map canonC).length = k := by rw [List.length_map, List.length_take]; omega
    have HLEN := Lib.hid hlen
    clear hown hlen
    by_cases hlt : k < L.length
    · have i1 : (k : Int) < (L.length : Int) := by omega
      have i0' : (0 : Int) ≤ (k : Int) := by omega
      obtain ⟨a, rfl, v0, v1, v2, v3, v4, v5, v6⟩ := (HL.out.below hbw) k hlt
      have hni (W : World) := ccanon_any (L[k]'hlt).name (L[k]'hlt).op (L[k]'hlt).val.kind (L[k]'hlt).val.int (L[k]'hlt).val.num (L[k]'hlt).val.text (L[k]'hlt).val.yes W
      have e : canonC ⟨(L[k]'hlt).name, (L[k]'hlt).op, (L[k]'hlt).val.kind, (L[k]'hlt).val.int, (L[k]'hlt).val.num, (L[k]'hlt).val.text, (L[k]'hlt).val.yes⟩ = canonC (L[k]'hlt) := rfl
      rw [e] at hni
      clear e
      have hstep : (L.take (k + 1)).map canonC = (L.take k).map canonC ++ [canonC (L[k]'hlt)] := by rw [List.take_succ_eq_append_getElem hlt, List.map_append]; rfl
      generalize canonC (L[k]'hlt) = cn at *
      generalize (L[k]'hlt) = x at *
      have HN := Lib.hid hni; have HSTEP := Lib.hid hstep
      clear hni hstep hbr hbw
      obtain ⟨cn1, cn2, cn3, cn4, cn5, cn6, cn7⟩ := cn
      go_wp2_with (first
        | (go_at_call 16; refine (HN.out _).mono ?_; rintro e w3 ⟨rfl, hb3⟩; have HB3 := Lib.hid hb3; have OWN3 := Lib.hid (own_low7 (OWN.out.alloc _) hb3); clear hb3)
        | (at_builtin; refine wpList_append_own _ rfl _ _ 22 rfl W0.heap.size 49 i0 (.agg #[.string .empty, .int .i64 0, .int .i64 0, .int .i64 0, .float .f64 0, .string .empty, .bool false]) 7 72 Tryz.underlying22 hi hz0 hz1 hz2 rfl (by decide) _ _ _ rfl (OWN3.out.alloc _) ⟨w3.heap.size, 0, none⟩ 1 1 (flatC [⟨cn1, cn2, cn3, cn4, cn5, cn6, cn7⟩]) rfl rfl ?news (flatC_one _) (by unfold maxLen; have := HLEN.out; omega) (by have := HLEN.out; omega) (by have := HB3.out.size; have := HBR.out.size; simp at *; omega) ?_; rotate_left; (case news => exact new_cond w3 _ rfl _ _); intro v' w4 hown' hgrow3 hnil3)
        | fail)
      have hb4 : Below W0.heap.size W0 w4 := Below.grown (btrans (btrans HBR.out (btrans (balloc _ _) HB3.out)) (balloc _ _)) hgrow3 (by have := HB3.out.size; have := HBR.out.size; simp at *; omega) (fun q hq => (OWN3.out.lt q hq).1)
      refine ⟨⟨k + 1, v', by omega, rfl, by go_num, ?_, hb4⟩, by simp [intOf]; go_num⟩
      rw [HSTEP.out, List.length_append, flatC_app]
      exact hown'
    · obtain rfl : k = L.length := by omega
      have own := OWN.out
      rw [List.take_length] at own
      clear OWN HLEN
      have hsl : (L.map canonC).length = L.length := List.length_map ..
      have HBW := Lib.hid hbw
      clear hbr hbw
      by_cases hL0 : 0 < L.length
      · obtain ⟨g, cp, Z, rfl, hgb, hrow⟩ := own_row own (by rw [hsl]; exact hL0)
        have HSZW := HSZ0.out
        have hsm : ∀ c ∈ L.map canonC, CSmall c ∧ 0 ≤ c.op ∧ c.op ≤ 7 := fun c hc => by
          obtain ⟨d, hd, rfl⟩ := List.mem_map.1 hc
          exact canon_small (HS.out d hd)
        have hso := sort_any (L.map canonC) Z g cp w wr HW.out HT.out (by omega) HBW.out hrow (fun c hc => (hsm c hc).1) (by rw [hsl]; exact hlm) (by rw [hsl]; exact hL0)
        have hSl : (sortC (L.map canonC)).length = L.length := by unfold sortC; rw [isort_len, hsl]
        have hSm : ∀ c ∈ sortC (L.map canonC), CSmall c ∧ 0 ≤ c.op ∧ c.op ≤ 7 := fun c hc => hsm c (isort_mem _ _ (by rw [hsl]; omega) c hc)
        have hnorm : normL L = keepC (sortC (L.map canonC)) L.length := rfl
        have hsc : sortC (L.map canonC) = isort (L.map canonC) ((L.map canonC).length - 1) := rfl
        rw [← hsc] at hso
        rw [hsl] at hso ⊢
        have hN2 := HNN.out
        rw [hnorm] at hN2
        generalize sortC (L.map canonC) = S at *
        have HSO := Lib.hid hso; have HSM := Lib.hid hSm; have HSL := Lib.hid hSl; have HN2 := Lib.hid hN2
        clear hN2 hso hSm hSl hsm hnorm hsc own hrow HSZW
        go_wp2_with fail
        refine HSO.out.mono ?_
        rintro e w5 ⟨rfl, hrow5, hb5⟩
        have hb05 : Below W0.heap.size W0 w5 := HBR.out.trans (hb5.mono hgb)
        obtain ⟨x0, x1, x2, x3, x4, x5⟩ := HX.out
        have hcl : ∀ b o, b < W0.heap.size → w5.cell? ⟨b, o, none⟩ = W0.cell? ⟨b, o, none⟩ := fun b o h => hb05.cell (p := ⟨b, o, none⟩) h
        have hfl : ∀ b o, b < W0.heap.size → w5.frozen? ⟨b, o, none⟩ = W0.frozen? ⟨b, o, none⟩ := fun b o h => hb05.frozen (p := ⟨b, o, none⟩) h
        have hz := HSZ0.out
        replace x0 := (hcl _ _ (by omega)).trans x0
        replace x1 := (hcl _ _ (by omega)).trans x1
        replace x2 := (hcl _ _ (by omega)).trans x2
        replace x3 := (hcl _ _ (by omega)).trans x3
        replace x4 := (hfl _ _ (by omega)).trans x4
        replace x5 := (hfl _ _ (by omega)).trans x5
        have hsz5 := hb05.size
        have hw5 : w.heap.size < w5.heap.size := by omega
        have hw51 : w.heap.size + 1 < w5.heap.size := by omega
        have hg5 : g < w5.heap.size := hrow5.lt
        have hgw : w.heap.size + 1 < g := by omega
        have HROW5 := Lib.hid hrow5; have HB05 := Lib.hid hb05; have HGW := Lib.hid hgw
        clear hrow5 hb5 hb05 hcl hfl hz hsz5 hgw HSO HBR HBW HX HSZ0
        go_wp2_with fail
        have HF5 := Lib.hid (And.intro x2 (And.intro x3 (And.intro x4 x5)))
        clear x0 x1 x2 x3 x4 x5
        go_loopw [29] (fun vi wr => ∃ (kk : Nat) (v : Value), kk ≤ L.length ∧ vi = .int .i64 kk ∧ wr.cell? ⟨w5.heap.size, 0, none⟩ = some (.string ⟨sf.toArray⟩) ∧ wr.cell? ⟨w5.heap.size, 1, none⟩ = some v ∧ wr.frozen? ⟨w5.heap.size, 1, none⟩ = false ∧
          wr.ownsRow (w5.heap.size + 1) 49 7 v (keepC S kk).length (flatC (keepC S kk)) ∧ w5.heap.size + 1 ≤ wr.heap.size ∧ Below w5.heap.size w5 wr) (fun vi _ => L.length - (intOf vi).toNat)
        case atStart => refine ⟨0, .slice none 0 0, Nat.zero_le _, rfl, ?_, ?_, ?_, World.ownsRow_nil _ _ _ _, ?_, balloc _ _⟩ <;> simp [go_sem]
        case round =>
          obtain ⟨kk, v, hk, rfl, o0, o1, ofz, hown, hsz, hbr⟩ := hrel
          have hne : w5.heap.size < wr.heap.size := by omega
          have OWN := Lib.hid hown
          clear hown
          have hkl := keepC_len S kk
          by_cases hlt : kk < L.length
          · have i1 : (kk : Int) < (L.length : Int) := by omega
            have i0' : (0 : Int) ≤ (kk : Int) := by omega
            have hkS : kk < S.length := by rw [HSL.out]; exact hlt
            have hrow : Row wr g S Z := HROW5.out.below hbr hg5
            obtain ⟨v0, v1, v2, v3, v4, v5, v6⟩ := hrow.cat kk hkS
            have hnd (W : World) (h : Row W g S Z) := needless_any S Z g cp kk W h hkS (by rw [HSL.out]; omega) (fun c hc => ⟨(HSM.out c hc).2.1, (HSM.out c hc).2.2, (HSM.out c hc).1.2.2.1⟩)
            rw [HSL.out] at hnd
            have hks : keepC S (kk + 1) = keepC S kk ++ (if needB S kk then [] else [S[kk]'hkS]) := by rw [keepC, getElem!_pos S kk hkS]
            generalize (S[kk]'hkS) = x at *
            obtain ⟨cn1, cn2, cn3, cn4, cn5, cn6, cn7⟩ := x
            simp only at v0 v1 v2 v3 v4 v5 v6
            have HND := Lib.hid hnd; have HKS := Lib.hid hks; have HROWR := Lib.hid hrow; have HBR2 := Lib.hid hbr
            clear hnd hks hrow hbr
            have hgr : g < wr.heap.size := HROWR.out.lt
            cases hn : needB S kk
            · rw [hn] at HND HKS
              clear hn
              go_wp2_with (first
                | (go_at_call 21; refine (HND.out _ (HROWR.out.below (balloc _ _) HROWR.out.lt)).mono ?_; rintro e w6 ⟨rfl, hb6⟩; have HB6 := Lib.hid hb6; obtain ⟨hc6, hf6⟩ := bcell hb6)
                | (at_builtin; refine wpList_append_own _ rfl _ _ 22 rfl (w5.heap.size + 1) 49 i0 (.agg #[.string .empty, .int .i64 0, .int .i64 0, .int .i64 0, .float .f64 0, .string .empty, .bool false]) 7 72 Tryz.underlying22 hi hz0 hz1 hz2 rfl (by decide) v _ _ rfl ((own_low7 (OWN.out.alloc _) HB6.out).alloc _) ⟨w6.heap.size, 0, none⟩ 1 1 (flatC [⟨cn1, cn2, cn3, cn4, cn5, cn6, cn7⟩]) rfl rfl ?news (flatC_one _) (by unfold maxLen; omega) (by omega) (by have := HB6.out.size; simp at *; omega) ?_; rotate_left; (case news => exact new_cond w6 _ rfl _ _); intro v' w4 hown' hgrow3 hnil3; have hb7 := btrans (btrans (balloc wr (.cells #[.string ⟨cn1.toArray⟩, .int .i64 cn2, .int .i64 cn3, .int .i64 cn4, .float .f64 cn5, .string ⟨cn6.toArray⟩, .bool cn7] 49)) HB6.out) (balloc w6 (.cells #[.string ⟨cn1.toArray⟩, .int .i64 cn2, .int .i64 cn3, .int .i64 cn4, .float .f64 cn5, .string ⟨cn6.toArray⟩, .bool cn7] 49)); have hsz7 := hb7.size; have hg1 := hgrow3.block w5.heap.size (by omega) (fun h => by have := (OWN.out.lt _ h.symm).1; omega); have p0 := (World.cell?_of_block (a := ⟨w5.heap.size, 0, none⟩) hg1).trans ((hb7.cell (p := ⟨w5.heap.size, 0, none⟩) hne).trans o0); have p1 := (World.cell?_of_block (a := ⟨w5.heap.size, 1, none⟩) hg1).trans ((hb7.cell (p := ⟨w5.heap.size, 1, none⟩) hne).trans o1); have pfz := (World.frozen?_of_block (a := ⟨w5.heap.size, 1, none⟩) hg1).trans ((hb7.frozen (p := ⟨w5.heap.size, 1, none⟩) hne).trans ofz); have hb4 : Below w5.heap.size w5 w4 := Below.grown (HBR2.out.trans (hb7.mono (Nat.le_of_lt hne))) hgrow3 (by omega) (fun q hq => by have := (OWN.out.lt q hq).1; omega); have hsz4 : w5.heap.size + 1 ≤ w4.heap.size := (by have := hgrow3.size; omega); have hown2 : w4.ownsRow (w5.heap.size + 1) 49 7 v' (keepC S kk ++ [(⟨cn1, cn2, cn3, cn4, cn5, cn6, cn7⟩ : C)]).length (flatC (keepC S kk ++ [(⟨cn1, cn2, cn3, cn4, cn5, cn6, cn7⟩ : C)])) := (by rw [flatC_app, List.length_append]; exact hown'); obtain ⟨b1, cp1, hv1, _⟩ := own_conds hown2; subst hv1; have OWN4 := Lib.hid hown2; have HB4 := Lib.hid hb4; clear hown' hown2 hgrow3 hnil3 hb7 hg1 hb4 hc6 hf6)
                | fail)
              refine ⟨⟨kk + 1, _, by omega, by go_num, (World.cell?_setCell_other _ _ _ _ (by simp)).trans p0, World.cell?_setCell_same _ _ _ p1, by rw [World.frozen?_setCell]; exact pfz, ?_, by simpa [World.setCell] using hsz4, HB4.out.setCell (Nat.le_refl _) _⟩, by simp [intOf]; go_num⟩
              have o4 := OWN4.out
              rw [HKS.out]
              have el : (keepC S kk ++ [(⟨cn1, cn2, cn3, cn4, cn5, cn6, cn7⟩ : C)]).length = (keepC S kk).length + 1 := by simp
              rw [el] at o4
              show World.ownsRow _ _ _ _ _ (keepC S kk ++ [(⟨cn1, cn2, cn3, cn4, cn5, cn6, cn7⟩ : C)]).length (flatC (keepC S kk ++ [(⟨cn1, cn2, cn3, cn4, cn5, cn6, cn7⟩ : C)]))
              rw [el]
              exact ownsRow_setCell_below (a := ⟨w5.heap.size, 1, none⟩) o4 (by show w5.heap.size < w5.heap.size + 1; omega) _
            · rw [hn] at HND HKS
              clear hn
              go_wp2_with (first
                | (go_at_call 21; refine (HND.out _ (HROWR.out.below (balloc _ _) HROWR.out.lt)).mono ?_; rintro e w6 ⟨rfl, hb6⟩; have HB6 := Lib.hid hb6; obtain ⟨hc6, hf6⟩ := bcell hb6)
                | fail)
              have hb8 := btrans (balloc wr (.cells #[.string ⟨cn1.toArray⟩, .int .i64 cn2, .int .i64 cn3, .int .i64 cn4, .float .f64 cn5, .string ⟨cn6.toArray⟩, .bool cn7] 49)) HB6.out
              refine ⟨⟨kk + 1, v, by omega, by go_num, (hb8.cell (p := ⟨w5.heap.size, 0, none⟩) hne).trans o0, (hb8.cell (p := ⟨w5.heap.size, 1, none⟩) hne).trans o1, (hb8.frozen (p := ⟨w5.heap.size, 1, none⟩) hne).trans ofz, ?_, Nat.le_trans hsz hb8.size, HBR2.out.trans (hb8.mono (Nat.le_of_lt hne))⟩, by simp [intOf]; go_num⟩
              rw [HKS.out]
              simpa using own_low7 OWN.out hb8
          · obtain rfl : kk = L.length := by omega
            have i1 : ¬ ((L.length : Nat) : Int) < (L.length : Int) := by omega
            have own2 := OWN.out
            rw [HN2.out] at own2
            clear OWN hkl
            obtain ⟨y2, y3, y4, y5⟩ := HF5.out
            have hgw := HGW.out
            have z2 := (hbr.cell (p := ⟨w.heap.size + 1, 0, none⟩) hw51).trans y2
            have z3 := (hbr.cell (p := ⟨w.heap.size + 1, 1, none⟩) hw51).trans y3
            have z4 := (hbr.frozen (p := ⟨w.heap.size + 1, 0, none⟩) hw51).trans y4
            have z5 := (hbr.frozen (p := ⟨w.heap.size + 1, 1, none⟩) hw51).trans y5
            have hbw2 : Below w.heap.size w wr := (HW0.out.trans (HB05.out.mono HW0.out.size)).trans (hbr.mono (by omega))
            obtain ⟨b0, cp0, rfl, hcn⟩ := own_conds own2
            clear y2 y3 y4 y5
            go_wp2
            have e0 : ((wr.setCell ⟨w.heap.size + 1, 0, none⟩ (.string ⟨sf.toArray⟩)).setCell ⟨w.heap.size + 1, 1, none⟩ (.slice b0 N.length cp0)).cell? ⟨w.heap.size + 1, 0, none⟩ = some (.string ⟨sf.toArray⟩) := (World.cell?_setCell_other _ _ _ _ (by simp)).trans (World.cell?_setCell_same _ _ _ z2)
            have e1 : ((wr.setCell ⟨w.heap.size + 1, 0, none⟩ (.string ⟨sf.toArray⟩)).setCell ⟨w.heap.size + 1, 1, none⟩ (.slice b0 N.length cp0)).cell? ⟨w.heap.size + 1, 1, none⟩ = some (.slice b0 N.length cp0) := World.cell?_setCell_same _ _ _ ((World.cell?_setCell_other _ _ _ _ (by simp)).trans z3)
            have ow := ownsRow_setCell_below (a := ⟨w.heap.size + 1, 1, none⟩) (ownsRow_setCell_below (a := ⟨w.heap.size + 1, 0, none⟩) own2 (by show w.heap.size + 1 < w5.heap.size + 1; omega) (.string ⟨sf.toArray⟩)) (by show w.heap.size + 1 < w5.heap.size + 1; omega) (.slice b0 N.length cp0)
            have hbb := (hbw2.setCell (p := ⟨w.heap.size + 1, 0, none⟩) (by simp) (.string ⟨sf.toArray⟩)).setCell (p := ⟨w.heap.size + 1, 1, none⟩) (by simp) (.slice b0 N.length cp0)
            generalize World.setCell _ _ _ = W2 at *
            refine bodyPost_ret (v := ev sf b0 N.length cp0) (by simp [results, Tryz.results7, go_sem, e0, e1]; try rfl) rfl ?_
            obtain ⟨b1, cp1, he, hat2⟩ := own_conds ow
            cases he
            exact ⟨b0, ⟨cp0, rfl⟩, hat2, hbb⟩
      · obtain rfl : L = [] := List.length_eq_zero_iff.1 (by omega)
        obtain ⟨a1, cp1, rfl, _⟩ := own_conds own
        have hN2 : N = [] := HNN.out.symm
        subst hN2
        go_wp2_with fail
        refine (sort_none _ _ _).mono ?_
        rintro e w5 ⟨rfl, hb5⟩
        have hb05 : Below W0.heap.size W0 w5 := btrans HBR.out hb5
        obtain ⟨x0, x1, x2, x3, x4, x5⟩ := HX.out
        have hcl : ∀ b o, b < W0.heap.size → w5.cell? ⟨b, o, none⟩ = W0.cell? ⟨b, o, none⟩ := fun b o h => hb05.cell (p := ⟨b, o, none⟩) h
        have hfl : ∀ b o, b < W0.heap.size → w5.frozen? ⟨b, o, none⟩ = W0.frozen? ⟨b, o, none⟩ := fun b o h => hb05.frozen (p := ⟨b, o, none⟩) h
        have hz := HSZ0.out
        replace x0 := (hcl _ _ (by omega)).trans x0
        replace x1 := (hcl _ _ (by omega)).trans x1
        replace x2 := (hcl _ _ (by omega)).trans x2
        replace x3 := (hcl _ _ (by omega)).trans x3
        replace x4 := (hfl _ _ (by omega)).trans x4
        replace x5 := (hfl _ _ (by omega)).trans x5
        have hsz5 := hb05.size
        have hw5 : w.heap.size < w5.heap.size := by omega
        have hw51 : w.heap.size + 1 < w5.heap.size := by omega
        have hbw5 : Below w.heap.size w w5 := HW0.out.trans (hb05.mono HW0.out.size)
        have HBW5 := Lib.hid hbw5
        clear hb5 hb05 hcl hfl hz hsz5 HBR HBW HX HSZ0 own hsl hbw5
        go_wp2_with fail
        go_loopw [29] (fun vi wr => vi = .int .i64 0 ∧ wr = w5.alloc (.cells #[.string ⟨sf.toArray⟩, .slice none 0 0] 24)) (fun _ _ => 0)
        case atStart => exact ⟨rfl, rfl⟩
        case round =>
          obtain ⟨rfl, rfl⟩ := hrel
          go_wp2_with fail
          have f0 : ((w5.setCell ⟨w.heap.size + 1, 0, none⟩ (.string ⟨sf.toArray⟩)).setCell ⟨w.heap.size + 1, 1, none⟩ (.slice none 0 0)).cell? ⟨w.heap.size + 1, 0, none⟩ = some (.string ⟨sf.toArray⟩) := (World.cell?_setCell_other _ _ _ _ (by simp)).trans (World.cell?_setCell_same _ _ _ x2)
          have f1 : ((w5.setCell ⟨w.heap.size + 1, 0, none⟩ (.string ⟨sf.toArray⟩)).setCell ⟨w.heap.size + 1, 1, none⟩ (.slice none 0 0)).cell? ⟨w.heap.size + 1, 1, none⟩ = some (.slice none 0 0) := World.cell?_setCell_same _ _ _ ((World.cell?_setCell_other _ _ _ _ (by simp)).trans x3)
          have hbb := (HBW5.out.setCell (p := ⟨w.heap.size + 1, 0, none⟩) (by simp) (.string ⟨sf.toArray⟩)).setCell (p := ⟨w.heap.size + 1, 1, none⟩) (by simp) (.slice none 0 0)
          have hlt1 : w.heap.size + 1 < ((w5.setCell ⟨w.heap.size + 1, 0, none⟩ (.string ⟨sf.toArray⟩)).setCell ⟨w.heap.size + 1, 1, none⟩ (.slice none 0 0)).heap.size := by simpa [World.setCell] using hw51
          generalize ((w5.setCell ⟨w.heap.size + 1, 0, none⟩ (.string ⟨sf.toArray⟩)).setCell ⟨w.heap.size + 1, 1, none⟩ (.slice none 0 0)) = W1 at *
          have e0 : (W1.alloc (.cells #[.string ⟨sf.toArray⟩, .slice none 0 0] 24)).cell? ⟨w.heap.size + 1, 0, none⟩ = some (.string ⟨sf.toArray⟩) := ((balloc W1 _).cell (p := ⟨w.heap.size + 1, 0, none⟩) hlt1).trans f0
          have e1 : (W1.alloc (.cells #[.string ⟨sf.toArray⟩, .slice none 0 0] 24)).cell? ⟨w.heap.size + 1, 1, none⟩ = some (.slice none 0 0) := ((balloc W1 _).cell (p := ⟨w.heap.size + 1, 1, none⟩) hlt1).trans f1
          have hbz := btrans hbb (balloc W1 (.cells #[.string ⟨sf.toArray⟩, .slice none 0 0] 24))
          generalize World.alloc _ _ = W2 at *
          refine bodyPost_ret (v := ev sf none 0 0) (by simp [results, Tryz.results7, go_sem, e0, e1]; try rfl) rfl ?_
          exact ⟨none, 0, rfl, conds_nil _ _, hbz⟩
end Go.Proofs.YtpbdgbejcdncgaaGreatDoor.Val
end

section
/- ATTRIBUTES in a row: their cells one behind the other. -/
namespace Go.Proofs.YtpbdgbejcdncgaaGreatDoor.Val
open Go.RowKit Flt
def cells6 (a : A) : List Value := [.string ⟨a.name.toArray⟩, .int .i64 a.val.kind, .int .i64 a.val.int, .float .f64 a.val.num, .string ⟨a.val.text.toArray⟩, .bool a.val.yes]
def flatA (l : List A) : List Value := l.flatMap cells6
end Go.Proofs.YtpbdgbejcdncgaaGreatDoor.Val
end

section
/- PLAIN LAW OF EVENTS: attributes that rise by their names, what the search finds among them, what New makes. No program in sight. -/
namespace Go.Proofs.YtpbdgbejcdncgaaGreatDoor.Val
open Flt
theorem cb_anti (a b : List UInt8) : (Lib.compareBytes a b < 0 ↔ 0 < Lib.compareBytes b a) ∧ (Lib.compareBytes a b = 0 ↔ Lib.compareBytes b a = 0) := by
  have h1 := cb_ord a b a
  have h2 := cb_ord b a b
  rw [(cb_zero a a).2 rfl] at h1
  rw [(cb_zero b b).2 rfl] at h2
  have h3 := cb_zero a b
  have h4 := cb_zero b a
  unfold Ord3 at h1 h2
  refine ⟨by omega, ?_⟩
  rw [h3, h4]; exact eq_comm
theorem cb_trans {a b c : List UInt8} (h1 : Lib.compareBytes a b < 0) (h2 : Lib.compareBytes b c < 0) : Lib.compareBytes a c < 0 := (cb_lt a b c).1 h1 h2
end Go.Proofs.YtpbdgbejcdncgaaGreatDoor.Val
end

section
/- THE WALK OF event.New. -/
namespace Go.Proofs.YtpbdgbejcdncgaaGreatDoor.Val
open Go.RowKit Flt
/-- what the walk knows of the blocks of the call between two rounds -/
def NewAt (N : Nat) (sc : List UInt8) (v : Value) (l : List A) (W : World) : Prop :=
  W.cell? ⟨N + 1, 0, none⟩ = some (.string ⟨sc.toArray⟩) ∧ W.cell? ⟨N + 1, 1, none⟩ = some v ∧ W.frozen? ⟨N + 1, 1, none⟩ = false ∧
    (W.cell? ⟨N, 0, none⟩).isSome = true ∧ (W.cell? ⟨N, 1, none⟩).isSome = true ∧ W.frozen? ⟨N, 0, none⟩ = false ∧ W.frozen? ⟨N, 1, none⟩ = false ∧
    W.ownsRow (N + 2) 89 6 v l.length (flatA l) ∧ N + 2 ≤ W.heap.size
theorem NewAt.below_at {N B : Nat} {sc : List UInt8} {v : Value} {l : List A} {W W2 : World} (h : NewAt N sc v l W) (hb : Below B W W2) (hN : N + 2 ≤ B) (hv : ∀ k, v.ownBlock = some k → k < B) : NewAt N sc v l W2 := by
  obtain ⟨o0, o1, ofz, r0, r1, rf0, rf1, hown, hsz⟩ := h
  obtain ⟨_, _, _, hs, hk⟩ := hb
  have g1 := hk (N + 1) (by omega)
  have g0 := hk N (by omega)
  refine ⟨(World.cell?_of_block (a := ⟨N + 1, 0, none⟩) g1).trans o0, (World.cell?_of_block (a := ⟨N + 1, 1, none⟩) g1).trans o1, (World.frozen?_of_block (a := ⟨N + 1, 1, none⟩) g1).trans ofz,
    (congrArg Option.isSome (World.cell?_of_block (a := ⟨N, 0, none⟩) g0)).trans r0, (congrArg Option.isSome (World.cell?_of_block (a := ⟨N, 1, none⟩) g0)).trans r1,
    (World.frozen?_of_block (a := ⟨N, 0, none⟩) g0).trans rf0, (World.frozen?_of_block (a := ⟨N, 1, none⟩) g0).trans rf1, ⟨hown.1, ?_⟩, Nat.le_trans hsz hs⟩
  rcases hown.2 with h0 | ⟨g, c, cur, rfl, h2, h3, h4⟩
  · exact Or.inl h0
  · exact Or.inr ⟨g, c, cur, rfl, h2, (hk g (hv g rfl)).trans h3, h4⟩
theorem NewAt.below {N : Nat} {sc : List UInt8} {v : Value} {l : List A} {W W2 : World} (h : NewAt N sc v l W) (hb : Below W.heap.size W W2) : NewAt N sc v l W2 :=
  h.below_at hb h.2.2.2.2.2.2.2.2 (fun k hk => (h.2.2.2.2.2.2.2.1.lt k hk).2)
/-- what New lays of an attribute in its box -/
def BoxA (W : World) (b : Nat) (a : A) : Prop :=
  W.cell? ⟨b, 0, none⟩ = some (.string ⟨a.name.toArray⟩) ∧ W.cell? ⟨b, 1, none⟩ = some (.int .i64 a.val.kind) ∧ W.cell? ⟨b, 2, none⟩ = some (.int .i64 a.val.int) ∧ W.cell? ⟨b, 3, none⟩ = some (.float .f64 a.val.num) ∧ W.cell? ⟨b, 4, none⟩ = some (.string ⟨a.val.text.toArray⟩) ∧ W.cell? ⟨b, 5, none⟩ = some (.bool a.val.yes)
theorem BoxA.below {W W2 : World} {b : Nat} {a : A} (h : BoxA W b a) (hb : Below W.heap.size W W2) : BoxA W2 b a := by
  obtain ⟨h0, h1, h2, h3, h4, h5⟩ := h
  exact ⟨(hb.cell (World.block_lt_of_cell? _ _ h0)).trans h0, (hb.cell (World.block_lt_of_cell? _ _ h1)).trans h1, (hb.cell (World.block_lt_of_cell? _ _ h2)).trans h2, (hb.cell (World.block_lt_of_cell? _ _ h3)).trans h3, (hb.cell (World.block_lt_of_cell? _ _ h4)).trans h4, (hb.cell (World.block_lt_of_cell? _ _ h5)).trans h5⟩
theorem NewAt.kept {N : Nat} {sc : List UInt8} {v v' : Value} {l l' : List A} {W W2 : World} {row : Option Nat} (h : NewAt N sc v l W) (hg : W.grownBy W2 row) (hrow : ∀ k, row = some k → N + 2 ≤ k) (hown' : W2.ownsRow (N + 2) 89 6 v' l'.length (flatA l')) :
    NewAt N sc v' l' (W2.setCell ⟨N + 1, 1, none⟩ v') := by
  obtain ⟨o0, o1, ofz, r0, r1, rf0, rf1, hown, hsz⟩ := h
  have g1 := hg.block (N + 1) (by omega) (fun e => by have := hrow _ e.symm; omega)
  have g0 := hg.block N (by omega) (fun e => by have := hrow _ e.symm; omega)
  have p1 := (World.cell?_of_block (a := ⟨N + 1, 1, none⟩) g1).trans o1
  refine ⟨(World.cell?_setCell_other _ _ _ _ (by simp)).trans ((World.cell?_of_block (a := ⟨N + 1, 0, none⟩) g1).trans o0), World.cell?_setCell_same _ _ _ p1, by rw [World.frozen?_setCell]; exact (World.frozen?_of_block (a := ⟨N + 1, 1, none⟩) g1).trans ofz,
    (congrArg Option.isSome (World.cell?_setCell_other _ _ _ _ (by simp))).trans ((congrArg Option.isSome (World.cell?_of_block (a := ⟨N, 0, none⟩) g0)).trans r0),
    (congrArg Option.isSome (World.cell?_setCell_other _ _ _ _ (by simp))).trans ((congrArg Option.isSome (World.cell?_of_block (a := ⟨N, 1, none⟩) g0)).trans r1),
    by rw [World.frozen?_setCell]; exact (World.frozen?_of_block (a := ⟨N, 0, none⟩) g0).trans rf0, by rw [World.frozen?_setCell]; exact (World.frozen?_of_block (a := ⟨N, 1, none⟩) g0).trans rf1, ?_, ?_⟩
  · exact ownsRow_setCell_below hown' (by show N + 1 < N + 2; omega) _
  · have := hg.size; simp [World.setCell]; omega
/-- a store in place: nothing but the row turns -/
theorem NewAt.same {N : Nat} {sc : List UInt8} {v : Value} {l l' : List A} {W W2 : World} {row : Option Nat} (h : NewAt N sc v l W) (hg : W.grownBy W2 row) (hrow : ∀ k, row = some k → N + 2 ≤ k) (hown' : W2.ownsRow (N + 2) 89 6 v l'.length (flatA l')) :
    NewAt N sc v l' W2 := by
  obtain ⟨o0, o1, ofz, r0, r1, rf0, rf1, hown, hsz⟩ := h
  have g1 := hg.block (N + 1) (by omega) (fun e => by have := hrow _ e.symm; omega)
  have g0 := hg.block N (by omega) (fun e => by have := hrow _ e.symm; omega)
  exact ⟨(World.cell?_of_block (a := ⟨N + 1, 0, none⟩) g1).trans o0, (World.cell?_of_block (a := ⟨N + 1, 1, none⟩) g1).trans o1, (World.frozen?_of_block (a := ⟨N + 1, 1, none⟩) g1).trans ofz,
    (congrArg Option.isSome (World.cell?_of_block (a := ⟨N, 0, none⟩) g0)).trans r0, (congrArg Option.isSome (World.cell?_of_block (a := ⟨N, 1, none⟩) g0)).trans r1,
    (World.frozen?_of_block (a := ⟨N, 0, none⟩) g0).trans rf0, (World.frozen?_of_block (a := ⟨N, 1, none⟩) g0).trans rf1, hown', Nat.le_trans hsz hg.size⟩
attribute [local go_sem] run_store_flt
end Go.Proofs.YtpbdgbejcdncgaaGreatDoor.Val
end

section
/- THE WALK OF the fit of chapter 03's laws. -/
namespace Go.Proofs.YtpbdgbejcdncgaaGreatDoor.Val
open Go.RowKit Flt
attribute [local go_sem] run_store_flt
end Go.Proofs.YtpbdgbejcdncgaaGreatDoor.Val
end

section
/- THE WALK OF light of chapter 03's laws; of a name the last attribute. -/
namespace Go.Proofs.YtpbdgbejcdncgaaGreatDoor.Val
open Go.RowKit Flt
attribute [local go_sem] run_store_flt
end Go.Proofs.YtpbdgbejcdncgaaGreatDoor.Val
end

section
/- THE WALK OF event.Same. -/
namespace Go.Proofs.YtpbdgbejcdncgaaGreatDoor.Val
open Go.RowKit Flt
attribute [local go_sem] run_store_flt
end Go.Proofs.YtpbdgbejcdncgaaGreatDoor.Val
end

section
/- THE WALKS OF event.kept and event.Right. -/
namespace Go.Proofs.YtpbdgbejcdncgaaGreatDoor.Val
open Go.RowKit Flt
attribute [local go_sem] run_store_flt Ord.ford_eq
theorem run_equalIn_flt {P : Program} (w : World) (d : Nat) (t : TypeId) (a b : Nat) (h : P.underlying t = some (.float .f64)) : (Op.equalIn (d + 1) t (.float .f64 a) (.float .f64 b)).run P w = .ok (Flt.eq a b) w := by
  simp [Op.equalIn, run_underlying h, Op.floatEq, Ord.ford_eq]
theorem eqF (a b : Nat) (w : World) : (Op.equalIn 9999 45 (.float .f64 a) (.float .f64 b)).run Tryz.prog w = .ok (Flt.eq a b) w := run_equalIn_flt w 9998 _ a b Tryz.underlying45
attribute [local go_sem] eqF
end Go.Proofs.YtpbdgbejcdncgaaGreatDoor.Val
end

section
/- THE WALK OF event.Right. -/
namespace Go.Proofs.YtpbdgbejcdncgaaGreatDoor.Val
open Go.RowKit Flt
attribute [local go_sem] run_store_flt
end Go.Proofs.YtpbdgbejcdncgaaGreatDoor.Val
end

section
/- PLAIN FUNCTIONS ON TEXTS: names, what stands between the /, scopes, what is below a scope. No program in sight. -/
namespace Go.Proofs.YtpbdgbejcdncgaaGreatDoor.Sc

/-- what stands between the / -/
def parts : List UInt8 → List (List UInt8)
  | [] => [[]]
  | b :: r => if b = 47 then [] :: parts r else
    match parts r with
    | [] => [[b]]
    | p :: q => (b :: p) :: q
theorem parts_ne (l : List UInt8) : parts l ≠ [] := by
  cases l with
  | nil => simp [parts]
  | cons b r =>
    unfold parts; split
    · simp
    · split <;> simp
theorem parts_cons {c : UInt8} {r p : List UInt8} {q : List (List UInt8)} (hc : ¬ c = 47) (h : parts r = p :: q) : parts (c :: r) = (c :: p) :: q := by
  rw [parts, if_neg hc, h]
theorem parts_slash (a b : List UInt8) (h : 47 ∉ a) : parts (a ++ 47 :: b) = a :: parts b := by
  induction a with
  | nil => simp [parts]
  | cons c a ih =>
    have hc : ¬ c = 47 := fun e => h (by simp [e])
    have ih := ih (fun m => h (by simp [m]))
    rw [List.cons_append]; exact parts_cons hc ih
theorem parts_none (a : List UInt8) (h : 47 ∉ a) : parts a = [a] := by
  induction a with
  | nil => simp [parts]
  | cons c a ih =>
    have hc : ¬ c = 47 := fun e => h (by simp [e])
    have ih := ih (fun m => h (by simp [m]))
    exact parts_cons hc ih
theorem parts_length (l : List UInt8) : (parts l).length ≤ l.length + 1 := by
  induction l with
  | nil => simp [parts]
  | cons b r ih =>
    unfold parts; split
    · simp; omega
    · split <;> simp_all; omega

/-- the first / -/
theorem slash_cases (l : List UInt8) : (Lib.indexByte l 47 = -1 ∧ 47 ∉ l) ∨
    (∃ a b, l = a ++ 47 :: b ∧ 47 ∉ a ∧ Lib.indexByte l 47 = a.length) := by
  induction l with
  | nil => left; simp [Lib.indexByte]
  | cons c r ih =>
    by_cases hc : c = 47
    · right; exact ⟨[], r, by simp [hc], by simp, by simp [Lib.indexByte, hc]⟩
    · have h1 : (c == (47 : UInt8)) = false := by simp [hc]
      rcases ih with ⟨e, hn⟩ | ⟨a, b, e, hn, hi⟩
      · left; refine ⟨?_, by simp [hn]; exact fun h => hc h.symm⟩
        unfold Lib.indexByte; rw [h1, e]; rfl
      · right
        refine ⟨c :: a, b, by simp [e], by simp [hn]; exact fun h => hc h.symm, ?_⟩
        have h2 : ((a.length : Int) == -1) = false := by rw [beq_eq_false_iff_ne]; omega
        unfold Lib.indexByte; rw [h1, hi, h2]; simp

/-- may it be a scope? -/
def rightB (l : List UInt8) : Bool := l.isEmpty || ((parts l).all nameB && decide ((parts l).length ≤ 4))
end Go.Proofs.YtpbdgbejcdncgaaGreatDoor.Sc
end

section
/- PLAIN LAW OF FILTERS: what covers what, what does; the attributes of the laws' events. No walk. -/
namespace Go.Proofs.YtpbdgbejcdncgaaGreatDoor.Val
open Flt
def fRight (sc : List UInt8) (l : List C) : Bool := l.all cRight && (Sc.rightB sc && decide (l.length ≤ 6))
theorem cright_op7 {c : C} (h : cRight c = true) : 0 ≤ c.op ∧ c.op ≤ 7 := by
  unfold cRight at h; simp at h; exact ⟨h.1.1.2, h.1.2⟩
theorem fright_op {sc : List UInt8} {l : List C} (h : fRight sc l = true) : ∀ c ∈ l, 0 ≤ c.op ∧ c.op ≤ 7 := by
  unfold fRight at h
  simp only [Bool.and_eq_true, List.all_eq_true] at h
  exact fun c hc => cright_op7 (h.1 c hc)
end Go.Proofs.YtpbdgbejcdncgaaGreatDoor.Val
end

section
/- THE WALKS OF event.Name, strings.Cut at a /, scope.Right, scope.Under: each gives its plain function; the world stays as it was, but for draws. -/
namespace Go.Proofs.YtpbdgbejcdncgaaGreatDoor.Sc
open Go.RowKit

/-- nothing but draws -/
def Drawn (w w' : World) : Prop := ∃ n, w' = w.drewN n
theorem Drawn.refl (w : World) : Drawn w w := ⟨0, rfl⟩
theorem Drawn.trans {a b c : World} (h : Drawn a b) (k : Drawn b c) : Drawn a c := by
  obtain ⟨n, rfl⟩ := h; obtain ⟨m, rfl⟩ := k; exact ⟨n + m, by simp [World.drewN, Nat.add_assoc]⟩
theorem Drawn.drew {a b : World} (h : Drawn a b) : Drawn a b.drew := h.trans ⟨1, rfl⟩
theorem Drawn.below {a b : World} (h : Drawn a b) (B : Nat) : Below B a b := by
  obtain ⟨n, rfl⟩ := h; exact ⟨rfl, rfl, rfl, Nat.le_refl _, fun _ _ => rfl⟩
/-- a text by its letters -/
theorem of_data {s : ByteArray} {l : List UInt8} (h : s.data.toList = l) : s = ⟨l.toArray⟩ := by
  subst h; rfl
theorem cutAt_hit (a b : List UInt8) : (⟨(a ++ 47 :: b).toArray⟩ : ByteArray).extract 0 a.length = ⟨a.toArray⟩ ∧ (⟨(a ++ 47 :: b).toArray⟩ : ByteArray).extract (a.length + 1) (⟨(a ++ 47 :: b).toArray⟩ : ByteArray).size = ⟨b.toArray⟩ := by
  constructor
  · apply of_data; rw [Lib.Pa.extract_upto_list]; simp
  · apply of_data; rw [Lib.extract_to_end]; simp
set_option maxHeartbeats 400000 in
theorem lcut_miss (s : ByteArray) (w : World) (hi : Lib.indexByte s.data.toList 47 = -1) :
    Calls Tryz.prog 50 #[.string s, .string ⟨#[47]⟩] w fun e w' => e = .returned (.tuple #[.string s, .string ⟨#[]⟩, .bool false]) ∧ w = w' := by
  go_enter Tryz.func50, Tryz.ntmps50
  go_wp2_with (go_at_call 69; refine (Tryz.stringslite_Index_one _ _ _).mono ?_; rintro e w' ⟨rfl, rfl⟩)
  go_ret3
  exact ⟨rfl, rfl⟩
set_option maxHeartbeats 400000 in
theorem lcut_hit (s : ByteArray) (i : Nat) (w : World) (hs : s.size ≤ maxLen) (hi : Lib.indexByte s.data.toList 47 = i) (hlt : i < s.size) :
    Calls Tryz.prog 50 #[.string s, .string ⟨#[47]⟩] w fun e w' => e = .returned (.tuple #[.string (s.extract 0 i), .string (s.extract (i + 1) s.size), .bool true]) ∧ Drawn w w' := by
  unfold maxLen at hs
  have c1 : (0 : Int) ≤ ↑i := by omega
  have c2 : (↑i : Int) ≤ ↑s.size := by omega
  have c3 : (0 : Int) ≤ ↑i + 1 := by omega
  have c4 : (↑i + 1 : Int) ≤ ↑s.size := by omega
  go_enter Tryz.func50, Tryz.ntmps50
  go_wp2_with (go_at_call 69; refine (Tryz.stringslite_Index_one _ _ _).mono ?_; rintro e w' ⟨rfl, rfl⟩)
  go_region
  all_goals
    go_wp2
    go_ret3
    exact ⟨rfl, 1, rfl⟩

set_option maxHeartbeats 400000 in
theorem cut_none (l : List UInt8) (w : World) (h : 47 ∉ l) :
    Calls Tryz.prog 38 #[.string ⟨l.toArray⟩, .string ⟨#[47]⟩] w fun e w' => e = .returned (.tuple #[.string ⟨l.toArray⟩, .string ⟨#[]⟩, .bool false]) ∧ Drawn w w' := by
  have hi : Lib.indexByte (⟨l.toArray⟩ : ByteArray).data.toList 47 = -1 := by
    rcases slash_cases l with ⟨h1, _⟩ | ⟨a, b, e, _, _⟩
    · exact h1
    · exact absurd (by rw [e]; simp) h
  have HI := Lib.hid hi; clear hi h
  go_enter Tryz.func38, Tryz.ntmps38
  go_wp2_with (go_at_call 50; refine (lcut_miss _ _ HI.out).mono ?_; rintro e w' ⟨rfl, rfl⟩)
  go_ret3
  exact ⟨rfl, Drawn.refl _⟩
set_option maxHeartbeats 400000 in
theorem cut_some (a b : List UInt8) (w : World) (h : 47 ∉ a) (hs : a.length + b.length + 1 ≤ maxLen) :
    Calls Tryz.prog 38 #[.string ⟨(a ++ 47 :: b).toArray⟩, .string ⟨#[47]⟩] w fun e w' => e = .returned (.tuple #[.string ⟨a.toArray⟩, .string ⟨b.toArray⟩, .bool true]) ∧ Drawn w w' := by
  have hz : (⟨(a ++ 47 :: b).toArray⟩ : ByteArray).size = a.length + b.length + 1 := by
    show (a ++ 47 :: b).toArray.size = _
    simp; omega
  have hi : Lib.indexByte (⟨(a ++ 47 :: b).toArray⟩ : ByteArray).data.toList 47 = a.length := by
    rcases slash_cases (a ++ 47 :: b) with ⟨_, h1⟩ | ⟨a', b', e, h2, h3⟩
    · exact absurd (by simp) h1
    · have : a = a' := by
        have e1 := parts_slash a b h
        rw [e, parts_slash a' b' h2] at e1
        exact (List.cons.inj e1).1.symm
      subst this; exact h3
  have hc := lcut_hit ⟨(a ++ 47 :: b).toArray⟩ a.length w (by rw [hz]; exact hs) hi (by rw [hz]; omega)
  rw [(cutAt_hit a b).1, (cutAt_hit a b).2] at hc
  have HC := Lib.hid hc; clear hc hi hz h hs
  go_enter Tryz.func38, Tryz.ntmps38
  go_wp2_with fail
  refine HC.out.mono ?_
  rintro e w' ⟨rfl, hq⟩
  go_wp2
  go_ret3
  exact ⟨rfl, hq⟩

def RightRel (l : List UInt8) (w : World) (n r m : Value) (wr : World) : Prop :=
  ∃ (done : List (List UInt8)) (rest : List UInt8) (more : Bool), n = .int .i64 done.length ∧ r = .string ⟨rest.toArray⟩ ∧ m = .bool more ∧ Drawn w wr ∧
    done.all nameB = true ∧ parts l = done ++ (if more then parts rest else []) ∧ rest.length ≤ l.length
def rightMeas (r m : Value) : Nat := match r, m with
  | .string s, .bool true => s.size + 1
  | _, _ => 0
set_option maxHeartbeats 1000000 in
theorem right_any (s : ByteArray) (w : World) (hs : s.size ≤ maxLen) (hs2 : s.size < 4611686018427387904) :
    Calls Tryz.prog 13 #[.string s] w fun e w' => e = .returned (.bool (rightB s.data.toList)) ∧ Drawn w w' := by
  unfold maxLen at hs
  obtain ⟨l, rfl⟩ : ∃ l : List UInt8, s = ⟨l.toArray⟩ := ⟨s.data.toList, rfl⟩
  by_cases h0 : l = []
  · subst h0
    go_enter Tryz.func13, Tryz.ntmps13
    go_wp2
    go_ret
    exact ⟨rfl, Drawn.refl _⟩
  · have h0' : l.isEmpty = false := by cases l <;> simp_all
    go_enter Tryz.func13, Tryz.ntmps13
    go_wp2
    go_loopw [3, 4, 5] (fun n r m wr => RightRel l w n r m wr) (fun _ r m _ => rightMeas r m)
    case atStart => exact ⟨[], l, true, rfl, rfl, rfl, Drawn.refl _, rfl, rfl, Nat.le_refl _⟩
    case round =>
      obtain ⟨done, rest, more, rfl, rfl, rfl, hq, hall, hp, hlen⟩ := hrel
      have HP := Lib.hid hp; have HA := Lib.hid hall; clear hp hall
      have hlz : (⟨l.toArray⟩ : ByteArray).size = l.length := rfl
      have hdl : (done.length : Int) ≤ 4611686018427387905 := by
        have h1 := parts_length l
        rw [HP.out, List.length_append] at h1
        omega
      have HLZ := Lib.hid hlz; clear hlz
      cases more
      · have hp : parts l = done := by rw [HP.out]; simp
        have hr : rightB l = decide (done.length ≤ 4) := by
          unfold rightB; rw [h0', hp, HA.out]; simp
        have HR := Lib.hid hr; clear hr hp HP
        go_wp2
        go_ret
        exact ⟨ret_bool (by rw [HR.out, Bool.eq_iff_iff]; simp; omega), hq⟩
      · rcases slash_cases rest with ⟨_, hn⟩ | ⟨a, b, rfl, hn, _⟩
        · have hb : (⟨rest.toArray⟩ : ByteArray).size ≤ maxLen := by
            unfold maxLen; rw [HLZ.out] at hs; show rest.length ≤ _; omega
          have HB := Lib.hid hb; clear hb
          have hp : parts l = done ++ [rest] := by rw [HP.out]; simp [parts_none rest hn]
          have HP2 := Lib.hid hp; clear hp HP
          cases hnm : nameB rest
          all_goals
            go_wp2_with (first | (go_at_call 38; refine (cut_none _ _ hn).mono ?_; rintro e w' ⟨rfl, hq1⟩) | (go_at_call 12; refine (name_any _ _ HB.out).mono ?_; rintro e w' ⟨rfl, rfl⟩))
          · go_ret
            exact ⟨ret_bool (by unfold rightB; rw [HP2.out, h0']; simp [hnm]), hq.trans hq1⟩
          · exact ⟨⟨done ++ [rest], [], false, by simp, rfl, rfl, hq.trans hq1, by simp [HA.out, hnm], by simp [HP2.out], Nat.zero_le _⟩, by show 0 < _; simp [rightMeas]⟩
        · have hlen' : a.length + (b.length + 1) ≤ l.length := by simpa using hlen
          have hb : (⟨a.toArray⟩ : ByteArray).size ≤ maxLen := by
            unfold maxLen; rw [HLZ.out] at hs; show a.length ≤ _; omega
          have hb2 : a.length + b.length + 1 ≤ maxLen := by
            unfold maxLen; rw [HLZ.out] at hs; omega
          have HB := Lib.hid hb; have HB2 := Lib.hid hb2; clear hb hb2
          have hp : parts l = done ++ a :: parts b := by rw [HP.out]; simp [parts_slash a b hn]
          have HP2 := Lib.hid hp; clear hp HP
          cases hnm : nameB a
          all_goals
            go_wp2_with (first | (go_at_call 38; refine (cut_some _ _ _ hn HB2.out).mono ?_; rintro e w' ⟨rfl, hq1⟩) | (go_at_call 12; refine (name_any _ _ HB.out).mono ?_; rintro e w' ⟨rfl, rfl⟩))
          · go_ret
            exact ⟨ret_bool (by unfold rightB; rw [HP2.out, h0']; simp [hnm]), hq.trans hq1⟩
          · exact ⟨⟨done ++ [a], b, true, by simp, rfl, rfl, hq.trans hq1, by simp [HA.out, hnm], by simp [HP2.out], by omega⟩, by show b.length + 1 < (a ++ 47 :: b).length + 1; simp; omega⟩

end Go.Proofs.YtpbdgbejcdncgaaGreatDoor.Sc
end

section
/- THE CONTRACTS OF scope.Right and scope.Under, at lists. -/
namespace Go.Proofs.YtpbdgbejcdncgaaGreatDoor.Sc
open Go.RowKit
theorem right_l (x : List UInt8) (w : World) (h : x.length ≤ 140737488351232) :
    Calls Tryz.prog 13 #[.string ⟨x.toArray⟩] w fun e w' => e = .returned (.bool (rightB x)) ∧ Drawn w w' :=
  right_any ⟨x.toArray⟩ w (by show x.length ≤ _; unfold maxLen; omega) (by show x.length < _; omega)
end Go.Proofs.YtpbdgbejcdncgaaGreatDoor.Sc
end

section
/- THE WALKS OF package filter: ContainsFunc at conditions, Void, Match, Right, Covers. -/
namespace Go.Proofs.YtpbdgbejcdncgaaGreatDoor.Val
open Go.RowKit Flt
attribute [local go_sem] run_store_flt
theorem all_take_succ' (p : C → Bool) (l : List C) (k : Nat) (h : k < l.length) : (l.take (k + 1)).all p = ((l.take k).all p && p l[k]) := by
  rw [List.take_succ_eq_append_getElem h]; simp only [List.all_append, List.all_cons, List.all_nil, Bool.and_true]
theorem all_miss (p : C → Bool) (l : List C) (k : Nat) (h : k < l.length) (hk : p l[k] = false) : l.all p = false := by
  rw [Bool.eq_false_iff]; intro ha
  have := List.all_eq_true.1 ha l[k] (List.getElem_mem h)
  rw [hk] at this; cases this
/-- two boxes of two cells each, laid one behind the other -/
def Box2 (w : World) (b : Nat) (s : List UInt8) (a0 : Option Addr) (n cap : Nat) : Prop := w.cell? ⟨b, 0, none⟩ = some (.string ⟨s.toArray⟩) ∧ w.cell? ⟨b, 1, none⟩ = some (.slice a0 n cap)
theorem Box2.below {w w2 : World} {b : Nat} {s : List UInt8} {a0 : Option Addr} {n cap : Nat} (h : Box2 w b s a0 n cap) (hb : Below w.heap.size w w2) : Box2 w2 b s a0 n cap :=
  ⟨(hb.cell (World.block_lt_of_cell? _ _ h.1)).trans h.1, (hb.cell (World.block_lt_of_cell? _ _ h.2)).trans h.2⟩
theorem box2_new (w : World) (s : List UInt8) (a0 : Option Addr) (n cap : Nat) (T : TypeId) : Box2 (w.alloc (.cells #[.string ⟨s.toArray⟩, .slice a0 n cap] T)) w.heap.size s a0 n cap := by
  have c : ∀ o, (w.alloc (.cells #[.string ⟨s.toArray⟩, .slice a0 n cap] T)).cell? ⟨w.heap.size, o, none⟩ = #[.string ⟨s.toArray⟩, .slice a0 n cap][o]? := fun o => World.cell?_alloc_at _ _ _ _ rfl
  exact ⟨c 0, c 1⟩
theorem Box2.lt {w : World} {b : Nat} {s : List UInt8} {a0 : Option Addr} {n cap : Nat} (h : Box2 w b s a0 n cap) : b < w.heap.size := World.block_lt_of_cell? _ _ h.1
end Go.Proofs.YtpbdgbejcdncgaaGreatDoor.Val
end

section
/- THE WALK OF filter.Print, over whatever cond.Print writes. -/
namespace Go.Proofs.YtpbdgbejcdncgaaGreatDoor.Val
open Go.RowKit Flt
attribute [local go_sem] run_store_flt
def fprK (sc : List UInt8) (l : List C) (pr : C → List UInt8) : Nat → List UInt8
  | 0 => sc ++ [58]
  | k + 1 => (fprK sc l pr k ++ (if k = 0 then [] else [32, 38])) ++ ([32] ++ pr l[k]!)
theorem fprK_len (sc : List UInt8) (l : List C) (pr : C → List UInt8) (B : Nat) (k : Nat) (h : ∀ i, i < k → (pr l[i]!).length ≤ B) : (fprK sc l pr k).length ≤ sc.length + 1 + k * (B + 3) := by
  induction k with
  | zero => simp [fprK]
  | succ k ih =>
    have h1 := ih (fun i hi => h i (by omega))
    have h2 := h k (by omega)
    unfold fprK
    simp only [List.length_append, List.length_cons, List.length_nil]
    have h3 : (if k = 0 then ([] : List UInt8) else [32, 38]).length ≤ 2 := by split <;> simp
    rw [Nat.succ_mul]
    omega
set_option maxHeartbeats 2000000 in
theorem fprint_any (sf : List UInt8) (a0 : Option Addr) (cap : Nat) (l : List C) (pr : C → List UInt8) (w : World) (hw : Words w) (hl : Conds w a0 l) (hlm : l.length ≤ 20) (hsf : sf.length ≤ 1000000) (hpl : ∀ c ∈ l, (pr c).length ≤ 100000)
    (hp : ∀ c ∈ l, ∀ W, Words W → Below w.heap.size w W → Calls Tryz.prog 20 #[cc c] W fun e w' => e = .returned (.string ⟨(pr c).toArray⟩) ∧ Below W.heap.size W w') :
    Calls Tryz.prog 8 #[ev sf a0 l.length cap] w fun e w' => e = .returned (.string ⟨(fprK sf l pr l.length).toArray⟩) ∧ Below w.heap.size w w' := by
  have hfl (k : Nat) (h : k ≤ l.length) : (fprK sf l pr k).length ≤ 3000100 := by
    have := fprK_len sf l pr 100000 k (fun i hi => by
      rw [getElem!_pos l i (by omega)]; exact hpl _ (List.getElem_mem _))
    have h2 : k * 100003 ≤ 20 * 100003 := Nat.mul_le_mul_right _ (by omega)
    omega
  have h0 : fprK sf l pr 0 = sf ++ [58] := rfl
  have hst (k : Nat) (h : k < l.length) : fprK sf l pr (k + 1) = (fprK sf l pr k ++ (if k = 0 then [] else [32, 38])) ++ ([32] ++ pr l[k]) := by
    conv => lhs; unfold fprK
    rw [getElem!_pos l k h]
  have HL := Lib.hid hl; have HP := Lib.hid hp; have HW := Lib.hid hw; have HFL := Lib.hid hfl; have HST := Lib.hid hst; have HPL := Lib.hid hpl
  clear hl hp hw hfl hst hpl
  generalize hF : fprK sf l pr = F at *
  have r1 : ∀ w, (Op.stringOp .add ⟨sf.toArray⟩ ⟨#[58]⟩).run Tryz.prog w = .ok (.string ⟨(F 0).toArray⟩) w := fun w => by rw [h0]; exact run_string_add_lists w sf [58] (by omega) (by simp)
  clear hF h0
  go_enter Tryz.func8, Tryz.ntmps8
  go_wp2_with fail
  have hx1 := box2_new w sf a0 l.length cap 24
  have hbw := balloc w (.cells #[.string ⟨sf.toArray⟩, .slice a0 l.length cap] 24)
  have HX1 := Lib.hid hx1; have HBW := Lib.hid hbw
  clear hx1 hbw r1
  generalize w.alloc _ = W0 at *
  go_loopw [3, 12] (fun vs vi wr => ∃ k : Nat, k ≤ l.length ∧ vs = .string ⟨(F k).toArray⟩ ∧ vi = .int .i64 k ∧ Below W0.heap.size W0 wr) (fun _ vi _ => l.length - (intOf vi).toNat)
  case atStart => exact ⟨0, Nat.zero_le _, rfl, rfl, Below.refl _ _⟩
  case round =>
    obtain ⟨k, hk, rfl, rfl, hbr⟩ := hrel
    have hbz := btrans HBW.out hbr
    have HBZ := Lib.hid hbz; have HBR := Lib.hid hbr
    clear hbz hbr
    by_cases hlt : k < l.length
    · have i1 : (k : Int) < (l.length : Int) := by omega
      have i0 : (0 : Int) ≤ (k : Int) := by omega
      have hl1 := HFL.out k hk
      have hl2 := HPL.out _ (List.getElem_mem hlt)
      have hs := HST.out k hlt
      obtain ⟨a, rfl, v0, v1, v2, v3, v4, v5, v6⟩ := (HL.out.below HBZ.out) k hlt
      have hpc := HP.out _ (List.getElem_mem hlt)
      generalize hT : F (k + 1) = T at *
      have HT := Lib.hid hT; clear hT
      generalize F k = S at *
      generalize pr l[k] = p at *
      have HPC := Lib.hid hpc
      clear hpc
      obtain ⟨y1, hy1⟩ : ∃ y, y = [32] ++ p := ⟨_, rfl⟩
      have r1 : ∀ w, (Op.stringOp .add ⟨#[32]⟩ ⟨p.toArray⟩).run Tryz.prog w = .ok (.string ⟨y1.toArray⟩) w := fun w => by rw [hy1]; exact run_string_add_lists w [32] p (by simp) (by omega)
      have l1 : y1.length = p.length + 1 := by rw [hy1]; simp
      rw [← hy1] at hs
      by_cases hk0 : k = 0
      · rw [if_pos hk0, List.append_nil] at hs
        have k0 : ¬ (0 : Int) < (k : Int) := by omega
        clear hk0
        have r2 : ∀ w, (Op.stringOp .add ⟨S.toArray⟩ ⟨y1.toArray⟩).run Tryz.prog w = .ok (.string ⟨T.toArray⟩) w := fun w => by rw [hs]; exact run_string_add_lists w S y1 (by omega) (by omega)
        clear hy1 hs l1
        go_wp2_with (go_at_call 20; refine (HPC.out _ ((HW.out.below HBZ.out).below (balloc _ _)) (btrans HBZ.out (balloc _ _))).mono ?_; rintro e w5 ⟨rfl, hb5⟩)
        exact ⟨⟨k + 1, by omega, by rw [HT.out], by go_num, btrans (btrans HBR.out (balloc _ _)) hb5⟩, by simp [intOf]; go_num⟩
      · rw [if_neg hk0] at hs
        have k0 : (0 : Int) < (k : Int) := by omega
        obtain ⟨y2, hy2⟩ : ∃ y, y = S ++ [32, 38] := ⟨_, rfl⟩
        have r2 : ∀ w, (Op.stringOp .add ⟨S.toArray⟩ ⟨#[32, 38]⟩).run Tryz.prog w = .ok (.string ⟨y2.toArray⟩) w := fun w => by rw [hy2]; exact run_string_add_lists w S [32, 38] (by omega) (by simp)
        have l2 : y2.length = S.length + 2 := by rw [hy2]; simp
        rw [← hy2] at hs
        have r3 : ∀ w, (Op.stringOp .add ⟨y2.toArray⟩ ⟨y1.toArray⟩).run Tryz.prog w = .ok (.string ⟨T.toArray⟩) w := fun w => by rw [hs]; exact run_string_add_lists w y2 y1 (by omega) (by omega)
        clear hy1 hy2 hs l1 l2
        go_wp2_with (go_at_call 20; refine (HPC.out _ ((HW.out.below HBZ.out).below (balloc _ _)) (btrans HBZ.out (balloc _ _))).mono ?_; rintro e w5 ⟨rfl, hb5⟩)
        exact ⟨⟨k + 1, by omega, by rw [HT.out], by go_num, btrans (btrans HBR.out (balloc _ _)) hb5⟩, by simp [intOf]; go_num⟩
    · obtain rfl : k = l.length := by omega
      go_wp2
      go_ret
      exact ⟨rfl, HBZ.out⟩
end Go.Proofs.YtpbdgbejcdncgaaGreatDoor.Val
end

section
/- THE WALK OF filter.Key. -/
namespace Go.Proofs.YtpbdgbejcdncgaaGreatDoor.Val
open Go.RowKit Flt
theorem keepC_mem (S : List C) : ∀ k, k ≤ S.length → ∀ c ∈ keepC S k, c ∈ S
  | 0, _, c, h => by cases h
  | k + 1, hk, c, h => by
    rw [keepC] at h
    rcases List.mem_append.1 h with h | h
    · exact keepC_mem S k (by omega) c h
    · split at h
      · cases h
      · rw [List.mem_singleton, getElem!_pos S k (by omega)] at h
        rw [h]; exact List.getElem_mem _
theorem normL_mem (L : List C) : ∀ c ∈ normL L, ∃ d ∈ L, c = canonC d := fun c hc => by
  have h1 : (L.map canonC).length = L.length := List.length_map ..
  have h := keepC_mem _ _ (by unfold sortC; rw [isort_len, h1]; exact Nat.le_refl _) c hc
  cases L with
  | nil => cases h
  | cons a l =>
    have h2 := isort_mem _ _ (by rw [h1]; simp) c h
    obtain ⟨d, hd, e⟩ := List.mem_map.1 h2
    exact ⟨d, hd, e.symm⟩
theorem normL_len (L : List C) : (normL L).length ≤ L.length := keepC_len _ _
/-- a filter's key -/
def keyT (sf : List UInt8) (L : List C) : List UInt8 := fprK sf (normL L) cT (normL L).length
end Go.Proofs.YtpbdgbejcdncgaaGreatDoor.Val
end

section
/- VALUES THAT ARE NOT THE SAME HAVE TEXTS THAT ARE NOT, whatever stands behind; those that are the same have one. No walk. -/
namespace Go.Proofs.YtpbdgbejcdncgaaGreatDoor.Val
open Go.RowKit Flt
theorem nan_iff (b : Nat) : nan b = true ↔ 9218868437227405312 < b % 9223372036854775808 := by
  unfold nan rung inf
  rw [decide_eq_true_eq]
theorem zero_iff2 (b : Nat) : Ord.zero b = true ↔ b % 9223372036854775808 = 0 := by
  rw [Ord.zero_iff]
  unfold rung
  rw [decide_eq_true_eq]
/-- numbers with one key are kept alike, and others are not -/
theorem key_canon (a b : Nat) (ha : a < 18446744073709551616) (hb : b < 18446744073709551616) : Ord.key a = Ord.key b ↔ Ord.canon a = Ord.canon b := by
  unfold Ord.key Ord.canon Ord.most Ord.top Ord.nan0
  have na := nan_iff a; have nb := nan_iff b; have za := zero_iff2 a; have zb := zero_iff2 b
  cases h1 : nan a <;> cases h2 : nan b <;> cases h3 : Ord.zero a <;> cases h4 : Ord.zero b <;>
    rw [h1] at na <;> rw [h2] at nb <;> rw [h3] at za <;> rw [h4] at zb <;>
    simp only [Bool.false_eq_true, if_false, if_true] <;>
    (try split) <;> (try split) <;> simp at na nb za zb <;> omega
theorem canon_bits (x : Nat) (hx : x < 18446744073709551616) : Ord.canon x < 18446744073709551616 ∧
    ((Ord.canon x = 9221120237041090561) ∨ (Fmt.bexp (Ord.canon x) ≤ 2046) ∨ (Fmt.bexp (Ord.canon x) = 2047 ∧ Fmt.bman (Ord.canon x) = 0)) := by
  refine ⟨canon_lt x hx, ?_⟩
  have na := nan_iff x
  unfold Ord.canon Ord.nan0
  cases h1 : nan x
  · rw [h1] at na
    have : ¬ 9218868437227405312 < x % 9223372036854775808 := fun h => by have := na.2 h; cases this
    simp only [Bool.false_eq_true, if_false]
    split
    · right; left; decide
    · right
      unfold Fmt.bexp Fmt.bman
      omega
  · left; rfl
/-- a text without a blank and not quoted -/
def Bare (t : List UInt8) : Prop := t ≠ [] ∧ (∀ c ∈ t, c ≠ 32) ∧ ∀ r, t ≠ 34 :: r
/-- what may stand behind: nothing, or a blank first -/
def Tail (s : List UInt8) : Prop := s = [] ∨ ∃ r, s = 32 :: r
theorem bare_apart : ∀ (t u s r : List UInt8), (∀ c ∈ t, c ≠ 32) → (∀ c ∈ u, c ≠ 32) → Tail s → Tail r → t ++ s = u ++ r → t = u ∧ s = r
  | [], [], _, _, _, _, _, _, h => ⟨rfl, h⟩
  | [], c :: u, s, r, _, hu, hs, _, h => by
    exfalso
    rcases hs with rfl | ⟨q, rfl⟩
    · cases h
    · exact hu c (List.mem_cons_self ..) (List.cons.inj h).1.symm
  | c :: t, [], s, r, ht, _, _, hr, h => by
    exfalso
    rcases hr with rfl | ⟨q, rfl⟩
    · cases h
    · exact ht c (List.mem_cons_self ..) (List.cons.inj h).1
  | c :: t, d :: u, s, r, ht, hu, hs, hr, h => by
    obtain ⟨h1, h2⟩ := List.cons.inj h
    obtain ⟨i1, i2⟩ := bare_apart t u s r (fun x hx => ht x (List.mem_cons_of_mem _ hx)) (fun x hx => hu x (List.mem_cons_of_mem _ hx)) hs hr h2
    exact ⟨by rw [h1, i1], i2⟩
/-- a whole number's text: digits, a sign ahead -/
theorem itoa_chr (n : Int) : ∀ c ∈ Lib.itoa n, Fmt.IsD c ∨ c = 45 := by
  intro c hc
  unfold Lib.itoa at hc
  split at hc
  · rcases List.mem_cons.1 hc with rfl | hc
    · exact .inr rfl
    · exact .inl ((Fmt.decDigits_val _).2 c hc)
  · exact .inl ((Fmt.decDigits_val _).2 c hc)
theorem dec_ne (u : Nat) : Lib.decDigits u ≠ [] := by
  intro h
  have := Lib.decDigits_length u
  rw [h] at this
  have := Lib.nDigits_pos u
  simp at *
  omega
theorem itoa_ne (n : Int) : Lib.itoa n ≠ [] := by
  unfold Lib.itoa
  split
  · exact List.cons_ne_nil _ _
  · exact dec_ne _
theorem itoa_inj (n m : Int) (h : Lib.itoa n = Lib.itoa m) : n = m := by
  have dv := fun u => (Fmt.decDigits_val u).1
  have nod : ∀ u v, 45 :: Lib.decDigits u ≠ Lib.decDigits v := fun u v e => by
    have := (Fmt.decDigits_val v).2 45 (by rw [← e]; exact List.mem_cons_self ..)
    unfold Fmt.IsD at this
    simp at this
  unfold Lib.itoa at h
  split at h <;> split at h
  · have h2 := congrArg Fmt.dval (List.cons.inj h).2
    rw [dv, dv] at h2
    omega
  · exact absurd h (nod _ _)
  · exact absurd h.symm (nod _ _)
  · have h2 := congrArg Fmt.dval h
    rw [dv, dv] at h2
    omega
/-- what a number's text is, by its kind -/
theorem flt_ways (x : Nat) (hx : x < 18446744073709551616) :
    (Fmt.fltT (Ord.canon x) = [78, 97, 78] ∧ Ord.canon x = 9221120237041090561) ∨
    (Fmt.fltT (Ord.canon x) = [45, 73, 110, 102] ∧ Ord.canon x = 18442240474082181120) ∨ (Fmt.fltT (Ord.canon x) = [43, 73, 110, 102] ∧ Ord.canon x = 9218868437227405312) ∨
    (Fmt.bexp (Ord.canon x) ≤ 2046 ∧ ∃ X, Fmt.fltT (Ord.canon x) = Fmt.sgn (Fmt.bneg (Ord.canon x)) ++ X ∧ (∃ c r, X = c :: r ∧ Fmt.IsD c) ∧ ∀ c ∈ X, Fmt.IsN c) := by
  obtain ⟨hl, h⟩ := canon_bits x hx
  generalize Ord.canon x = b at *
  rcases h with rfl | h | ⟨h1, h2⟩
  · left
    exact ⟨Fmt.fltT_nan _ (by decide) (by decide), rfl⟩
  · right; right; right
    obtain ⟨X, hX⟩ := Fmt.body_fin b h
    exact ⟨h, X, hX.txt, hX.head, hX.chr⟩
  · have ht := Fmt.fltT_inf b h1 h2
    cases hn : Fmt.bneg b
    · right; right; left
      rw [hn] at ht
      refine ⟨ht, ?_⟩
      unfold Fmt.bneg at hn
      unfold Fmt.bexp at h1
      unfold Fmt.bman at h2
      simp at hn
      omega
    · right; left
      rw [hn] at ht
      refine ⟨ht, ?_⟩
      unfold Fmt.bneg at hn
      unfold Fmt.bexp at h1
      unfold Fmt.bman at h2
      simp at hn
      omega
theorem isN_ne {c : UInt8} (h : Fmt.IsN c) (k : UInt8) (hk : k.toNat < 43 ∨ (57 < k.toNat ∧ k.toNat ≠ 101)) : c ≠ k := by
  rintro rfl
  rcases h with h | h | h | h | h
  · unfold Fmt.IsD at h; omega
  all_goals (subst h; revert hk; decide)
theorem flt_bare (x : Nat) (hx : x < 18446744073709551616) : Bare (Fmt.fltT (Ord.canon x)) ∧ (∀ r, Fmt.fltT (Ord.canon x) ≠ 121 :: r) ∧ (∀ r, Fmt.fltT (Ord.canon x) ≠ 110 :: r) ∧ ∃ c ∈ Fmt.fltT (Ord.canon x), ¬ (Fmt.IsD c ∨ c = 45) := by
  have hmk : ∃ c ∈ Fmt.fltT (Ord.canon x), ¬ (Fmt.IsD c ∨ c = 45) := by
    have key : ∀ c : UInt8, c = 46 ∨ c = 101 ∨ c = 73 ∨ c = 78 → ¬ (Fmt.IsD c ∨ c = 45) := by
      intro c hc h
      rcases hc with rfl | rfl | rfl | rfl <;> rcases h with h | h <;> first | (unfold Fmt.IsD at h; simp at h) | (revert h; decide)
    unfold Fmt.fltT
    cases hm : Fmt.marked (Fmt.ftoaT (Ord.canon x))
    · simp only [Bool.false_eq_true, if_false]
      exact ⟨46, by simp, key 46 (.inl rfl)⟩
    · simp only [if_true]
      obtain ⟨c, hc, hk⟩ := (Fmt.marked_iff _).1 hm
      exact ⟨c, hc, key c hk⟩
  rcases flt_ways x hx with ⟨h, _⟩ | ⟨h, _⟩ | ⟨h, _⟩ | ⟨_, X, h, ⟨c, r, hX, hc⟩, hN⟩
  · refine ⟨⟨?_, ?_, ?_⟩, ?_, ?_, hmk⟩ <;> rw [h]
    · exact List.cons_ne_nil _ _
    · intro c hc; simp only [List.mem_cons, List.not_mem_nil, or_false] at hc; rcases hc with rfl | rfl | rfl <;> decide
    all_goals (intro r e; have := (List.cons.inj e).1; revert this; decide)
  · refine ⟨⟨?_, ?_, ?_⟩, ?_, ?_, hmk⟩ <;> rw [h]
    · exact List.cons_ne_nil _ _
    · intro c hc; simp only [List.mem_cons, List.not_mem_nil, or_false] at hc; rcases hc with rfl | rfl | rfl | rfl <;> decide
    all_goals (intro r e; have := (List.cons.inj e).1; revert this; decide)
  · refine ⟨⟨?_, ?_, ?_⟩, ?_, ?_, hmk⟩ <;> rw [h]
    · exact List.cons_ne_nil _ _
    · intro c hc; simp only [List.mem_cons, List.not_mem_nil, or_false] at hc; rcases hc with rfl | rfl | rfl | rfl <;> decide
    all_goals (intro r e; have := (List.cons.inj e).1; revert this; decide)
  · have hd : ∀ k : UInt8, k.toNat < 48 ∨ 57 < k.toNat → c ≠ k := fun k hk => Fmt.isD_ne hc k hk
    have hs : ∀ c ∈ Fmt.sgn (Fmt.bneg (Ord.canon x)), c = 45 := by
      intro c hc
      unfold Fmt.sgn at hc
      split at hc
      · exact List.mem_singleton.1 hc
      · cases hc
    have first : ∀ k : UInt8, k ≠ 45 → (k.toNat < 48 ∨ 57 < k.toNat) → ∀ r, Fmt.fltT (Ord.canon x) ≠ k :: r := by
      intro k h45 hk r e
      rw [h, hX] at e
      unfold Fmt.sgn at e
      split at e
      · exact h45 (List.cons.inj e).1.symm
      · exact hd k hk (List.cons.inj e).1
    refine ⟨⟨?_, ?_, first 34 (by decide) (by decide)⟩, first 121 (by decide) (by decide), first 110 (by decide) (by decide), hmk⟩
    · rw [h, hX]
      unfold Fmt.sgn
      split <;> exact List.cons_ne_nil _ _
    · intro d hd2
      rw [h] at hd2
      rcases List.mem_append.1 hd2 with hd2 | hd2
      · rw [hs d hd2]; decide
      · exact isN_ne (hN d hd2) 32 (by decide)
theorem flt_inj (x y : Nat) (hx : x < 18446744073709551616) (hy : y < 18446744073709551616) (h : Fmt.fltT (Ord.canon x) = Fmt.fltT (Ord.canon y)) : Ord.canon x = Ord.canon y := by
  have hd : ∀ {c : UInt8}, Fmt.IsD c → ∀ k : UInt8, k.toNat < 48 ∨ 57 < k.toNat → c ≠ k := fun hc k hk => Fmt.isD_ne hc k hk
  have fin : ∀ (b : Nat) (X : List UInt8) (c : UInt8) (r : List UInt8), X = c :: r → Fmt.IsD c → ∀ t, Fmt.fltT b = Fmt.sgn (Fmt.bneg b) ++ X → Fmt.fltT b = t → t ≠ [78, 97, 78] ∧ t ≠ [45, 73, 110, 102] ∧ t ≠ [43, 73, 110, 102] := by
    intro b X c r hX hc t ht e
    rw [ht, hX] at e
    unfold Fmt.sgn at e
    refine ⟨?_, ?_, ?_⟩ <;> rintro rfl <;> split at e
    · exact absurd (List.cons.inj e).1 (by decide)
    · exact hd hc 78 (by decide) (List.cons.inj e).1
    · exact hd hc 73 (by decide) (List.cons.inj (List.cons.inj e).2).1
    · exact hd hc 45 (by decide) (List.cons.inj e).1
    · exact absurd (List.cons.inj e).1 (by decide)
    · exact hd hc 43 (by decide) (List.cons.inj e).1
  rcases flt_ways x hx with ⟨h1, e1⟩ | ⟨h1, e1⟩ | ⟨h1, e1⟩ | ⟨f1, X, h1, ⟨c, r, hX, hc⟩, _⟩ <;>
    rcases flt_ways y hy with ⟨h2, e2⟩ | ⟨h2, e2⟩ | ⟨h2, e2⟩ | ⟨f2, Y, h2, ⟨d, q, hY, hd2⟩, _⟩
  · rw [e1, e2]
  · rw [h1, h2] at h; exact absurd h (by decide)
  · rw [h1, h2] at h; exact absurd h (by decide)
  · exact absurd h1 (fin _ Y d q hY hd2 _ h2 h.symm).1
  · rw [h1, h2] at h; exact absurd h (by decide)
  · rw [e1, e2]
  · rw [h1, h2] at h; exact absurd h (by decide)
  · exact absurd h1 (fin _ Y d q hY hd2 _ h2 h.symm).2.1
  · rw [h1, h2] at h; exact absurd h (by decide)
  · rw [h1, h2] at h; exact absurd h (by decide)
  · rw [e1, e2]
  · exact absurd h1 (fin _ Y d q hY hd2 _ h2 h.symm).2.2
  · exact absurd h2 (fin _ X c r hX hc _ h1 h).1
  · exact absurd h2 (fin _ X c r hX hc _ h1 h).2.1
  · exact absurd h2 (fin _ X c r hX hc _ h1 h).2.2
  · exact Fmt.fltT_fin _ _ (canon_lt x hx) (canon_lt y hy) f1 f2 h
/-- a value that may be -/
def VOk (v : V) : Prop := 0 ≤ v.kind ∧ v.kind ≤ 3 ∧ v.num < 18446744073709551616
theorem vT_ways (v : V) (h : VOk v) : (v.kind = 0 ∧ vT v = Lib.itoa v.int) ∨ (v.kind = 1 ∧ vT v = Fmt.fltT (Ord.canon v.num)) ∨ (v.kind = 2 ∧ vT v = Quo.quoteT Lib.goPrintTabs v.text) ∨ (v.kind = 3 ∧ vT v = if v.yes then yesT else noT) := by
  obtain ⟨k, n, x, t, y⟩ := v
  obtain ⟨h0, h3, _⟩ := h
  simp only at h0 h3
  rcases (show k = 0 ∨ k = 1 ∨ k = 2 ∨ k = 3 by omega) with rfl | rfl | rfl | rfl
  · exact .inl ⟨rfl, rfl⟩
  · exact .inr (.inl ⟨rfl, rfl⟩)
  · exact .inr (.inr (.inl ⟨rfl, rfl⟩))
  · exact .inr (.inr (.inr ⟨rfl, rfl⟩))
theorem itoa_bare (n : Int) : Bare (Lib.itoa n) ∧ (∀ r, Lib.itoa n ≠ 121 :: r) ∧ (∀ r, Lib.itoa n ≠ 110 :: r) := by
  have key : ∀ k : UInt8, k ≠ 45 → (k.toNat < 48 ∨ 57 < k.toNat) → ∀ c ∈ Lib.itoa n, c ≠ k := fun k h45 hk c hc => by
    rcases itoa_chr n c hc with h | h
    · exact Fmt.isD_ne h k hk
    · rw [h]; exact fun e => h45 e.symm
  have first : ∀ k : UInt8, k ≠ 45 → (k.toNat < 48 ∨ 57 < k.toNat) → ∀ r, Lib.itoa n ≠ k :: r := fun k h45 hk r e => key k h45 hk k (by rw [e]; exact List.mem_cons_self ..) rfl
  exact ⟨⟨itoa_ne n, key 32 (by decide) (by decide), first 34 (by decide) (by decide)⟩, first 121 (by decide) (by decide), first 110 (by decide) (by decide)⟩
theorem bool_bare (y : Bool) : Bare (if y then yesT else noT) ∧ ∃ c r, (if y then yesT else noT) = c :: r ∧ (c = 121 ∨ c = 110) := by
  cases y
  · refine ⟨⟨by decide, by decide, ?_⟩, 110, _, rfl, .inr rfl⟩
    intro r e; have := (List.cons.inj e).1; revert this; decide
  · refine ⟨⟨by decide, by decide, ?_⟩, 121, _, rfl, .inl rfl⟩
    intro r e; have := (List.cons.inj e).1; revert this; decide
/-- VALUES' TEXTS TELL THEM APART, whatever stands behind -/
theorem vT_apart (v u : V) (hv : VOk v) (hu : VOk u) (s r : List UInt8) (hs : Tail s) (hr : Tail r) (h : vT v ++ s = vT u ++ r) : sameB v u = true ∧ s = r := by
  have bb : ∀ t w : List UInt8, Bare t → Bare w → t ++ s = w ++ r → t = w ∧ s = r := fun t w ht hw e => bare_apart t w s r ht.2.1 hw.2.1 hs hr e
  have quo : ∀ (l : List UInt8) (w : List UInt8) (s r : List UInt8), Bare w → Quo.quoteT Lib.goPrintTabs l ++ s = w ++ r → False := by
    intro l w s r hw e
    obtain ⟨q, hq⟩ := Quo.quoteT_head Lib.goPrintTabs l
    cases w with
    | nil => exact hw.1 rfl
    | cons c w =>
      rw [hq] at e
      exact hw.2.2 w (by rw [(List.cons.inj e).1])
  rcases vT_ways v hv with ⟨k1, e1⟩ | ⟨k1, e1⟩ | ⟨k1, e1⟩ | ⟨k1, e1⟩ <;> rcases vT_ways u hu with ⟨k2, e2⟩ | ⟨k2, e2⟩ | ⟨k2, e2⟩ | ⟨k2, e2⟩ <;> rw [e1, e2] at h
  · obtain ⟨h1, h2⟩ := bb _ _ (itoa_bare _).1 (itoa_bare _).1 h
    refine ⟨?_, h2⟩
    have := itoa_inj _ _ h1
    unfold sameB; rw [k1, k2, this]; simp
  · exfalso
    obtain ⟨h1, _⟩ := bb _ _ (itoa_bare _).1 (flt_bare _ hu.2.2).1 h
    obtain ⟨c, hc, hn⟩ := (flt_bare _ hu.2.2).2.2.2
    exact hn (itoa_chr _ c (by rw [h1]; exact hc))
  · exact absurd h.symm (fun e => quo _ _ _ _ (itoa_bare _).1 e)
  · exfalso
    obtain ⟨h1, _⟩ := bb _ _ (itoa_bare _).1 (bool_bare _).1 h
    obtain ⟨c, q, e, hc⟩ := (bool_bare u.yes).2
    rw [e] at h1
    rcases hc with rfl | rfl
    · exact (itoa_bare _).2.1 _ h1
    · exact (itoa_bare _).2.2 _ h1
  · exfalso
    obtain ⟨h1, _⟩ := bb _ _ (flt_bare _ hv.2.2).1 (itoa_bare _).1 h
    obtain ⟨c, hc, hn⟩ := (flt_bare _ hv.2.2).2.2.2
    exact hn (itoa_chr _ c (by rw [← h1]; exact hc))
  · obtain ⟨h1, h2⟩ := bb _ _ (flt_bare _ hv.2.2).1 (flt_bare _ hu.2.2).1 h
    refine ⟨?_, h2⟩
    have := (key_canon _ _ hv.2.2 hu.2.2).2 (flt_inj _ _ hv.2.2 hu.2.2 h1)
    unfold sameB Ord.same; rw [k1, k2, this]; simp
  · exact absurd h.symm (fun e => quo _ _ _ _ (flt_bare _ hv.2.2).1 e)
  · exfalso
    obtain ⟨h1, _⟩ := bb _ _ (flt_bare _ hv.2.2).1 (bool_bare _).1 h
    obtain ⟨c, q, e, hc⟩ := (bool_bare u.yes).2
    rw [e] at h1
    rcases hc with rfl | rfl
    · exact (flt_bare _ hv.2.2).2.1 _ h1
    · exact (flt_bare _ hv.2.2).2.2.1 _ h1
  · exact absurd h (fun e => quo _ _ _ _ (itoa_bare _).1 e)
  · exact absurd h (fun e => quo _ _ _ _ (flt_bare _ hu.2.2).1 e)
  · obtain ⟨h1, h2⟩ := Quo.quoteT_apart _ _ _ _ _ h
    refine ⟨?_, h2⟩
    unfold sameB; rw [k1, k2, h1]; simp
  · exact absurd h (fun e => quo _ _ _ _ (bool_bare _).1 e)
  · exfalso
    obtain ⟨h1, _⟩ := bb _ _ (bool_bare _).1 (itoa_bare _).1 h
    obtain ⟨c, q, e, hc⟩ := (bool_bare v.yes).2
    rw [e] at h1
    rcases hc with rfl | rfl
    · exact (itoa_bare _).2.1 _ h1.symm
    · exact (itoa_bare _).2.2 _ h1.symm
  · exfalso
    obtain ⟨h1, _⟩ := bb _ _ (bool_bare _).1 (flt_bare _ hu.2.2).1 h
    obtain ⟨c, q, e, hc⟩ := (bool_bare v.yes).2
    rw [e] at h1
    rcases hc with rfl | rfl
    · exact (flt_bare _ hu.2.2).2.1 _ h1.symm
    · exact (flt_bare _ hu.2.2).2.2.1 _ h1.symm
  · exact absurd h.symm (fun e => quo _ _ _ _ (bool_bare _).1 e)
  · obtain ⟨h1, h2⟩ := bb _ _ (bool_bare _).1 (bool_bare _).1 h
    refine ⟨?_, h2⟩
    have : v.yes = u.yes := by
      cases hv2 : v.yes <;> cases hu2 : u.yes <;> rw [hv2, hu2] at h1 <;> first | rfl | (revert h1; decide)
    unfold sameB; rw [k1, k2, this]; simp
end Go.Proofs.YtpbdgbejcdncgaaGreatDoor.Val
end

section
/- WHAT A FILTER IS BROUGHT TO: its conditions in order; the order in which they came, and doubles, play no part. No walk. -/
namespace Go.Proofs.YtpbdgbejcdncgaaGreatDoor.Val
open Go.RowKit Flt
/-- into a row that falls -/
def insr : List C → C → List C
  | [], x => [x]
  | y :: Q, x => if cmpC x y < 0 then y :: insr Q x else x :: y :: Q
theorem insr_perm : ∀ (Q : List C) (x : C), List.Perm (insr Q x) (x :: Q)
  | [], x => List.Perm.refl _
  | y :: Q, x => by
    unfold insr
    split
    · exact ((insr_perm Q x).cons y).trans (List.Perm.swap x y Q)
    · exact List.Perm.refl _
theorem bub_insr : ∀ (Q : List C) (x : C) (R : List C), bub (Q.reverse ++ x :: R) Q.length = (insr Q x).reverse ++ R
  | [], x, R => rfl
  | y :: Q, x, R => by
    have hlen : ((y :: Q).reverse ++ x :: R).length = Q.length + 1 + 1 + R.length := by simp; omega
    have e : (y :: Q).reverse ++ x :: R = Q.reverse ++ y :: x :: R := by simp
    have g1 : (Q.reverse ++ y :: x :: R)[Q.length + 1]! = x := by
      rw [getElem!_pos _ _ (by simp)]
      rw [List.getElem_append_right (by simp)]
      simp
    have g0 : (Q.reverse ++ y :: x :: R)[Q.length]! = y := by
      rw [getElem!_pos _ _ (by simp)]
      rw [List.getElem_append_right (by simp)]
      simp
    rw [e, List.length_cons, bub, g1, g0]
    unfold insr
    split
    · have hs : swp (Q.reverse ++ y :: x :: R) Q.length = Q.reverse ++ x :: y :: R := by
        unfold swp
        rw [g1, g0]
        rw [List.set_append_right _ _ (by simp), List.set_append_right _ _ (by simp)]
        simp
      rw [hs, bub_insr Q x (y :: R)]
      simp
    · simp
theorem isort_insr (L : List C) : ∀ i, i < L.length → isort L i = ((L.take (i + 1)).foldl insr []).reverse ++ L.drop (i + 1)
  | 0, h => by
    cases L with
    | nil => simp at h
    | cons a l => simp [isort, insr]
  | i + 1, h => by
    rw [isort, isort_insr L i (by omega)]
    have hd : L.drop (i + 1) = L[i + 1] :: L.drop (i + 2) := List.drop_eq_getElem_cons h
    have hl : ((L.take (i + 1)).foldl insr []).length = i + 1 := by
      have : ∀ (l : List C) (acc : List C), (l.foldl insr acc).length = acc.length + l.length := by
        intro l
        induction l with
        | nil => intro acc; simp
        | cons a l ih => intro acc; rw [List.foldl_cons, ih, (insr_perm acc a).length_eq]; simp; omega
      rw [this, List.length_take]
      simp; omega
    rw [hd]
    have := bub_insr ((L.take (i + 1)).foldl insr []) L[i + 1] (L.drop (i + 2))
    rw [hl] at this
    rw [this, List.take_succ_eq_append_getElem h, List.foldl_append]
    rfl
theorem sortC_insr (L : List C) : sortC L = (L.foldl insr []).reverse := by
  unfold sortC
  cases L with
  | nil => rfl
  | cons a l =>
    rw [isort_insr _ _ (by simp)]
    have e : (a :: l).length - 1 + 1 = (a :: l).length := by simp
    rw [e, List.take_length, List.drop_length, List.append_nil]
/-- not behind -/
def leC (a b : C) : Prop := ¬ cmpC b a < 0
theorem leC_of_lt {a b : C} (h : cmpC a b < 0) : leC a b := fun h2 => by
  have := (cb_anti (cT a) (cT b)).1.1 h
  unfold cmpC at h2
  omega
theorem leC_trans {a b c : C} (h1 : leC a b) (h2 : leC b c) : leC a c := by
  unfold leC cmpC at *
  intro h
  rcases Int.lt_trichotomy (Lib.compareBytes (cT a) (cT b)) 0 with k | k | k
  · exact h2 (cb_trans h k)
  · have e : cT a = cT b := (cb_zero _ _).1 k
    rw [e] at h
    exact h2 h
  · exact h1 ((cb_anti (cT b) (cT a)).1.2 k)
theorem insr_falls : ∀ (Q : List C) (x : C), Q.Pairwise (fun a b => leC b a) → (insr Q x).Pairwise (fun a b => leC b a)
  | [], x, _ => by simp [insr]
  | y :: Q, x, h => by
    obtain ⟨h1, h2⟩ := List.pairwise_cons.1 h
    unfold insr
    split
    · rename_i hlt
      refine List.pairwise_cons.2 ⟨fun z hz => ?_, insr_falls Q x h2⟩
      rcases List.mem_cons.1 ((insr_perm Q x).subset hz) with rfl | hz
      · exact leC_of_lt hlt
      · exact h1 z hz
    · rename_i hge
      refine List.pairwise_cons.2 ⟨fun z hz => ?_, h⟩
      rcases List.mem_cons.1 hz with rfl | hz
      · exact hge
      · exact leC_trans (h1 z hz) hge
theorem foldl_falls : ∀ (l acc : List C), acc.Pairwise (fun a b => leC b a) → (l.foldl insr acc).Pairwise (fun a b => leC b a)
  | [], _, h => h
  | a :: l, acc, h => foldl_falls l _ (insr_falls acc a h)
theorem foldl_perm : ∀ (l acc : List C), List.Perm (l.foldl insr acc) (l ++ acc)
  | [], _ => List.Perm.refl _
  | a :: l, acc => (foldl_perm l (insr acc a)).trans (((insr_perm acc a).append_left l).trans (List.perm_middle))
theorem sortC_perm (L : List C) : List.Perm (sortC L) L := by
  rw [sortC_insr]
  have := foldl_perm L []
  rw [List.append_nil] at this
  exact (List.reverse_perm _).trans this
theorem sortC_rises (L : List C) : (sortC L).Pairwise leC := by
  rw [sortC_insr, List.pairwise_reverse]
  exact foldl_falls L [] List.Pairwise.nil
/-- a condition as it is kept, that may be -/
def CKept (c : C) : Prop := ∃ d : C, cRight d = true ∧ d.val.num < 18446744073709551616 ∧ c = canonC d
theorem word_no32 : ∀ n : Nat, n ≤ 7 → ∀ c ∈ wordL n, c ≠ 32 := by decide
theorem word_inj : ∀ n : Nat, n ≤ 6 → ∀ m : Nat, m ≤ 6 → wordL n = wordL m → n = m := by decide
theorem cut32 : ∀ (n m s t : List UInt8), (∀ c ∈ n, c ≠ 32) → (∀ c ∈ m, c ≠ 32) → n ++ 32 :: s = m ++ 32 :: t → n = m ∧ s = t := fun n m s t hn hm h => by
  have := bare_apart n m (32 :: s) (32 :: t) hn hm (.inr ⟨s, rfl⟩) (.inr ⟨t, rfl⟩) h
  exact ⟨this.1, (List.cons.inj this.2).2⟩
theorem canonV_same (a b : V) (ha : VOk a) (hb : VOk b) (h : sameB a b = true) : canonV a = canonV b := by
  unfold sameB at h
  rw [Bool.and_eq_true, beq_iff_eq] at h
  obtain ⟨hk, h⟩ := h
  obtain ⟨k, n, x, t, y⟩ := a
  obtain ⟨k2, n2, x2, t2, y2⟩ := b
  obtain ⟨h0, h3, hx⟩ := ha
  obtain ⟨_, _, hx2⟩ := hb
  simp only at hk h h0 h3 hx hx2
  subst hk
  rcases (show k = 0 ∨ k = 1 ∨ k = 2 ∨ k = 3 by omega) with rfl | rfl | rfl | rfl
  · have e : n = n2 := by simpa using h
    rw [e]; rfl
  · have e : Ord.key x = Ord.key x2 := by simpa [Ord.same] using h
    have := (key_canon x x2 hx hx2).1 e
    show (⟨1, 0, Ord.canon x, [], false⟩ : V) = ⟨1, 0, Ord.canon x2, [], false⟩
    rw [this]
  · have e : t = t2 := by simpa using h
    rw [e]; rfl
  · have e : y = y2 := by simpa using h
    rw [e]; rfl
theorem canon_again (x : Nat) : Ord.canon (Ord.canon x) = Ord.canon x := by
  unfold Ord.canon
  cases h : nan x
  · cases h2 : Ord.zero x
    · simp only [h, h2, Bool.false_eq_true, if_false]
    · simp only [Bool.false_eq_true, if_false, if_true]
      rw [if_neg (by decide), if_pos (by decide)]
  · simp only [if_true]
    rw [if_pos (by decide)]
theorem vT_kept (v : V) (h0 : 0 ≤ v.kind) (h3 : v.kind ≤ 3) : vT (canonV v) = vT v := by
  obtain ⟨k, n, x, t, y⟩ := v
  simp only at h0 h3
  rcases (show k = 0 ∨ k = 1 ∨ k = 2 ∨ k = 3 by omega) with rfl | rfl | rfl | rfl
  · rfl
  · show Fmt.fltT (Ord.canon (Ord.canon x)) = Fmt.fltT (Ord.canon x)
    rw [canon_again]
  · rfl
  · rfl
theorem cT_kept (c : C) (h0 : 0 ≤ c.val.kind) (h3 : c.val.kind ≤ 3) : cT (canonC c) = cT c := by
  obtain ⟨nm, op, v⟩ := c
  cases h7 : (op == 7)
  · have e : canonC ⟨nm, op, v⟩ = ⟨nm, op, canonV v⟩ := by unfold canonC; simp only [h7]; rfl
    rw [e]
    unfold cT
    simp only [h7, vT_kept v h0 h3]
  · have : op = 7 := by simpa using h7
    subst this
    rfl
theorem right_parts {c : C} (h : cRight c = true) : (∀ x ∈ c.name, x ≠ 32) ∧ 0 ≤ c.op ∧ c.op ≤ 7 ∧ 0 ≤ c.val.kind ∧ c.val.kind ≤ 3 := by
  unfold cRight vRight at h
  simp only [Bool.and_eq_true, decide_eq_true_eq] at h
  refine ⟨?_, h.1.1.2, h.1.2, h.2.1.1, h.2.1.2⟩
  have hn := h.1.1.1
  unfold Sc.nameB at hn
  simp only [Bool.and_eq_true] at hn
  have key : ∀ (l : List UInt8) (i : Nat), Sc.chsOk i l = true → ∀ x ∈ l, x ≠ 32 := by
    intro l
    induction l with
    | nil => intro _ _ x hx; cases hx
    | cons c l ih =>
      intro i h x hx
      rw [Sc.chsOk, Bool.and_eq_true] at h
      rcases List.mem_cons.1 hx with rfl | hx
      · have := h.1
        unfold Sc.chOk at this
        rintro rfl
        revert this
        simp
      · exact ih _ h.2 x hx
  exact key _ _ hn.1.1
/-- CONDITIONS THAT MAY BE, OF ONE TEXT, ARE KEPT ALIKE -/
theorem cT_inj (c d : C) (hc : cRight c = true) (hd : cRight d = true) (nc : c.val.num < 18446744073709551616) (nd : d.val.num < 18446744073709551616) (h : cT c = cT d) : canonC c = canonC d := by
  obtain ⟨c1, c2, c3, c4, c5⟩ := right_parts hc
  obtain ⟨d1, d2, d3, d4, d5⟩ := right_parts hd
  obtain ⟨nm, op, v⟩ := c
  obtain ⟨nm2, op2, v2⟩ := d
  simp only at *
  have hasE : ∀ n : List UInt8, hasT ++ n = [104, 97, 115] ++ 32 :: n := fun n => rfl
  have opE : ∀ (n : List UInt8) (o : Int) (w : V), n ++ [32] ++ wordB o ++ [32] ++ vT w = n ++ 32 :: (wordB o ++ 32 :: vT w) := fun n o w => by simp
  have wE : ∀ o : Int, 0 ≤ o → o ≤ 7 → wordB o = wordL o.toNat := fun o h1 h2 => by unfold wordB; rw [if_neg (by omega)]
  have h32 : ∀ x ∈ ([104, 97, 115] : List UInt8), x ≠ 32 := by decide
  unfold cT at h
  simp only at h
  cases o1 : (op == 7) <;> cases o2 : (op2 == 7) <;> simp only [o1, o2, Bool.false_eq_true, if_false, if_true] at h
  · have p1 : op ≠ 7 := by simpa using o1
    have p2 : op2 ≠ 7 := by simpa using o2
    rw [opE, opE] at h
    obtain ⟨e1, h2⟩ := cut32 _ _ _ _ c1 d1 h
    rw [wE op c2 c3, wE op2 d2 d3] at h2
    obtain ⟨e2, h3⟩ := cut32 _ _ _ _ (word_no32 _ (by omega)) (word_no32 _ (by omega)) h2
    have e3 := word_inj _ (by omega) _ (by omega) e2
    have e4 : op = op2 := by omega
    have h4 : vT v ++ [] = vT v2 ++ [] := by simpa using h3
    have e5 := (vT_apart v v2 ⟨c4, c5, nc⟩ ⟨d4, d5, nd⟩ [] [] (.inl rfl) (.inl rfl) h4).1
    have e6 := canonV_same v v2 ⟨c4, c5, nc⟩ ⟨d4, d5, nd⟩ e5
    unfold canonC
    simp only [o1, o2, Bool.false_eq_true, if_false]
    rw [e1, e4, e6]
  · exfalso
    rw [opE, hasE] at h
    obtain ⟨e1, h2⟩ := cut32 _ _ _ _ c1 h32 h
    exact d1 32 (by rw [← h2]; simp) rfl
  · exfalso
    rw [opE, hasE] at h
    obtain ⟨e1, h2⟩ := cut32 _ _ _ _ h32 d1 h
    exact c1 32 (by rw [h2]; simp) rfl
  · rw [hasE, hasE] at h
    obtain ⟨_, h2⟩ := cut32 _ _ _ _ h32 h32 h
    unfold canonC
    simp only [o1, o2, if_true]
    rw [h2]
theorem kept_inj {a b : C} (ha : CKept a) (hb : CKept b) (h : cT a = cT b) : a = b := by
  obtain ⟨c, c1, c2, rfl⟩ := ha
  obtain ⟨d, d1, d2, rfl⟩ := hb
  obtain ⟨_, _, _, k1, k2⟩ := right_parts c1
  obtain ⟨_, _, _, m1, m2⟩ := right_parts d1
  rw [cT_kept c k1 k2, cT_kept d m1 m2] at h
  exact cT_inj c d c1 d1 c2 d2 h
/-- a list of conditions that may be -/
def LOk (L : List C) : Prop := ∀ c ∈ L, cRight c = true ∧ c.val.num < 18446744073709551616
theorem LOk.kept {L : List C} (h : LOk L) : ∀ c ∈ L.map canonC, CKept c := fun c hc => by
  obtain ⟨d, hd, rfl⟩ := List.mem_map.1 hc
  exact ⟨d, (h d hd).1, (h d hd).2, rfl⟩
end Go.Proofs.YtpbdgbejcdncgaaGreatDoor.Val
end

section
/- WHAT STAYS OF A ROW OF CONDITIONS: it hangs on which there are alone. No walk. -/
namespace Go.Proofs.YtpbdgbejcdncgaaGreatDoor.Val
open Go.RowKit Flt
def ltC (a b : C) : Prop := cmpC a b < 0
/-- a row in order, each as it is kept -/
structure Rise (S : List C) : Prop where
  le : S.Pairwise leC
  kept : ∀ c ∈ S, CKept c
  op : ∀ c ∈ S, 0 ≤ c.op ∧ c.op ≤ 7
theorem Rise.at {S : List C} (h : Rise S) {i k : Nat} (hi : i < S.length) (hk : k < S.length) (hki : k < i) : leC (S[k]'hk) (S[i]'hi) := List.pairwise_iff_getElem.1 h.le k i hk hi hki
theorem Rise.lt {S : List C} (h : Rise S) {a b : C} (ha : a ∈ S) (hb : b ∈ S) (hl : leC a b) (hne : a ≠ b) : ltC a b := by
  rcases Int.lt_trichotomy (cmpC a b) 0 with e | e | e
  · exact e
  · exact absurd (kept_inj (h.kept a ha) (h.kept b hb) ((cb_zero _ _).1 e)) hne
  · exact absurd ((cb_anti (cT b) (cT a)).1.2 e) hl
theorem canon_op {c : C} (h : 0 ≤ c.op ∧ c.op ≤ 7) : 0 ≤ (canonC c).op ∧ (canonC c).op ≤ 7 := by
  unfold canonC
  split
  · exact ⟨by show (0 : Int) ≤ 7; omega, by show (7 : Int) ≤ 7; omega⟩
  · exact h
theorem LOk.rise {L : List C} (h : LOk L) : Rise (sortC (L.map canonC)) where
  le := sortC_rises _
  kept := fun c hc => h.kept c ((sortC_perm _).subset hc)
  op := fun c hc => by
    obtain ⟨d, hd, rfl⟩ := List.mem_map.1 ((sortC_perm _).subset hc)
    exact canon_op ⟨(right_parts (h d hd).1).2.1, (right_parts (h d hd).1).2.2.1⟩
end Go.Proofs.YtpbdgbejcdncgaaGreatDoor.Val
end

section
/- WHAT FilterTurns ASKS, plain. No walk. -/
namespace Go.Proofs.YtpbdgbejcdncgaaGreatDoor.Val
open Go.RowKit Flt
theorem parts_long (l : List UInt8) : l.length + 1 = ((Sc.parts l).map (fun p => p.length + 1)).sum := by
  induction l with
  | nil => simp [Sc.parts]
  | cons b r ih =>
    rw [Sc.parts]
    split
    · rw [List.map_cons, List.sum_cons, ← ih]; simp; omega
    · cases h : Sc.parts r with
      | nil => exact absurd h (Sc.parts_ne r)
      | cons p q =>
        rw [h] at ih
        simp only [List.map_cons, List.sum_cons, List.length_cons] at ih ⊢
        omega
theorem names_long : ∀ L : List (List UInt8), L.all Sc.nameB = true → (L.map (fun p => p.length + 1)).sum ≤ 13 * L.length
  | [], _ => by simp
  | p :: L, h => by
    rw [List.all_cons, Bool.and_eq_true] at h
    have := names_long L h.2
    have h1 : p.length ≤ 12 := by
      have := h.1
      unfold Sc.nameB at this
      simp only [Bool.and_eq_true, decide_eq_true_eq] at this
      exact this.2
    rw [List.map_cons, List.sum_cons, List.length_cons]
    omega
theorem scope_short {s : List UInt8} (h : Sc.rightB s = true) : s.length ≤ 1000 := by
  unfold Sc.rightB at h
  rw [Bool.or_eq_true, Bool.and_eq_true, decide_eq_true_eq] at h
  rcases h with h | ⟨h1, h2⟩
  · have : s = [] := by simpa using h
    subst this; simp
  · have e1 := parts_long s
    have e2 := names_long _ h1
    omega
theorem fright_small {sf : List UInt8} {l : List C} (h : fRight sf l = true) (hok : ∀ x ∈ l, Open.COk x) (hn : ∀ x ∈ l, x.val.num < 18446744073709551616) : sf.length ≤ 1000 ∧ l.length ≤ 6 ∧ LOk l ∧ ∀ c ∈ l, CSmall c ∧ 0 ≤ c.op ∧ c.op ≤ 7 := by
  have hop := fright_op h
  unfold fRight at h
  simp only [Bool.and_eq_true, List.all_eq_true, decide_eq_true_eq] at h
  refine ⟨scope_short h.2.1, h.2.2, fun c hc => ⟨h.1 c hc, hn c hc⟩, fun c hc => ⟨⟨?_, ?_, hn c hc, (hok c hc).2.2.2.1.1, (hok c hc).2.2.2.1.2⟩, hop c hc⟩⟩
  · have := h.1 c hc
    unfold cRight Sc.nameB at this
    simp only [Bool.and_eq_true, decide_eq_true_eq] at this
    omega
  · have := h.1 c hc
    unfold cRight vRight at this
    simp only [Bool.and_eq_true, decide_eq_true_eq] at this
    omega
end Go.Proofs.YtpbdgbejcdncgaaGreatDoor.Val
end

section
/- WHAT FilterCovers, FilterNorms AND FilterKeys ASK, plain: conditions as they are kept imply what they did; one that none implies stays; a key tells its scope and conditions. No walk. -/
namespace Go.Proofs.YtpbdgbejcdncgaaGreatDoor.Val
open Go.RowKit Flt
def KOk (v : V) : Prop := 0 ≤ v.kind ∧ v.kind ≤ 3
theorem KOk.canon {v : V} (h : KOk v) : KOk (canonV v) := by
  unfold KOk; rw [canonV_kind v h.1 h.2]; exact h
theorem four_ways {k : Int} (h0 : 0 ≤ k) (h3 : k ≤ 3) : k = 0 ∨ k = 1 ∨ k = 2 ∨ k = 3 := by omega
theorem KOk.of_right {c : C} (h : cRight c = true) : KOk c.val := ⟨(right_parts h).2.2.2.1, (right_parts h).2.2.2.2⟩
theorem KOk.canonC {c : C} (h : KOk c.val) : KOk (canonC c).val := by
  unfold Val.canonC
  split
  · exact ⟨Int.le_refl 0, by show (0 : Int) ≤ 3; decide⟩
  · exact h.canon
theorem canonV_again {v : V} (h : KOk v) : canonV (canonV v) = canonV v := by
  obtain ⟨k, n, x, t, y⟩ := v
  obtain ⟨h0, h3⟩ := h
  simp only at h0 h3
  rcases four_ways h0 h3 with rfl | rfl | rfl | rfl
  · rfl
  · show (⟨1, 0, Ord.canon (Ord.canon x), [], false⟩ : V) = ⟨1, 0, Ord.canon x, [], false⟩
    rw [canon_again]
  · rfl
  · rfl
theorem canonC_again {c : C} (h : KOk c.val) : canonC (canonC c) = canonC c := by
  cases h7 : (c.op == 7)
  · have e : canonC c = ⟨c.name, c.op, canonV c.val⟩ := by unfold canonC; simp only [h7, Bool.false_eq_true, if_false]
    rw [e]
    unfold canonC
    simp only [h7, Bool.false_eq_true, if_false, canonV_again h]
  · have e : canonC c = ⟨c.name, 7, 0, 0, 0, [], false⟩ := by unfold canonC; simp only [h7, if_true]
    rw [e]; rfl
open Classical in
/-- below every one that is there stands one below which none stands -/
theorem least {α : Type} (S : List α) (R : α → α → Prop) (irr : ∀ x, ¬ R x x) (tr : ∀ x ∈ S, ∀ y ∈ S, ∀ z ∈ S, R z y → R y x → R z x) :
    ∀ n, ∀ c ∈ S, (S.filter (fun y => @decide (R y c) (Classical.propDecidable _))).length ≤ n → ∃ x ∈ S, (∀ y ∈ S, ¬ R y x) ∧ (x = c ∨ R x c) := by
  intro n
  induction n with
  | zero =>
    intro c hc h
    refine ⟨c, hc, fun y hy hr => ?_, .inl rfl⟩
    have hm : y ∈ S.filter (fun y => @decide (R y c) (Classical.propDecidable _)) := List.mem_filter.2 ⟨hy, decide_eq_true hr⟩
    rw [List.eq_nil_of_length_eq_zero (Nat.le_zero.1 h)] at hm
    cases hm
  | succ n ih =>
    intro c hc h
    by_cases hg : ∃ y ∈ S, R y c
    · obtain ⟨y, hy, hr⟩ := hg
      have hlt : (S.filter (fun z => @decide (R z y) (Classical.propDecidable _))).length < (S.filter (fun z => @decide (R z c) (Classical.propDecidable _))).length := by
        have he : S.filter (fun z => @decide (R z y) (Classical.propDecidable _)) = (S.filter (fun z => @decide (R z c) (Classical.propDecidable _))).filter (fun z => @decide (R z y) (Classical.propDecidable _)) := by
          rw [List.filter_filter]
          refine List.filter_congr fun z hz => ?_
          by_cases h1 : R z y
          · have h2 := tr c hc y hy z hz h1 hr
            simp [h1, h2]
          · simp [h1]
        rw [he]
        exact List.length_filter_lt_length_iff_exists.2 ⟨y, List.mem_filter.2 ⟨hy, decide_eq_true hr⟩, by simp [irr]⟩
      obtain ⟨x, hx, h1, h2⟩ := ih y hy (by omega)
      refine ⟨x, hx, h1, .inr ?_⟩
      rcases h2 with rfl | h2
      · exact hr
      · exact tr c hc y hy x hx h2 hr
    · exact ⟨c, hc, fun y hy hr => hg ⟨y, hy, hr⟩, .inl rfl⟩
theorem LOk.op {L : List C} (h : LOk L) : ∀ c ∈ L, 0 ≤ c.op ∧ c.op ≤ 7 := fun c hc => ⟨(right_parts (h c hc).1).2.1, (right_parts (h c hc).1).2.2.1⟩
theorem LOk.kind {L : List C} (h : LOk L) : ∀ c ∈ L, KOk c.val := fun c hc => KOk.of_right (h c hc).1
theorem norm_of {L : List C} {x : C} (hx : x ∈ normL L) : ∃ d ∈ L, x = canonC d := normL_mem L x hx
theorem right_canon {c : C} (h : cRight c = true) : cRight (canonC c) = true := by
  have hp := right_parts h
  unfold cRight at h ⊢
  simp only [Bool.and_eq_true, decide_eq_true_eq] at h ⊢
  have nm : (canonC c).name = c.name := by unfold canonC; split <;> rfl
  rw [nm]
  refine ⟨⟨⟨h.1.1.1, (canon_op ⟨hp.2.1, hp.2.2.1⟩).1⟩, (canon_op ⟨hp.2.1, hp.2.2.1⟩).2⟩, ?_⟩
  unfold canonC
  split
  · exact (show vRight ⟨0, 0, 0, [], false⟩ = true by decide)
  · have h2 := h.2
    obtain ⟨nm, op, k, n, x, t, y⟩ := c
    obtain ⟨_, _, _, k0, k3⟩ := hp
    simp only at *
    rcases four_ways k0 k3 with rfl | rfl | rfl | rfl
    · rfl
    · rfl
    · unfold vRight at h2 ⊢
      exact h2
    · rfl
theorem num_canon {c : C} (h : c.val.num < 18446744073709551616) : (canonC c).val.num < 18446744073709551616 := by
  obtain ⟨nm, op, k, n, x, t, y⟩ := c
  simp only at h
  unfold canonC
  split
  · show (0 : Nat) < _; omega
  · show (canonV ⟨k, n, x, t, y⟩).num < _
    unfold canonV
    split
    · show (0 : Nat) < _; omega
    split
    · exact Ord.canon_lt x h
    split
    · show (0 : Nat) < _; omega
    split
    · show (0 : Nat) < _; omega
    · show (0 : Nat) < _; omega
theorem LOk.norm {L : List C} (h : LOk L) : LOk (normL L) := fun x hx => by
  obtain ⟨d, hd, rfl⟩ := norm_of hx
  exact ⟨right_canon (h d hd).1, num_canon (h d hd).2⟩
theorem norm_kept {L : List C} (h : LOk L) : (normL L).map canonC = normL L := by
  have : ∀ x ∈ normL L, canonC x = x := fun x hx => by
    obtain ⟨d, hd, rfl⟩ := norm_of hx
    exact canonC_again (h.kind d hd)
  rw [List.map_congr_left this, List.map_id']
theorem norm_right {sf : List UInt8} {L : List C} (h : LOk L) (hr : fRight sf L = true) : fRight sf (normL L) = true := by
  unfold fRight at hr ⊢
  simp only [Bool.and_eq_true, List.all_eq_true, decide_eq_true_eq] at hr ⊢
  exact ⟨fun x hx => (h.norm x hx).1, hr.2.1, Nat.le_trans (normL_len L) hr.2.2⟩
/-- the text of a filter behind its scope -/
def tailT : List C → List UInt8
  | [] => []
  | c :: r => [32, 38, 32] ++ cT c ++ tailT r
def bodyT : List C → List UInt8
  | [] => []
  | c :: r => [32] ++ cT c ++ tailT r
theorem tailT_app (l : List C) (c : C) : tailT (l ++ [c]) = tailT l ++ ([32, 38, 32] ++ cT c) := by
  induction l with
  | nil => simp [tailT]
  | cons d r ih => rw [List.cons_append, tailT, ih, tailT]; simp
theorem fprK_body (sc : List UInt8) (l : List C) : ∀ k, k ≤ l.length → fprK sc l cT k = sc ++ 58 :: bodyT (l.take k)
  | 0, _ => by simp [fprK, bodyT]
  | k + 1, h => by
    rw [fprK, fprK_body sc l k (by omega), List.take_succ_eq_append_getElem (by omega), getElem!_pos l k (by omega)]
    cases hk : l.take k with
    | nil =>
      have : k = 0 := by
        have := congrArg List.length hk
        rw [List.length_take, List.length_nil] at this
        omega
      subst this
      simp [bodyT, tailT]
    | cons d r =>
      have : k ≠ 0 := by
        rintro rfl
        simp at hk
      simp [bodyT, tailT_app, this]
theorem keyT_body (sf : List UInt8) (L : List C) : keyT sf L = sf ++ 58 :: bodyT (normL L) := by
  unfold keyT; rw [fprK_body sf _ _ (Nat.le_refl _), List.take_length]
theorem tailT_tail (l : List C) : Tail (tailT l) := by
  cases l with
  | nil => exact .inl rfl
  | cons c r => exact .inr ⟨38 :: 32 :: (cT c ++ tailT r), by simp [tailT]⟩
theorem name_head {l : List UInt8} (h : Sc.nameB l = true) : ∃ c r, l = c :: r ∧ 97 ≤ c.toNat ∧ c.toNat ≤ 122 := by
  unfold Sc.nameB at h
  simp only [Bool.and_eq_true] at h
  cases l with
  | nil => simp at h
  | cons c r =>
    refine ⟨c, r, rfl, ?_⟩
    have := h.1.1
    rw [Sc.chsOk, Bool.and_eq_true] at this
    have h1 := this.1
    unfold Sc.chOk at h1
    simpa using h1
theorem word_head0 : ∀ n : Nat, n ≤ 6 → ((wordL n).head?.all (fun c => decide (c.toNat < 97) || decide (122 < c.toNat))) = true := by decide
theorem word_head (n : Nat) (hn : n ≤ 6) (c : UInt8) (r : List UInt8) (h : wordL n = c :: r) : c.toNat < 97 ∨ 122 < c.toNat := by
  have := word_head0 n hn
  rw [h] at this
  simpa using this
/-- TEXTS OF CONDITIONS STAND APART -/
theorem cT_apart (c d : C) (hc : cRight c = true) (hd : cRight d = true) (nc : c.val.num < 18446744073709551616) (nd : d.val.num < 18446744073709551616) (s r : List UInt8) (hs : Tail s) (hr : Tail r) (h : cT c ++ s = cT d ++ r) : canonC c = canonC d ∧ s = r := by
  obtain ⟨c1, c2, c3, c4, c5⟩ := right_parts hc
  obtain ⟨d1, d2, d3, d4, d5⟩ := right_parts hd
  have hcn : Sc.nameB c.name = true := by
    unfold cRight at hc; simp only [Bool.and_eq_true] at hc; exact hc.1.1.1
  have hdn : Sc.nameB d.name = true := by
    unfold cRight at hd; simp only [Bool.and_eq_true] at hd; exact hd.1.1.1
  obtain ⟨x1, r1, e1, l1, u1⟩ := name_head hcn
  obtain ⟨x2, r2, e2, l2, u2⟩ := name_head hdn
  obtain ⟨nm, op, v⟩ := c
  obtain ⟨nm2, op2, v2⟩ := d
  simp only at *
  have hasE : ∀ n t : List UInt8, hasT ++ n ++ t = [104, 97, 115] ++ 32 :: (n ++ t) := fun n t => by simp [hasT]
  have opE : ∀ (n t : List UInt8) (o : Int) (w : V), n ++ [32] ++ wordB o ++ [32] ++ vT w ++ t = n ++ 32 :: (wordB o ++ 32 :: (vT w ++ t)) := fun n t o w => by simp
  have wE : ∀ o : Int, 0 ≤ o → o ≤ 7 → wordB o = wordL o.toNat := fun o h1 h2 => by unfold wordB; rw [if_neg (by omega)]
  have h32 : ∀ x ∈ ([104, 97, 115] : List UInt8), x ≠ 32 := by decide
  have never : ∀ (n w t u : List UInt8) (o : Int), 0 ≤ o → o ≤ 6 → (∀ x ∈ n, x ≠ 32) → (∃ c r, n = c :: r ∧ 97 ≤ c.toNat ∧ c.toNat ≤ 122) → Tail t → n ++ t = wordB o ++ 32 :: u → False := by
    intro n w t u o o0 o6 hn ⟨c, q, e, a1, a2⟩ ht he
    rw [wE o o0 (by omega)] at he
    obtain ⟨f1, _⟩ := bare_apart n _ t (32 :: u) hn (word_no32 _ (by omega)) ht (.inr ⟨u, rfl⟩) he
    rw [e] at f1
    rcases word_head _ (by omega) c q f1.symm with b | b <;> omega
  unfold cT at h
  simp only at h
  cases o1 : (op == 7) <;> cases o2 : (op2 == 7) <;> simp only [o1, o2, Bool.false_eq_true, if_false, if_true] at h
  · have p1 : op ≠ 7 := by simpa using o1
    have p2 : op2 ≠ 7 := by simpa using o2
    rw [opE, opE] at h
    obtain ⟨e1, h2⟩ := cut32 _ _ _ _ c1 d1 h
    rw [wE op c2 c3, wE op2 d2 d3] at h2
    obtain ⟨e2, h3⟩ := cut32 _ _ _ _ (word_no32 _ (by omega)) (word_no32 _ (by omega)) h2
    have e3 := word_inj _ (by omega) _ (by omega) e2
    have e4 : op = op2 := by omega
    obtain ⟨e5, es⟩ := vT_apart v v2 ⟨c4, c5, nc⟩ ⟨d4, d5, nd⟩ s r hs hr h3
    have e6 := canonV_same v v2 ⟨c4, c5, nc⟩ ⟨d4, d5, nd⟩ e5
    refine ⟨?_, es⟩
    unfold canonC
    simp only [o1, o2, Bool.false_eq_true, if_false]
    rw [e1, e4, e6]
  · exfalso
    have p1 : op ≠ 7 := by simpa using o1
    rw [opE, hasE] at h
    obtain ⟨_, h2⟩ := cut32 _ _ _ _ c1 h32 h
    exact never nm2 [] r _ op c2 (by omega) d1 ⟨x2, r2, e2, l2, u2⟩ hr h2.symm
  · exfalso
    have p2 : op2 ≠ 7 := by simpa using o2
    rw [opE, hasE] at h
    obtain ⟨_, h2⟩ := cut32 _ _ _ _ h32 d1 h
    exact never nm [] s _ op2 d2 (by omega) c1 ⟨x1, r1, e1, l1, u1⟩ hs h2
  · rw [hasE, hasE] at h
    obtain ⟨_, h2⟩ := cut32 _ _ _ _ h32 h32 h
    obtain ⟨f1, f2⟩ := bare_apart nm nm2 s r c1 d1 hs hr h2
    refine ⟨?_, f2⟩
    unfold canonC
    simp only [o1, o2, if_true]
    rw [f1]
theorem tailT_inj : ∀ (l m : List C), LOk l → LOk m → l.map canonC = l → m.map canonC = m → tailT l = tailT m → l = m
  | [], [], _, _, _, _, _ => rfl
  | [], d :: m, _, _, _, _, h => by simp [tailT] at h
  | c :: l, [], _, _, _, _, h => by simp [tailT] at h
  | c :: l, d :: m, hl, hm, kl, km, h => by
    rw [tailT, tailT, List.append_assoc, List.append_assoc] at h
    have h2 := List.append_cancel_left h
    have qc := hl c List.mem_cons_self
    have qd := hm d List.mem_cons_self
    obtain ⟨e1, e2⟩ := cT_apart c d qc.1 qd.1 qc.2 qd.2 _ _ (tailT_tail l) (tailT_tail m) h2
    rw [List.map_cons] at kl km
    obtain ⟨k1, k2⟩ := List.cons.inj kl
    obtain ⟨j1, j2⟩ := List.cons.inj km
    rw [k1, j1] at e1
    rw [e1, tailT_inj l m (fun x hx => hl x (List.mem_cons_of_mem _ hx)) (fun x hx => hm x (List.mem_cons_of_mem _ hx)) k2 j2 e2]
theorem bodyT_inj (l m : List C) (hl : LOk l) (hm : LOk m) (kl : l.map canonC = l) (km : m.map canonC = m) (h : bodyT l = bodyT m) : l = m := by
  cases l with
  | nil => cases m with
    | nil => rfl
    | cons d m => simp [bodyT] at h
  | cons c l => cases m with
    | nil => simp [bodyT] at h
    | cons d m =>
      rw [bodyT, bodyT, List.append_assoc, List.append_assoc] at h
      refine tailT_inj _ _ hl hm kl km ?_
      rw [tailT, tailT, List.append_assoc, List.append_assoc, List.append_cancel_left h]
theorem cut58 : ∀ (n m s t : List UInt8), (∀ c ∈ n, c ≠ 58) → (∀ c ∈ m, c ≠ 58) → n ++ 58 :: s = m ++ 58 :: t → n = m ∧ s = t
  | [], [], s, t, _, _, h => ⟨rfl, (List.cons.inj h).2⟩
  | [], b :: m, s, t, _, hm, h => absurd (List.cons.inj h).1.symm (hm b List.mem_cons_self)
  | a :: n, [], s, t, hn, _, h => absurd (List.cons.inj h).1 (hn a List.mem_cons_self)
  | a :: n, b :: m, s, t, hn, hm, h => by
    obtain ⟨h1, h2⟩ := List.cons.inj h
    obtain ⟨i1, i2⟩ := cut58 n m s t (fun x hx => hn x (List.mem_cons_of_mem _ hx)) (fun x hx => hm x (List.mem_cons_of_mem _ hx)) h2
    exact ⟨by rw [h1, i1], i2⟩
theorem name_no58 {l : List UInt8} (h : Sc.nameB l = true) : ∀ x ∈ l, x ≠ 58 := by
  unfold Sc.nameB at h
  simp only [Bool.and_eq_true] at h
  have key : ∀ (l : List UInt8) (i : Nat), Sc.chsOk i l = true → ∀ x ∈ l, x ≠ 58 := by
    intro l
    induction l with
    | nil => intro _ _ x hx; cases hx
    | cons c l ih =>
      intro i h x hx
      rw [Sc.chsOk, Bool.and_eq_true] at h
      rcases List.mem_cons.1 hx with rfl | hx
      · have := h.1
        unfold Sc.chOk at this
        rintro rfl
        revert this
        simp
      · exact ih _ h.2 x hx
  exact key _ _ h.1.1
theorem parts_no58 : ∀ l : List UInt8, (∀ p ∈ Sc.parts l, ∀ x ∈ p, x ≠ 58) → ∀ x ∈ l, x ≠ 58
  | [], _, x, hx => by cases hx
  | b :: r, h, x, hx => by
    rw [Sc.parts] at h
    by_cases hb : b = 47
    · rw [if_pos hb] at h
      rcases List.mem_cons.1 hx with rfl | hx
      · rw [hb]; decide
      · exact parts_no58 r (fun p hp => h p (List.mem_cons_of_mem _ hp)) x hx
    · rw [if_neg hb] at h
      cases hp : Sc.parts r with
      | nil => exact absurd hp (Sc.parts_ne r)
      | cons p q =>
        rw [hp] at h
        simp only at h
        rcases List.mem_cons.1 hx with rfl | hx
        · exact h (x :: p) List.mem_cons_self x List.mem_cons_self
        · refine parts_no58 r (fun p' hp' y hy => ?_) x hx
          rw [hp] at hp'
          rcases List.mem_cons.1 hp' with rfl | hp'
          · exact h (b :: p') List.mem_cons_self y (List.mem_cons_of_mem _ hy)
          · exact h p' (List.mem_cons_of_mem _ hp') y hy
theorem scope_no58 {s : List UInt8} (h : Sc.rightB s = true) : ∀ x ∈ s, x ≠ 58 := by
  unfold Sc.rightB at h
  rw [Bool.or_eq_true, Bool.and_eq_true] at h
  rcases h with h | ⟨h1, _⟩
  · have : s = [] := by simpa using h
    subst this
    intro x hx; cases hx
  · exact parts_no58 s (fun p hp => name_no58 (List.all_eq_true.1 h1 p hp))
/-- A KEY TELLS ITS SCOPE AND ITS CONDITIONS -/
theorem keyT_inj {sf sg : List UInt8} {L M : List C} (hL : LOk L) (hM : LOk M) (hf : Sc.rightB sf = true) (hg : Sc.rightB sg = true) (h : keyT sf L = keyT sg M) : sf = sg ∧ normL L = normL M := by
  rw [keyT_body, keyT_body] at h
  obtain ⟨e1, e2⟩ := cut58 _ _ _ _ (scope_no58 hf) (scope_no58 hg) h
  exact ⟨e1, bodyT_inj _ _ hL.norm hM.norm (norm_kept hL) (norm_kept hM) e2⟩
end Go.Proofs.YtpbdgbejcdncgaaGreatDoor.Val
end

section
/- WHAT A WRITER LAYS: plain functions from values to bytes, no program in sight. -/
namespace Go.Proofs.YtpbdgbejcdncgaaGreatDoor.Wire

/-- a number as a byte -/
def byteOf (n : Int) : UInt8 := UInt8.ofNat (n % 256).toNat
theorem byteOf_val (n : Int) : ((byteOf n).toNat : Int) = n % 256 := by
  unfold byteOf
  rw [UInt8.toNat_ofNat', Nat.mod_eq_of_lt (by omega)]
  omega
theorem byteOf_nat (c : UInt8) : byteOf (c.toNat : Int) = c := by
  apply UInt8.toNat_inj.1
  have := byteOf_val (c.toNat : Int)
  have h := c.toNat_lt
  omega
def encText (s : List UInt8) : List UInt8 := byteOf s.length :: s
/-- the byte of a long number at a place -/
def longAt (x : Nat) (k : Nat) : UInt8 := UInt8.ofNat (x / 2 ^ k % 256)
def encLong (x : Nat) : List UInt8 := [longAt x 56, longAt x 48, longAt x 40, longAt x 32, longAt x 24, longAt x 16, longAt x 8, longAt x 0]
theorem encLong_len (x : Nat) : (encLong x).length = 8 := rfl
theorem encText_len (s : List UInt8) : (encText s).length = s.length + 1 := by simp [encText]
end Go.Proofs.YtpbdgbejcdncgaaGreatDoor.Wire
end
