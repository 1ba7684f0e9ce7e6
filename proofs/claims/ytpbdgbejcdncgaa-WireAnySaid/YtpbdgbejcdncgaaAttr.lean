/- ATTRIBUTES: six cells each; the walks of event.find and event.Get, and of the library's search as event.find calls it. -/
import Derived.Test.YtpbdgbejcdncgaaOpenV
import Derived.Test.YtpbdgbejcdncgaaCanon
namespace Go.Proofs.Ytpbdgbejcdncgaa.Val
open Go.RowKit Flt
structure A where
  name : List UInt8
  val : V
instance : Inhabited A := ⟨⟨[], ⟨0, 0, 0, [], false⟩⟩⟩
abbrev aa (a : A) : Value := .agg #[.string ⟨a.name.toArray⟩, .int .i64 a.val.kind, .int .i64 a.val.int, .float .f64 a.val.num, .string ⟨a.val.text.toArray⟩, .bool a.val.yes]
def AAt (w : World) (p : Addr) (a : A) : Prop :=
  w.cell? p = some (.string ⟨a.name.toArray⟩) ∧ w.cell? ⟨p.block, p.off + 1, none⟩ = some (.int .i64 a.val.kind) ∧ w.cell? ⟨p.block, p.off + 2, none⟩ = some (.int .i64 a.val.int) ∧ w.cell? ⟨p.block, p.off + 3, none⟩ = some (.float .f64 a.val.num) ∧ w.cell? ⟨p.block, p.off + 4, none⟩ = some (.string ⟨a.val.text.toArray⟩) ∧ w.cell? ⟨p.block, p.off + 5, none⟩ = some (.bool a.val.yes)
def Attrs (w : World) (a0 : Option Addr) (l : List A) : Prop := ∀ i (h : i < l.length), ∃ a, a0 = some a ∧ AAt w (a.add (i * 6)) l[i]
theorem AAt.below {w w2 : World} {p : Addr} {a : A} (h : AAt w p a) (hb : Below w.heap.size w w2) : AAt w2 p a := by
  obtain ⟨h0, h1, h2, h3, h4, h5⟩ := h
  exact ⟨(hb.cell (World.block_lt_of_cell? _ _ h0)).trans h0, (hb.cell (World.block_lt_of_cell? _ _ h1)).trans h1, (hb.cell (World.block_lt_of_cell? _ _ h2)).trans h2, (hb.cell (World.block_lt_of_cell? _ _ h3)).trans h3, (hb.cell (World.block_lt_of_cell? _ _ h4)).trans h4, (hb.cell (World.block_lt_of_cell? _ _ h5)).trans h5⟩
theorem Attrs.below {w w2 : World} {a0 : Option Addr} {l : List A} (h : Attrs w a0 l) (hb : Below w.heap.size w w2) : Attrs w2 a0 l := fun i hi => by
  obtain ⟨a, e, h1⟩ := h i hi
  exact ⟨a, e, h1.below hb⟩
/-- where the search ends -/
def bs (l : List A) (t : List UInt8) (i j : Nat) : Nat :=
  if h : i < j then (if Lib.compareBytes (l[(i + j) / 2]!).name t < 0 then bs l t ((i + j) / 2 + 1) j else bs l t i ((i + j) / 2)) else i
termination_by j - i
theorem bs_le (l : List A) (t : List UInt8) (i j : Nat) (h : i ≤ j) : bs l t i j ≤ j := by
  rw [bs]
  split
  · split
    · exact bs_le l t _ j (by omega)
    · exact Nat.le_trans (bs_le l t i _ (by omega)) (by omega)
  · exact h
termination_by j - i
attribute [local go_sem] run_store_flt
theorem find1_any (a : A) (t : List UInt8) (w : World) : Calls Try.prog 51 #[aa a, .string ⟨t.toArray⟩] w fun e w' => e = .returned (.int .i64 (Lib.compareBytes a.name t)) ∧ Below w.heap.size w w' := by
  obtain ⟨nm, k, n, x, tx, y⟩ := a
  go_enter Try.func51, Try.ntmps51
  go_wp2_with (go_at_call 52; refine (Try.strings_Compare _ _ _).mono ?_; rintro e w' ⟨rfl, rfl⟩)
  go_ret
  exact ⟨rfl, by repeat (first | assumption | (with_reducible exact Below.refl _ _) | exact balloc _ _ | exact balloc2 _ _ _ | refine btrans ?_ (by assumption) | refine btrans ?_ (balloc _ _))⟩
set_option maxHeartbeats 2000000 in
theorem bsearch_any (a0 : Option Addr) (cap : Nat) (l : List A) (t : List UInt8) (w : World) (hl : Attrs w a0 l) (hlm : l.length ≤ 1000000) :
    Calls Try.prog 50 #[.slice a0 l.length cap, .string ⟨t.toArray⟩, .func (.func 51) #[] #[]] w fun e w' =>
      e = .returned (.tuple #[.int .i64 (bs l t 0 l.length : Nat), .bool (decide (bs l t 0 l.length < l.length) && Lib.compareBytes (l[bs l t 0 l.length]!).name t == 0)]) ∧ Below w.heap.size w w' := by
  have HL := Lib.hid hl; clear hl
  generalize hR0 : bs l t 0 l.length = R
  have HR0 := Lib.hid hR0; clear hR0
  go_enter Try.func50, Try.ntmps50
  go_wp2_with fail
  go_loopw [9, 10] (fun vi vj wr => ∃ i j : Nat, i ≤ j ∧ j ≤ l.length ∧ vi = .int .i64 i ∧ vj = .int .i64 j ∧ Hid (bs l t i j = R) ∧ Below w.heap.size w wr) (fun vi vj _ => (intOf vj).toNat - (intOf vi).toNat)
  case atStart => exact ⟨0, l.length, Nat.zero_le _, Nat.le_refl _, rfl, rfl, HR0, Below.refl _ _⟩
  case round =>
    obtain ⟨i, j, hij, hj, rfl, rfl, HB, hbr⟩ := hrel
    clear HR0
    by_cases hlt : i < j
    · have l1 : (i : Int) < (j : Int) := by omega
      have hm : (i + j) / 2 < l.length := by omega
      have hw1 : IntKind.i64.wrap ((i : Int) + (j : Int)) = (i : Int) + (j : Int) := by simp only [IntKind.wrap, IntKind.bits, IntKind.signed]; simp; omega
      obtain ⟨a, rfl, v0, v1, v2, v3, v4, v5⟩ := (HL.out.below hbr) ((i + j) / 2) hm
      have hg : l[(i + j) / 2]! = l[(i + j) / 2] := getElem!_pos l _ hm
      have hstep : bs l t i j = if Lib.compareBytes (l[(i + j) / 2]).name t < 0 then bs l t ((i + j) / 2 + 1) j else bs l t i ((i + j) / 2) := by
        rw [bs, dif_pos hlt, hg]
      have HS := Lib.hid hstep
      clear hstep hg
      by_cases hc : Lib.compareBytes (l[(i + j) / 2]).name t < 0
      · have HB2 : Hid (bs l t ((i + j) / 2 + 1) j = R) := Lib.hid (by rw [← HB.out, HS.out, if_pos hc])
        go_wp2_with (go_at_call 51; refine (find1_any (l[(i + j) / 2]) t _).mono ?_; rintro e w2 ⟨rfl, hb2⟩)
        exact ⟨⟨(i + j) / 2 + 1, j, by omega, hj, by go_num, rfl, HB2, btrans hbr hb2⟩, by simp [intOf]; go_num⟩
      · have HB2 : Hid (bs l t i ((i + j) / 2) = R) := Lib.hid (by rw [← HB.out, HS.out, if_neg hc])
        go_wp2_with (go_at_call 51; refine (find1_any (l[(i + j) / 2]) t _).mono ?_; rintro e w2 ⟨rfl, hb2⟩)
        exact ⟨⟨i, (i + j) / 2, by omega, by omega, rfl, by go_num, HB2, btrans hbr hb2⟩, by simp [intOf]; go_num⟩
    · have l1 : ¬ (i : Int) < (j : Int) := by omega
      obtain rfl : i = j := by omega
      have hRi : R = i := by rw [← HB.out, bs, dif_neg hlt]
      subst hRi
      clear HB
      by_cases hlt2 : R < l.length
      · have l2 : (R : Int) < (l.length : Int) := by omega
        have hg : l[R]! = l[R] := getElem!_pos l _ hlt2
        have HG := Lib.hid hg
        clear hg
        obtain ⟨a, rfl, v0, v1, v2, v3, v4, v5⟩ := (HL.out.below hbr) R hlt2
        go_wp2_with (go_at_call 51; refine (find1_any (l[R]) t _).mono ?_; rintro e w2 ⟨rfl, hb2⟩)
        go_ret2
        exact ⟨by rw [HG.out]; simp [hlt2], btrans hbr hb2⟩
      · have l2 : ¬ (R : Int) < (l.length : Int) := by omega
        go_wp2
        go_ret2
        exact ⟨by simp, hbr⟩
/-- an event's two cells -/
abbrev ev (sc : List UInt8) (a0 : Option Addr) (n cap : Nat) : Value := .agg #[.string ⟨sc.toArray⟩, .slice a0 n cap]
def foundB (l : List A) (t : List UInt8) : Bool := decide (bs l t 0 l.length < l.length) && Lib.compareBytes (l[bs l t 0 l.length]!).name t == 0
theorem find_any (sc : List UInt8) (a0 : Option Addr) (cap : Nat) (l : List A) (t : List UInt8) (w : World) (hl : Attrs w a0 l) (hlm : l.length ≤ 1000000) :
    Calls Try.prog 43 #[ev sc a0 l.length cap, .string ⟨t.toArray⟩] w fun e w' =>
      e = .returned (.tuple #[.int .i64 (bs l t 0 l.length : Nat), .bool (foundB l t)]) ∧ Below w.heap.size w w' := by
  have hf (w : World) (h : Attrs w a0 l) : Calls Try.prog 50 #[.slice a0 l.length cap, .string ⟨t.toArray⟩, .func (.func 51) #[] #[]] w fun e w' =>
      e = .returned (.tuple #[.int .i64 (bs l t 0 l.length : Nat), .bool (foundB l t)]) ∧ Below w.heap.size w w' := bsearch_any a0 cap l t w h hlm
  have HL := Lib.hid hl; have HF := Lib.hid hf; clear hl hf
  generalize foundB l t = F at *
  generalize bs l t 0 l.length = R at *
  go_enter Try.func43, Try.ntmps43
  go_wp2_with (go_at_call 50; refine (HF.out _ (HL.out.below (by repeat (first | assumption | (with_reducible exact Below.refl _ _) | exact balloc _ _ | exact balloc2 _ _ _ | refine btrans ?_ (by assumption) | refine btrans ?_ (balloc _ _))))).mono ?_; rintro e w2 ⟨rfl, hb1⟩)
  go_ret2
  exact ⟨rfl, by repeat (first | assumption | (with_reducible exact Below.refl _ _) | exact balloc _ _ | exact balloc2 _ _ _ | refine btrans ?_ (by assumption) | refine btrans ?_ (balloc _ _))⟩
theorem set5_at (w : World) (b : Nat) (v0 v1 v2 v3 v4 : Value) (h : ∀ j, j < 5 → (w.cell? ⟨b, j, none⟩).isSome = true) :
    (((((w.setCell ⟨b, 0, none⟩ v0).setCell ⟨b, 1, none⟩ v1).setCell ⟨b, 2, none⟩ v2).setCell ⟨b, 3, none⟩ v3).setCell ⟨b, 4, none⟩ v4).cell? ⟨b, 0, none⟩ = some v0 ∧
    (((((w.setCell ⟨b, 0, none⟩ v0).setCell ⟨b, 1, none⟩ v1).setCell ⟨b, 2, none⟩ v2).setCell ⟨b, 3, none⟩ v3).setCell ⟨b, 4, none⟩ v4).cell? ⟨b, 1, none⟩ = some v1 ∧
    (((((w.setCell ⟨b, 0, none⟩ v0).setCell ⟨b, 1, none⟩ v1).setCell ⟨b, 2, none⟩ v2).setCell ⟨b, 3, none⟩ v3).setCell ⟨b, 4, none⟩ v4).cell? ⟨b, 2, none⟩ = some v2 ∧
    (((((w.setCell ⟨b, 0, none⟩ v0).setCell ⟨b, 1, none⟩ v1).setCell ⟨b, 2, none⟩ v2).setCell ⟨b, 3, none⟩ v3).setCell ⟨b, 4, none⟩ v4).cell? ⟨b, 3, none⟩ = some v3 ∧
    (((((w.setCell ⟨b, 0, none⟩ v0).setCell ⟨b, 1, none⟩ v1).setCell ⟨b, 2, none⟩ v2).setCell ⟨b, 3, none⟩ v3).setCell ⟨b, 4, none⟩ v4).cell? ⟨b, 4, none⟩ = some v4 ∧
    Below b w (((((w.setCell ⟨b, 0, none⟩ v0).setCell ⟨b, 1, none⟩ v1).setCell ⟨b, 2, none⟩ v2).setCell ⟨b, 3, none⟩ v3).setCell ⟨b, 4, none⟩ v4) := by
  have e := World.cell?_setCells_in b [v0, v1, v2, v3, v4] 0 w (fun j hj => by rw [Nat.zero_add]; exact h j hj)
  exact ⟨e 0 (by simp), e 1 (by simp), e 2 (by simp), e 3 (by simp), e 4 (by simp),
    (((((Below.refl b w).setCell (Nat.le_refl _) _).setCell (Nat.le_refl _) _).setCell (Nat.le_refl _) _).setCell (Nat.le_refl _) _).setCell (Nat.le_refl _) _⟩
end Go.Proofs.Ytpbdgbejcdncgaa.Val
