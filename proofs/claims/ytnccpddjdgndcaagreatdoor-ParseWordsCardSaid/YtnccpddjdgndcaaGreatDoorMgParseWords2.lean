/- MERGED BY A PROGRAM OF MINE (pmg.py) out of my own texts, pruned, in their order: CondVoid, Canon, Attr, Match, Conds, OwnC, PaPie, ImplFn, NewFn, New, Fit03, Light03, OrdKey, Same, ESame, ERight, RightA, FilFn, ScL, Fil, FilM, PaFil, Print, ShelfV, Unq, Fit02, ReadT, PlainQ, PaOne, PaOneA, PaFilG, CPrint, Sort1, SortFn, Sort2, Need, Norm, FPrint, VInj, NormFn, Keep, NormsFn. -/
import Derived.Test.YtnccpddjdgndcaaGreatDoorMgParseWords1
import Derived.Test.YtnccpddjdgndcaaGreatDoorCond
import Derived.Handy
import Derived.Laws.IdiomCopy
import Derived.Laws.AppendOwn
import Derived.Laws.AppendOwnNone
import Derived.Laws.OwnMore
import Derived.Test.YtnccpddjdgndcaaGreatDoorOrd
import Derived.Laws.StructEq
import Derived.Test.YtnccpddjdgndcaaGreatDoorVal
import Derived.Test.YtnccpddjdgndcaaGreatDoorQuo
import Derived.Test.YtnccpddjdgndcaaGreatDoorTabs
import Derived.Lib.AppendIntMem
import Derived.Shelf.Unicode.ValidAny
import Derived.Test.YtnccpddjdgndcaaGreatDoorProg
import Derived.BigQuiet
import Derived.Deep.QuietTactic
import Derived.Lib.PathFns
import Derived.Lib.ValidAsc
import Derived.BigGuardPart
import Derived.Test.YtnccpddjdgndcaaGreatDoorFmtM

section
/- THE WALKS OF cond.Void and cond.Right, the laws' light. -/
namespace Go.Proofs.YtnccpddjdgndcaaGreatDoor.Val
open Go.RowKit Flt
def cRight (c : C) : Bool := Sc.nameB c.name && decide (0 ≤ c.op) && decide (c.op ≤ 7) && vRight c.val
theorem right_ways3 (op : Int) (n : Bool) : n = false ∨ (n = true ∧ decide (0 ≤ op) = false) ∨ (n = true ∧ decide (0 ≤ op) = true ∧ decide (op ≤ 7) = false) ∨ (n = true ∧ decide (0 ≤ op) = true ∧ decide (op ≤ 7) = true) := by
  cases n <;> cases decide (0 ≤ op) <;> cases decide (op ≤ 7) <;> simp
set_option maxHeartbeats 400000 in
theorem cright_any (nm : List UInt8) (op k n : Int) (x : Nat) (t : List UInt8) (y : Bool) (w : World) (hn : nm.length ≤ 140737488351232) (ht : t.length ≤ 140737488351232) :
    Calls Tryz.prog 43 #[cond nm op k n x t y] w fun e w' => e = .returned (.bool (cRight ⟨nm, op, k, n, x, t, y⟩)) ∧ Below w.heap.size w w' := by
  have hr : cRight ⟨nm, op, k, n, x, t, y⟩ = (Sc.nameB nm && decide (0 ≤ op) && decide (op ≤ 7) && vRight ⟨k, n, x, t, y⟩) := rfl
  have hv (w : World) := vright_any k n x t y w ht
  have hm (w : World) := Sc.name_l nm w hn
  generalize vRight ⟨k, n, x, t, y⟩ = vb at *
  generalize Sc.nameB nm = nb at *
  have HR := Lib.hid hr; have HV := Lib.hid hv; have HM := Lib.hid hm; clear hr hv hm
  rcases right_ways3 op nb with rfl | ⟨rfl, h1⟩ | ⟨rfl, h1, h2⟩ | ⟨rfl, h1, h2⟩
  · have HQ : Hid (cRight ⟨nm, op, k, n, x, t, y⟩ = false) := Lib.hid (by rw [HR.out]; rfl)
    go_enter Tryz.func43, Tryz.ntmps43
    go_wp2_with (first | (go_at_call 65; refine (HM.out _).mono ?_; rintro e w' ⟨rfl, rfl⟩) | (go_at_call 12; refine (HV.out _).mono ?_; rintro e w1 ⟨rfl, hb⟩; obtain ⟨hc, hf⟩ := bcell hb))
    go_ret
    exact ⟨ret_bool HQ.out.symm, by repeat (first | assumption | (with_reducible exact Below.refl _ _) | exact balloc _ _ | exact balloc2 _ _ _ | refine btrans ?_ (by assumption) | refine btrans ?_ (balloc _ _))⟩
  · have HQ : Hid (cRight ⟨nm, op, k, n, x, t, y⟩ = false) := Lib.hid (by rw [HR.out, h1]; rfl)
    go_enter Tryz.func43, Tryz.ntmps43
    go_wp2_with (first | (go_at_call 65; refine (HM.out _).mono ?_; rintro e w' ⟨rfl, rfl⟩) | (go_at_call 12; refine (HV.out _).mono ?_; rintro e w1 ⟨rfl, hb⟩; obtain ⟨hc, hf⟩ := bcell hb))
    go_ret
    exact ⟨ret_bool HQ.out.symm, by repeat (first | assumption | (with_reducible exact Below.refl _ _) | exact balloc _ _ | exact balloc2 _ _ _ | refine btrans ?_ (by assumption) | refine btrans ?_ (balloc _ _))⟩
  · have HQ : Hid (cRight ⟨nm, op, k, n, x, t, y⟩ = false) := Lib.hid (by rw [HR.out, h1, h2]; rfl)
    go_enter Tryz.func43, Tryz.ntmps43
    go_wp2_with (first | (go_at_call 65; refine (HM.out _).mono ?_; rintro e w' ⟨rfl, rfl⟩) | (go_at_call 12; refine (HV.out _).mono ?_; rintro e w1 ⟨rfl, hb⟩; obtain ⟨hc, hf⟩ := bcell hb))
    go_ret
    exact ⟨ret_bool HQ.out.symm, by repeat (first | assumption | (with_reducible exact Below.refl _ _) | exact balloc _ _ | exact balloc2 _ _ _ | refine btrans ?_ (by assumption) | refine btrans ?_ (balloc _ _))⟩
  · have HQ : Hid (cRight ⟨nm, op, k, n, x, t, y⟩ = vb) := Lib.hid (by rw [HR.out, h1, h2]; rfl)
    go_enter Tryz.func43, Tryz.ntmps43
    go_wp2_with (first | (go_at_call 65; refine (HM.out _).mono ?_; rintro e w' ⟨rfl, rfl⟩) | (go_at_call 12; refine (HV.out _).mono ?_; rintro e w1 ⟨rfl, hb⟩; obtain ⟨hc, hf⟩ := bcell hb))
    go_ret
    exact ⟨ret_bool HQ.out.symm, by repeat (first | assumption | (with_reducible exact Below.refl _ _) | exact balloc _ _ | exact balloc2 _ _ _ | refine btrans ?_ (by assumption) | refine btrans ?_ (balloc _ _))⟩
end Go.Proofs.YtnccpddjdgndcaaGreatDoor.Val
end

section
/- THE WALKS OF value.Canon and cond.Canon. -/
namespace Go.Proofs.YtnccpddjdgndcaaGreatDoor.Val
open Go.RowKit Flt
attribute [local go_sem] run_store_flt
def canonV (v : V) : V := if v.kind == 0 then ⟨0, v.int, 0, [], false⟩ else if v.kind == 1 then ⟨1, 0, Ord.canon v.num, [], false⟩ else if v.kind == 2 then ⟨2, 0, 0, v.text, false⟩ else if v.kind == 3 then ⟨3, 0, 0, [], v.yes⟩ else ⟨0, 0, 0, [], false⟩
/-- a value's own form -/
abbrev vv (v : V) : Value := val v.kind v.int v.num v.text v.yes
abbrev cc (c : C) : Value := cond c.name c.op c.val.kind c.val.int c.val.num c.val.text c.val.yes
def canonC (c : C) : C := if c.op == 7 then ⟨c.name, 7, 0, 0, 0, [], false⟩ else ⟨c.name, c.op, canonV c.val⟩
theorem kind_ways (k : Int) : (k == 0) = true ∨ ((k == 0) = false ∧ (k == 1) = true) ∨ ((k == 0) = false ∧ (k == 1) = false ∧ (k == 2) = true) ∨ ((k == 0) = false ∧ (k == 1) = false ∧ (k == 2) = false ∧ (k == 3) = true) ∨ ((k == 0) = false ∧ (k == 1) = false ∧ (k == 2) = false ∧ (k == 3) = false) := by
  cases h0 : (k == 0) <;> cases h1 : (k == 1) <;> cases h2 : (k == 2) <;> cases h3 : (k == 3) <;> simp
theorem set7_at (w : World) (b : Nat) (v0 v1 v2 v3 v4 v5 v6 : Value) (h : ∀ j, j < 7 → (w.cell? ⟨b, j, none⟩).isSome = true) :
    (((((((w.setCell ⟨b, 0, none⟩ v0).setCell ⟨b, 1, none⟩ v1).setCell ⟨b, 2, none⟩ v2).setCell ⟨b, 3, none⟩ v3).setCell ⟨b, 4, none⟩ v4).setCell ⟨b, 5, none⟩ v5).setCell ⟨b, 6, none⟩ v6).cell? ⟨b, 0, none⟩ = some v0 ∧
    (((((((w.setCell ⟨b, 0, none⟩ v0).setCell ⟨b, 1, none⟩ v1).setCell ⟨b, 2, none⟩ v2).setCell ⟨b, 3, none⟩ v3).setCell ⟨b, 4, none⟩ v4).setCell ⟨b, 5, none⟩ v5).setCell ⟨b, 6, none⟩ v6).cell? ⟨b, 1, none⟩ = some v1 ∧
    (((((((w.setCell ⟨b, 0, none⟩ v0).setCell ⟨b, 1, none⟩ v1).setCell ⟨b, 2, none⟩ v2).setCell ⟨b, 3, none⟩ v3).setCell ⟨b, 4, none⟩ v4).setCell ⟨b, 5, none⟩ v5).setCell ⟨b, 6, none⟩ v6).cell? ⟨b, 2, none⟩ = some v2 ∧
    (((((((w.setCell ⟨b, 0, none⟩ v0).setCell ⟨b, 1, none⟩ v1).setCell ⟨b, 2, none⟩ v2).setCell ⟨b, 3, none⟩ v3).setCell ⟨b, 4, none⟩ v4).setCell ⟨b, 5, none⟩ v5).setCell ⟨b, 6, none⟩ v6).cell? ⟨b, 3, none⟩ = some v3 ∧
    (((((((w.setCell ⟨b, 0, none⟩ v0).setCell ⟨b, 1, none⟩ v1).setCell ⟨b, 2, none⟩ v2).setCell ⟨b, 3, none⟩ v3).setCell ⟨b, 4, none⟩ v4).setCell ⟨b, 5, none⟩ v5).setCell ⟨b, 6, none⟩ v6).cell? ⟨b, 4, none⟩ = some v4 ∧
    (((((((w.setCell ⟨b, 0, none⟩ v0).setCell ⟨b, 1, none⟩ v1).setCell ⟨b, 2, none⟩ v2).setCell ⟨b, 3, none⟩ v3).setCell ⟨b, 4, none⟩ v4).setCell ⟨b, 5, none⟩ v5).setCell ⟨b, 6, none⟩ v6).cell? ⟨b, 5, none⟩ = some v5 ∧
    (((((((w.setCell ⟨b, 0, none⟩ v0).setCell ⟨b, 1, none⟩ v1).setCell ⟨b, 2, none⟩ v2).setCell ⟨b, 3, none⟩ v3).setCell ⟨b, 4, none⟩ v4).setCell ⟨b, 5, none⟩ v5).setCell ⟨b, 6, none⟩ v6).cell? ⟨b, 6, none⟩ = some v6 ∧
    Below b w (((((((w.setCell ⟨b, 0, none⟩ v0).setCell ⟨b, 1, none⟩ v1).setCell ⟨b, 2, none⟩ v2).setCell ⟨b, 3, none⟩ v3).setCell ⟨b, 4, none⟩ v4).setCell ⟨b, 5, none⟩ v5).setCell ⟨b, 6, none⟩ v6) := by
  have e := World.cell?_setCells_in b [v0, v1, v2, v3, v4, v5, v6] 0 w (fun j hj => by rw [Nat.zero_add]; exact h j hj)
  exact ⟨e 0 (by simp), e 1 (by simp), e 2 (by simp), e 3 (by simp), e 4 (by simp), e 5 (by simp), e 6 (by simp),
    (((((((Below.refl b w).setCell (Nat.le_refl _) _).setCell (Nat.le_refl _) _).setCell (Nat.le_refl _) _).setCell (Nat.le_refl _) _).setCell (Nat.le_refl _) _).setCell (Nat.le_refl _) _).setCell (Nat.le_refl _) _⟩
theorem canonV_kind (v : V) (h0 : 0 ≤ v.kind) (h3 : v.kind ≤ 3) : (canonV v).kind = v.kind := by
  unfold canonV
  rcases kind_ways v.kind with h | ⟨h, h1⟩ | ⟨h, h1, h2⟩ | ⟨h, h1, h2, h3⟩ | ⟨h, h1, h2, h3⟩
  · simp only [h, if_true]; exact (beq_iff_eq.1 h).symm
  · simp only [h, h1, Bool.false_eq_true, if_false, if_true]; exact (beq_iff_eq.1 h1).symm
  · simp only [h, h1, h2, Bool.false_eq_true, if_false, if_true]; exact (beq_iff_eq.1 h2).symm
  · simp only [h, h1, h2, h3, Bool.false_eq_true, if_false, if_true]; exact (beq_iff_eq.1 h3).symm
  · simp at h h1 h2 h3; omega
end Go.Proofs.YtnccpddjdgndcaaGreatDoor.Val
end

section
/- ATTRIBUTES: six cells each; the walks of event.find and event.Get, and of the library's search as event.find calls it. -/
namespace Go.Proofs.YtnccpddjdgndcaaGreatDoor.Val
open Go.RowKit Flt
structure A where
  name : List UInt8
  val : V
instance : Inhabited A := ⟨⟨[], ⟨0, 0, 0, [], false⟩⟩⟩
abbrev aa (a : A) : Value := .agg #[.string ⟨a.name.toArray⟩, .int .i64 a.val.kind, .int .i64 a.val.int, .float .f64 a.val.num, .string ⟨a.val.text.toArray⟩, .bool a.val.yes]
def AAt (w : World) (p : Addr) (a : A) : Prop :=
  w.cell? p = some (.string ⟨a.name.toArray⟩) ∧ w.cell? ⟨p.block, p.off + 1, none⟩ = some (.int .i64 a.val.kind) ∧ w.cell? ⟨p.block, p.off + 2, none⟩ = some (.int .i64 a.val.int) ∧ w.cell? ⟨p.block, p.off + 3, none⟩ = some (.float .f64 a.val.num) ∧ w.cell? ⟨p.block, p.off + 4, none⟩ = some (.string ⟨a.val.text.toArray⟩) ∧ w.cell? ⟨p.block, p.off + 5, none⟩ = some (.bool a.val.yes)
def Attrs (w : World) (a0 : Option Addr) (l : List A) : Prop := ∀ i (h : i < l.length), ∃ a, a0 = some a ∧ AAt w (a.add (i * 6)) l[i]
theorem AAt.below {w w2 : World} {p : Addr} {a : A} (h : AAt w p a) (hb : Below w.heap.size w w2) : AAt w2 p a := by
  obtain ⟨h0, h1, h2, h3, h4, h5⟩ := h
  exact ⟨(hb.cell (World.block_lt_of_cell? _ _ h0)).trans h0, (hb.cell (World.block_lt_of_cell? _ _ h1)).trans h1, (hb.cell (World.block_lt_of_cell? _ _ h2)).trans h2, (hb.cell (World.block_lt_of_cell? _ _ h3)).trans h3, (hb.cell (World.block_lt_of_cell? _ _ h4)).trans h4, (hb.cell (World.block_lt_of_cell? _ _ h5)).trans h5⟩
theorem Attrs.below {w w2 : World} {a0 : Option Addr} {l : List A} (h : Attrs w a0 l) (hb : Below w.heap.size w w2) : Attrs w2 a0 l := fun i hi => by
  obtain ⟨a, e, h1⟩ := h i hi
  exact ⟨a, e, h1.below hb⟩
/-- where the search ends -/
def bs (l : List A) (t : List UInt8) (i j : Nat) : Nat :=
  if h : i < j then (if Lib.compareBytes (l[(i + j) / 2]!).name t < 0 then bs l t ((i + j) / 2 + 1) j else bs l t i ((i + j) / 2)) else i
termination_by j - i
attribute [local go_sem] run_store_flt
/-- an event's two cells -/
abbrev ev (sc : List UInt8) (a0 : Option Addr) (n cap : Nat) : Value := .agg #[.string ⟨sc.toArray⟩, .slice a0 n cap]
theorem set5_at (w : World) (b : Nat) (v0 v1 v2 v3 v4 : Value) (h : ∀ j, j < 5 → (w.cell? ⟨b, j, none⟩).isSome = true) :
    (((((w.setCell ⟨b, 0, none⟩ v0).setCell ⟨b, 1, none⟩ v1).setCell ⟨b, 2, none⟩ v2).setCell ⟨b, 3, none⟩ v3).setCell ⟨b, 4, none⟩ v4).cell? ⟨b, 0, none⟩ = some v0 ∧
    (((((w.setCell ⟨b, 0, none⟩ v0).setCell ⟨b, 1, none⟩ v1).setCell ⟨b, 2, none⟩ v2).setCell ⟨b, 3, none⟩ v3).setCell ⟨b, 4, none⟩ v4).cell? ⟨b, 1, none⟩ = some v1 ∧
    (((((w.setCell ⟨b, 0, none⟩ v0).setCell ⟨b, 1, none⟩ v1).setCell ⟨b, 2, none⟩ v2).setCell ⟨b, 3, none⟩ v3).setCell ⟨b, 4, none⟩ v4).cell? ⟨b, 2, none⟩ = some v2 ∧
    (((((w.setCell ⟨b, 0, none⟩ v0).setCell ⟨b, 1, none⟩ v1).setCell ⟨b, 2, none⟩ v2).setCell ⟨b, 3, none⟩ v3).setCell ⟨b, 4, none⟩ v4).cell? ⟨b, 3, none⟩ = some v3 ∧
    (((((w.setCell ⟨b, 0, none⟩ v0).setCell ⟨b, 1, none⟩ v1).setCell ⟨b, 2, none⟩ v2).setCell ⟨b, 3, none⟩ v3).setCell ⟨b, 4, none⟩ v4).cell? ⟨b, 4, none⟩ = some v4 ∧
    Below b w (((((w.setCell ⟨b, 0, none⟩ v0).setCell ⟨b, 1, none⟩ v1).setCell ⟨b, 2, none⟩ v2).setCell ⟨b, 3, none⟩ v3).setCell ⟨b, 4, none⟩ v4) := by
  have e := World.cell?_setCells_in b [v0, v1, v2, v3, v4] 0 w (fun j hj => by rw [Nat.zero_add]; exact h j hj)
  exact ⟨e 0 (by simp), e 1 (by simp), e 2 (by simp), e 3 (by simp), e 4 (by simp),
    (((((Below.refl b w).setCell (Nat.le_refl _) _).setCell (Nat.le_refl _) _).setCell (Nat.le_refl _) _).setCell (Nat.le_refl _) _).setCell (Nat.le_refl _) _⟩
end Go.Proofs.YtnccpddjdgndcaaGreatDoor.Val
end

section
/- THE WALK OF cond.Match. -/
namespace Go.Proofs.YtnccpddjdgndcaaGreatDoor.Val
open Go.RowKit Flt
attribute [local go_sem] run_store_flt
end Go.Proofs.YtnccpddjdgndcaaGreatDoor.Val
end

section
/- CONDITIONS IN MEMORY: seven cells each. -/
namespace Go.Proofs.YtnccpddjdgndcaaGreatDoor.Val
open Go.RowKit Flt
instance : Inhabited C := ⟨⟨[], 0, 0, 0, 0, [], false⟩⟩
def CAt (w : World) (p : Addr) (c : C) : Prop :=
  w.cell? p = some (.string ⟨c.name.toArray⟩) ∧ w.cell? ⟨p.block, p.off + 1, none⟩ = some (.int .i64 c.op) ∧ w.cell? ⟨p.block, p.off + 2, none⟩ = some (.int .i64 c.val.kind) ∧ w.cell? ⟨p.block, p.off + 3, none⟩ = some (.int .i64 c.val.int) ∧ w.cell? ⟨p.block, p.off + 4, none⟩ = some (.float .f64 c.val.num) ∧ w.cell? ⟨p.block, p.off + 5, none⟩ = some (.string ⟨c.val.text.toArray⟩) ∧ w.cell? ⟨p.block, p.off + 6, none⟩ = some (.bool c.val.yes)
def Conds (w : World) (a0 : Option Addr) (l : List C) : Prop := ∀ i (h : i < l.length), ∃ a, a0 = some a ∧ CAt w (a.add (i * 7)) l[i]
theorem CAt.below {w w2 : World} {p : Addr} {c : C} (h : CAt w p c) (hb : Below w.heap.size w w2) : CAt w2 p c := by
  obtain ⟨h0, h1, h2, h3, h4, h5, h6⟩ := h
  exact ⟨(hb.cell (World.block_lt_of_cell? _ _ h0)).trans h0, (hb.cell (World.block_lt_of_cell? _ _ h1)).trans h1, (hb.cell (World.block_lt_of_cell? _ _ h2)).trans h2, (hb.cell (World.block_lt_of_cell? _ _ h3)).trans h3, (hb.cell (World.block_lt_of_cell? _ _ h4)).trans h4, (hb.cell (World.block_lt_of_cell? _ _ h5)).trans h5, (hb.cell (World.block_lt_of_cell? _ _ h6)).trans h6⟩
theorem Conds.below {w w2 : World} {a0 : Option Addr} {l : List C} (h : Conds w a0 l) (hb : Below w.heap.size w w2) : Conds w2 a0 l := fun i hi => by
  obtain ⟨a, e, h1⟩ := h i hi
  exact ⟨a, e, h1.below hb⟩
end Go.Proofs.YtnccpddjdgndcaaGreatDoor.Val
end

section
/- ROWS OF ONE's OWN: conditions, texts. -/
namespace Go.Proofs.YtnccpddjdgndcaaGreatDoor.Pa
open Go.RowKit Flt Go.Proofs.YtnccpddjdgndcaaGreatDoor.Val
def cells7 (c : C) : List Value := [.string ⟨c.name.toArray⟩, .int .i64 c.op, .int .i64 c.val.kind, .int .i64 c.val.int, .float .f64 c.val.num, .string ⟨c.val.text.toArray⟩, .bool c.val.yes]
def flatC (l : List C) : List Value := l.flatMap cells7
theorem flatC_len (l : List C) : (flatC l).length = l.length * 7 := by
  induction l with
  | nil => rfl
  | cons v l ih => unfold flatC at *; rw [List.flatMap_cons, List.length_append, ih]; simp [cells7]; omega
theorem flatC_at : ∀ (l : List C) (i j : Nat) (hi : i < l.length), j < 7 → (flatC l)[i * 7 + j]? = (cells7 l[i])[j]?
  | v :: l, 0, j, _, hj => by
    unfold flatC; rw [List.flatMap_cons, List.getElem?_append_left (by simp [cells7]; omega)]; simp
  | v :: l, i + 1, j, hi, hj => by
    unfold flatC; rw [List.flatMap_cons, List.getElem?_append_right (by simp [cells7]; omega)]
    have e : (i + 1) * 7 + j - (cells7 v).length = i * 7 + j := by simp [cells7]; omega
    rw [e]
    exact flatC_at l i j (by simpa using hi) hj
theorem flatC_one (l : List C) : ∀ u ∈ flatC l, u.oneCell' = true := by
  intro u hu
  obtain ⟨v, _, hv⟩ := List.mem_flatMap.1 hu
  simp only [cells7, List.mem_cons, List.not_mem_nil, or_false] at hv
  rcases hv with rfl | rfl | rfl | rfl | rfl | rfl | rfl <;> rfl
theorem flatC_app (l : List C) (a : C) : flatC (l ++ [a]) = flatC l ++ flatC [a] := by simp [flatC]
theorem own_lo {W W2 : World} {base e size : Nat} {v : Value} {n : Nat} {xs : List Value} {g : Nat} (h : W.ownsRow base e size v n xs) (hb : Below g W W2) (hv : ∀ k, v.ownBlock = some k → k < g) : W2.ownsRow base e size v n xs := by
  refine ⟨h.1, ?_⟩
  rcases h.2 with hn | ⟨g2, cap, cur, rfl, hb2, hgg, rest⟩
  · exact .inl hn
  · refine .inr ⟨g2, cap, cur, rfl, hb2, ?_, rest⟩
    rw [hb.block g2 (hv g2 (by simp [Value.ownBlock]))]
    exact hgg
theorem info_cond : (Tryz.prog.info? 41).map (fun i => (i.zero, i.size, i.bytes)) = some (some (.agg #[.string .empty, .int .i64 0, .int .i64 0, .int .i64 0, .float .f64 0, .string .empty, .bool false]), 7, 72) := by kernel_rfl
theorem new_cond (w : World) (g : Nat) (hg : g = w.heap.size) (c : C) (e : TypeId) : ∀ j u, (flatC [c])[j]? = some u → (w.alloc (.cells #[.string ⟨c.name.toArray⟩, .int .i64 c.op, .int .i64 c.val.kind, .int .i64 c.val.int, .float .f64 c.val.num, .string ⟨c.val.text.toArray⟩, .bool c.val.yes] e)).cell? ((⟨g, 0, none⟩ : Addr).add j) = some u := by
  subst hg
  intro j u hj
  have hadd : (⟨w.heap.size, 0, none⟩ : Addr).add j = ⟨w.heap.size, j, none⟩ := by unfold Addr.add; split <;> simp_all
  rw [hadd]
  simpa [flatC, cells7, go_sem] using hj
theorem own_conds {w : World} {v : Value} {l : List C} {base : Nat} (h : w.ownsRow base 41 7 v l.length (flatC l)) :
    ∃ b0 cap, v = .slice b0 l.length cap ∧ Conds w b0 l ∧ ∀ a, b0 = some a → base ≤ a.block := by
  rcases h.2 with ⟨rfl, h0⟩ | ⟨g, cp, cur, rfl, hb, hg, hh⟩
  · have : l = [] := List.eq_nil_of_length_eq_zero h0
    subst this
    exact ⟨none, 0, rfl, (fun i hi => absurd hi (Nat.not_lt_zero _)), fun a e => by cases e⟩
  · refine ⟨some ⟨g, 0, none⟩, cp, rfl, fun i hi => ⟨_, rfl, ?_⟩, fun a e => by injection e with e; subst e; exact hb⟩
    have k : ∀ j (hj : j < 7), w.cell? ⟨g, i * 7 + j, none⟩ = (cells7 l[i])[j]? := by
      intro j hj
      have hl := flatC_len l
      have hm := flatC_at l i j hi hj
      have hc : (cells7 l[i])[j]? = some ((cells7 l[i])[j]'(by simpa [cells7] using hj)) := by simp
      rw [hc] at hm ⊢
      have := h.cells rfl (i * 7 + j) _ hm
      have hadd : (⟨g, 0, none⟩ : Addr).add (i * 7 + j) = ⟨g, i * 7 + j, none⟩ := by unfold Addr.add; split <;> simp_all
      rw [← hadd]; exact this
    have hadd : (⟨g, 0, none⟩ : Addr).add (i * 7) = ⟨g, i * 7, none⟩ := by unfold Addr.add; split <;> simp_all
    rw [hadd]
    exact ⟨k 0 (by decide), k 1 (by decide), k 2 (by decide), k 3 (by decide), k 4 (by decide), k 5 (by decide), k 6 (by decide)⟩
theorem own_low7 {W W2 : World} {base e size : Nat} {v : Value} {n : Nat} {xs : List Value} (h : W.ownsRow base e size v n xs) (hb : Below W.heap.size W W2) : W2.ownsRow base e size v n xs :=
  own_lo h hb (fun k hk => (h.lt k hk).2)

abbrev strV (l : List (List UInt8)) : List Value := l.map fun t => .string ⟨t.toArray⟩
theorem strV_app (l m : List (List UInt8)) : strV (l ++ m) = strV l ++ strV m := List.map_append ..
theorem info_str : (Tryz.prog.info? 9).map (fun i => (i.zero, i.size, i.bytes)) = some (some (.string .empty), 1, 16) := by kernel_rfl
theorem strV_one (l : List (List UInt8)) : ∀ u ∈ strV l, u.oneCell' = true := by
  intro u hu
  obtain ⟨c, _, rfl⟩ := List.mem_map.1 hu
  rfl
theorem new_str (w : World) (g : Nat) (hg : g = w.heap.size) (t : List UInt8) (e : TypeId) : ∀ j u, (strV [t])[j]? = some u → (w.alloc (.cells #[.string ⟨t.toArray⟩] e)).cell? ((⟨g, 0, none⟩ : Addr).add j) = some u := by
  subst hg
  intro j u hj
  have hadd : (⟨w.heap.size, 0, none⟩ : Addr).add j = ⟨w.heap.size, j, none⟩ := by unfold Addr.add; split <;> simp_all
  rw [hadd]
  simpa [go_sem] using hj
/-- texts at a place -/
def Strs (w : World) (b0 : Option Addr) (l : List (List UInt8)) : Prop := ∀ i (h : i < l.length), ∃ a, b0 = some a ∧ w.cell? (a.add i) = some (.string ⟨l[i].toArray⟩)
theorem Strs.below {w w2 : World} {b0 : Option Addr} {l : List (List UInt8)} (h : Strs w b0 l) (hb : Below w.heap.size w w2) : Strs w2 b0 l := fun i hi => by
  obtain ⟨a, e, h2⟩ := h i hi
  exact ⟨a, e, (hb.cell (World.block_lt_of_cell? _ _ h2)).trans h2⟩
theorem own_strs {w : World} {v : Value} {l : List (List UInt8)} {base : Nat} (h : w.ownsRow base 9 1 v l.length (strV l)) :
    ∃ b0 cap, v = .slice b0 l.length cap ∧ Strs w b0 l ∧ ∀ a, b0 = some a → base ≤ a.block := by
  rcases h.2 with ⟨rfl, h0⟩ | ⟨g, cp, cur, rfl, hb, hg, hh⟩
  · have : l = [] := List.eq_nil_of_length_eq_zero h0
    subst this
    exact ⟨none, 0, rfl, (fun i hi => absurd hi (Nat.not_lt_zero _)), fun a e => by cases e⟩
  · refine ⟨some ⟨g, 0, none⟩, cp, rfl, fun i hi => ⟨_, rfl, ?_⟩, fun a e => by injection e with e; subst e; exact hb⟩
    have hm : (strV l)[i]? = some (.string ⟨l[i].toArray⟩) := by simp [hi]
    exact h.cells rfl i _ hm
end Go.Proofs.YtnccpddjdgndcaaGreatDoor.Pa
end

section
/- THE WALK OF parse.cut: the pieces of a text. -/
namespace Go.Proofs.YtnccpddjdgndcaaGreatDoor.Pa
open Go.RowKit Flt Go.Proofs.YtnccpddjdgndcaaGreatDoor.Val
theorem u8_is (c d : UInt8) : (c == d) = ((c.toNat : Int) == (d.toNat : Int)) := by
  rw [Bool.eq_iff_iff, beq_iff_eq, beq_iff_eq, ← UInt8.toNat_inj]
  omega
theorem ext_pie (s : ByteArray) (a b : Nat) : s.extract a b = ⟨((s.data.toList.drop a).take (b - a)).toArray⟩ := by
  apply Sc.of_data
  rw [ByteArray.data_extract, Array.toList_extract, List.extract_eq_take_drop]
set_option maxRecDepth 20000 in
set_option maxHeartbeats 2000000 in
theorem pieces_any (s : ByteArray) (w : World) (hs : s.size ≤ 100000) :
    Calls Tryz.prog 41 #[.string s] w fun e w' => (∃ b0 cap, e = .returned (.slice b0 (cutP s.data.toList).length cap) ∧ Strs w' b0 (cutP s.data.toList) ∧ ∀ a, b0 = some a → w.heap.size ≤ a.block) ∧ Below w.heap.size w w' := by
  have hsz : s.data.toList.length = s.size := by rw [Array.length_toList]; rfl
  obtain ⟨i0, hi, hz0, hz1, hz2⟩ := info_parts info_str
  go_enter Tryz.func41, Tryz.ntmps41
  go_wp2_with fail
  go_loopw [3, 4, 5, 6] (fun vo vf vq vi wr => ∃ (k fr : Nat) (q : Bool) (done : List (List UInt8)), k ≤ s.size + 1 ∧ fr ≤ k ∧ fr ≤ s.size ∧ done.length ≤ k ∧ vf = .int .i64 fr ∧ vq = .bool q ∧ vi = .int .i64 k ∧ wr.ownsRow w.heap.size 9 1 vo done.length (strV done) ∧ cutP s.data.toList = done ++ cutGo q ((s.data.toList.drop fr).take (k - fr)) (s.data.toList.drop k) ∧ Below w.heap.size w wr) (fun _ _ _ vi _ => s.size + 1 - (intOf vi).toNat)
  case atStart => exact ⟨0, 0, false, [], Nat.zero_le _, Nat.le_refl _, Nat.zero_le _, Nat.le_refl _, rfl, rfl, rfl, World.ownsRow_nil _ _ _ _, by simp [cutP], Below.refl _ _⟩
  case round =>
    obtain ⟨k, fr, q, done, hk, hfk, hfs, hdl, rfl, rfl, rfl, hown, hcut, hbr⟩ := hrel
    have OWN := Lib.hid hown; have HBR := Lib.hid hbr; have HSZ := Lib.hid hsz
    clear hown hbr hsz
    by_cases hlt : k < s.size
    · have i1 : (k : Int) < (s.size : Int) := by omega
      have i2 : (0 : Int) ≤ (k : Int) := by omega
      have i3 : (fr : Int) ≤ (k : Int) := by omega
      have i4 : (0 : Int) ≤ (fr : Int) := by omega
      have i5 : (k : Int) ≤ (s.size : Int) := by omega
      have hg : s.data.toList[k]'(by rw [HSZ.out]; exact hlt) = s[k] := by rw [Array.getElem_toList]; rfl
      have hdr : s.data.toList.drop k = s[k] :: s.data.toList.drop (k + 1) := by rw [List.drop_eq_getElem_cons (by rw [HSZ.out]; exact hlt), hg]
      have hmore := (cur_more hdr hfk).1
      have hskip := cur_skip hdr hfk
      rw [hdr] at hcut
      have b92 := u8_is s[k] 92; have b34 := u8_is s[k] 34; have b38 := u8_is s[k] 38
      have k1 := cutGo_skip q ((s.data.toList.drop fr).take (k - fr)) s[k] (s.data.toList.drop (k + 1))
      have k2 := cutGo_quote q ((s.data.toList.drop fr).take (k - fr)) s[k] (s.data.toList.drop (k + 1))
      have k3 := cutGo_and q ((s.data.toList.drop fr).take (k - fr)) s[k] (s.data.toList.drop (k + 1))
      have k4 := cutGo_else q ((s.data.toList.drop fr).take (k - fr)) s[k] (s.data.toList.drop (k + 1))
      rw [b92] at k1 k2 k3 k4
      rw [b34] at k2 k3 k4
      rw [b38] at k3 k4
      have HK1 := Lib.hid k1; have HK2 := Lib.hid k2; have HK3 := Lib.hid k3; have HK4 := Lib.hid k4; have HCUT := Lib.hid hcut; have HMORE := Lib.hid hmore; have HSKIP := Lib.hid hskip
      clear k1 k2 k3 k4 hcut hmore hskip b92 b34 b38 hdr hg
      cases q
      · cases c34 : ((s[k].toNat : Int) == ((34 : UInt8).toNat : Int))
        · cases c38 : ((s[k].toNat : Int) == ((38 : UInt8).toNat : Int))
          · have n34 : ¬ (s[k].toNat : Int) = 34 := by simpa using c34
            have n38 : ¬ (s[k].toNat : Int) = 38 := by simpa using c38
            have m34 : ((s[k].toNat : Int) == 34) = false := c34
            have m38 : ((s[k].toNat : Int) == 38) = false := c38
            go_wp2_with fail
            refine ⟨⟨k + 1, fr, false, done, by omega, by omega, hfs, by omega, rfl, rfl, by go_num, OWN.out, ?_, HBR.out⟩, by simp [intOf]; go_num⟩
            rw [HCUT.out, HK4.out rfl c34 (by rw [c38]; rfl), HMORE.out]
          · have n34 : ¬ (s[k].toNat : Int) = 34 := by simpa using c34
            have n38 : (s[k].toNat : Int) = 38 := by simpa using c38
            have m34 : ((s[k].toNat : Int) == 34) = false := c34
            have m38 : ((s[k].toNat : Int) == 38) = true := c38
            have hext := ext_pie s fr k
            go_wp2_with (first | (at_builtin; refine wpList_append_own _ rfl _ _ 68 rfl w.heap.size 9 i0 (.string .empty) 1 16 Tryz.underlying68 hi hz0 hz1 hz2 rfl (by decide) _ _ _ rfl (OWN.out.alloc _) ⟨wr.heap.size, 0, none⟩ 1 1 (strV [(s.data.toList.drop fr).take (k - fr)]) rfl rfl ?news (strV_one _) (by unfold maxLen; omega) (by omega) (by have := HBR.out.size; simp at *; omega) ?_; rotate_left; (case news => exact new_str wr _ rfl _ _); intro v' w4 hown' hgrow3 hnil3) | fail)
            have hb4 : Below w.heap.size w w4 := Below.grown (btrans HBR.out (balloc _ _)) hgrow3 (by have := HBR.out.size; simp at *; omega) (fun q hq => (OWN.out.lt q hq).1)
            refine ⟨⟨k + 1, k + 1, false, done ++ [(s.data.toList.drop fr).take (k - fr)], by omega, Nat.le_refl _, by omega, by simp; omega, by go_num, rfl, by go_num, ?_, ?_, hb4⟩, by simp [intOf]; go_num⟩
            · rw [List.length_append, strV_app]
              exact hown'
            · rw [HCUT.out, HK3.out rfl c34 (by rw [c38]; rfl), Nat.sub_self, List.take_zero, List.append_assoc]; rfl
        · have n34 : (s[k].toNat : Int) = 34 := by simpa using c34
          have m34 : ((s[k].toNat : Int) == 34) = true := c34
          go_wp2_with fail
          refine ⟨⟨k + 1, fr, true, done, by omega, by omega, hfs, by omega, rfl, rfl, by go_num, OWN.out, ?_, HBR.out⟩, by simp [intOf]; go_num⟩
          rw [HCUT.out, HK2.out rfl c34, HMORE.out]; rfl
      · cases c92 : ((s[k].toNat : Int) == ((92 : UInt8).toNat : Int))
        · cases c34 : ((s[k].toNat : Int) == ((34 : UInt8).toNat : Int))
          · have n92 : ¬ (s[k].toNat : Int) = 92 := by simpa using c92
            have n34 : ¬ (s[k].toNat : Int) = 34 := by simpa using c34
            have m92 : ((s[k].toNat : Int) == 92) = false := c92
            have m34 : ((s[k].toNat : Int) == 34) = false := c34
            go_wp2_with fail
            all_goals
              refine ⟨⟨k + 1, fr, true, done, by omega, by omega, hfs, by omega, rfl, rfl, by go_num, OWN.out, ?_, HBR.out⟩, by simp [intOf]; go_num⟩
              rw [HCUT.out, HK4.out (by rw [c92]; rfl) c34 (by simp), HMORE.out]
          · have n92 : ¬ (s[k].toNat : Int) = 92 := by simpa using c92
            have n34 : (s[k].toNat : Int) = 34 := by simpa using c34
            have m92 : ((s[k].toNat : Int) == 92) = false := c92
            have m34 : ((s[k].toNat : Int) == 34) = true := c34
            go_wp2_with fail
            refine ⟨⟨k + 1, fr, false, done, by omega, by omega, hfs, by omega, rfl, rfl, by go_num, OWN.out, ?_, HBR.out⟩, by simp [intOf]; go_num⟩
            rw [HCUT.out, HK2.out (by rw [c92]; rfl) c34, HMORE.out]; rfl
        · have n92 : (s[k].toNat : Int) = 92 := by simpa using c92
          have m92 : ((s[k].toNat : Int) == 92) = true := c92
          go_wp2_with fail
          refine ⟨⟨k + 2, fr, true, done, by omega, by omega, hfs, by omega, rfl, rfl, by go_num, OWN.out, ?_, HBR.out⟩, by simp [intOf]; go_num⟩
          rw [HCUT.out, HK1.out (by rw [c92]; rfl), HSKIP.out.1, HSKIP.out.2]
    · have i1 : ¬ (k : Int) < (s.size : Int) := by omega
      have i4 : (0 : Int) ≤ (fr : Int) := by omega
      have i5 : (fr : Int) ≤ (s.size : Int) := by omega
      have hext := ext_pie s fr s.size
      have hd0 : s.data.toList.drop k = [] := List.drop_of_length_le (by rw [HSZ.out]; omega)
      have hft : (s.data.toList.drop fr).take (k - fr) = (s.data.toList.drop fr).take (s.size - fr) := by
        rw [List.take_of_length_le (by rw [List.length_drop, HSZ.out]; omega), List.take_of_length_le (by rw [List.length_drop, HSZ.out]; omega)]
      rw [hd0, hft] at hcut
      have hcut2 : cutP s.data.toList = done ++ [(s.data.toList.drop fr).take (s.size - fr)] := by rw [hcut]; cases q <;> rfl
      have HCUT := Lib.hid hcut2
      clear hcut hcut2 hd0 hft
      go_wp2_with (first | (at_builtin; refine wpList_append_own _ rfl _ _ 68 rfl w.heap.size 9 i0 (.string .empty) 1 16 Tryz.underlying68 hi hz0 hz1 hz2 rfl (by decide) _ _ _ rfl (OWN.out.alloc _) ⟨wr.heap.size, 0, none⟩ 1 1 (strV [(s.data.toList.drop fr).take (s.size - fr)]) rfl rfl ?news (strV_one _) (by unfold maxLen; omega) (by omega) (by have := HBR.out.size; simp at *; omega) ?_; rotate_left; (case news => exact new_str wr _ rfl _ _); intro v' w4 hown' hgrow3 hnil3) | fail)
      have hb4 : Below w.heap.size w w4 := Below.grown (btrans HBR.out (balloc _ _)) hgrow3 (by have := HBR.out.size; simp at *; omega) (fun q hq => (OWN.out.lt q hq).1)
      have hown2 : w4.ownsRow w.heap.size 9 1 v' (cutP s.data.toList).length (strV (cutP s.data.toList)) := by
        rw [HCUT.out, List.length_append, strV_app]
        exact hown'
      obtain ⟨b0, cp, rfl, hst, hbl⟩ := own_strs hown2
      go_ret
      first | exact ⟨⟨b0, cp, rfl, hst, hbl⟩, hb4⟩ | exact ⟨⟨b0, ⟨cp, rfl⟩, hst, hbl⟩, hb4⟩
end Go.Proofs.YtnccpddjdgndcaaGreatDoor.Pa
end

section
/- PLAIN LAW OF Implies: what it answers, that it is sound, that it is handed on. No program in sight. -/
namespace Go.Proofs.YtnccpddjdgndcaaGreatDoor.Val
open Flt
theorem cb_zero : ∀ (a b : List UInt8), Lib.compareBytes a b = 0 ↔ a = b
  | [], [] => by simp [Lib.compareBytes]
  | [], _ :: _ => by simp [Lib.compareBytes]
  | _ :: _, [] => by simp [Lib.compareBytes]
  | a :: ar, b :: bs => by
    unfold Lib.compareBytes
    by_cases h : a < b
    · rw [if_pos h]; constructor
      · intro h'; omega
      · intro h'; injection h' with h1 h2; subst h1; exact absurd h (UInt8.lt_irrefl _)
    · rw [if_neg h]
      by_cases h' : b < a
      · rw [if_pos h']; constructor
        · intro h'; omega
        · intro h2; injection h2 with h1 h3; subst h1; exact absurd h' (UInt8.lt_irrefl _)
      · rw [if_neg h', cb_zero ar bs]
        have e : a = b := by
          rw [UInt8.lt_iff_toNat_lt] at h h'
          exact UInt8.toNat_inj.1 (by omega)
        subst e; simp
theorem cb_lt : ∀ (a b c : List UInt8), (Lib.compareBytes a b < 0 → Lib.compareBytes b c < 0 → Lib.compareBytes a c < 0) ∧ (0 < Lib.compareBytes a b → 0 < Lib.compareBytes b c → 0 < Lib.compareBytes a c)
  | [], [], _ => by simp [Lib.compareBytes]
  | [], _ :: _, [] => by simp [Lib.compareBytes]
  | [], _ :: _, _ :: _ => by simp [Lib.compareBytes]
  | _ :: _, [], [] => by simp [Lib.compareBytes]
  | _ :: _, [], _ :: _ => by simp [Lib.compareBytes]
  | _ :: _, _ :: _, [] => by simp [Lib.compareBytes]
  | a :: ar, b :: bs, c :: cs => by
    have ih := cb_lt ar bs cs
    unfold Lib.compareBytes
    simp only [UInt8.lt_iff_toNat_lt]
    by_cases h1 : a.toNat < b.toNat <;> by_cases h2 : b.toNat < a.toNat <;> by_cases h3 : b.toNat < c.toNat <;> by_cases h4 : c.toNat < b.toNat <;> by_cases h5 : a.toNat < c.toNat <;> by_cases h6 : c.toNat < a.toNat <;> simp only [h1, h2, h3, h4, h5, h6, if_true, if_false] <;> first | exact ih | omega
/-- how three comparisons hang together -/
def Ord3 (p q r : Int) : Prop := (p < 0 → q ≤ 0 → r < 0) ∧ (p ≤ 0 → q < 0 → r < 0) ∧ (p = 0 → q = 0 → r = 0) ∧ (0 < p → 0 ≤ q → 0 < r) ∧ (0 ≤ p → 0 < q → 0 < r)
theorem cb_ord (a b c : List UInt8) : Ord3 (Lib.compareBytes a b) (Lib.compareBytes b c) (Lib.compareBytes a c) := by
  have h := cb_lt a b c
  have h1 := cb_zero a b
  have h2 := cb_zero b c
  unfold Ord3
  by_cases e1 : a = b
  · subst e1; rw [(cb_zero a a).2 rfl] at *; omega
  by_cases e2 : b = c
  · subst e2; rw [(cb_zero b b).2 rfl] at *; omega
  simp only [e1, iff_false] at h1
  simp only [e2, iff_false] at h2
  omega
end Go.Proofs.YtnccpddjdgndcaaGreatDoor.Val
end

section
/- PLAIN LAW OF EVENTS: attributes that rise by their names, what the search finds among them, what New makes. No program in sight. -/
namespace Go.Proofs.YtnccpddjdgndcaaGreatDoor.Val
open Flt
theorem cb_anti (a b : List UInt8) : (Lib.compareBytes a b < 0 ↔ 0 < Lib.compareBytes b a) ∧ (Lib.compareBytes a b = 0 ↔ Lib.compareBytes b a = 0) := by
  have h1 := cb_ord a b a
  have h2 := cb_ord b a b
  rw [(cb_zero a a).2 rfl] at h1
  rw [(cb_zero b b).2 rfl] at h2
  have h3 := cb_zero a b
  have h4 := cb_zero b a
  unfold Ord3 at h1 h2
  refine ⟨by omega, ?_⟩
  rw [h3, h4]; exact eq_comm
theorem cb_trans {a b c : List UInt8} (h1 : Lib.compareBytes a b < 0) (h2 : Lib.compareBytes b c < 0) : Lib.compareBytes a c < 0 := (cb_lt a b c).1 h1 h2
end Go.Proofs.YtnccpddjdgndcaaGreatDoor.Val
end

section
/- THE WALK OF event.New. -/
namespace Go.Proofs.YtnccpddjdgndcaaGreatDoor.Val
open Go.RowKit Flt
/-- what New lays of an attribute in its box -/
def BoxA (W : World) (b : Nat) (a : A) : Prop :=
  W.cell? ⟨b, 0, none⟩ = some (.string ⟨a.name.toArray⟩) ∧ W.cell? ⟨b, 1, none⟩ = some (.int .i64 a.val.kind) ∧ W.cell? ⟨b, 2, none⟩ = some (.int .i64 a.val.int) ∧ W.cell? ⟨b, 3, none⟩ = some (.float .f64 a.val.num) ∧ W.cell? ⟨b, 4, none⟩ = some (.string ⟨a.val.text.toArray⟩) ∧ W.cell? ⟨b, 5, none⟩ = some (.bool a.val.yes)
theorem BoxA.below {W W2 : World} {b : Nat} {a : A} (h : BoxA W b a) (hb : Below W.heap.size W W2) : BoxA W2 b a := by
  obtain ⟨h0, h1, h2, h3, h4, h5⟩ := h
  exact ⟨(hb.cell (World.block_lt_of_cell? _ _ h0)).trans h0, (hb.cell (World.block_lt_of_cell? _ _ h1)).trans h1, (hb.cell (World.block_lt_of_cell? _ _ h2)).trans h2, (hb.cell (World.block_lt_of_cell? _ _ h3)).trans h3, (hb.cell (World.block_lt_of_cell? _ _ h4)).trans h4, (hb.cell (World.block_lt_of_cell? _ _ h5)).trans h5⟩
attribute [local go_sem] run_store_flt
end Go.Proofs.YtnccpddjdgndcaaGreatDoor.Val
end

section
/- THE WALK OF the fit of chapter 03's laws. -/
namespace Go.Proofs.YtnccpddjdgndcaaGreatDoor.Val
open Go.RowKit Flt
attribute [local go_sem] run_store_flt
end Go.Proofs.YtnccpddjdgndcaaGreatDoor.Val
end

section
/- THE WALK OF light of chapter 03's laws; of a name the last attribute. -/
namespace Go.Proofs.YtnccpddjdgndcaaGreatDoor.Val
open Go.RowKit Flt
attribute [local go_sem] run_store_flt
end Go.Proofs.YtnccpddjdgndcaaGreatDoor.Val
end

section
/- THE WALKS OF package order: Key, Same. -/
namespace Go.Proofs.YtnccpddjdgndcaaGreatDoor.Ord
open Go.RowKit Flt
attribute [local go_sem] ford_eq ford_lt ford_gt
theorem bits_call (b : Nat) (w : World) : (callFunc 86 #[.float .f64 b]).run Tryz.prog w = .ok (.value (.int .u64 b)) w :=
  run_callFunc_extern (e := Extern.MathFloatBits.float64bits) Tryz.func86 (by kernel_rfl) (by kernel_rfl) (by kernel_rfl) (by kernel_rfl) _ w
theorem umax_xor (b : Nat) (hb : b < 18446744073709551616) : bits .xor .u64 IntKind.u64.max (b : Int) = ((most - b : Nat) : Int) := by
  have h := u64_xor 18446744073709551615 (b : Int) (by decide) (by decide) (by omega) (by omega)
  have e : IntKind.u64.max = 18446744073709551615 := by decide
  rw [e, h]
  have e2 : (18446744073709551615 : Int).toNat = most := by decide
  rw [e2, Int.toNat_natCast, xor_most hb]
theorem top_or (b : Nat) (hb : b < 18446744073709551616) : bits .or .u64 (b : Int) 9223372036854775808 = ((b ||| top : Nat) : Int) := by
  have h := u64_or (b : Int) 9223372036854775808 (by omega) (by omega) (by decide) (by decide)
  rw [h, Int.toNat_natCast]; rfl
theorem ret_u64 {a b : Int} (h : a = b) : Ending.returned (.int .u64 a) = .returned (.int .u64 b) := by rw [h]
set_option maxHeartbeats 400000 in
theorem key_any (b : Nat) (hb : b < 18446744073709551616) (w : World) :
    Calls Tryz.prog 52 #[.float .f64 b] w fun e w' => e = .returned (.int .u64 (key b)) ∧ w = w' := by
  have hc := bits_call
  have h1 := ford_ne_self (canon b)
  rw [canon_nan] at h1
  cases hn : nan b with
  | true =>
    rw [key_nan hn]
    rw [hn] at h1; clear hn hb
    go_enter Tryz.func52, Tryz.ntmps52
    go_wp2_with (go_at_call 32; refine (canon_any _ _).mono ?_; rintro e w' ⟨rfl, rfl⟩)
    go_ret
    exact ⟨rfl, rfl⟩
  | false =>
    rw [hn] at h1
    have hk := key_of_canon b hb hn
    have hl := canon_lt b hb
    clear hn hb
    by_cases h : canon b / 9223372036854775808 = 1
    · rw [if_pos h] at hk
      have HK := Lib.hid hk; clear hk
      have h' : ((canon b : Int) / 9223372036854775808 == 1) = true := by rw [beq_iff_eq]; omega
      clear h
      go_enter Tryz.func52, Tryz.ntmps52
      go_wp2_with (go_at_call 32; refine (canon_any _ _).mono ?_; rintro e w' ⟨rfl, rfl⟩)
      go_ret
      exact ⟨ret_u64 (by rw [HK.out, umax_xor _ hl]), rfl⟩
    · rw [if_neg h] at hk
      have HK := Lib.hid hk; clear hk
      have h' : ((canon b : Int) / 9223372036854775808 == 1) = false := by rw [beq_eq_false_iff_ne]; omega
      clear h
      go_enter Tryz.func52, Tryz.ntmps52
      go_wp2_with (go_at_call 32; refine (canon_any _ _).mono ?_; rintro e w' ⟨rfl, rfl⟩)
      go_ret
      exact ⟨ret_u64 (by rw [HK.out, top_or _ hl]), rfl⟩
def same (a b : Nat) : Bool := key a == key b
theorem beq_cast (a b : Nat) : ((a : Int) == (b : Int)) = (a == b) := by
  rw [Bool.eq_iff_iff]; simp; omega
set_option maxHeartbeats 400000 in
theorem same_any (a b : Nat) (ha : a < 18446744073709551616) (hb : b < 18446744073709551616) (w : World) :
    Calls Tryz.prog 34 #[.float .f64 a, .float .f64 b] w fun e w' => e = .returned (.bool (same a b)) ∧ w = w' := by
  go_enter Tryz.func34, Tryz.ntmps34
  go_wp2_with (go_at_call 52; refine (key_any _ (by assumption) _).mono ?_; rintro e w' ⟨rfl, rfl⟩)
  go_ret
  exact ⟨ret_bool (beq_cast _ _), rfl⟩
end Go.Proofs.YtnccpddjdgndcaaGreatDoor.Ord
end

section
/- THE WALKS OF value.Same, cond.below, cond.above. -/
namespace Go.Proofs.YtnccpddjdgndcaaGreatDoor.Val
open Go.RowKit Flt
def sameB (a b : V) : Bool := a.kind == b.kind && (if a.kind == 0 then a.int == b.int else if a.kind == 1 then Ord.same a.num b.num else if a.kind == 2 then a.text == b.text else a.yes == b.yes)
set_option maxHeartbeats 400000 in
theorem same_any (k1 n1 : Int) (x1 : Nat) (t1 : List UInt8) (y1 : Bool) (k2 n2 : Int) (x2 : Nat) (t2 : List UInt8) (y2 : Bool) (w : World) (h1 : x1 < 18446744073709551616) (h2 : x2 < 18446744073709551616) :
    Calls Tryz.prog 11 #[val k1 n1 x1 t1 y1, val k2 n2 x2 t2 y2] w fun e w' => e = .returned (.bool (sameB ⟨k1, n1, x1, t1, y1⟩ ⟨k2, n2, x2, t2, y2⟩)) ∧ Below w.heap.size w w' := by
  have hr : sameB ⟨k1, n1, x1, t1, y1⟩ ⟨k2, n2, x2, t2, y2⟩ = (k1 == k2 && (if k1 == 0 then n1 == n2 else if k1 == 1 then Ord.same x1 x2 else if k1 == 2 then t1 == t2 else y1 == y2)) := rfl
  have ho (w : World) := Ord.same_any x1 x2 h1 h2 w
  generalize Ord.same x1 x2 = sb at *
  have HR := Lib.hid hr; have HO := Lib.hid ho; clear hr ho h1 h2
  cases hk : (k1 == k2)
  · have hk' : (k1 != k2) = true := by rw [bne, hk]; rfl
    go_enter Tryz.func11, Tryz.ntmps11
    go_wp2
    go_ret
    exact ⟨ret_bool (by rw [HR.out, hk]; rfl), balloc2 _ _ _⟩
  have hk' : (k1 != k2) = false := by rw [bne, hk]; rfl
  cases q0 : (k1 == 0)
  · cases q1 : (k1 == 1)
    · cases q2 : (k1 == 2)
      all_goals
        go_enter Tryz.func11, Tryz.ntmps11
        go_wp2
        go_ret
        exact ⟨ret_bool (by rw [HR.out, hk, q0, q1, q2]; rfl), balloc2 _ _ _⟩
    · go_enter Tryz.func11, Tryz.ntmps11
      go_wp2_with (go_at_call 34; refine (HO.out _).mono ?_; rintro e w' ⟨rfl, rfl⟩)
      go_ret
      exact ⟨ret_bool (by rw [HR.out, hk, q0, q1]; rfl), balloc2 _ _ _⟩
  · go_enter Tryz.func11, Tryz.ntmps11
    go_wp2
    go_ret
    exact ⟨ret_bool (by rw [HR.out, hk, q0]; rfl), balloc2 _ _ _⟩
end Go.Proofs.YtnccpddjdgndcaaGreatDoor.Val
end

section
/- THE WALK OF event.Same. -/
namespace Go.Proofs.YtnccpddjdgndcaaGreatDoor.Val
open Go.RowKit Flt
attribute [local go_sem] run_store_flt
end Go.Proofs.YtnccpddjdgndcaaGreatDoor.Val
end

section
/- THE WALKS OF event.kept and event.Right. -/
namespace Go.Proofs.YtnccpddjdgndcaaGreatDoor.Val
open Go.RowKit Flt
attribute [local go_sem] run_store_flt Ord.ford_eq
theorem run_equalIn_flt {P : Program} (w : World) (d : Nat) (t : TypeId) (a b : Nat) (h : P.underlying t = some (.float .f64)) : (Op.equalIn (d + 1) t (.float .f64 a) (.float .f64 b)).run P w = .ok (Flt.eq a b) w := by
  simp [Op.equalIn, run_underlying h, Op.floatEq, Ord.ford_eq]
theorem eqF (a b : Nat) (w : World) : (Op.equalIn 9999 23 (.float .f64 a) (.float .f64 b)).run Tryz.prog w = .ok (Flt.eq a b) w := run_equalIn_flt w 9998 _ a b Tryz.underlying23
attribute [local go_sem] eqF
end Go.Proofs.YtnccpddjdgndcaaGreatDoor.Val
end

section
/- THE WALK OF event.Right. -/
namespace Go.Proofs.YtnccpddjdgndcaaGreatDoor.Val
open Go.RowKit Flt
attribute [local go_sem] run_store_flt
end Go.Proofs.YtnccpddjdgndcaaGreatDoor.Val
end

section
/- PLAIN LAW OF FILTERS: what covers what, what does; the attributes of the laws' events. No walk. -/
namespace Go.Proofs.YtnccpddjdgndcaaGreatDoor.Val
open Flt
def fRight (sc : List UInt8) (l : List C) : Bool := l.all cRight && (Sc.rightB sc && decide (l.length ≤ 6))
end Go.Proofs.YtnccpddjdgndcaaGreatDoor.Val
end

section
/- THE CONTRACTS OF scope.Right and scope.Under, at lists. -/
namespace Go.Proofs.YtnccpddjdgndcaaGreatDoor.Sc
open Go.RowKit
theorem right_l (x : List UInt8) (w : World) (h : x.length ≤ 140737488351232) :
    Calls Tryz.prog 44 #[.string ⟨x.toArray⟩] w fun e w' => e = .returned (.bool (rightB x)) ∧ Drawn w w' :=
  right_any ⟨x.toArray⟩ w (by show x.length ≤ _; unfold maxLen; omega) (by show x.length < _; omega)
end Go.Proofs.YtnccpddjdgndcaaGreatDoor.Sc
end

section
/- THE WALKS OF package filter: ContainsFunc at conditions, Void, Match, Right, Covers. -/
namespace Go.Proofs.YtnccpddjdgndcaaGreatDoor.Val
open Go.RowKit Flt
attribute [local go_sem] run_store_flt
theorem all_take_succ' (p : C → Bool) (l : List C) (k : Nat) (h : k < l.length) : (l.take (k + 1)).all p = ((l.take k).all p && p l[k]) := by
  rw [List.take_succ_eq_append_getElem h]; simp only [List.all_append, List.all_cons, List.all_nil, Bool.and_true]
theorem all_miss (p : C → Bool) (l : List C) (k : Nat) (h : k < l.length) (hk : p l[k] = false) : l.all p = false := by
  rw [Bool.eq_false_iff]; intro ha
  have := List.all_eq_true.1 ha l[k] (List.getElem_mem h)
  rw [hk] at this; cases this
/-- two boxes of two cells each, laid one behind the other -/
def Box2 (w : World) (b : Nat) (s : List UInt8) (a0 : Option Addr) (n cap : Nat) : Prop := w.cell? ⟨b, 0, none⟩ = some (.string ⟨s.toArray⟩) ∧ w.cell? ⟨b, 1, none⟩ = some (.slice a0 n cap)
theorem Box2.below {w w2 : World} {b : Nat} {s : List UInt8} {a0 : Option Addr} {n cap : Nat} (h : Box2 w b s a0 n cap) (hb : Below w.heap.size w w2) : Box2 w2 b s a0 n cap :=
  ⟨(hb.cell (World.block_lt_of_cell? _ _ h.1)).trans h.1, (hb.cell (World.block_lt_of_cell? _ _ h.2)).trans h.2⟩
theorem box2_new (w : World) (s : List UInt8) (a0 : Option Addr) (n cap : Nat) (T : TypeId) : Box2 (w.alloc (.cells #[.string ⟨s.toArray⟩, .slice a0 n cap] T)) w.heap.size s a0 n cap := by
  have c : ∀ o, (w.alloc (.cells #[.string ⟨s.toArray⟩, .slice a0 n cap] T)).cell? ⟨w.heap.size, o, none⟩ = #[.string ⟨s.toArray⟩, .slice a0 n cap][o]? := fun o => World.cell?_alloc_at _ _ _ _ rfl
  exact ⟨c 0, c 1⟩
theorem Box2.lt {w : World} {b : Nat} {s : List UInt8} {a0 : Option Addr} {n cap : Nat} (h : Box2 w b s a0 n cap) : b < w.heap.size := World.block_lt_of_cell? _ _ h.1
end Go.Proofs.YtnccpddjdgndcaaGreatDoor.Val
end

section
/- THE WALKS OF filter.Match, filter.Right, filter.Covers. -/
namespace Go.Proofs.YtnccpddjdgndcaaGreatDoor.Val
open Go.RowKit Flt
attribute [local go_sem] run_store_flt
set_option maxHeartbeats 2000000 in
theorem fright_any (sf : List UInt8) (a0 : Option Addr) (cap : Nat) (l : List C) (w : World) (hl : Conds w a0 l) (hlm : l.length ≤ 1000000)
    (hsf : sf.length ≤ 140737488351232) (hok : ∀ c ∈ l, c.name.length ≤ 140737488351232 ∧ c.val.text.length ≤ 140737488351232) :
    Calls Tryz.prog 21 #[ev sf a0 l.length cap] w fun e w' => e = .returned (.bool (fRight sf l)) ∧ Below w.heap.size w w' := by
  have hrt (W : World) := Sc.right_l sf W hsf
  have hr : fRight sf l = (l.all cRight && (Sc.rightB sf && decide (l.length ≤ 6))) := rfl
  have HL := Lib.hid hl; have HRT := Lib.hid hrt; have HR := Lib.hid hr; have HOK := Lib.hid hok
  clear hl hrt hr hsf hok
  generalize Sc.rightB sf = U at *
  generalize fRight sf l = R at *
  go_enter Tryz.func21, Tryz.ntmps21
  go_wp2_with fail
  have hx1 := box2_new w sf a0 l.length cap 35
  have hbw := balloc w (.cells #[.string ⟨sf.toArray⟩, .slice a0 l.length cap] 35)
  have HX1 := Lib.hid hx1; have HBW := Lib.hid hbw
  clear hx1 hbw
  generalize w.alloc _ = W0 at *
  go_loopw [8] (fun vi wr => ∃ k : Nat, k ≤ l.length ∧ vi = .int .i64 k ∧ Hid ((l.take k).all cRight = true) ∧ Below W0.heap.size W0 wr) (fun vi _ => l.length - (intOf vi).toNat)
  case atStart => exact ⟨0, Nat.zero_le _, rfl, Lib.hid rfl, Below.refl _ _⟩
  case round =>
    obtain ⟨k, hk, rfl, HP, hbr⟩ := hrel
    have hbz := btrans HBW.out hbr
    have hy1 := HX1.out.below hbr
    have hs1 := hy1.lt
    obtain ⟨f0, f1⟩ := hy1
    have HBZ := Lib.hid hbz; have HBR := Lib.hid hbr
    clear hbz hbr
    by_cases hlt : k < l.length
    · have i1 : (k : Int) < (l.length : Int) := by omega
      have i0 : (0 : Int) ≤ (k : Int) := by omega
      have hts := all_take_succ' cRight l k hlt
      have hno := all_miss cRight l k hlt
      rw [HP.out, Bool.true_and] at hts
      have hx := HOK.out _ (List.getElem_mem hlt)
      obtain ⟨a, rfl, v0, v1, v2, v3, v4, v5, v6⟩ := (HL.out.below HBZ.out) k hlt
      have hmc (W : World) : Calls Tryz.prog 43 #[cc l[k]] W fun e w' => e = .returned (.bool (cRight l[k])) ∧ Below W.heap.size W w' := cright_any _ _ _ _ _ _ _ W hx.1 hx.2
      clear hx
      generalize cRight l[k] = M at *
      have HTS := Lib.hid hts; have HNO := Lib.hid hno; have HMC := Lib.hid hmc
      clear hts hno hmc HP
      cases M
      · go_wp2_with (go_at_call 43; refine (HMC.out _).mono ?_; rintro e w5 ⟨rfl, hb5⟩)
        go_ret
        exact ⟨ret_bool (by rw [HR.out, HNO.out (by trivial)]; rfl), btrans (btrans HBZ.out (balloc _ _)) hb5⟩
      · go_wp2_with (go_at_call 43; refine (HMC.out _).mono ?_; rintro e w5 ⟨rfl, hb5⟩)
        exact ⟨⟨k + 1, by omega, by go_num, Lib.hid HTS.out, btrans (btrans HBR.out (balloc _ _)) hb5⟩, by simp [intOf]; go_num⟩
    · obtain rfl : k = l.length := by omega
      have hP := HP.out
      rw [List.take_length] at hP
      have HQ := Lib.hid hP; clear hP
      cases U
      · go_wp2_with (go_at_call 44; refine (HRT.out _).mono ?_; rintro e w5 ⟨rfl, ⟨nd, rfl⟩⟩)
        go_ret
        exact ⟨ret_bool (by rw [HR.out, HQ.out]; rfl), bdrewN HBZ.out _⟩
      · go_wp2_with (go_at_call 44; refine (HRT.out _).mono ?_; rintro e w5 ⟨rfl, ⟨nd, rfl⟩⟩)
        go_ret
        exact ⟨ret_bool (by rw [HR.out, HQ.out, Bool.true_and, Bool.true_and, Bool.eq_iff_iff]; simp; omega), bdrewN HBZ.out _⟩
end Go.Proofs.YtnccpddjdgndcaaGreatDoor.Val
end

section
/- THE WALK OF parse.Filter: a filter of a text whose pieces are conditions. -/
namespace Go.Proofs.YtnccpddjdgndcaaGreatDoor.Pa
open Go.RowKit Flt Go.Proofs.YtnccpddjdgndcaaGreatDoor.Val
attribute [local go_sem] run_store_flt
/-- a box may turn -/
structure NK (b : Nat) (W W2 : World) : Prop where
  os : W2.os = W.os
  tape : W2.tape = W.tape
  output : W2.output = W.output
  size : W.heap.size ≤ W2.heap.size
  block : ∀ p, p < W.heap.size → p ≠ b → W2.heap[p]? = W.heap[p]?
theorem NK.refl (b : Nat) (W : World) : NK b W W := ⟨rfl, rfl, rfl, Nat.le_refl _, fun _ _ _ => rfl⟩
theorem NK.trans {b : Nat} {W W2 W3 : World} (h : NK b W W2) (k : NK b W2 W3) : NK b W W3 :=
  ⟨k.os.trans h.os, k.tape.trans h.tape, k.output.trans h.output, Nat.le_trans h.size k.size, fun p hp hne => (k.block p (Nat.lt_of_lt_of_le hp h.size) hne).trans (h.block p hp hne)⟩
theorem nk_set (b o : Nat) (W : World) (v : Value) : NK b W (W.setCell ⟨b, o, none⟩ v) := ⟨rfl, rfl, rfl, by simp, fun p _ hne => Below.heap_setCell _ _ _ _ hne⟩
theorem NK.low {b B : Nat} {W W2 : World} (h : NK b W W2) (hB : B ≤ b) (hs : B ≤ W.heap.size) : Below B W W2 := ⟨h.os, h.tape, h.output, h.size, fun p hp => h.block p (by omega) (by omega)⟩
theorem NK.cell {b : Nat} {W W2 : World} (h : NK b W W2) {p : Addr} (h1 : p.block < W.heap.size) (h2 : p.block ≠ b) : W2.cell? p = W.cell? p := World.cell?_of_block (w := W) (h.block _ h1 h2)
theorem NK.frozen {b : Nat} {W W2 : World} (h : NK b W W2) {p : Addr} (h1 : p.block < W.heap.size) (h2 : p.block ≠ b) : W2.frozen? p = W.frozen? p := World.frozen?_of_block (w := W) (h.block _ h1 h2)
theorem Strs.nk {W W2 : World} {b : Nat} {b0 : Option Addr} {l : List (List UInt8)} (h : Strs W b0 l) (hk : NK b W W2) (hb : ∀ a, b0 = some a → a.block ≠ b) : Strs W2 b0 l := fun i hi => by
  obtain ⟨a, e, h2⟩ := h i hi
  have hab : (a.add i).block = a.block := by unfold Addr.add; split <;> rfl
  exact ⟨a, e, (hk.cell (World.block_lt_of_cell? _ _ h2) (by rw [hab]; exact hb a e)).trans h2⟩
/-- what was grown below a row of one's own -/
theorem nk_grown {b : Nat} {w6 wr w3 w4 : World} {v : Value} (hk : NK b w6 wr) (hb : Below wr.heap.size wr w3) (hg : w3.grownBy w4 v.ownBlock) (ho : ∀ q, v.ownBlock = some q → w6.heap.size ≤ q ∧ q < wr.heap.size) : NK b w6 w4 :=
  ⟨hg.os.trans (hb.os.trans hk.os), hg.tape.trans (hb.tape.trans hk.tape), hg.output.trans (hb.output.trans hk.output), Nat.le_trans hk.size (Nat.le_trans hb.size hg.size), fun p hp hne => by
    have h1 : p < wr.heap.size := Nat.lt_of_lt_of_le hp hk.size
    refine (hg.block p (Nat.lt_of_lt_of_le h1 hb.size) (fun e => ?_)).trans ((hb.block p h1).trans (hk.block p hp hne))
    have := (ho p e.symm).1
    omega⟩
theorem conds_kp {W W2 : World} {a0 : Option Addr} {l : List C} (h : Conds W a0 l) (hk : ∀ a, a0 = some a → ∀ p : Addr, p.block = a.block → p.block < W.heap.size → W2.cell? p = W.cell? p) : Conds W2 a0 l := by
  intro i hi
  obtain ⟨a, e, h0, h1, h2, h3, h4, h5, h6⟩ := h i hi
  have hab : (a.add (i * 7)).block = a.block := by unfold Addr.add; split <;> rfl
  have k := fun {p : Addr} {v : Value} (hp : p.block = a.block) (hc : W.cell? p = some v) => (hk a e p hp (World.block_lt_of_cell? _ _ hc)).trans hc
  exact ⟨a, e, k hab h0, k hab h1, k hab h2, k hab h3, k hab h4, k hab h5, k hab h6⟩
theorem set2_at (W : World) (b : Nat) (u0 u1 : Value) {v0 v1 : Value} (h0 : W.cell? ⟨b, 0, none⟩ = some v0) (h1 : W.cell? ⟨b, 1, none⟩ = some v1) :
    ((W.setCell ⟨b, 0, none⟩ u0).setCell ⟨b, 1, none⟩ u1).cell? ⟨b, 0, none⟩ = some u0 ∧ ((W.setCell ⟨b, 0, none⟩ u0).setCell ⟨b, 1, none⟩ u1).cell? ⟨b, 1, none⟩ = some u1 ∧ Below b W ((W.setCell ⟨b, 0, none⟩ u0).setCell ⟨b, 1, none⟩ u1) := by
  refine ⟨(World.cell?_setCell_other _ _ _ _ (by simp)).trans (World.cell?_setCell_same _ _ _ h0), World.cell?_setCell_same _ _ _ ((World.cell?_setCell_other _ _ _ _ (by simp)).trans h1), ((Below.refl b W).setCell (Nat.le_refl _) _).setCell (Nat.le_refl _) _⟩
theorem fil_start (w : World) (n m : Nat) (ts : List UInt8) {T1 T2 : TypeId} {W : World} (h : W = ((((w.alloc (.cells #[.string ⟨#[]⟩, .slice none 0 0] T1)).drewN n).alloc (.cells #[.string ⟨ts.toArray⟩, .slice none 0 0] T2)).drewN m)) :
    (W.cell? ⟨w.heap.size, 0, none⟩ = some (.string ⟨#[]⟩) ∧ W.cell? ⟨w.heap.size, 1, none⟩ = some (.slice none 0 0) ∧ (∀ o, W.frozen? ⟨w.heap.size, o, none⟩ = false)) ∧ (W.cell? ⟨w.heap.size + 1, 0, none⟩ = some (.string ⟨ts.toArray⟩) ∧ W.cell? ⟨w.heap.size + 1, 1, none⟩ = some (.slice none 0 0) ∧ (∀ o, W.frozen? ⟨w.heap.size + 1, o, none⟩ = false)) ∧ W.heap.size = w.heap.size + 2 ∧ Below w.heap.size w W := by
  have hb : Below w.heap.size w W := by rw [h]; exact bdrewN (btrans (bdrewN (balloc _ _) _) (balloc _ _)) _
  subst h
  refine ⟨⟨?_, ?_, fun o => ?_⟩, ⟨?_, ?_, fun o => ?_⟩, ?_, hb⟩ <;> simp [go_sem]
/-- what parse.Filter answers, of a scope and conditions -/
def Made (sc : List UInt8) (cs : List C) (e : Ending) (w' : World) : Prop :=
  if 6 < cs.length then e = .returned (.tuple #[ev [] none 0 0, .int .i64 2]) else if fRight sc cs = true then ∃ b0 cp, e = .returned (.tuple #[ev sc b0 cs.length cp, .int .i64 0]) ∧ Conds w' b0 cs else e = .returned (.tuple #[ev [] none 0 0, .int .i64 1])
set_option maxRecDepth 20000 in
set_option maxHeartbeats 4000000 in
theorem pfilter_any (sc rest : List UInt8) (cs : List C) (w : World) (h58 : 58 ∉ sc) (hl : sc.length + rest.length + 1 ≤ 100000) (hne : trimP rest ≠ []) (hlen : (cutP rest).length = cs.length) (hc20 : cs.length ≤ 100000) (htl : (trimP sc).length ≤ 100000)
    (hone : ∀ i (h : i < cs.length) W, Below w.heap.size w W → Calls Tryz.prog 42 #[.string ⟨((cutP rest)[i]'(by omega)).toArray⟩] W fun e w' => e = .returned (.tuple #[cc cs[i], .bool true]) ∧ Below W.heap.size W w')
    (hok : ∀ x ∈ cs, x.name.length ≤ 140737488351232 ∧ x.val.text.length ≤ 140737488351232) :
    Calls Tryz.prog 18 #[.string ⟨(sc ++ 58 :: rest).toArray⟩] w fun e w' => Made (trimP sc) cs e w' ∧ Below w.heap.size w w' := by
  obtain ⟨i0, hi, hz0, hz1, hz2⟩ := info_parts info_cond
  have hcu := fun W => pcut_some 58 sc rest W h58 (by unfold maxLen; omega)
  have ht1 := fun W => ptrim_any sc W (by unfold maxLen; omega)
  have ht2 := fun W => ptrim_any rest W (by unfold maxLen; omega)
  have hpi := fun W => pieces_any ⟨rest.toArray⟩ W (by show rest.toArray.size ≤ _; simp; omega)
  have hpi2 : ∀ W, Calls Tryz.prog 41 #[.string ⟨rest.toArray⟩] W fun e w' => (∃ b0 cap, e = .returned (.slice b0 cs.length cap) ∧ Strs w' b0 (cutP rest) ∧ ∀ a, b0 = some a → W.heap.size ≤ a.block) ∧ Below W.heap.size W w' := fun W => by
    have h := hpi W
    rw [show (⟨rest.toArray⟩ : ByteArray).data.toList = rest from rfl, hlen] at h
    exact h
  have e0 : (trimP rest == []) = false := by simpa using hne
  have e1 : (trimP rest != []) = true := by simpa using hne
  generalize htr : trimP rest = tr at *
  generalize hts : trimP sc = ts at *
  have HCU := Lib.hid hcu; have HT1 := Lib.hid ht1; have HT2 := Lib.hid ht2; have HPI := Lib.hid hpi2; have HONE := Lib.hid hone; have HOK := Lib.hid hok
  clear hcu ht1 ht2 hpi hpi2 hone hok h58 htr hts hl
  go_enter Tryz.func18, Tryz.ntmps18
  go_upto_region 7 with (first | (go_at_call 39; (with_reducible refine (HCU.out _).mono ?_); rintro e w1 ⟨rfl, n1, rfl⟩) | (go_at_call 40; (with_reducible refine (HT1.out _).mono ?_); rintro e w1 ⟨rfl, n2, rfl⟩) | (go_at_call 40; (with_reducible refine (HT2.out _).mono ?_); rintro e w1 ⟨rfl, n3, rfl⟩) | (go_at_call 41; (with_reducible refine (HPI.out _).mono ?_); rintro e w6 ⟨⟨b0, cap, rfl, hst, hbl⟩, hb6⟩) | fail)
  obtain ⟨W5, hW5⟩ : ∃ W5, W5 = ((((w.alloc (.cells #[.string ⟨#[]⟩, .slice none 0 0] 35)).drewN (n1 + n2)).alloc (.cells #[.string ⟨ts.toArray⟩, .slice none 0 0] 35)).drewN n3) := ⟨_, rfl⟩
  obtain ⟨⟨r0, r1, rz⟩, ⟨f0, f1, fz⟩, hs5, hb5⟩ := fil_start w (n1 + n2) n3 ts hW5
  rw [← hW5] at hb6 hbl
  have hb56 : Below w.heap.size w w6 := hb5.trans (hb6.mono (by omega))
  have hs6 := hb6.size
  have hpr : w.heap.size < W5.heap.size := by omega
  have hpf : w.heap.size + 1 < W5.heap.size := by omega
  have HR := Lib.hid (show w6.cell? ⟨w.heap.size, 0, none⟩ = some (.string ⟨#[]⟩) ∧ w6.cell? ⟨w.heap.size, 1, none⟩ = some (.slice none 0 0) ∧ ∀ o, w6.frozen? ⟨w.heap.size, o, none⟩ = false from ⟨(hb6.cell (p := ⟨w.heap.size, 0, none⟩) hpr).trans r0, (hb6.cell (p := ⟨w.heap.size, 1, none⟩) hpr).trans r1, fun o => (hb6.frozen (p := ⟨w.heap.size, o, none⟩) hpr).trans (rz o)⟩)
  have g0 := (hb6.cell (p := ⟨w.heap.size + 1, 0, none⟩) hpf).trans f0
  have g1 := (hb6.cell (p := ⟨w.heap.size + 1, 1, none⟩) hpf).trans f1
  have gz := (hb6.frozen (p := ⟨w.heap.size + 1, 1, none⟩) hpf).trans (fz 1)
  have hbl2 : ∀ a, b0 = some a → a.block ≠ w.heap.size + 1 := fun a e => by have := hbl a e; omega
  have hbase : w.heap.size + 1 < w6.heap.size := by omega
  have HST := Lib.hid hst; have HBL := Lib.hid hbl2; have HB56 := Lib.hid hb56
  clear hst hbl hbl2 hb5 hb6 hb56 r0 r1 rz f0 f1 fz hs5 hs6 hpr hpf hW5
  go_loopw [30] (fun vi wr => ∃ (k : Nat) (v : Value), k ≤ cs.length ∧ vi = .int .i64 k ∧ wr.cell? ⟨w.heap.size + 1, 0, none⟩ = some (.string ⟨ts.toArray⟩) ∧ wr.cell? ⟨w.heap.size + 1, 1, none⟩ = some v ∧ wr.frozen? ⟨w.heap.size + 1, 1, none⟩ = false ∧ wr.ownsRow w6.heap.size 41 7 v (cs.take k).length (flatC (cs.take k)) ∧ NK (w.heap.size + 1) w6 wr) (fun vi _ => cs.length - (intOf vi).toNat)
  case atStart => exact ⟨0, .slice none 0 0, Nat.zero_le _, rfl, g0, g1, gz, World.ownsRow_nil _ _ _ _, NK.refl _ _⟩
  case round =>
    obtain ⟨k, v, hk, rfl, o0, o1, ofz, hown, hnk⟩ := hrel
    clear g0 g1 gz
    have hpfr : w.heap.size + 1 < wr.heap.size := Nat.lt_of_lt_of_le hbase hnk.size
    have hbw : Below w.heap.size w wr := HB56.out.trans (hnk.low (by omega) (by omega))
    have OWN := Lib.hid hown; have HNK := Lib.hid hnk; have HBW := Lib.hid hbw
    have hnks := hnk.size
    clear hown hnk hbw
    by_cases hlt : k < cs.length
    · have i1 : (k : Int) < (cs.length : Int) := by omega
      have i2 : (0 : Int) ≤ (k : Int) := by omega
      obtain ⟨a, rfl, hpc⟩ := (HST.out.nk HNK.out HBL.out) k (by omega)
      have hn := fun W => HONE.out k hlt W
      have hstep : cs.take (k + 1) = cs.take k ++ [cs[k]] := List.take_succ_eq_append_getElem hlt
      have htk : (cs.take k).length = k := by rw [List.length_take]; omega
      generalize (cutP rest)[k]'(by omega) = pc at *
      generalize cs[k] = c at *
      have HN := Lib.hid hn; have HSTEP := Lib.hid hstep
      clear hn hstep
      obtain ⟨cn1, cn2, cn3, cn4, cn5, cn6, cn7⟩ := c
      go_wp2_with (first | (go_at_call 42; (refine (HN.out _ HBW.out).mono ?_); rintro e w3 ⟨rfl, hb3⟩; have HB3 := Lib.hid hb3; have OWN3 := Lib.hid (own_low7 OWN.out hb3); have hpf3 : w.heap.size + 1 < w3.heap.size := Nat.lt_of_lt_of_le hpfr hb3.size; have q1 := (hb3.cell (p := ⟨w.heap.size + 1, 1, none⟩) hpfr).trans o1; have qz := (hb3.frozen (p := ⟨w.heap.size + 1, 1, none⟩) hpfr).trans ofz; clear hb3) | (at_builtin; refine wpList_append_own _ rfl _ _ 33 rfl w6.heap.size 41 i0 (.agg #[.string .empty, .int .i64 0, .int .i64 0, .int .i64 0, .float .f64 0, .string .empty, .bool false]) 7 72 Tryz.underlying33 hi hz0 hz1 hz2 rfl (by decide) v _ _ rfl ((OWN3.out.alloc _).alloc _) ⟨w3.heap.size + 1, 0, none⟩ 1 1 (flatC [⟨cn1, cn2, cn3, cn4, cn5, cn6, cn7⟩]) rfl rfl ?news (flatC_one _) (by unfold maxLen; omega) (by omega) (by have := HB3.out.size; simp at *; omega) ?_; rotate_left; (case news => exact new_cond _ _ (by simp) _ _); intro v' w4 hown' hgrow3 hnil3; have hb7 := btrans HB3.out (balloc2 w3 (.cells #[.string ⟨cn1.toArray⟩, .int .i64 cn2, .int .i64 cn3, .int .i64 cn4, .float .f64 cn5, .string ⟨cn6.toArray⟩, .bool cn7] 41) (.cells #[.string ⟨cn1.toArray⟩, .int .i64 cn2, .int .i64 cn3, .int .i64 cn4, .float .f64 cn5, .string ⟨cn6.toArray⟩, .bool cn7] 41)); have hg1 := hgrow3.block (w.heap.size + 1) (by have := hb7.size; omega) (fun h => by have := (OWN.out.lt _ h.symm).1; omega); have p0 := (World.cell?_of_block (a := ⟨w.heap.size + 1, 0, none⟩) hg1).trans ((hb7.cell (p := ⟨w.heap.size + 1, 0, none⟩) hpfr).trans o0); have p1 := (World.cell?_of_block (a := ⟨w.heap.size + 1, 1, none⟩) hg1).trans ((hb7.cell (p := ⟨w.heap.size + 1, 1, none⟩) hpfr).trans o1); have pfz := (World.frozen?_of_block (a := ⟨w.heap.size + 1, 1, none⟩) hg1).trans ((hb7.frozen (p := ⟨w.heap.size + 1, 1, none⟩) hpfr).trans ofz); have hnk4 : NK (w.heap.size + 1) w6 w4 := nk_grown HNK.out hb7 hgrow3 (fun q hq => OWN.out.lt q hq); have hown2 : w4.ownsRow w6.heap.size 41 7 v' (cs.take k ++ [(⟨cn1, cn2, cn3, cn4, cn5, cn6, cn7⟩ : C)]).length (flatC (cs.take k ++ [(⟨cn1, cn2, cn3, cn4, cn5, cn6, cn7⟩ : C)])) := (by rw [flatC_app, List.length_append]; exact hown'); obtain ⟨b1, cp1, hv1, _⟩ := own_conds hown2; subst hv1; have OWN4 := Lib.hid hown2; have HNK4 := Lib.hid hnk4; clear hown' hown2 hgrow3 hnil3 hb7 hg1 hnk4) | fail)
      have o4 := OWN4.out
      refine ⟨⟨k + 1, _, by omega, by go_num, (World.cell?_setCell_other _ _ _ _ (by simp)).trans p0, World.cell?_setCell_same _ _ _ p1, by rw [World.frozen?_setCell]; exact pfz, ?_, HNK4.out.trans (nk_set _ _ _ _)⟩, by simp [intOf]; go_num⟩
      have el : (cs.take k ++ [(⟨cn1, cn2, cn3, cn4, cn5, cn6, cn7⟩ : C)]).length = k + 1 := by simp [htk]
      rw [HSTEP.out, el]
      rw [el] at o4
      exact ownsRow_setCell_below (a := ⟨w.heap.size + 1, 1, none⟩) o4 hbase _
    · obtain rfl : k = cs.length := by omega
      have own := OWN.out
      rw [List.take_length] at own
      obtain ⟨b1, cp, rfl, hcs, hbc⟩ := own_conds own
      have hq0 := (HNK.out.cell (p := ⟨w.heap.size, 0, none⟩) (by show w.heap.size < _; omega) (by show w.heap.size ≠ _; omega)).trans HR.out.1
      have hq1 := (HNK.out.cell (p := ⟨w.heap.size, 1, none⟩) (by show w.heap.size < _; omega) (by show w.heap.size ≠ _; omega)).trans HR.out.2.1
      have hqz : ∀ o, wr.frozen? ⟨w.heap.size, o, none⟩ = false := fun o => (HNK.out.frozen (p := ⟨w.heap.size, o, none⟩) (by show w.heap.size < _; omega) (by show w.heap.size ≠ _; omega)).trans (HR.out.2.2 o)
      have hlw : w.heap.size < wr.heap.size := by omega
      have hfr := fright_any ts b1 cp cs wr hcs (by omega) (by omega) HOK.out
      have hm : ∀ e w', Made ts cs e w' = if 6 < cs.length then e = .returned (.tuple #[ev [] none 0 0, .int .i64 2]) else if fRight ts cs = true then ∃ b0 cp, e = .returned (.tuple #[ev ts b0 cs.length cp, .int .i64 0]) ∧ Conds w' b0 cs else e = .returned (.tuple #[ev [] none 0 0, .int .i64 1]) := fun e w' => rfl
      generalize fRight ts cs = FR at *
      have HCS := Lib.hid hcs; have HBC := Lib.hid hbc; have HFR := Lib.hid hfr; have HM := Lib.hid hm
      clear hcs hbc hfr hm own OWN HNK HR HOK HONE HPI HT1 HT2 HCU HST
      by_cases h6 : 6 < cs.length
      · have d1 : (6 : Int) < (cs.length : Int) := by omega
        go_wp2_with fail
        obtain ⟨c0, c1, hbz⟩ := set2_at wr w.heap.size (.string ⟨#[]⟩) (.slice none 0 0) hq0 hq1
        generalize World.setCell (World.setCell _ _ _) _ _ = Wz at *
        refine bodyPost_ret (v := .tuple #[ev [] none 0 0, .int .i64 2]) (by simp [results, Tryz.results18, go_sem, c0, c1]; try rfl) rfl ?_
        refine ⟨?_, HBW.out.trans hbz⟩
        rw [HM.out, if_pos h6]
      · have d1 : ¬ (6 : Int) < (cs.length : Int) := by omega
        cases FR
        · go_wp2_with (first | (go_at_call 21; (with_reducible refine HFR.out.mono ?_); rintro e w7 ⟨rfl, hb7⟩; have q0 := (hb7.cell (p := ⟨w.heap.size, 0, none⟩) hlw).trans hq0; have q1 := (hb7.cell (p := ⟨w.heap.size, 1, none⟩) hlw).trans hq1; have qz := fun o => (hb7.frozen (p := ⟨w.heap.size, o, none⟩) hlw).trans (hqz o)) | fail)
          obtain ⟨c0, c1, hbz⟩ := set2_at w7 w.heap.size (.string ⟨#[]⟩) (.slice none 0 0) q0 q1
          generalize World.setCell (World.setCell _ _ _) _ _ = Wz at *
          refine bodyPost_ret (v := .tuple #[ev [] none 0 0, .int .i64 1]) (by simp [results, Tryz.results18, go_sem, c0, c1]; try rfl) rfl ?_
          refine ⟨?_, (btrans HBW.out hb7).trans hbz⟩
          rw [HM.out, if_neg h6]
          simp
        · go_wp2_with (first | (go_at_call 21; (with_reducible refine HFR.out.mono ?_); rintro e w7 ⟨rfl, hb7⟩; have q0 := (hb7.cell (p := ⟨w.heap.size, 0, none⟩) hlw).trans hq0; have q1 := (hb7.cell (p := ⟨w.heap.size, 1, none⟩) hlw).trans hq1; have qz := fun o => (hb7.frozen (p := ⟨w.heap.size, o, none⟩) hlw).trans (hqz o); have x0 := (hb7.cell (p := ⟨w.heap.size + 1, 0, none⟩) hpfr).trans o0; have x1 := (hb7.cell (p := ⟨w.heap.size + 1, 1, none⟩) hpfr).trans o1) | fail)
          obtain ⟨c0, c1, hbz⟩ := set2_at w7 w.heap.size (.string ⟨ts.toArray⟩) (.slice b1 cs.length cp) q0 q1
          have hc9 : Conds ((w7.setCell ⟨w.heap.size, 0, none⟩ (.string ⟨ts.toArray⟩)).setCell ⟨w.heap.size, 1, none⟩ (.slice b1 cs.length cp)) b1 cs := conds_kp (HCS.out.below hb7) (fun a e p hp _ => (World.cell?_setCell_other _ _ _ _ (by intro e2; have := HBC.out a e; rw [← e2] at hp; have hp' : w.heap.size = a.block := hp; omega)).trans (World.cell?_setCell_other _ _ _ _ (by intro e2; have := HBC.out a e; rw [← e2] at hp; have hp' : w.heap.size = a.block := hp; omega)))
          generalize World.setCell (World.setCell _ _ _) _ _ = Wz at *
          refine bodyPost_ret (v := .tuple #[ev ts b1 cs.length cp, .int .i64 0]) (by simp [results, Tryz.results18, go_sem, c0, c1]; try rfl) rfl ?_
          refine ⟨?_, (btrans HBW.out hb7).trans hbz⟩
          rw [HM.out, if_neg h6]
          simp only [if_true]
          exact ⟨b1, cp, rfl, hc9⟩
end Go.Proofs.YtnccpddjdgndcaaGreatDoor.Pa
end

section
/- THE WALK OF value.Print: what a value's text is. -/
namespace Go.Proofs.YtnccpddjdgndcaaGreatDoor.Val
open Go.RowKit Flt
def yesT : List UInt8 := [121, 101, 115]
def noT : List UInt8 := [110, 111]
/-- a value's text -/
def vT (v : V) : List UInt8 :=
  if v.kind == 0 then Lib.itoa v.int else if v.kind == 1 then Fmt.fltT (Ord.canon v.num) else if v.kind == 2 then Quo.quoteT Lib.goPrintTabs v.text else if v.yes then yesT else noT
theorem canon_lt (x : Nat) (h : x < 18446744073709551616) : Ord.canon x < 18446744073709551616 := by
  unfold Ord.canon Ord.nan0
  split
  · decide
  · split
    · decide
    · exact h
theorem flt_ascii (b : Nat) : ∀ c ∈ Fmt.ftoaT b, c.toNat < 128 := by
  intro c hc
  have hx : Fmt.bexp b < 2048 := Nat.mod_lt _ (by decide)
  unfold Fmt.ftoaT at hc
  split at hc
  · split at hc
    · simp only [List.mem_cons, List.not_mem_nil, or_false] at hc
      rcases hc with rfl | rfl | rfl <;> decide
    · split at hc
      · simp only [List.mem_cons, List.not_mem_nil, or_false] at hc
        rcases hc with rfl | rfl | rfl | rfl <;> decide
      · simp only [List.mem_cons, List.not_mem_nil, or_false] at hc
        rcases hc with rfl | rfl | rfl | rfl <;> decide
  · have hs : ∀ c ∈ Fmt.sgn (Fmt.bneg b), c.toNat < 128 := by
      intro c hc
      unfold Fmt.sgn at hc
      split at hc
      · rw [List.mem_singleton] at hc; subst hc; decide
      · cases hc
    rename_i h1
    split at hc
    · rcases List.mem_append.1 hc with hc | hc
      · exact hs c hc
      · rw [List.mem_singleton] at hc; subst hc; decide
    · rename_i h2
      rcases List.mem_append.1 hc with hc | hc
      · exact hs c hc
      · rcases (Fmt.Num.mk (by omega) (by omega) : Fmt.Num b).isN c hc with h | h | h | h | h
        · unfold Fmt.IsD at h; omega
        all_goals (subst h; decide)
theorem flt_len (b : Nat) : (Fmt.ftoaT b).length ≤ 1000 := by
  have hx : Fmt.bexp b < 2048 := Nat.mod_lt _ (by decide)
  unfold Fmt.ftoaT
  split
  · split
    · decide
    · split <;> decide
  · have hs : (Fmt.sgn (Fmt.bneg b)).length ≤ 1 := by unfold Fmt.sgn; split <;> decide
    rename_i h1
    split
    · rw [List.length_append, List.length_singleton]; omega
    · rename_i h2
      have hn := (Fmt.Num.mk (by omega) (by omega) : Fmt.Num b)
      obtain ⟨f1, f2, f3, f4⟩ := hn.facts
      obtain ⟨g1, g2, g3, g4⟩ := hn.nd
      rw [List.length_append]
      have : (Fmt.numT b).length ≤ 900 := by
        unfold Fmt.numT
        generalize Fmt.digs _ = D at *
        generalize (Lib.nDigits (Fmt.short (Fmt.fm b) (Fmt.fE b)).1 : Nat) = n at *
        generalize (Fmt.short (Fmt.fm b) (Fmt.fE b)).2 = p at *
        unfold Fmt.gText
        split
        · unfold Fmt.eText Fmt.exps
          simp only [List.length_append, List.length_cons, List.length_nil]
          split <;> split <;> split <;> simp <;> omega
        · unfold Fmt.fText
          rw [List.length_append]
          split <;> split <;> simp <;> omega
      omega
theorem badd (s t : List UInt8) : (⟨s.toArray⟩ : ByteArray) ++ ⟨t.toArray⟩ = ⟨(s ++ t).toArray⟩ := by
  apply ByteArray.ext
  simp
theorem quote_at (t : List UInt8) (W : World) (hl : t.length ≤ 1000000) (hW : Tab.Tabs W) :
    Calls Tryz.prog 37 #[.string ⟨t.toArray⟩] W fun e w' => e = .returned (.string ⟨(Quo.quoteT Lib.goPrintTabs t).toArray⟩) ∧ Below W.heap.size W w' := by
  have h : (⟨t.toArray⟩ : ByteArray).size = t.length := by simp [ByteArray.size]
  exact Tryz.strconv_Quote Lib.goPrintTabs ⟨t.toArray⟩ W (by rw [h]; omega) hW.prt hW.utf
theorem itoa_at (n : Int) (W : World) (h0 : -9223372036854775808 ≤ n) (h1 : n ≤ 9223372036854775807) (hW : Fmt.P10 W) :
    Calls Tryz.prog 35 #[.int .i64 n, .int .i64 10] W fun e w' => e = .returned (.string ⟨(Lib.itoa n).toArray⟩) ∧ Below W.heap.size W w' := by
  refine (Tryz.strconv_FormatInt_10 n h0 h1 W hW).mono ?_
  rintro e w' ⟨rfl, k, os, rfl⟩
  exact ⟨rfl, Go.Lib.below_grow _ _ (Nat.le_refl _) _ _⟩
theorem any_at (t : List UInt8) (W : World) (ha : ∀ c ∈ t, c.toNat < 128) (hl : t.length ≤ 1000) :
    Calls Tryz.prog 30 #[.string ⟨t.toArray⟩, .string ⟨#[46, 101, 73, 78]⟩] W fun e w' => e = .returned (.bool (Fmt.marked t)) ∧ Below W.heap.size W w' := by
  have h : (⟨t.toArray⟩ : ByteArray).size = t.length := by simp [ByteArray.size]
  refine Tryz.strings_ContainsAny_laid ⟨t.toArray⟩ ⟨#[46, 101, 73, 78]⟩ W (by rw [h]; omega) (by decide) (fun j b hb => ha b ?_) (fun j b hb => ?_)
  · exact List.mem_of_getElem? hb
  · have : b ∈ [46, 101, 73, 78] := List.mem_of_getElem? hb
    simp only [List.mem_cons, List.not_mem_nil, or_false] at this
    rcases this with rfl | rfl | rfl | rfl <;> decide
set_option maxRecDepth 20000 in
set_option maxHeartbeats 1000000 in
theorem vprint_any (k n : Int) (x : Nat) (t : List UInt8) (y : Bool) (w : World) (hx : x < 18446744073709551616) (h0 : -9223372036854775808 ≤ n) (h1 : n ≤ 9223372036854775807) (hl : t.length ≤ 1000000) (hT : Tab.Tabs w) :
    Calls Tryz.prog 13 #[val k n x t y] w fun e w' => e = .returned (.string ⟨(vT ⟨k, n, x, t, y⟩).toArray⟩) ∧ Below w.heap.size w w' := by
  have hr : vT ⟨k, n, x, t, y⟩ = (if k == 0 then Lib.itoa n else if k == 1 then Fmt.fltT (Ord.canon x) else if k == 2 then Quo.quoteT Lib.goPrintTabs t else if y then yesT else noT) := rfl
  have HT := Lib.hid hT; clear hT
  cases q0 : (k == 0)
  · cases q1 : (k == 1)
    · cases q2 : (k == 2)
      · rw [q0, q1, q2] at hr
        cases y
        all_goals
          rw [hr]; clear hr
          go_enter Tryz.func13, Tryz.ntmps13
          go_wp2
          go_ret
          exact ⟨rfl, balloc _ _⟩
      · rw [q0, q1, q2] at hr
        have HR := Lib.hid hr; clear hr
        have hq := fun W hW => quote_at t W hl hW
        have HQ := Lib.hid hq; clear hq
        go_enter Tryz.func13, Tryz.ntmps13
        go_wp2_with (first | (go_at_call 37; refine (HQ.out _ (HT.out.below (by first | exact balloc _ _ | exact (balloc _ _).drew) (Nat.le_refl _))).mono ?_; rintro e w1 ⟨rfl, hb1⟩; have HB := Lib.hid hb1; clear hb1) | fail)
        go_ret
        exact ⟨by rw [HR.out]; rfl, btrans (by first | exact balloc _ _ | exact (balloc _ _).drew) HB.out⟩
    · rw [q0, q1] at hr
      have hf := fun W hW => Fmt.format_any (Ord.canon x) W (canon_lt x hx) (Tab.Tabs.pow hW) (Tab.Tabs.p10 hW)
      have hm := fun W => any_at (Fmt.ftoaT (Ord.canon x)) W (flt_ascii _) (flt_len _)
      have ht : Fmt.fltT (Ord.canon x) = if Fmt.marked (Fmt.ftoaT (Ord.canon x)) then Fmt.ftoaT (Ord.canon x) else Fmt.ftoaT (Ord.canon x) ++ [46, 48] := rfl
      have hlen := flt_len (Ord.canon x)
      rw [ht] at hr
      clear ht
      generalize Fmt.ftoaT (Ord.canon x) = s at *
      cases hmk : Fmt.marked s
      all_goals
        rw [hmk] at hr hm
        clear hmk
        have HR := Lib.hid hr; clear hr
        have HF := Lib.hid hf; have HM := Lib.hid hm; clear hf hm
        go_enter Tryz.func13, Tryz.ntmps13
        go_wp2_with (first | (go_at_call 32; refine (Ord.canon_any _ _).mono ?_; rintro e w' ⟨rfl, rfl⟩) | (go_at_call 36; refine (HF.out _ (HT.out.below (by first | exact balloc _ _ | exact (balloc _ _).drew) (Nat.le_refl _))).mono ?_; rintro e w1 ⟨rfl, hb1⟩; have HB := Lib.hid hb1; clear hb1) | (go_at_call 30; refine (HM.out _).mono ?_; rintro e w2 ⟨rfl, hb2⟩; have HC := Lib.hid hb2; clear hb2) | fail)
        go_ret
        exact ⟨by rw [HR.out]; first | rfl | exact congrArg (fun z => Ending.returned (Value.string z)) (badd s [46, 48]), btrans (btrans (by first | exact balloc _ _ | exact (balloc _ _).drew) HB.out) HC.out⟩
  · rw [q0] at hr
    have HR := Lib.hid hr; clear hr
    have hf := fun W hW => itoa_at n W h0 h1 (Tab.Tabs.p10 hW)
    have HF := Lib.hid hf; clear hf
    go_enter Tryz.func13, Tryz.ntmps13
    go_wp2_with (first | (go_at_call 35; refine (HF.out _ (HT.out.below (by first | exact balloc _ _ | exact (balloc _ _).drew) (Nat.le_refl _))).mono ?_; rintro e w1 ⟨rfl, hb1⟩; have HB := Lib.hid hb1; clear hb1) | fail)
    go_ret
    exact ⟨by rw [HR.out]; rfl, btrans (by first | exact balloc _ _ | exact (balloc _ _).drew) HB.out⟩
end Go.Proofs.YtnccpddjdgndcaaGreatDoor.Val
end

section
/- utf8.ValidString's contract, laid by the kit's tool at this seat's dump, its remarks struck. -/
namespace Go.Proofs
open Go.Shelf
def Tryz.lays196_ren : Go.Shelf.Ren := ⟨fun | 196 => 72 | 259 => 102 | n => n, fun | 9 => 9 | 4 => 4 | 3 => 3 | 5 => 5 | 12 => 12 | 119 => 127 | 0 => 0 | 46 => 113 | 139 => 130 | 138 => 129 | 53 => 80 | n => n, fun | 3 => 3 | 4 => 4 | n => n⟩
theorem Tryz.lays196 : Go.Proofs.Lays.n196 Tryz.prog Tryz.lays196_ren := {
  mixed := by kernel_rfl
  f196 := Tryz.func72.trans (congrArg some (by kernel_rfl))
  f259 := Tryz.func102.trans (congrArg some (by kernel_rfl))
  t0 := Tryz.underlying0
  a0 := Tryz.isAgg0
  z0 := Tryz.sizeOf0
  v0 := Tryz.zeroValue0
  t3 := Tryz.underlying3
  a3 := Tryz.isAgg3
  z3 := Tryz.sizeOf3
  v3 := Tryz.zeroValue3
  t4 := Tryz.underlying4
  a4 := Tryz.isAgg4
  z4 := Tryz.sizeOf4
  v4 := Tryz.zeroValue4
  t5 := Tryz.underlying5
  a5 := Tryz.isAgg5
  z5 := Tryz.sizeOf5
  v5 := Tryz.zeroValue5
  t9 := Tryz.underlying9
  a9 := Tryz.isAgg9
  z9 := Tryz.sizeOf9
  v9 := Tryz.zeroValue9
  t12 := Tryz.underlying12
  a12 := Tryz.isAgg12
  z12 := Tryz.sizeOf12
  v12 := Tryz.zeroValue12
  t46 := Tryz.underlying113
  a46 := Tryz.isAgg113
  z46 := Tryz.sizeOf113
  v46 := Tryz.zeroValue113
  t53 := Tryz.underlying80
  a53 := Tryz.isAgg80
  z53 := Tryz.sizeOf80
  v53 := Tryz.zeroValue80
  t119 := Tryz.underlying127
  a119 := Tryz.isAgg127
  z119 := Tryz.sizeOf127
  t138 := Tryz.underlying129
  a138 := Tryz.isAgg129
  z138 := Tryz.sizeOf129
  v138 := Tryz.zeroValue129
  t139 := Tryz.underlying130
  a139 := Tryz.isAgg130
  z139 := Tryz.sizeOf130
  v139 := Tryz.zeroValue130
  g3 := by kernel_rfl
  g4 := by kernel_rfl }
end Go.Proofs
end

section
/- THE WALK OF strconv.Unquote AT A TEXT BETWEEN QUOTES that needs no escapes. -/
namespace Go.Proofs.YtnccpddjdgndcaaGreatDoor.Unq
open Go.RowKit Go.Lib
theorem ibs_call (s : ByteArray) (c : Int) (w : World) : (callFunc 101 #[.string s, .int .u8 c]).run Tryz.prog w = .ok (.value (.int .i64 (Lib.indexByte s.data.toList c.toNat.toUInt8))) w := by
  rw [run_callFunc_extern Tryz.func101 (by kernel_rfl) (by kernel_rfl) (by kernel_rfl) (e := Extern.BytealgIndexByte.indexByte) (by kernel_rfl), Lib.run_indexByteString]
  rfl
set_option maxHeartbeats 400000 in
theorem index_any (s : ByteArray) (c : Int) (w : World) : Calls Tryz.prog 70 #[.string s, .int .u8 c] w fun e w' => e = .returned (.int .i64 (Lib.indexByte s.data.toList c.toNat.toUInt8)) ∧ w = w' := by
  go_enter Tryz.func70, Tryz.ntmps70
  go_wp2_with (first | (simp only [ibs_call]) | fail)
  go_ret
  exact ⟨rfl, rfl⟩
theorem contains_of (s : ByteArray) (c : Int) (b : Bool) (hb : (Lib.indexByte s.data.toList c.toNat.toUInt8 != -1) = b) (w : World) : Calls Tryz.prog 71 #[.string s, .int .u8 c] w fun e w' => e = .returned (.bool b) ∧ w = w' := by
  go_enter Tryz.func71, Tryz.ntmps71
  go_wp2_with (go_at_call 70; refine (index_any _ _ _).mono ?_; rintro e w' ⟨rfl, rfl⟩)
  go_ret
  exact ⟨rfl, rfl⟩
theorem ix_none : ∀ (l : List UInt8) (c : UInt8), c ∉ l → Lib.indexByte l c = -1
  | [], _, _ => rfl
  | a :: l, c, h => by
    have h1 : (a == c) = false := by rw [beq_eq_false_iff_ne]; exact fun e => h (by simp [e])
    unfold Lib.indexByte
    rw [h1, ix_none l c (fun m => h (by simp [m]))]; rfl
theorem ix_end : ∀ (l : List UInt8) (c : UInt8), c ∉ l → Lib.indexByte (l ++ [c]) c = (l.length : Int)
  | [], c, _ => by simp [Lib.indexByte]
  | a :: l, c, h => by
    have h1 : (a == c) = false := by rw [beq_eq_false_iff_ne]; exact fun e => h (by simp [e])
    have h2 : ((l.length : Int) == -1) = false := by rw [beq_eq_false_iff_ne]; omega
    rw [List.cons_append]
    unfold Lib.indexByte
    rw [h1, ix_end l c (fun m => h (by simp [m])), h2]; simp
theorem ext_list2 (l : List UInt8) (a b : Nat) : (⟨l.toArray⟩ : ByteArray).extract a b = ⟨((l.drop a).take (b - a)).toArray⟩ := by
  have h := Lib.extract_data (⟨l.toArray⟩ : ByteArray) a b
  apply ByteArray.ext
  rw [← Array.toArray_toList (xs := ((⟨l.toArray⟩ : ByteArray).extract a b).data), h]
set_option maxRecDepth 100000 in
set_option maxHeartbeats 4000000 in
/-- the quick road -/
theorem unquote_of (s t bd : ByteArray) (n : Nat) (w : World) (hn : n ≤ 1000000) (hz : s.size = n + 2) (h0 : (s[0]'(by omega)).toNat = 34)
    (e1 : s.extract 1 (n + 2) = t) (e2 : s.extract 0 (n + 2) = s) (e3 : s.extract 1 (n + 1) = bd)
    (hi : Lib.indexByte t.data.toList 34 = (n : Int)) (hb : Lib.indexByte s.data.toList 92 = -1) (hl : Lib.indexByte s.data.toList 10 = -1) (hv : Lib.validD bd.data.toList = true) (hbs : bd.size ≤ 1000000) (hT : Tab.Tabs w) :
    Calls Tryz.prog 46 #[.string s, .bool true] w fun e w' => e = .returned (.tuple #[.string bd, .string ⟨#[]⟩, .nilIface]) ∧ Below w.heap.size w w' := by
  have hu := fun W (hW : Lib.Utf8Tabs 3 4 W) => (Go.Proofs.Any.utf8_ValidString Tryz.lays196 bd W (by omega) hW)
  rw [hv] at hu
  have hc1 := fun W => contains_of s 92 false (by rw [show ((92 : Int).toNat.toUInt8) = 92 from rfl, hb]; rfl) W
  have hc2 := fun W => contains_of s 10 false (by rw [show ((10 : Int).toNat.toUInt8) = 10 from rfl, hl]; rfl) W
  have hix := fun W => index_any t 34 W
  rw [show ((34 : Int).toNat.toUInt8) = 34 from rfl, hi] at hix
  have HU := Lib.hid hu; have HC1 := Lib.hid hc1; have HC2 := Lib.hid hc2; have HI := Lib.hid hix; have HT := Lib.hid hT
  clear hu hc1 hc2 hix hT hi hb hl hv
  go_enter Tryz.func46, Tryz.ntmps46
  go_wp2_with (first
    | (go_at_call 70; refine (HI.out _).mono ?_; rintro e w' ⟨rfl, rfl⟩)
    | (go_at_call 71; ((with_reducible refine (HC1.out _).mono ?_); rintro e w' ⟨rfl, rfl⟩))
    | (go_at_call 71; ((with_reducible refine (HC2.out _).mono ?_); rintro e w' ⟨rfl, rfl⟩))
    | (go_at_call 72; refine (HU.out _ HT.out.utf).mono ?_; rintro e w1 ⟨rfl, hb1⟩) | fail)
  go_quiet (fail)
  go_wp2
  go_ret3
  refine ⟨?_, Val.bdrewN hb1 nq⟩
  simp
  exact ⟨e3, rfl⟩
set_option maxHeartbeats 1000000 in
theorem unq_any (body : List UInt8) (w : World) (h34 : 34 ∉ body) (h92 : 92 ∉ body) (h10 : 10 ∉ body) (hv : Lib.validD body = true) (hl : body.length ≤ 100000) (hT : Tab.Tabs w) :
    Calls Tryz.prog 29 #[.string ⟨(34 :: (body ++ [34])).toArray⟩] w fun e w' => e = .returned (.tuple #[.string ⟨body.toArray⟩, .nilIface]) ∧ Below w.heap.size w w' := by
  have hz : (⟨(34 :: (body ++ [34])).toArray⟩ : ByteArray).size = body.length + 2 := by show (34 :: (body ++ [34])).toArray.size = _; simp
  have hu := unquote_of ⟨(34 :: (body ++ [34])).toArray⟩ ⟨(body ++ [34]).toArray⟩ ⟨body.toArray⟩ body.length w (by omega) hz rfl
    (by rw [ext_list2, List.take_of_length_le (by simp)]; rfl) (by rw [ext_list2, List.take_of_length_le (by simp)]; rfl)
    (by rw [ext_list2, List.drop_succ_cons, List.drop_zero, show body.length + 1 - 1 = body.length by omega, List.take_left' rfl])
    (ix_end body 34 h34) (ix_none _ 92 (by simp [h92])) (ix_none _ 10 (by simp [h10])) hv (by show body.toArray.size ≤ _; simp; omega) hT
  have HU := Lib.hid hu
  clear hu hz h34 h92 h10 hv hT
  go_enter Tryz.func29, Tryz.ntmps29
  go_wp2_with (go_at_call 46; refine HU.out.mono ?_; rintro e w1 ⟨rfl, hb1⟩)
  go_ret2
  exact ⟨rfl, hb1⟩
end Go.Proofs.YtnccpddjdgndcaaGreatDoor.Unq
end

section
/- THE WALK OF the fit of chapter 02's laws: it reads "3.0" and prints "a". -/
namespace Go.Proofs.YtnccpddjdgndcaaGreatDoor.Val
open Go.RowKit Flt
attribute [local go_sem] run_store_flt
/-- two boxes laid one behind the other, seen from a later world -/
theorem two_box {w w1 : World} {A B : Array Value} {T U : TypeId} (hb : Below ((w.alloc (.cells A T)).alloc (.cells B U)).heap.size ((w.alloc (.cells A T)).alloc (.cells B U)) w1) :
    (∀ o, w1.cell? ⟨w.heap.size, o, none⟩ = A[o]?) ∧ (∀ o, w1.cell? ⟨w.heap.size + 1, o, none⟩ = B[o]?) ∧ (∀ o, w1.frozen? ⟨w.heap.size, o, none⟩ = false) ∧ (∀ o, w1.frozen? ⟨w.heap.size + 1, o, none⟩ = false) ∧
      w.heap.size + 1 < w1.heap.size ∧ Below w.heap.size w w1 := by
  have hz := size2 hb
  have c : ∀ b o, b < w.heap.size + 2 → w1.cell? ⟨b, o, none⟩ = ((w.alloc (.cells A T)).alloc (.cells B U)).cell? ⟨b, o, none⟩ := fun b o h => hb.cell (p := ⟨b, o, none⟩) (by simp; omega)
  have f : ∀ b o, b < w.heap.size + 2 → w1.frozen? ⟨b, o, none⟩ = ((w.alloc (.cells A T)).alloc (.cells B U)).frozen? ⟨b, o, none⟩ := fun b o h => hb.frozen (p := ⟨b, o, none⟩) (by simp; omega)
  exact ⟨fun o => (c _ o (by omega)).trans (by simp), fun o => (c _ o (by omega)).trans (by simp), fun o => (f _ o (by omega)).trans (by simp), fun o => (f _ o (by omega)).trans (by simp), hz, btrans (balloc2 _ _ _) hb⟩
/-- the second one is written -/
theorem two_set {w w1 : World} {A B : Array Value} {T U : TypeId} (hb : Below ((w.alloc (.cells A T)).alloc (.cells B U)).heap.size ((w.alloc (.cells A T)).alloc (.cells B U)) w1) (hB : B.size = 5) (v0 v1 v2 v3 v4 : Value) :
    ∃ W2, W2 = (((((w1.setCell ⟨w.heap.size + 1, 0, none⟩ v0).setCell ⟨w.heap.size + 1, 1, none⟩ v1).setCell ⟨w.heap.size + 1, 2, none⟩ v2).setCell ⟨w.heap.size + 1, 3, none⟩ v3).setCell ⟨w.heap.size + 1, 4, none⟩ v4) ∧
      (∀ o, W2.cell? ⟨w.heap.size, o, none⟩ = A[o]?) ∧ (W2.cell? ⟨w.heap.size + 1, 0, none⟩ = some v0 ∧ W2.cell? ⟨w.heap.size + 1, 1, none⟩ = some v1 ∧ W2.cell? ⟨w.heap.size + 1, 2, none⟩ = some v2 ∧ W2.cell? ⟨w.heap.size + 1, 3, none⟩ = some v3 ∧ W2.cell? ⟨w.heap.size + 1, 4, none⟩ = some v4) ∧
      (∀ o, W2.frozen? ⟨w.heap.size, o, none⟩ = false) ∧ w.heap.size + 1 < W2.heap.size ∧ Below w.heap.size w W2 := by
  obtain ⟨c0, c1, f0, f1, hz, hl⟩ := two_box hb
  obtain ⟨e0, e1, e2, e3, e4, h2⟩ := set5_at w1 (w.heap.size + 1) v0 v1 v2 v3 v4 (fun j hj => by rw [c1, Array.getElem?_eq_getElem (by omega)]; rfl)
  exact ⟨_, rfl, fun o => (h2.cell (p := ⟨w.heap.size, o, none⟩) (Nat.lt_succ_self _)).trans (c0 o), ⟨e0, e1, e2, e3, e4⟩, fun o => (h2.frozen (p := ⟨w.heap.size, o, none⟩) (Nat.lt_succ_self _)).trans (f0 o), Nat.lt_of_lt_of_le hz h2.size, hl.trans (h2.mono (by omega))⟩
end Go.Proofs.YtnccpddjdgndcaaGreatDoor.Val
end

section
/- THE WALK OF value.Read AT A TEXT BETWEEN QUOTES that needs no escapes. -/
namespace Go.Proofs.YtnccpddjdgndcaaGreatDoor.Val
open Go.RowKit Flt
attribute [local go_sem] run_store_flt
/-- a text that stands between quotes as it is -/
structure Bare1 (body : List UInt8) : Prop where
  h34 : 34 ∉ body
  h92 : 92 ∉ body
  h10 : 10 ∉ body
  hv : Lib.validD body = true
  hq : Quo.quoteT Lib.goPrintTabs body = 34 :: (body ++ [34])
set_option maxRecDepth 20000 in
set_option maxHeartbeats 4000000 in
theorem read_yes (body : List UInt8) (w : World) (hb : Bare1 body) (hl : body.length ≤ 40) (hT : Tab.Tabs w) :
    Calls Tryz.prog 10 #[.string ⟨(34 :: (body ++ [34])).toArray⟩] w fun e w' => e = .returned (.tuple #[val 2 0 0 body false, .bool true]) ∧ Below w.heap.size w w' := by
  have hu := fun W hW => Unq.unq_any body W hb.h34 hb.h92 hb.h10 hb.hv (by omega) hW
  have hp := fun W hW => vprint_any 2 0 0 body false W (by decide) (by decide) (by decide) (by omega) hW
  have hvt : vT ⟨2, 0, 0, body, false⟩ = 34 :: (body ++ [34]) := hb.hq
  rw [hvt] at hp
  have hr := fun W => vright_any 2 0 0 body false W (by omega)
  have hrr : vRight ⟨2, 0, 0, body, false⟩ = true := by
    show (true && true && decide (body.length ≤ 40)) = _
    simp; omega
  rw [hrr] at hr
  have HU := Lib.hid hu; have HPR := Lib.hid hp; have HR := Lib.hid hr; have HT := Lib.hid hT
  clear hu hp hvt hr hrr hT hb
  go_enter Tryz.func10, Tryz.ntmps10
  go_wp2_with (first
    | (go_at_call 29; refine (HU.out _ (HT.out.below (by repeat (first | assumption | (with_reducible exact Below.refl _ _) | exact balloc _ _ | exact balloc2 _ _ _ | refine btrans ?_ (by assumption) | refine btrans ?_ (balloc _ _))) (Nat.le_refl _))).mono ?_; rintro e w1 ⟨rfl, hb1⟩; have HB1 := Lib.hid hb1; obtain ⟨c0, c1, f0, f1, hz1, hl1⟩ := two_box hb1; clear hb1) | fail)
  obtain ⟨W2, hW2, d0, ⟨e0, e1, e2, e3, e4⟩, g0, hz2, hl2⟩ := two_set HB1.out rfl (.int .i64 2) (.int .i64 0) (.float .f64 0) (.string ⟨body.toArray⟩) (.bool false)
  rw [← hW2]
  clear c0 c1 f0 f1 hz1 hl1 HB1 hW2
  have HB := Lib.hid hl2; clear hl2
  go_wp2_with (first
    | (go_at_call 12; refine (HR.out _).mono ?_; rintro e w3 ⟨rfl, hb3⟩; obtain ⟨hc3, hf3⟩ := bcell hb3; have hs3 := Nat.lt_of_lt_of_le hz2 hb3.size; have hs3' : w.heap.size < W2.heap.size := by omega)
    | (go_at_call 13; refine (HPR.out _ (HT.out.below (btrans HB.out hb3) (Nat.le_refl _))).mono ?_; rintro e w4 ⟨rfl, hb4⟩; obtain ⟨hc4, hf4⟩ := bcell hb4; have hs4' : w.heap.size < w3.heap.size := by omega) | fail)
  obtain ⟨r0, r1, r2, r3, r4, hb5⟩ := set5_at w4 w.heap.size (.int .i64 2) (.int .i64 0) (.float .f64 0) (.string ⟨body.toArray⟩) (.bool false) (fun j hj => by
    rw [hc4 _ _ (by omega), hc3 _ _ (by omega), d0, Array.getElem?_eq_getElem (by exact hj)]; rfl)
  generalize World.setCell _ _ _ = W5 at *
  refine bodyPost_ret (v := .tuple #[val 2 0 0 body false, .bool true]) (by simp [results, Tryz.results10, go_sem, r0, r1, r2, r3, r4]; try rfl) rfl ?_
  exact ⟨rfl, (btrans (btrans HB.out hb3) hb4).trans hb5⟩
end Go.Proofs.YtnccpddjdgndcaaGreatDoor.Val
end

section
/- PLAIN TEXTS between quotes: signs 32..126 without the quote and the back stroke stand as they are. -/
namespace Go.Proofs.YtnccpddjdgndcaaGreatDoor.Val
open Go.RowKit Flt
/-- a plain sign -/
def Pl (b : UInt8) : Prop := 32 ≤ b.toNat ∧ b.toNat < 127 ∧ b.toNat ≠ 34 ∧ b.toNat ≠ 92
theorem code_pl_all : ((List.range 127).all fun n => decide (n < 32) || decide (n = 34) || decide (n = 92) || (Quo.code Lib.goPrintTabs (n : Int) == [(n : Int)])) = true := by decide +kernel
theorem code_pl (n : Nat) (h0 : 32 ≤ n) (h1 : n < 127) (h2 : n ≠ 34) (h3 : n ≠ 92) : Quo.code Lib.goPrintTabs (n : Int) = [(n : Int)] := by
  have h := List.all_eq_true.1 code_pl_all n (List.mem_range.2 h1)
  rw [show decide (n < 32) = false by rw [decide_eq_false_iff_not]; omega, decide_eq_false h2, decide_eq_false h3] at h
  exact beq_iff_eq.1 (by simpa using h)
theorem qf_pl : ∀ (l : List UInt8) (f : Nat), (∀ b ∈ l, Pl b) → l.length ≤ f → Quo.qf Lib.goPrintTabs f l = l.map fun b => (b.toNat : Int)
  | [], f, _, _ => Quo.qf_nil _ f
  | b :: t, 0, _, h => by simp at h
  | b :: t, f + 1, hp, h => by
    obtain ⟨p0, p1, p2, p3⟩ := hp b (List.mem_cons_self ..)
    have hd : Lib.decodeL (b :: t) = (b.toNat, 1) := Lib.decodeL_ascii b t (by omega)
    have hs : Quo.symOf (b :: t) = (b.toNat : Int) := by
      unfold Quo.symOf
      rw [hd]
      rw [if_neg (fun hh => by have := hh.2; dsimp only at this; omega)]
    unfold Quo.qf
    rw [if_neg (by simp), hs, code_pl b.toNat p0 p1 p2 p3, hd]
    show [(b.toNat : Int)] ++ Quo.qf Lib.goPrintTabs f t = _
    rw [qf_pl t f (fun c hc => hp c (List.mem_cons_of_mem _ hc)) (by simpa using h)]
    rfl
theorem quoteT_pl (l : List UInt8) (hp : ∀ b ∈ l, Pl b) : Quo.quoteT Lib.goPrintTabs l = 34 :: (l ++ [34]) := by
  unfold Quo.quoteT
  rw [Quo.quoteZ_qf, qf_pl l l.length hp (Nat.le_refl _)]
  have hb : ∀ b : UInt8, UInt8.ofNat (Int.toNat (b.toNat : Int)) = b := fun b => by
    rw [Int.toNat_natCast]; exact UInt8.ofNat_toNat
  simp only [List.map_cons, List.map_append, List.map_nil, List.map_map]
  congr 2
  conv => rhs; rw [← List.map_id l]
  exact List.map_congr_left fun b _ => hb b
theorem valid_pl : ∀ (l : List UInt8), (∀ b ∈ l, Pl b) → Lib.validD l = true
  | [], _ => rfl
  | b :: t, hp => by
    have p1 := (hp b (List.mem_cons_self ..)).2.1
    rw [Lib.validD_cons b t (by omega)]
    exact valid_pl t fun c hc => hp c (List.mem_cons_of_mem _ hc)
theorem bare_pl (l : List UInt8) (hp : ∀ b ∈ l, Pl b) : Bare1 l :=
  ⟨fun e => (hp _ e).2.2.1 rfl, fun e => (hp _ e).2.2.2 rfl, fun e => absurd (hp _ e).1 (by decide), valid_pl l hp, quoteT_pl l hp⟩
end Go.Proofs.YtnccpddjdgndcaaGreatDoor.Val
end

section
/- THE WALK OF parse.one: a condition of a text, at the two forms that the laws of chapter 8 need. -/
namespace Go.Proofs.YtnccpddjdgndcaaGreatDoor.Pa
open Go.RowKit Flt Go.Proofs.YtnccpddjdgndcaaGreatDoor.Val
attribute [local go_sem] run_store_flt
theorem no_space {l : List UInt8} (h : 32 ∉ l) (w : World) : Calls Tryz.prog 64 #[.string ⟨l.toArray⟩, .string ⟨#[32]⟩] w fun e w' => e = .returned (.bool false) ∧ w' = w := by
  refine (Tryz.strings_Contains_one ⟨l.toArray⟩ 32 w).mono ?_
  rintro e w' ⟨rfl, rfl⟩
  refine ⟨?_, rfl⟩
  rcases byte_cases 32 l with ⟨h1, _⟩ | ⟨a, b, e, _, _⟩
  · show Ending.returned (.bool (decide (0 ≤ Lib.indexByte l 32))) = _
    rw [h1]; rfl
  · exact absurd (by rw [e]; simp) h
set_option maxRecDepth 20000 in
set_option maxHeartbeats 2000000 in
theorem one_has (s nm : List UInt8) (w : World) (hs : s.length ≤ 100000) (h : trimP s = [104, 97, 115] ++ 32 :: nm) (hn : trimP nm = nm) (h0 : nm ≠ []) (h32 : 32 ∉ nm) (hl : nm.length ≤ 100000) :
    Calls Tryz.prog 42 #[.string ⟨s.toArray⟩] w fun e w' => e = .returned (.tuple #[cond nm 7 0 0 0 [] false, .bool true]) ∧ Below w.heap.size w w' := by
  have ht1 := fun W => ptrim_any s W (by unfold maxLen; omega)
  rw [h] at ht1
  have ht2 := fun W => ptrim_any nm W (by unfold maxLen; omega)
  rw [hn] at ht2
  have hc := fun W => pcut_some 32 [104, 97, 115] nm W (by decide) (by unfold maxLen; simp; omega)
  have hsp := fun W => no_space h32 W
  have e0 : (nm == []) = false := by simpa using h0
  have e1 : (nm != []) = true := by simpa using h0
  have HT1 := Lib.hid ht1; have HT2 := Lib.hid ht2; have HC := Lib.hid hc; have HSP := Lib.hid hsp
  clear ht1 ht2 hc hsp h hn h32
  go_enter Tryz.func42, Tryz.ntmps42
  go_wp2_with (first | (go_at_call 40; (with_reducible refine (HT1.out _).mono ?_); rintro e w1 ⟨rfl, n1, rfl⟩) | (go_at_call 40; (with_reducible refine (HT2.out _).mono ?_); rintro e w1 ⟨rfl, n2, rfl⟩) | (go_at_call 39; refine (HC.out _).mono ?_; rintro e w1 ⟨rfl, n3, rfl⟩) | (go_at_call 64; refine (HSP.out _).mono ?_; rintro e w1 ⟨rfl, rfl⟩) | fail)
  obtain ⟨c0, c1, c2, c3, c4, c5, c6, hbz⟩ := set7_at (((w.alloc (.cells #[.string ⟨#[]⟩, .int .i64 0, .int .i64 0, .int .i64 0, .float .f64 0, .string ⟨#[]⟩, .bool false] 41)).drewN (n1 + n3 + n2))) w.heap.size (.string ⟨nm.toArray⟩) (.int .i64 7) (.int .i64 0) (.int .i64 0) (.float .f64 0) (.string ⟨#[]⟩) (.bool false) (fun j hj => by simp; omega)
  generalize World.setCell _ _ _ = W2 at *
  refine bodyPost_ret (v := .tuple #[cond nm 7 0 0 0 [] false, .bool true]) (by simp [results, Tryz.results42, go_sem, c0, c1, c2, c3, c4, c5, c6]; try rfl) rfl ?_
  exact ⟨rfl, (bdrewN (balloc _ _) _).trans hbz⟩
theorem word_no32 : ∀ n : Nat, n ≤ 7 → 32 ∉ wordL n := by decide
theorem word_apart : ∀ n : Nat, n ≤ 6 → ∀ m : Nat, m ≤ 6 → n ≠ m → (wordL n == wordL m) = false := by decide
theorem word_b (n : Nat) (h : n ≤ 7) : wordB (n : Int) = wordL n := by
  unfold wordB
  rw [if_neg (by omega)]
  rfl
set_option maxRecDepth 20000 in
set_option maxHeartbeats 2000000 in
theorem one_cmp (s nm r1 r2 body : List UInt8) (op : Nat) (w : World) (hw : Words w) (hT : Tab.Tabs w) (hs : s.length ≤ 100000) (h1 : trimP s = nm ++ 32 :: r1) (h32 : 32 ∉ nm) (hnh : nm ≠ [104, 97, 115]) (h2 : trimP r1 = wordL op ++ 32 :: r2) (hop : op ≤ 6) (h3 : trimP r2 = 34 :: (body ++ [34])) (hb : Bare1 body) (hbl : body.length ≤ 40)
    (l1 : nm.length + r1.length ≤ 100000) (l2 : r2.length ≤ 100000) :
    Calls Tryz.prog 42 #[.string ⟨s.toArray⟩] w fun e w' => e = .returned (.tuple #[cond nm op 2 0 0 body false, .bool true]) ∧ Below w.heap.size w w' := by
  have ht1 := fun W => ptrim_any s W (by unfold maxLen; omega)
  rw [h1] at ht1
  have ht2 := fun W => ptrim_any r1 W (by unfold maxLen; omega)
  rw [h2] at ht2
  have ht3 := fun W => ptrim_any r2 W (by unfold maxLen; omega)
  rw [h3] at ht3
  have hc1 := fun W => pcut_some 32 nm r1 W h32 (by unfold maxLen; omega)
  have hwl : (wordL op).length ≤ 10 := (show ∀ n : Nat, n ≤ 6 → (wordL n).length ≤ 10 by decide) op hop
  have hc2 := fun W => pcut_some 32 (wordL op) r2 W (word_no32 op (by omega)) (by unfold maxLen; omega)
  have hrd := fun W (hb2 : Below w.heap.size w W) => read_yes body W hb hbl (hT.below hb2 (Nat.le_refl _))
  have hwd : ∀ n : Nat, n ≤ 7 → ∀ W, Below w.heap.size w W → Calls Tryz.prog 19 #[.int .i64 (n : Int)] W fun e w' => e = .returned (.string ⟨(wordL n).toArray⟩) ∧ W = w' := fun n hn W hb2 => by
    have h := word_any (n : Int) W (hw.below hb2)
    rw [word_b n hn] at h
    exact h
  have e0 : (nm == [104, 97, 115]) = false := by simpa using hnh
  have hap := fun n (hn : n ≤ 6) (hne : n ≠ op) => word_apart n hn op hop hne
  have HT1 := Lib.hid ht1; have HT2 := Lib.hid ht2; have HT3 := Lib.hid ht3; have HC1 := Lib.hid hc1; have HC2 := Lib.hid hc2; have HRD := Lib.hid hrd; have HWD := Lib.hid hwd; have HAP := Lib.hid hap
  clear ht1 ht2 ht3 hc1 hc2 hrd hwd hap h1 h2 h3 h32 hw hT hb hwl l1 l2 hnh
  obtain ⟨wo, hwo⟩ : ∃ wo, wordL op = wo := ⟨_, rfl⟩
  rw [hwo] at HT2 HC2 HAP
  have HWO := Lib.hid hwo; clear hwo
  go_enter Tryz.func42, Tryz.ntmps42
  go_upto_region 15 with (first | (go_at_call 40; (with_reducible refine (HT1.out _).mono ?_); rintro e w1 ⟨rfl, n1, rfl⟩) | (go_at_call 40; (with_reducible refine (HT2.out _).mono ?_); rintro e w1 ⟨rfl, n2, rfl⟩) | (go_at_call 40; (with_reducible refine (HT3.out _).mono ?_); rintro e w1 ⟨rfl, n3, rfl⟩) | (go_at_call 39; (with_reducible refine (HC1.out _).mono ?_); rintro e w1 ⟨rfl, n4, rfl⟩) | (go_at_call 39; (with_reducible refine (HC2.out _).mono ?_); rintro e w1 ⟨rfl, n5, rfl⟩) | (go_at_call 10; (refine (HRD.out _ (bdrewN (balloc _ _) _)).mono ?_); rintro e w5 ⟨rfl, hb5⟩) | fail)
  have hlw : w.heap.size < ((w.alloc (.cells #[.string ⟨#[]⟩, .int .i64 0, .int .i64 0, .int .i64 0, .float .f64 0, .string ⟨#[]⟩, .bool false] 41)).drewN (n1 + n4 + n2 + n5 + n3)).heap.size := by simp
  have y0 : w5.cell? ⟨w.heap.size, 0, none⟩ = some (.string ⟨#[]⟩) := (hb5.cell (p := ⟨w.heap.size, 0, none⟩) hlw).trans (by simp [go_sem])
  have y1 : w5.cell? ⟨w.heap.size, 1, none⟩ = some (.int .i64 0) := (hb5.cell (p := ⟨w.heap.size, 1, none⟩) hlw).trans (by simp [go_sem])
  have y2 : w5.cell? ⟨w.heap.size, 2, none⟩ = some (.int .i64 0) := (hb5.cell (p := ⟨w.heap.size, 2, none⟩) hlw).trans (by simp [go_sem])
  have y3 : w5.cell? ⟨w.heap.size, 3, none⟩ = some (.int .i64 0) := (hb5.cell (p := ⟨w.heap.size, 3, none⟩) hlw).trans (by simp [go_sem])
  have y4 : w5.cell? ⟨w.heap.size, 4, none⟩ = some (.float .f64 0) := (hb5.cell (p := ⟨w.heap.size, 4, none⟩) hlw).trans (by simp [go_sem])
  have y5 : w5.cell? ⟨w.heap.size, 5, none⟩ = some (.string ⟨#[]⟩) := (hb5.cell (p := ⟨w.heap.size, 5, none⟩) hlw).trans (by simp [go_sem])
  have y6 : w5.cell? ⟨w.heap.size, 6, none⟩ = some (.bool false) := (hb5.cell (p := ⟨w.heap.size, 6, none⟩) hlw).trans (by simp [go_sem])
  have yz : ∀ o, w5.frozen? ⟨w.heap.size, o, none⟩ = false := fun o => (hb5.frozen (p := ⟨w.heap.size, o, none⟩) hlw).trans (by simp)
  have hl5 : w.heap.size < w5.heap.size := Nat.lt_of_lt_of_le hlw hb5.size
  have hbw5 : Below w.heap.size w w5 := btrans (bdrewN (balloc _ _) _) hb5
  have hb6 := balloc w5 (.cells #[.int .i64 2, .int .i64 0, .float .f64 0, .string ⟨body.toArray⟩, .bool false] 25)
  generalize hW6 : World.alloc w5 _ = W6 at *
  replace y0 : W6.cell? ⟨w.heap.size, 0, none⟩ = some (.string ⟨#[]⟩) := (hb6.cell (p := ⟨w.heap.size, 0, none⟩) hl5).trans y0
  replace y1 : W6.cell? ⟨w.heap.size, 1, none⟩ = some (.int .i64 0) := (hb6.cell (p := ⟨w.heap.size, 1, none⟩) hl5).trans y1
  replace y2 : W6.cell? ⟨w.heap.size, 2, none⟩ = some (.int .i64 0) := (hb6.cell (p := ⟨w.heap.size, 2, none⟩) hl5).trans y2
  replace y3 : W6.cell? ⟨w.heap.size, 3, none⟩ = some (.int .i64 0) := (hb6.cell (p := ⟨w.heap.size, 3, none⟩) hl5).trans y3
  replace y4 : W6.cell? ⟨w.heap.size, 4, none⟩ = some (.float .f64 0) := (hb6.cell (p := ⟨w.heap.size, 4, none⟩) hl5).trans y4
  replace y5 : W6.cell? ⟨w.heap.size, 5, none⟩ = some (.string ⟨#[]⟩) := (hb6.cell (p := ⟨w.heap.size, 5, none⟩) hl5).trans y5
  replace y6 : W6.cell? ⟨w.heap.size, 6, none⟩ = some (.bool false) := (hb6.cell (p := ⟨w.heap.size, 6, none⟩) hl5).trans y6
  replace yz : ∀ o, W6.frozen? ⟨w.heap.size, o, none⟩ = false := fun o => (hb6.frozen (p := ⟨w.heap.size, o, none⟩) hl5).trans (yz o)
  have v0 : W6.cell? ⟨w5.heap.size, 0, none⟩ = some (.int .i64 2) := by rw [← hW6]; exact World.cell?_alloc_at _ _ _ _ rfl
  have v1 : W6.cell? ⟨w5.heap.size, 1, none⟩ = some (.int .i64 0) := by rw [← hW6]; exact World.cell?_alloc_at _ _ _ _ rfl
  have v2 : W6.cell? ⟨w5.heap.size, 2, none⟩ = some (.float .f64 0) := by rw [← hW6]; exact World.cell?_alloc_at _ _ _ _ rfl
  have v3 : W6.cell? ⟨w5.heap.size, 3, none⟩ = some (.string ⟨body.toArray⟩) := by rw [← hW6]; exact World.cell?_alloc_at _ _ _ _ rfl
  have v4 : W6.cell? ⟨w5.heap.size, 4, none⟩ = some (.bool false) := by rw [← hW6]; exact World.cell?_alloc_at _ _ _ _ rfl
  have HBW := Lib.hid (btrans hbw5 hb6)
  clear hb5 hb6 hbw5 hW6 hlw
  generalize w5.heap.size = pv at *
  go_loop [10] (fun vk => ∃ j : Nat, j ≤ op ∧ vk = .int .i64 (j : Int)) (fun vk => 7 - (intOf vk).toNat)
  case atStart => exact ⟨0, Nat.zero_le _, rfl⟩
  case round =>
    obtain ⟨j, hj, rfl⟩ := hrel
    have i1 : (j : Int) < 7 := by omega
    have i2 : (0 : Int) ≤ (j : Int) := by omega
    by_cases hjo : j = op
    · subst hjo
      have heq : (wordL j == wo) = true := by rw [HWO.out]; simp
      have heq2 : wordL j = wo := HWO.out
      go_wp2_with (first | (go_at_call 19; (refine (HWD.out j (by omega) _ HBW.out).mono ?_); rintro e w9 ⟨rfl, rfl⟩) | fail)
      obtain ⟨k0, k1, k2, k3, k4, k5, k6, hbz⟩ := set7_at W6 w.heap.size (.string ⟨nm.toArray⟩) (.int .i64 (j : Int)) (.int .i64 2) (.int .i64 0) (.float .f64 0) (.string ⟨body.toArray⟩) (.bool false) (fun i hi => by
        have hi' : i = 0 ∨ i = 1 ∨ i = 2 ∨ i = 3 ∨ i = 4 ∨ i = 5 ∨ i = 6 := by omega
        rcases hi' with rfl | rfl | rfl | rfl | rfl | rfl | rfl
        · rw [y0]; rfl
        · rw [y1]; rfl
        · rw [y2]; rfl
        · rw [y3]; rfl
        · rw [y4]; rfl
        · rw [y5]; rfl
        · rw [y6]; rfl)
      generalize World.setCell _ _ _ = W2 at *
      refine bodyPost_ret (v := .tuple #[cond nm (j : Int) 2 0 0 body false, .bool true]) (by simp [results, Tryz.results42, go_sem, k0, k1, k2, k3, k4, k5, k6]; try rfl) rfl ?_
      exact ⟨rfl, HBW.out.trans hbz⟩
    · have hne : (wordL j == wo) = false := HAP.out j (by omega) hjo
      go_wp2_with (first | (go_at_call 19; (refine (HWD.out j (by omega) _ HBW.out).mono ?_); rintro e w9 ⟨rfl, rfl⟩) | fail)
      exact ⟨⟨j + 1, by omega, by go_num⟩, by simp [intOf]; go_num⟩
end Go.Proofs.YtnccpddjdgndcaaGreatDoor.Pa
end

section
/- THE WALK OF parse.one AT ANY TEXT, whatever value.Read answers. -/
namespace Go.Proofs.YtnccpddjdgndcaaGreatDoor.Pa
open Go.RowKit Flt Go.Proofs.YtnccpddjdgndcaaGreatDoor.Val
attribute [local go_sem] run_store_flt
/-- what one answers -/
def oneOut : Option C → Value
  | some c => .tuple #[cc c, .bool true]
  | none => .tuple #[cond [] 0 0 0 0 [] false, .bool false]
/-- what value.Read answers -/
def rdOut : Option V → Value
  | some v => .tuple #[vv v, .bool true]
  | none => .tuple #[val 0 0 0 [] false, .bool false]
/-- an op by its word -/
def wordIx (wo : List UInt8) : Option Nat := (List.range 7).find? fun n => wordL n == wo
theorem wordIx_at : ∀ n : Nat, n ≤ 6 → wordIx (wordL n) = some n := by decide
theorem wordIx_none {wo : List UInt8} (h : ∀ n : Nat, n ≤ 6 → (wordL n == wo) = false) : wordIx wo = none := by
  unfold wordIx
  rw [List.find?_eq_none]
  intro n hn
  rw [h n (by have := List.mem_range.1 hn; omega)]
  decide
theorem wordIx_ways (wo : List UInt8) : (∃ n : Nat, n ≤ 6 ∧ wo = wordL n) ∨ (∀ n : Nat, n ≤ 6 → (wordL n == wo) = false) := by
  by_cases h : ∃ n : Nat, n ≤ 6 ∧ wo = wordL n
  · exact .inl h
  · refine .inr fun n hn => ?_
    rw [beq_eq_false_iff_ne]
    exact fun e => h ⟨n, hn, e.symm⟩
theorem has_space {l : List UInt8} (h : 32 ∈ l) (w : World) : Calls Tryz.prog 64 #[.string ⟨l.toArray⟩, .string ⟨#[32]⟩] w fun e w' => e = .returned (.bool true) ∧ w' = w := by
  refine (Tryz.strings_Contains_one ⟨l.toArray⟩ 32 w).mono ?_
  rintro e w' ⟨rfl, rfl⟩
  refine ⟨?_, rfl⟩
  rcases byte_cases 32 l with ⟨_, h2⟩ | ⟨a, b, e, _, h3⟩
  · exact absurd h h2
  · show Ending.returned (.bool (decide (0 ≤ Lib.indexByte l 32))) = _
    rw [h3, decide_eq_true (by omega)]
theorem box_drew {w w1 : World} {A : Array Value} {T : TypeId} {n : Nat} (hb : Below ((w.alloc (.cells A T)).drewN n).heap.size ((w.alloc (.cells A T)).drewN n) w1) :
    (∀ o, w1.cell? ⟨w.heap.size, o, none⟩ = A[o]?) ∧ (∀ o, w1.frozen? ⟨w.heap.size, o, none⟩ = false) ∧ w.heap.size < w1.heap.size ∧ Below w.heap.size w w1 := by
  have hz : w.heap.size < ((w.alloc (.cells A T)).drewN n).heap.size := by simp
  exact ⟨fun o => (hb.cell (p := ⟨w.heap.size, o, none⟩) hz).trans (by simp), fun o => (hb.frozen (p := ⟨w.heap.size, o, none⟩) hz).trans (by simp), Nat.lt_of_lt_of_le hz hb.size, btrans (bdrewN (balloc _ _) _) hb⟩
theorem seven_some {w5 : World} {A X : Array Value} {T : TypeId} {b : Nat} (hA : A.size = 7) (bc : ∀ o, w5.cell? ⟨b, o, none⟩ = A[o]?) (hl : b < w5.heap.size) : ∀ j, j < 7 → ((w5.alloc (.cells X T)).cell? ⟨b, j, none⟩).isSome = true := fun j hj => by
  rw [(balloc w5 (.cells X T)).cell (p := ⟨b, j, none⟩) hl, bc, Array.getElem?_eq_getElem (by omega)]
  rfl
set_option maxRecDepth 20000 in
set_option maxHeartbeats 1000000 in
theorem one_no1 (s : List UInt8) (w : World) (hs : s.length ≤ 100000) (h : 32 ∉ trimP s) :
    Calls Tryz.prog 42 #[.string ⟨s.toArray⟩] w fun e w' => e = .returned (oneOut none) ∧ Below w.heap.size w w' := by
  have ht1 := fun W => ptrim_any s W (by unfold maxLen; omega)
  have hc := fun W => pcut_none 32 (trimP s) W h
  generalize trimP s = ts at *
  have HT1 := Lib.hid ht1; have HC := Lib.hid hc
  clear ht1 hc h
  go_enter Tryz.func42, Tryz.ntmps42
  go_wp2_with (first | (go_at_call 40; (with_reducible refine (HT1.out _).mono ?_); rintro e w1 ⟨rfl, n1, rfl⟩) | (go_at_call 39; (with_reducible refine (HC.out _).mono ?_); rintro e w1 ⟨rfl, n3, rfl⟩) | fail)
  obtain ⟨c0, c1, c2, c3, c4, c5, c6, hbz⟩ := set7_at (((w.alloc (.cells #[.string ⟨#[]⟩, .int .i64 0, .int .i64 0, .int .i64 0, .float .f64 0, .string ⟨#[]⟩, .bool false] 41)).drewN (n1 + n3))) w.heap.size (.string ⟨#[]⟩) (.int .i64 0) (.int .i64 0) (.int .i64 0) (.float .f64 0) (.string ⟨#[]⟩) (.bool false) (fun j hj => by simp; omega)
  generalize World.setCell _ _ _ = W2 at *
  refine bodyPost_ret (v := .tuple #[cond [] 0 0 0 0 [] false, .bool false]) (by simp [results, Tryz.results42, go_sem, c0, c1, c2, c3, c4, c5, c6]; try rfl) rfl ?_
  exact ⟨rfl, (bdrewN (balloc _ _) _).trans hbz⟩
set_option maxRecDepth 20000 in
set_option maxHeartbeats 1000000 in
theorem one_no2 (s nm r1 rs : List UInt8) (w : World) (hs : s.length ≤ 100000) (h1 : trimP s = nm ++ 32 :: r1) (h32 : 32 ∉ nm) (h2 : trimP r1 = rs) (hrs : 32 ∉ rs) (hn : (nm == [104, 97, 115]) = false ∨ rs = []) (l1 : nm.length + r1.length ≤ 100000) :
    Calls Tryz.prog 42 #[.string ⟨s.toArray⟩] w fun e w' => e = .returned (oneOut none) ∧ Below w.heap.size w w' := by
  have ht1 := fun W => ptrim_any s W (by unfold maxLen; omega)
  rw [h1] at ht1
  have ht2 := fun W => ptrim_any r1 W (by unfold maxLen; omega)
  rw [h2] at ht2
  have hc1 := fun W => pcut_some 32 nm r1 W h32 (by unfold maxLen; omega)
  have hc2 := fun W => pcut_none 32 rs W hrs
  have HT1 := Lib.hid ht1; have HT2 := Lib.hid ht2; have HC1 := Lib.hid hc1; have HC2 := Lib.hid hc2
  clear ht1 ht2 hc1 hc2 h1 h2 h32 hrs l1
  have hq : (nm == [104, 97, 115]) = false ∨ ((nm == [104, 97, 115]) = true ∧ (rs == []) = true ∧ (rs != []) = false) := by
    cases e : (nm == [104, 97, 115])
    · exact .inl rfl
    · rcases hn with hn | hn
      · rw [e] at hn; cases hn
      · subst hn; exact .inr ⟨rfl, rfl, rfl⟩
  clear hn
  rcases hq with e0 | ⟨e0, e1, e2⟩
  all_goals
    go_enter Tryz.func42, Tryz.ntmps42
    go_wp2_with (first | (go_at_call 40; (with_reducible refine (HT1.out _).mono ?_); rintro e w1 ⟨rfl, n1, rfl⟩) | (go_at_call 40; (with_reducible refine (HT2.out _).mono ?_); rintro e w1 ⟨rfl, n2, rfl⟩) | (go_at_call 39; (with_reducible refine (HC1.out _).mono ?_); rintro e w1 ⟨rfl, n3, rfl⟩) | (go_at_call 39; (with_reducible refine (HC2.out _).mono ?_); rintro e w1 ⟨rfl, n4, rfl⟩) | fail)
    obtain ⟨c0, c1, c2, c3, c4, c5, c6, hbz⟩ := set7_at (((w.alloc (.cells #[.string ⟨#[]⟩, .int .i64 0, .int .i64 0, .int .i64 0, .float .f64 0, .string ⟨#[]⟩, .bool false] 41)).drewN (n1 + n3 + n2 + n4))) w.heap.size (.string ⟨#[]⟩) (.int .i64 0) (.int .i64 0) (.int .i64 0) (.float .f64 0) (.string ⟨#[]⟩) (.bool false) (fun j hj => by simp; omega)
    generalize World.setCell _ _ _ = W2 at *
    refine bodyPost_ret (v := .tuple #[cond [] 0 0 0 0 [] false, .bool false]) (by simp [results, Tryz.results42, go_sem, c0, c1, c2, c3, c4, c5, c6]; try rfl) rfl ?_
    exact ⟨rfl, (bdrewN (balloc _ _) _).trans hbz⟩
set_option maxRecDepth 20000 in
set_option maxHeartbeats 2000000 in
theorem one_hasR (s r1 : List UInt8) (w : World) (hs : s.length ≤ 100000) (h : trimP s = [104, 97, 115] ++ 32 :: r1) (h0 : trimP r1 ≠ []) (h32 : 32 ∉ trimP r1) (hl : r1.length ≤ 100000) :
    Calls Tryz.prog 42 #[.string ⟨s.toArray⟩] w fun e w' => e = .returned (oneOut (some ⟨trimP r1, 7, ⟨0, 0, 0, [], false⟩⟩)) ∧ Below w.heap.size w w' := by
  have ht1 := fun W => ptrim_any s W (by unfold maxLen; omega)
  rw [h] at ht1
  have ht2 := fun W => ptrim_any r1 W (by unfold maxLen; omega)
  have hc := fun W => pcut_some 32 [104, 97, 115] r1 W (by decide) (by unfold maxLen; simp; omega)
  have hsp := fun W => no_space h32 W
  have e0 : (trimP r1 == []) = false := by simpa using h0
  have e1 : (trimP r1 != []) = true := by simpa using h0
  generalize trimP r1 = nm at *
  have HT1 := Lib.hid ht1; have HT2 := Lib.hid ht2; have HC := Lib.hid hc; have HSP := Lib.hid hsp
  clear ht1 ht2 hc hsp h h32
  go_enter Tryz.func42, Tryz.ntmps42
  go_wp2_with (first | (go_at_call 40; (with_reducible refine (HT1.out _).mono ?_); rintro e w1 ⟨rfl, n1, rfl⟩) | (go_at_call 40; (with_reducible refine (HT2.out _).mono ?_); rintro e w1 ⟨rfl, n2, rfl⟩) | (go_at_call 39; refine (HC.out _).mono ?_; rintro e w1 ⟨rfl, n3, rfl⟩) | (go_at_call 64; refine (HSP.out _).mono ?_; rintro e w1 ⟨rfl, rfl⟩) | fail)
  obtain ⟨c0, c1, c2, c3, c4, c5, c6, hbz⟩ := set7_at (((w.alloc (.cells #[.string ⟨#[]⟩, .int .i64 0, .int .i64 0, .int .i64 0, .float .f64 0, .string ⟨#[]⟩, .bool false] 41)).drewN (n1 + n3 + n2))) w.heap.size (.string ⟨nm.toArray⟩) (.int .i64 7) (.int .i64 0) (.int .i64 0) (.float .f64 0) (.string ⟨#[]⟩) (.bool false) (fun j hj => by simp; omega)
  generalize World.setCell _ _ _ = W2 at *
  refine bodyPost_ret (v := .tuple #[cond nm 7 0 0 0 [] false, .bool true]) (by simp [results, Tryz.results42, go_sem, c0, c1, c2, c3, c4, c5, c6]; try rfl) rfl ?_
  exact ⟨rfl, (bdrewN (balloc _ _) _).trans hbz⟩
set_option maxRecDepth 20000 in
set_option maxHeartbeats 2000000 in
/-- a value that is none -/
theorem one_no3 (s nm r1 rs wo r2 r3 : List UInt8) (w : World) (hs : s.length ≤ 100000) (h1 : trimP s = nm ++ 32 :: r1) (h32 : 32 ∉ nm) (h2 : trimP r1 = rs) (hrs : rs = wo ++ 32 :: r2) (hwo : 32 ∉ wo) (h3 : trimP r2 = r3) (hrd : ∀ W, Below w.heap.size w W → Calls Tryz.prog 10 #[.string ⟨r3.toArray⟩] W fun e w' => e = .returned (rdOut none) ∧ Below W.heap.size W w')
    (l1 : nm.length + r1.length ≤ 100000) (l2 : wo.length + r2.length ≤ 100000) :
    Calls Tryz.prog 42 #[.string ⟨s.toArray⟩] w fun e w' => e = .returned (oneOut none) ∧ Below w.heap.size w w' := by
  have ht1 := fun W => ptrim_any s W (by unfold maxLen; omega)
  rw [h1] at ht1
  have ht2 := fun W => ptrim_any r1 W (by unfold maxLen; omega)
  rw [h2] at ht2
  have ht3 := fun W => ptrim_any r2 W (by unfold maxLen; omega)
  rw [h3] at ht3
  have hc1 := fun W => pcut_some 32 nm r1 W h32 (by unfold maxLen; omega)
  have hc2 := fun W => pcut_some 32 wo r2 W hwo (by unfold maxLen; omega)
  rw [← hrs] at hc2
  have hsp := fun W => has_space (l := rs) (by rw [hrs]; simp) W
  have e1 : (rs == []) = false := by rw [hrs]; simp
  have e2 : (rs != []) = true := by rw [hrs]; simp
  unfold rdOut at hrd
  have HT1 := Lib.hid ht1; have HT2 := Lib.hid ht2; have HT3 := Lib.hid ht3; have HC1 := Lib.hid hc1; have HC2 := Lib.hid hc2; have HRD := Lib.hid hrd; have HSP := Lib.hid hsp
  clear ht1 ht2 ht3 hc1 hc2 hrd hsp h1 h2 h3 h32 hwo hrs l1 l2
  cases e0 : (nm == [104, 97, 115])
  all_goals
    go_enter Tryz.func42, Tryz.ntmps42
    go_upto_region 12 with (first | (go_at_call 40; (with_reducible refine (HT1.out _).mono ?_); rintro e w1 ⟨rfl, n1, rfl⟩) | (go_at_call 40; (with_reducible refine (HT2.out _).mono ?_); rintro e w1 ⟨rfl, n2, rfl⟩) | (go_at_call 40; (with_reducible refine (HT3.out _).mono ?_); rintro e w1 ⟨rfl, n3, rfl⟩) | (go_at_call 39; (with_reducible refine (HC1.out _).mono ?_); rintro e w1 ⟨rfl, n4, rfl⟩) | (go_at_call 39; (with_reducible refine (HC2.out _).mono ?_); rintro e w1 ⟨rfl, n5, rfl⟩) | (go_at_call 64; refine (HSP.out _).mono ?_; rintro e w1 ⟨rfl, rfl⟩) | (go_at_call 10; (refine (HRD.out _ (bdrewN (balloc _ _) _)).mono ?_); rintro e w5 ⟨rfl, hb5⟩) | fail)
    obtain ⟨bc, bz, hl5, hbw5⟩ := box_drew hb5
    clear hb5
    have hb6 := balloc w5 (.cells #[.int .i64 0, .int .i64 0, .float .f64 0, .string ⟨#[]⟩, .bool false] 25)
    have hsm := seven_some (X := #[.int .i64 0, .int .i64 0, .float .f64 0, .string ⟨#[]⟩, .bool false]) (T := 25) rfl bc hl5
    have bc6 := fun o => (hb6.cell (p := ⟨w.heap.size, o, none⟩) hl5).trans (bc o)
    have yz := fun o => (hb6.frozen (p := ⟨w.heap.size, o, none⟩) hl5).trans (bz o)
    have HBW := Lib.hid (btrans hbw5 hb6)
    clear bc bz hbw5 hb6
    generalize World.alloc w5 _ = W6 at *
    have y0 := bc6 0; have y1 := bc6 1; have y2 := bc6 2; have y3 := bc6 3; have y4 := bc6 4; have y5 := bc6 5; have y6 := bc6 6
    simp only [List.getElem?_toArray, List.getElem?_cons_zero, List.getElem?_cons_succ] at y0 y1 y2 y3 y4 y5 y6
    have HSM := Lib.hid hsm
    clear bc6 hsm
    generalize w5.heap.size = pv at *
    go_wp2_with fail
    obtain ⟨c0, c1, c2, c3, c4, c5, c6, hbz⟩ := set7_at W6 w.heap.size (.string ⟨#[]⟩) (.int .i64 0) (.int .i64 0) (.int .i64 0) (.float .f64 0) (.string ⟨#[]⟩) (.bool false) HSM.out
    generalize World.setCell _ _ _ = W2 at *
    refine bodyPost_ret (v := .tuple #[cond [] 0 0 0 0 [] false, .bool false]) (by simp [results, Tryz.results42, go_sem, c0, c1, c2, c3, c4, c5, c6]; try rfl) rfl ?_
    exact ⟨rfl, HBW.out.trans hbz⟩
/-- a value that is one: its op by its word, if there is one -/
def Word1 (nm wo : List UInt8) (v : V) (e : Ending) : Prop := e = .returned (oneOut ((wordIx wo).map fun (k : Nat) => (⟨nm, (k : Int), v⟩ : C)))
set_option maxRecDepth 20000 in
set_option maxHeartbeats 4000000 in
theorem one_yes (s nm r1 rs wo r2 r3 : List UInt8) (vk vn : Int) (vx : Nat) (vt : List UInt8) (vy : Bool) (w : World) (hw : Words w) (hs : s.length ≤ 100000) (h1 : trimP s = nm ++ 32 :: r1) (h32 : 32 ∉ nm) (h2 : trimP r1 = rs) (hrs : rs = wo ++ 32 :: r2) (hwo : 32 ∉ wo) (h3 : trimP r2 = r3) (hrd : ∀ W, Below w.heap.size w W → Calls Tryz.prog 10 #[.string ⟨r3.toArray⟩] W fun e w' => e = .returned (rdOut (some ⟨vk, vn, vx, vt, vy⟩)) ∧ Below W.heap.size W w')
    (l1 : nm.length + r1.length ≤ 100000) (l2 : wo.length + r2.length ≤ 100000) :
    Calls Tryz.prog 42 #[.string ⟨s.toArray⟩] w fun e w' => Word1 nm wo ⟨vk, vn, vx, vt, vy⟩ e ∧ Below w.heap.size w w' := by
  have ht1 := fun W => ptrim_any s W (by unfold maxLen; omega)
  rw [h1] at ht1
  have ht2 := fun W => ptrim_any r1 W (by unfold maxLen; omega)
  rw [h2] at ht2
  have ht3 := fun W => ptrim_any r2 W (by unfold maxLen; omega)
  rw [h3] at ht3
  have hc1 := fun W => pcut_some 32 nm r1 W h32 (by unfold maxLen; omega)
  have hc2 := fun W => pcut_some 32 wo r2 W hwo (by unfold maxLen; omega)
  rw [← hrs] at hc2
  have hsp := fun W => has_space (l := rs) (by rw [hrs]; simp) W
  have e1 : (rs == []) = false := by rw [hrs]; simp
  have e2 : (rs != []) = true := by rw [hrs]; simp
  have hwd : ∀ n : Nat, n ≤ 7 → ∀ W, Below w.heap.size w W → Calls Tryz.prog 19 #[.int .i64 (n : Int)] W fun e w' => e = .returned (.string ⟨(wordL n).toArray⟩) ∧ W = w' := fun n hn W hb2 => by
    have h := word_any (n : Int) W (hw.below hb2)
    rw [word_b n hn] at h
    exact h
  unfold rdOut at hrd
  have HT1 := Lib.hid ht1; have HT2 := Lib.hid ht2; have HT3 := Lib.hid ht3; have HC1 := Lib.hid hc1; have HC2 := Lib.hid hc2; have HRD := Lib.hid hrd; have HWD := Lib.hid hwd; have HSP := Lib.hid hsp
  clear ht1 ht2 ht3 hc1 hc2 hrd hwd hsp h1 h2 h3 h32 hw hwo hrs l1 l2
  cases e0 : (nm == [104, 97, 115])
  all_goals
    go_enter Tryz.func42, Tryz.ntmps42
    go_upto_region 15 with (first | (go_at_call 40; (with_reducible refine (HT1.out _).mono ?_); rintro e w1 ⟨rfl, n1, rfl⟩) | (go_at_call 40; (with_reducible refine (HT2.out _).mono ?_); rintro e w1 ⟨rfl, n2, rfl⟩) | (go_at_call 40; (with_reducible refine (HT3.out _).mono ?_); rintro e w1 ⟨rfl, n3, rfl⟩) | (go_at_call 39; (with_reducible refine (HC1.out _).mono ?_); rintro e w1 ⟨rfl, n4, rfl⟩) | (go_at_call 39; (with_reducible refine (HC2.out _).mono ?_); rintro e w1 ⟨rfl, n5, rfl⟩) | (go_at_call 64; refine (HSP.out _).mono ?_; rintro e w1 ⟨rfl, rfl⟩) | (go_at_call 10; (refine (HRD.out _ (bdrewN (balloc _ _) _)).mono ?_); rintro e w5 ⟨rfl, hb5⟩) | fail)
    have hlw : w.heap.size < ((w.alloc (.cells #[.string ⟨#[]⟩, .int .i64 0, .int .i64 0, .int .i64 0, .float .f64 0, .string ⟨#[]⟩, .bool false] 41)).drewN (n1 + n4 + n2 + n5 + n3)).heap.size := by simp
    have y0 : w5.cell? ⟨w.heap.size, 0, none⟩ = some (.string ⟨#[]⟩) := (hb5.cell (p := ⟨w.heap.size, 0, none⟩) hlw).trans (by simp [go_sem])
    have y1 : w5.cell? ⟨w.heap.size, 1, none⟩ = some (.int .i64 0) := (hb5.cell (p := ⟨w.heap.size, 1, none⟩) hlw).trans (by simp [go_sem])
    have y2 : w5.cell? ⟨w.heap.size, 2, none⟩ = some (.int .i64 0) := (hb5.cell (p := ⟨w.heap.size, 2, none⟩) hlw).trans (by simp [go_sem])
    have y3 : w5.cell? ⟨w.heap.size, 3, none⟩ = some (.int .i64 0) := (hb5.cell (p := ⟨w.heap.size, 3, none⟩) hlw).trans (by simp [go_sem])
    have y4 : w5.cell? ⟨w.heap.size, 4, none⟩ = some (.float .f64 0) := (hb5.cell (p := ⟨w.heap.size, 4, none⟩) hlw).trans (by simp [go_sem])
    have y5 : w5.cell? ⟨w.heap.size, 5, none⟩ = some (.string ⟨#[]⟩) := (hb5.cell (p := ⟨w.heap.size, 5, none⟩) hlw).trans (by simp [go_sem])
    have y6 : w5.cell? ⟨w.heap.size, 6, none⟩ = some (.bool false) := (hb5.cell (p := ⟨w.heap.size, 6, none⟩) hlw).trans (by simp [go_sem])
    have yz : ∀ o, w5.frozen? ⟨w.heap.size, o, none⟩ = false := fun o => (hb5.frozen (p := ⟨w.heap.size, o, none⟩) hlw).trans (by simp)
    have hl5 : w.heap.size < w5.heap.size := Nat.lt_of_lt_of_le hlw hb5.size
    have hbw5 : Below w.heap.size w w5 := btrans (bdrewN (balloc _ _) _) hb5
    have hb6 := balloc w5 (.cells #[.int .i64 vk, .int .i64 vn, .float .f64 vx, .string ⟨vt.toArray⟩, .bool vy] 25)
    generalize hW6 : World.alloc w5 _ = W6 at *
    replace y0 : W6.cell? ⟨w.heap.size, 0, none⟩ = some (.string ⟨#[]⟩) := (hb6.cell (p := ⟨w.heap.size, 0, none⟩) hl5).trans y0
    replace y1 : W6.cell? ⟨w.heap.size, 1, none⟩ = some (.int .i64 0) := (hb6.cell (p := ⟨w.heap.size, 1, none⟩) hl5).trans y1
    replace y2 : W6.cell? ⟨w.heap.size, 2, none⟩ = some (.int .i64 0) := (hb6.cell (p := ⟨w.heap.size, 2, none⟩) hl5).trans y2
    replace y3 : W6.cell? ⟨w.heap.size, 3, none⟩ = some (.int .i64 0) := (hb6.cell (p := ⟨w.heap.size, 3, none⟩) hl5).trans y3
    replace y4 : W6.cell? ⟨w.heap.size, 4, none⟩ = some (.float .f64 0) := (hb6.cell (p := ⟨w.heap.size, 4, none⟩) hl5).trans y4
    replace y5 : W6.cell? ⟨w.heap.size, 5, none⟩ = some (.string ⟨#[]⟩) := (hb6.cell (p := ⟨w.heap.size, 5, none⟩) hl5).trans y5
    replace y6 : W6.cell? ⟨w.heap.size, 6, none⟩ = some (.bool false) := (hb6.cell (p := ⟨w.heap.size, 6, none⟩) hl5).trans y6
    replace yz : ∀ o, W6.frozen? ⟨w.heap.size, o, none⟩ = false := fun o => (hb6.frozen (p := ⟨w.heap.size, o, none⟩) hl5).trans (yz o)
    have v0 : W6.cell? ⟨w5.heap.size, 0, none⟩ = some (.int .i64 vk) := by rw [← hW6]; exact World.cell?_alloc_at _ _ _ _ rfl
    have v1 : W6.cell? ⟨w5.heap.size, 1, none⟩ = some (.int .i64 vn) := by rw [← hW6]; exact World.cell?_alloc_at _ _ _ _ rfl
    have v2 : W6.cell? ⟨w5.heap.size, 2, none⟩ = some (.float .f64 vx) := by rw [← hW6]; exact World.cell?_alloc_at _ _ _ _ rfl
    have v3 : W6.cell? ⟨w5.heap.size, 3, none⟩ = some (.string ⟨vt.toArray⟩) := by rw [← hW6]; exact World.cell?_alloc_at _ _ _ _ rfl
    have v4 : W6.cell? ⟨w5.heap.size, 4, none⟩ = some (.bool vy) := by rw [← hW6]; exact World.cell?_alloc_at _ _ _ _ rfl
    have HBW := Lib.hid (btrans hbw5 hb6)
    have HCS := Lib.hid (show ∀ j, j < 7 → (W6.cell? ⟨w.heap.size, j, none⟩).isSome = true from fun i hi => by
      have hi' : i = 0 ∨ i = 1 ∨ i = 2 ∨ i = 3 ∨ i = 4 ∨ i = 5 ∨ i = 6 := by omega
      rcases hi' with rfl | rfl | rfl | rfl | rfl | rfl | rfl
      · rw [y0]; rfl
      · rw [y1]; rfl
      · rw [y2]; rfl
      · rw [y3]; rfl
      · rw [y4]; rfl
      · rw [y5]; rfl
      · rw [y6]; rfl)
    clear hb5 hb6 hbw5 hW6 hlw
    generalize w5.heap.size = pv at *
    go_loop [10] (fun vk => ∃ j : Nat, j ≤ 7 ∧ vk = .int .i64 (j : Int) ∧ ∀ n : Nat, n < j → (wordL n == wo) = false) (fun vk => 7 - (intOf vk).toNat)
    case atStart => exact ⟨0, Nat.zero_le _, rfl, fun n hn => absurd hn (by omega)⟩
    case round =>
      obtain ⟨j, hj, rfl, hno⟩ := hrel
      have HNO := Lib.hid hno
      clear hno
      have i2 : (0 : Int) ≤ (j : Int) := by omega
      by_cases hj7 : j = 7
      · subst hj7
        go_wp2_with fail
        obtain ⟨k0, k1, k2, k3, k4, k5, k6, hbz⟩ := set7_at W6 w.heap.size (.string ⟨#[]⟩) (.int .i64 0) (.int .i64 0) (.int .i64 0) (.float .f64 0) (.string ⟨#[]⟩) (.bool false) HCS.out
        generalize World.setCell _ _ _ = W2 at *
        refine bodyPost_ret (v := .tuple #[cond [] 0 0 0 0 [] false, .bool false]) (by simp [results, Tryz.results42, go_sem, k0, k1, k2, k3, k4, k5, k6]; try rfl) rfl ?_
        refine ⟨?_, HBW.out.trans hbz⟩
        unfold Word1
        rw [wordIx_none (fun n hn => HNO.out n (by omega))]
        rfl
      · have i1 : (j : Int) < 7 := by omega
        cases heq : (wordL j == wo)
        · go_wp2_with (first | (go_at_call 19; (refine (HWD.out j (by omega) _ HBW.out).mono ?_); rintro e w9 ⟨rfl, rfl⟩) | fail)
          refine ⟨⟨j + 1, by omega, by go_num, fun n hn => ?_⟩, by simp [intOf]; go_num⟩
          rcases Nat.lt_or_ge n j with g | g
          · exact HNO.out n g
          · obtain rfl : n = j := by omega
            exact heq
        · have HW2 := Lib.hid (eq_of_beq heq)
          go_wp2_with (first | (go_at_call 19; (refine (HWD.out j (by omega) _ HBW.out).mono ?_); rintro e w9 ⟨rfl, rfl⟩) | fail)
          obtain ⟨k0, k1, k2, k3, k4, k5, k6, hbz⟩ := set7_at W6 w.heap.size (.string ⟨nm.toArray⟩) (.int .i64 (j : Int)) (.int .i64 vk) (.int .i64 vn) (.float .f64 vx) (.string ⟨vt.toArray⟩) (.bool vy) HCS.out
          generalize World.setCell _ _ _ = W2 at *
          refine bodyPost_ret (v := .tuple #[cond nm (j : Int) vk vn vx vt vy, .bool true]) (by simp [results, Tryz.results42, go_sem, k0, k1, k2, k3, k4, k5, k6]; try rfl) rfl ?_
          refine ⟨?_, HBW.out.trans hbz⟩
          unfold Word1
          rw [← HW2.out, wordIx_at j (by omega)]
          rfl
/-- the first blank -/
def cut1 (s : List UInt8) : Option (List UInt8 × List UInt8) := if 32 ∈ s then some (s.takeWhile (· != 32), (s.dropWhile (· != 32)).drop 1) else none
theorem cut1_some : ∀ (a b : List UInt8), 32 ∉ a → cut1 (a ++ 32 :: b) = some (a, b) := by
  intro a b h
  unfold cut1
  rw [if_pos (by simp)]
  have h1 : ∀ x ∈ a, (x != 32) = true := fun x hx => by
    rw [bne_iff_ne]; rintro rfl; exact h hx
  rw [List.takeWhile_append_of_pos h1, List.dropWhile_append_of_pos h1]
  simp
theorem cut1_none {s : List UInt8} (h : 32 ∉ s) : cut1 s = none := if_neg h
theorem cut1_ways (s : List UInt8) : (32 ∉ s ∧ cut1 s = none) ∨ ∃ a b, s = a ++ 32 :: b ∧ 32 ∉ a ∧ cut1 s = some (a, b) := by
  rcases byte_cases 32 s with ⟨_, h⟩ | ⟨a, b, e, h, _⟩
  · exact .inl ⟨h, cut1_none h⟩
  · exact .inr ⟨a, b, e, h, by rw [e]; exact cut1_some a b h⟩
/-- what a text looks like: none; 'has' and a name; a name, a word, a value's text -/
inductive Shape where
  | bad
  | has (nm : List UInt8)
  | cmp (nm wo vt : List UInt8)
def shape (s : List UInt8) : Shape :=
  match cut1 (trimP s) with
  | none => .bad
  | some (nm, r1) =>
    if nm = [104, 97, 115] ∧ trimP r1 ≠ [] ∧ 32 ∉ trimP r1 then .has (trimP r1) else
    match cut1 (trimP r1) with
    | none => .bad
    | some (wo, r2) => .cmp nm wo (trimP r2)
/-- what one answers, by what Read answers -/
def oneC (rd : List UInt8 → Option V) (s : List UInt8) : Option C :=
  match shape s with
  | .bad => none
  | .has nm => some ⟨nm, 7, ⟨0, 0, 0, [], false⟩⟩
  | .cmp nm wo vt => match rd vt with
    | none => none
    | some v => (wordIx wo).map fun (k : Nat) => (⟨nm, (k : Int), v⟩ : C)
theorem trimP_le (s : List UInt8) : (trimP s).length ≤ s.length := by
  show (Lib.trimLeftB (Lib.trimRightB s 32) 32).length ≤ _
  unfold Lib.trimLeftB Lib.trimRightB
  have h1 := (List.dropWhile_sublist (· == (32 : UInt8)) (l := (s.reverse.dropWhile (· == 32)).reverse)).length_le
  have h2 := (List.dropWhile_sublist (· == (32 : UInt8)) (l := s.reverse)).length_le
  rw [List.length_reverse] at h1 h2
  omega
theorem one_any (s : List UInt8) (rd : List UInt8 → Option V) (w : World) (hw : Words w) (hs : s.length ≤ 100000)
    (hrd : ∀ nm wo vt, shape s = .cmp nm wo vt → ∀ W, Below w.heap.size w W → Calls Tryz.prog 10 #[.string ⟨vt.toArray⟩] W fun e w' => e = .returned (rdOut (rd vt)) ∧ Below W.heap.size W w') :
    Calls Tryz.prog 42 #[.string ⟨s.toArray⟩] w fun e w' => e = .returned (oneOut (oneC rd s)) ∧ Below w.heap.size w w' := by
  have hl0 := trimP_le s
  rcases cut1_ways (trimP s) with ⟨h, hc⟩ | ⟨nm, r1, h1, h32, hc⟩
  · have e : oneC rd s = none := by unfold oneC shape; rw [hc]
    rw [e]
    exact one_no1 s w hs h
  have hl1 : nm.length + r1.length ≤ 100000 := by have := congrArg List.length h1; simp at this; omega
  have hl2 := trimP_le r1
  by_cases hh : nm = [104, 97, 115] ∧ trimP r1 ≠ [] ∧ 32 ∉ trimP r1
  · have e : oneC rd s = some ⟨trimP r1, 7, ⟨0, 0, 0, [], false⟩⟩ := by
      have : shape s = .has (trimP r1) := by
        unfold shape
        rw [hc]
        simp only
        rw [if_pos hh]
      unfold oneC
      rw [this]
    rw [e]
    obtain ⟨rfl, h0, h3⟩ := hh
    exact one_hasR s r1 w hs h1 h0 h3 (by omega)
  · rcases cut1_ways (trimP r1) with ⟨h, hc2⟩ | ⟨wo, r2, h2, hwo, hc2⟩
    · have e : oneC rd s = none := by
        have : shape s = .bad := by
          unfold shape
          rw [hc]
          simp only
          rw [if_neg hh, hc2]
        unfold oneC
        rw [this]
      rw [e]
      refine one_no2 s nm r1 (trimP r1) w hs h1 h32 rfl h ?_ hl1
      by_cases hn : nm = [104, 97, 115]
      · right
        by_cases h0 : trimP r1 = []
        · exact h0
        · exact absurd ⟨hn, h0, h⟩ hh
      · left
        rw [beq_eq_false_iff_ne]
        exact hn
    · have hl3 : wo.length + r2.length ≤ 100000 := by have := congrArg List.length h2; simp at this; omega
      have hsh : shape s = .cmp nm wo (trimP r2) := by
        unfold shape
        rw [hc]
        simp only
        rw [if_neg hh, hc2]
      have hrd2 := hrd nm wo (trimP r2) hsh
      unfold oneC
      rw [hsh]
      simp only
      cases hv : rd (trimP r2) with
      | none =>
        rw [hv] at hrd2
        exact one_no3 s nm r1 (trimP r1) wo r2 (trimP r2) w hs h1 h32 rfl h2 hwo rfl hrd2 hl1 hl3
      | some v =>
        rw [hv] at hrd2
        obtain ⟨vk, vn, vx, vt, vy⟩ := v
        exact one_yes s nm r1 (trimP r1) wo r2 (trimP r2) vk vn vx vt vy w hw hs h1 h32 rfl h2 hwo rfl hrd2 hl1 hl3
end Go.Proofs.YtnccpddjdgndcaaGreatDoor.Pa
end

section
/- THE WALK OF parse.Filter AT ANY TEXT, whatever parse.one answers of its pieces. -/
namespace Go.Proofs.YtnccpddjdgndcaaGreatDoor.Pa
open Go.RowKit Flt Go.Proofs.YtnccpddjdgndcaaGreatDoor.Val
attribute [local go_sem] run_store_flt
set_option maxRecDepth 20000 in
set_option maxHeartbeats 4000000 in
theorem pfilter_no (sc rest : List UInt8) (cs : List C) (w : World) (h58 : 58 ∉ sc) (hl : sc.length + rest.length + 1 ≤ 100000) (hne : trimP rest ≠ []) (hlen : cs.length < (cutP rest).length) (hc20 : (cutP rest).length ≤ 200000) 
    (hone : ∀ i (h : i < cs.length) W, Below w.heap.size w W → Calls Tryz.prog 42 #[.string ⟨((cutP rest)[i]'(by omega)).toArray⟩] W fun e w' => e = .returned (.tuple #[cc cs[i], .bool true]) ∧ Below W.heap.size W w')
    (hno : ∀ W, Below w.heap.size w W → Calls Tryz.prog 42 #[.string ⟨((cutP rest)[cs.length]'hlen).toArray⟩] W fun e w' => e = .returned (.tuple #[cond [] 0 0 0 0 [] false, .bool false]) ∧ Below W.heap.size W w') :
    Calls Tryz.prog 18 #[.string ⟨(sc ++ 58 :: rest).toArray⟩] w fun e w' => e = .returned (.tuple #[ev [] none 0 0, .int .i64 1]) ∧ Below w.heap.size w w' := by
  obtain ⟨N, hN⟩ : ∃ N, (cutP rest).length = N := ⟨_, rfl⟩
  obtain ⟨i0, hi, hz0, hz1, hz2⟩ := info_parts info_cond
  have hcu := fun W => pcut_some 58 sc rest W h58 (by unfold maxLen; omega)
  have ht1 := fun W => ptrim_any sc W (by unfold maxLen; omega)
  have ht2 := fun W => ptrim_any rest W (by unfold maxLen; omega)
  have hpi := fun W => pieces_any ⟨rest.toArray⟩ W (by show rest.toArray.size ≤ _; simp; omega)
  have hpi2 : ∀ W, Calls Tryz.prog 41 #[.string ⟨rest.toArray⟩] W fun e w' => (∃ b0 cap, e = .returned (.slice b0 N cap) ∧ Strs w' b0 (cutP rest) ∧ ∀ a, b0 = some a → W.heap.size ≤ a.block) ∧ Below W.heap.size W w' := fun W => by
    have h := hpi W
    rw [show (⟨rest.toArray⟩ : ByteArray).data.toList = rest from rfl, hN] at h
    exact h
  have e0 : (trimP rest == []) = false := by simpa using hne
  have e1 : (trimP rest != []) = true := by simpa using hne
  generalize htr : trimP rest = tr at *
  generalize hts : trimP sc = ts at *
  have HCU := Lib.hid hcu; have HT1 := Lib.hid ht1; have HT2 := Lib.hid ht2; have HPI := Lib.hid hpi2; have HONE := Lib.hid hone; have HNO := Lib.hid hno; have HN0 := Lib.hid hN; have hlt := hlen; rw [hN] at hlt; rw [hN] at hc20; have HLEN := Lib.hid hlen
  clear hcu ht1 ht2 hpi hpi2 hone hno h58 htr hts hl hN
  go_enter Tryz.func18, Tryz.ntmps18
  go_upto_region 7 with (first | (go_at_call 39; (with_reducible refine (HCU.out _).mono ?_); rintro e w1 ⟨rfl, n1, rfl⟩) | (go_at_call 40; (with_reducible refine (HT1.out _).mono ?_); rintro e w1 ⟨rfl, n2, rfl⟩) | (go_at_call 40; (with_reducible refine (HT2.out _).mono ?_); rintro e w1 ⟨rfl, n3, rfl⟩) | (go_at_call 41; (with_reducible refine (HPI.out _).mono ?_); rintro e w6 ⟨⟨b0, cap, rfl, hst, hbl⟩, hb6⟩) | fail)
  obtain ⟨W5, hW5⟩ : ∃ W5, W5 = ((((w.alloc (.cells #[.string ⟨#[]⟩, .slice none 0 0] 35)).drewN (n1 + n2)).alloc (.cells #[.string ⟨ts.toArray⟩, .slice none 0 0] 35)).drewN n3) := ⟨_, rfl⟩
  obtain ⟨⟨r0, r1, rz⟩, ⟨f0, f1, fz⟩, hs5, hb5⟩ := fil_start w (n1 + n2) n3 ts hW5
  rw [← hW5] at hb6 hbl
  have hb56 : Below w.heap.size w w6 := hb5.trans (hb6.mono (by omega))
  have hs6 := hb6.size
  have hpr : w.heap.size < W5.heap.size := by omega
  have hpf : w.heap.size + 1 < W5.heap.size := by omega
  have HR := Lib.hid (show w6.cell? ⟨w.heap.size, 0, none⟩ = some (.string ⟨#[]⟩) ∧ w6.cell? ⟨w.heap.size, 1, none⟩ = some (.slice none 0 0) ∧ ∀ o, w6.frozen? ⟨w.heap.size, o, none⟩ = false from ⟨(hb6.cell (p := ⟨w.heap.size, 0, none⟩) hpr).trans r0, (hb6.cell (p := ⟨w.heap.size, 1, none⟩) hpr).trans r1, fun o => (hb6.frozen (p := ⟨w.heap.size, o, none⟩) hpr).trans (rz o)⟩)
  have g0 := (hb6.cell (p := ⟨w.heap.size + 1, 0, none⟩) hpf).trans f0
  have g1 := (hb6.cell (p := ⟨w.heap.size + 1, 1, none⟩) hpf).trans f1
  have gz := (hb6.frozen (p := ⟨w.heap.size + 1, 1, none⟩) hpf).trans (fz 1)
  have hbl2 : ∀ a, b0 = some a → a.block ≠ w.heap.size + 1 := fun a e => by have := hbl a e; omega
  have hbase : w.heap.size + 1 < w6.heap.size := by omega
  have HST := Lib.hid hst; have HBL := Lib.hid hbl2; have HB56 := Lib.hid hb56
  clear hst hbl hbl2 hb5 hb6 hb56 r0 r1 rz f0 f1 fz hs5 hs6 hpr hpf hW5
  go_loopw [30] (fun vi wr => ∃ (k : Nat) (v : Value), k ≤ cs.length ∧ vi = .int .i64 k ∧ wr.cell? ⟨w.heap.size + 1, 0, none⟩ = some (.string ⟨ts.toArray⟩) ∧ wr.cell? ⟨w.heap.size + 1, 1, none⟩ = some v ∧ wr.frozen? ⟨w.heap.size + 1, 1, none⟩ = false ∧ wr.ownsRow w6.heap.size 41 7 v (cs.take k).length (flatC (cs.take k)) ∧ NK (w.heap.size + 1) w6 wr) (fun vi _ => cs.length - (intOf vi).toNat)
  case atStart => exact ⟨0, .slice none 0 0, Nat.zero_le _, rfl, g0, g1, gz, World.ownsRow_nil _ _ _ _, NK.refl _ _⟩
  case round =>
    obtain ⟨k, v, hk, rfl, o0, o1, ofz, hown, hnk⟩ := hrel
    clear g0 g1 gz
    have hpfr : w.heap.size + 1 < wr.heap.size := Nat.lt_of_lt_of_le hbase hnk.size
    have hbw : Below w.heap.size w wr := HB56.out.trans (hnk.low (by omega) (by omega))
    have OWN := Lib.hid hown; have HNK := Lib.hid hnk; have HBW := Lib.hid hbw
    have hnks := hnk.size
    clear hown hnk hbw
    have i1 : (k : Int) < (N : Int) := by omega
    by_cases hkl : k < cs.length
    · have i2 : (0 : Int) ≤ (k : Int) := by omega
      obtain ⟨a, rfl, hpc⟩ := (HST.out.nk HNK.out HBL.out) k (by rw [HN0.out]; omega)
      have hn := fun W => HONE.out k hkl W
      have hstep : cs.take (k + 1) = cs.take k ++ [cs[k]] := List.take_succ_eq_append_getElem hkl
      have htk : (cs.take k).length = k := by rw [List.length_take]; omega
      generalize (cutP rest)[k]'_ = pc at *
      generalize cs[k] = c at *
      have HN := Lib.hid hn; have HSTEP := Lib.hid hstep
      clear hn hstep
      obtain ⟨cn1, cn2, cn3, cn4, cn5, cn6, cn7⟩ := c
      go_wp2_with (first | (go_at_call 42; (refine (HN.out _ HBW.out).mono ?_); rintro e w3 ⟨rfl, hb3⟩; have HB3 := Lib.hid hb3; have OWN3 := Lib.hid (own_low7 OWN.out hb3); have hpf3 : w.heap.size + 1 < w3.heap.size := Nat.lt_of_lt_of_le hpfr hb3.size; have q1 := (hb3.cell (p := ⟨w.heap.size + 1, 1, none⟩) hpfr).trans o1; have qz := (hb3.frozen (p := ⟨w.heap.size + 1, 1, none⟩) hpfr).trans ofz; clear hb3) | (at_builtin; refine wpList_append_own _ rfl _ _ 33 rfl w6.heap.size 41 i0 (.agg #[.string .empty, .int .i64 0, .int .i64 0, .int .i64 0, .float .f64 0, .string .empty, .bool false]) 7 72 Tryz.underlying33 hi hz0 hz1 hz2 rfl (by decide) v _ _ rfl ((OWN3.out.alloc _).alloc _) ⟨w3.heap.size + 1, 0, none⟩ 1 1 (flatC [⟨cn1, cn2, cn3, cn4, cn5, cn6, cn7⟩]) rfl rfl ?news (flatC_one _) (by unfold maxLen; omega) (by omega) (by have := HB3.out.size; simp at *; omega) ?_; rotate_left; (case news => exact new_cond _ _ (by simp) _ _); intro v' w4 hown' hgrow3 hnil3; have hb7 := btrans HB3.out (balloc2 w3 (.cells #[.string ⟨cn1.toArray⟩, .int .i64 cn2, .int .i64 cn3, .int .i64 cn4, .float .f64 cn5, .string ⟨cn6.toArray⟩, .bool cn7] 41) (.cells #[.string ⟨cn1.toArray⟩, .int .i64 cn2, .int .i64 cn3, .int .i64 cn4, .float .f64 cn5, .string ⟨cn6.toArray⟩, .bool cn7] 41)); have hg1 := hgrow3.block (w.heap.size + 1) (by have := hb7.size; omega) (fun h => by have := (OWN.out.lt _ h.symm).1; omega); have p0 := (World.cell?_of_block (a := ⟨w.heap.size + 1, 0, none⟩) hg1).trans ((hb7.cell (p := ⟨w.heap.size + 1, 0, none⟩) hpfr).trans o0); have p1 := (World.cell?_of_block (a := ⟨w.heap.size + 1, 1, none⟩) hg1).trans ((hb7.cell (p := ⟨w.heap.size + 1, 1, none⟩) hpfr).trans o1); have pfz := (World.frozen?_of_block (a := ⟨w.heap.size + 1, 1, none⟩) hg1).trans ((hb7.frozen (p := ⟨w.heap.size + 1, 1, none⟩) hpfr).trans ofz); have hnk4 : NK (w.heap.size + 1) w6 w4 := nk_grown HNK.out hb7 hgrow3 (fun q hq => OWN.out.lt q hq); have hown2 : w4.ownsRow w6.heap.size 41 7 v' (cs.take k ++ [(⟨cn1, cn2, cn3, cn4, cn5, cn6, cn7⟩ : C)]).length (flatC (cs.take k ++ [(⟨cn1, cn2, cn3, cn4, cn5, cn6, cn7⟩ : C)])) := (by rw [flatC_app, List.length_append]; exact hown'); obtain ⟨b1, cp1, hv1, _⟩ := own_conds hown2; subst hv1; have OWN4 := Lib.hid hown2; have HNK4 := Lib.hid hnk4; clear hown' hown2 hgrow3 hnil3 hb7 hg1 hnk4) | fail)
      have o4 := OWN4.out
      refine ⟨⟨k + 1, _, by omega, by go_num, (World.cell?_setCell_other _ _ _ _ (by simp)).trans p0, World.cell?_setCell_same _ _ _ p1, by rw [World.frozen?_setCell]; exact pfz, ?_, HNK4.out.trans (nk_set _ _ _ _)⟩, by simp [intOf]; go_num⟩
      have el : (cs.take k ++ [(⟨cn1, cn2, cn3, cn4, cn5, cn6, cn7⟩ : C)]).length = k + 1 := by simp [htk]
      rw [HSTEP.out, el]
      rw [el] at o4
      exact ownsRow_setCell_below (a := ⟨w.heap.size + 1, 1, none⟩) o4 hbase _
    · obtain rfl : k = cs.length := by omega
      have i2 : (0 : Int) ≤ (cs.length : Int) := by omega
      obtain ⟨a, rfl, hpc⟩ := (HST.out.nk HNK.out HBL.out) cs.length HLEN.out
      have hn := fun W => HNO.out W
      generalize (cutP rest)[cs.length]'_ = pc at *
      have HN := Lib.hid hn
      clear hn
      have hq0 := (HNK.out.cell (p := ⟨w.heap.size, 0, none⟩) (by show w.heap.size < _; omega) (by show w.heap.size ≠ _; omega)).trans HR.out.1
      have hq1 := (HNK.out.cell (p := ⟨w.heap.size, 1, none⟩) (by show w.heap.size < _; omega) (by show w.heap.size ≠ _; omega)).trans HR.out.2.1
      have hqz : ∀ o, wr.frozen? ⟨w.heap.size, o, none⟩ = false := fun o => (HNK.out.frozen (p := ⟨w.heap.size, o, none⟩) (by show w.heap.size < _; omega) (by show w.heap.size ≠ _; omega)).trans (HR.out.2.2 o)
      have hlw : w.heap.size < wr.heap.size := by omega
      clear OWN HNK HR HONE HPI HT1 HT2 HCU HST
      go_wp2_with (first | (go_at_call 42; (refine (HN.out _ HBW.out).mono ?_); rintro e w3 ⟨rfl, hb3⟩; have hl3 : w.heap.size < w3.heap.size := Nat.lt_of_lt_of_le hlw hb3.size; have q0 := (hb3.cell (p := ⟨w.heap.size, 0, none⟩) hlw).trans hq0; have q1 := (hb3.cell (p := ⟨w.heap.size, 1, none⟩) hlw).trans hq1; have qz := fun o => (hb3.frozen (p := ⟨w.heap.size, o, none⟩) hlw).trans (hqz o)) | fail)
      obtain ⟨c0, c1, hbz⟩ := set2_at w3 w.heap.size (.string ⟨#[]⟩) (.slice none 0 0) q0 q1
      have hlz := Nat.lt_of_lt_of_le hl3 hbz.size
      generalize World.setCell (World.setCell _ _ _) _ _ = Wz at *
      have hb4 := balloc Wz (.cells #[.string ⟨#[]⟩, .int .i64 0, .int .i64 0, .int .i64 0, .float .f64 0, .string ⟨#[]⟩, .bool false] 41)
      have d0 := (hb4.cell (p := ⟨w.heap.size, 0, none⟩) hlz).trans c0
      have d1 := (hb4.cell (p := ⟨w.heap.size, 1, none⟩) hlz).trans c1
      refine bodyPost_ret (v := .tuple #[ev [] none 0 0, .int .i64 1]) (by simp [results, Tryz.results18, go_sem, d0, d1]; try rfl) rfl ?_
      exact ⟨rfl, (btrans HBW.out hb3).trans (hbz.trans (hb4.mono (Nat.le_of_lt hlz)))⟩
set_option maxRecDepth 20000 in
set_option maxHeartbeats 1000000 in
/-- nothing behind the scope -/
theorem pfilter_none (sc rest : List UInt8) (w : World) (h58 : 58 ∉ sc) (hl : sc.length + rest.length + 1 ≤ 100000) (hne : trimP rest = []) :
    Calls Tryz.prog 18 #[.string ⟨(sc ++ 58 :: rest).toArray⟩] w fun e w' => Made (trimP sc) [] e w' ∧ Below w.heap.size w w' := by
  have htl := trimP_le sc
  have hcu := fun W => pcut_some 58 sc rest W h58 (by unfold maxLen; omega)
  have ht1 := fun W => ptrim_any sc W (by unfold maxLen; omega)
  have ht2 := fun W => ptrim_any rest W (by unfold maxLen; omega)
  rw [hne] at ht2
  have hrt : ∀ W, Calls Tryz.prog 21 #[ev (trimP sc) none 0 0] W fun e w' => e = .returned (.bool (fRight (trimP sc) [])) ∧ Below W.heap.size W w' := fun W => fright_any (trimP sc) none 0 [] W (fun i hi => absurd hi (by simp)) (by decide) (by omega) (by simp)
  have hm : ∀ e w', Made (trimP sc) [] e w' = if 6 < ([] : List C).length then e = .returned (.tuple #[ev [] none 0 0, .int .i64 2]) else if fRight (trimP sc) [] = true then ∃ b0 cp, e = .returned (.tuple #[ev (trimP sc) b0 ([] : List C).length cp, .int .i64 0]) ∧ Conds w' b0 [] else e = .returned (.tuple #[ev [] none 0 0, .int .i64 1]) := fun e w' => rfl
  generalize fRight (trimP sc) [] = FR at *
  generalize hts : trimP sc = ts at *
  have HCU := Lib.hid hcu; have HT1 := Lib.hid ht1; have HT2 := Lib.hid ht2; have HRT := Lib.hid hrt; have HM := Lib.hid hm
  clear hcu ht1 ht2 hrt hm h58 hts hl htl hne
  go_enter Tryz.func18, Tryz.ntmps18
  go_upto_region 16 with (first | (go_at_call 39; (with_reducible refine (HCU.out _).mono ?_); rintro e w1 ⟨rfl, n1, rfl⟩) | (go_at_call 40; (with_reducible refine (HT1.out _).mono ?_); rintro e w1 ⟨rfl, n2, rfl⟩) | (go_at_call 40; (with_reducible refine (HT2.out _).mono ?_); rintro e w1 ⟨rfl, n3, rfl⟩) | fail)
  obtain ⟨W5, hW5⟩ : ∃ W5, W5 = ((((w.alloc (.cells #[.string ⟨#[]⟩, .slice none 0 0] 35)).drewN (n1 + n2)).alloc (.cells #[.string ⟨ts.toArray⟩, .slice none 0 0] 35)).drewN n3) := ⟨_, rfl⟩
  obtain ⟨⟨r0, r1, rz⟩, ⟨f0, f1, fz⟩, hs5, hb5⟩ := fil_start w (n1 + n2) n3 ts hW5
  rw [← hW5]
  have hpr : w.heap.size < W5.heap.size := by omega
  have hpf : w.heap.size + 1 < W5.heap.size := by omega
  clear hW5 hs5
  cases FR
  · go_wp2_with (first | (go_at_call 21; (with_reducible refine (HRT.out _).mono ?_); rintro e w7 ⟨rfl, hb7⟩; have q0 := (hb7.cell (p := ⟨w.heap.size, 0, none⟩) hpr).trans r0; have q1 := (hb7.cell (p := ⟨w.heap.size, 1, none⟩) hpr).trans r1; have qz := fun o => (hb7.frozen (p := ⟨w.heap.size, o, none⟩) hpr).trans (rz o)) | fail)
    obtain ⟨c0, c1, hbz⟩ := set2_at w7 w.heap.size (.string ⟨#[]⟩) (.slice none 0 0) q0 q1
    generalize World.setCell (World.setCell _ _ _) _ _ = Wz at *
    refine bodyPost_ret (v := .tuple #[ev [] none 0 0, .int .i64 1]) (by simp [results, Tryz.results18, go_sem, c0, c1]; try rfl) rfl ?_
    refine ⟨?_, (btrans hb5 hb7).trans hbz⟩
    rw [HM.out, if_neg (by decide)]
    simp
  · go_wp2_with (first | (go_at_call 21; (with_reducible refine (HRT.out _).mono ?_); rintro e w7 ⟨rfl, hb7⟩; have q0 := (hb7.cell (p := ⟨w.heap.size, 0, none⟩) hpr).trans r0; have q1 := (hb7.cell (p := ⟨w.heap.size, 1, none⟩) hpr).trans r1; have qz := fun o => (hb7.frozen (p := ⟨w.heap.size, o, none⟩) hpr).trans (rz o); have x0 := (hb7.cell (p := ⟨w.heap.size + 1, 0, none⟩) hpf).trans f0; have x1 := (hb7.cell (p := ⟨w.heap.size + 1, 1, none⟩) hpf).trans f1) | fail)
    obtain ⟨c0, c1, hbz⟩ := set2_at w7 w.heap.size (.string ⟨ts.toArray⟩) (.slice none 0 0) q0 q1
    generalize World.setCell (World.setCell _ _ _) _ _ = Wz at *
    refine bodyPost_ret (v := .tuple #[ev ts none 0 0, .int .i64 0]) (by simp [results, Tryz.results18, go_sem, c0, c1]; try rfl) rfl ?_
    refine ⟨?_, (btrans hb5 hb7).trans hbz⟩
    rw [HM.out, if_neg (by decide)]
    simp only [if_true]
    exact ⟨none, 0, rfl, fun i hi => absurd hi (by simp)⟩
/-- all answers are conditions, or a first one is none -/
theorem first_none {α β : Type} (f : α → Option β) : ∀ l : List α, (∃ m : List β, l.map f = m.map some) ∨ ∃ (m : List β) (k : Nat) (h : k < l.length), m.length = k ∧ (l.take k).map f = m.map some ∧ f l[k] = none
  | [] => .inl ⟨[], rfl⟩
  | a :: l => by
    cases h : f a with
    | none => exact .inr ⟨[], 0, by simp, rfl, rfl, h⟩
    | some b =>
      rcases first_none f l with ⟨m, e⟩ | ⟨m, k, hk, e1, e2, e3⟩
      · exact .inl ⟨b :: m, by simp [h, e]⟩
      · exact .inr ⟨b :: m, k + 1, by simpa using hk, by simp [e1], by simp [h, e2], by simpa using e3⟩
/-- WHAT parse.Filter ANSWERS OF ANY TEXT -/
inductive FilO where
  | form
  | some (sc : List UInt8) (cs : List C)
def filO (f : List UInt8 → Option C) (sc rest : List UInt8) : FilO := if trimP rest = [] then .some (trimP sc) [] else match (cutP rest).mapM f with
  | none => .form
  | some cs => .some (trimP sc) cs
def MadeF (o : FilO) (e : Ending) (w' : World) : Prop := match o with
  | .form => e = .returned (.tuple #[ev [] none 0 0, .int .i64 1])
  | .some sc cs => Made sc cs e w'
theorem mapM_some {α β : Type} (f : α → Option β) : ∀ (l : List α) (m : List β), l.map f = m.map some → l.mapM f = some m
  | [], [], _ => rfl
  | [], _ :: _, h => by cases h
  | _ :: _, [], h => by cases h
  | a :: l, b :: m, h => by
    simp only [List.map_cons, List.cons.injEq] at h
    rw [List.mapM_cons, h.1]
    simp [mapM_some f l m h.2]
theorem mapM_none {α β : Type} (f : α → Option β) : ∀ (l : List α) (k : Nat) (h : k < l.length), f l[k] = none → l.mapM f = none
  | [], k, h, _ => absurd h (by simp)
  | a :: l, 0, _, e => by
    rw [List.mapM_cons, show f a = none from e]; rfl
  | a :: l, k + 1, h, e => by
    rw [List.mapM_cons, mapM_none f l k (by simpa using h) (by simpa using e)]
    cases f a <;> rfl
theorem cutGo_len : ∀ (n : Nat) (q : Bool) (cur s : List UInt8), s.length ≤ n → (cutGo q cur s).length ≤ s.length + 1
  | 0, q, cur, s, h => by
    have : s = [] := List.length_eq_zero_iff.1 (by omega)
    subst this
    cases q <;> simp [cutGo]
  | n + 1, q, cur, [], _ => by cases q <;> simp [cutGo]
  | n + 1, q, cur, c :: r, h => by
    simp only [List.length_cons] at h
    cases h1 : (q && c == 92)
    · cases h2 : (c == 34)
      · cases h3 : (c == 38 && !q)
        · rw [cutGo_else q cur c r h1 h2 h3]
          have := cutGo_len n q (cur ++ [c]) r (by omega)
          simp only [List.length_cons]; omega
        · rw [cutGo_and q cur c r h1 h2 h3]
          have := cutGo_len n false [] r (by omega)
          simp only [List.length_cons]; omega
      · rw [cutGo_quote q cur c r h1 h2]
        have := cutGo_len n (!q) (cur ++ [c]) r (by omega)
        simp only [List.length_cons]; omega
    · rw [cutGo_skip q cur c r h1]
      have := cutGo_len n q (cur ++ c :: r.take 1) (r.drop 1) (by rw [List.length_drop]; omega)
      rw [List.length_drop] at this
      simp only [List.length_cons]; omega
theorem cutP_len (s : List UInt8) : (cutP s).length ≤ s.length + 1 := cutGo_len _ _ _ _ (Nat.le_refl _)
theorem pfilter_gen (sc rest : List UInt8) (f : List UInt8 → Option C) (w : World) (h58 : 58 ∉ sc) (hl : sc.length + rest.length + 1 ≤ 90000)
    (hone : ∀ p ∈ cutP rest, ∀ W, Below w.heap.size w W → Calls Tryz.prog 42 #[.string ⟨p.toArray⟩] W fun e w' => e = .returned (oneOut (f p)) ∧ Below W.heap.size W w')
    (hok : ∀ p ∈ cutP rest, ∀ c, f p = some c → c.name.length ≤ 140737488351232 ∧ c.val.text.length ≤ 140737488351232) :
    Calls Tryz.prog 18 #[.string ⟨(sc ++ 58 :: rest).toArray⟩] w fun e w' => MadeF (filO f sc rest) e w' ∧ Below w.heap.size w w' := by
  have hcl := cutP_len rest
  have htl := trimP_le sc
  unfold filO
  by_cases hne : trimP rest = []
  · rw [if_pos hne]
    exact pfilter_none sc rest w h58 (by omega) hne
  rw [if_neg hne]
  rcases first_none f (cutP rest) with ⟨cs, e⟩ | ⟨cs, k, hk, e1, e2, e3⟩
  · rw [mapM_some f _ cs e]
    have hlen : (cutP rest).length = cs.length := by have := congrArg List.length e; simpa using this
    have hat : ∀ i (h : i < cs.length), f ((cutP rest)[i]'(by omega)) = some cs[i] := fun i h => by
      have h2 : ((cutP rest).map f)[i]? = (cs.map some)[i]? := by rw [e]
      rw [List.getElem?_map, List.getElem?_map, List.getElem?_eq_getElem (by omega : i < (cutP rest).length), List.getElem?_eq_getElem h] at h2
      simpa using h2
    refine pfilter_any sc rest cs w h58 (by omega) hne hlen (by omega) (by omega) (fun i h W hb => ?_) (fun x hx => ?_)
    · have := hone _ (List.getElem_mem (by omega : i < (cutP rest).length)) W hb
      rw [hat i h] at this
      exact this
    · obtain ⟨i, h, rfl⟩ := List.getElem_of_mem hx
      exact hok _ (List.getElem_mem (by omega : i < (cutP rest).length)) _ (hat i h)
  · rw [mapM_none f _ k hk e3]
    subst e1
    have hat : ∀ i (h : i < cs.length), f ((cutP rest)[i]'(by omega)) = some cs[i] := fun i h => by
      have h2 : (((cutP rest).take cs.length).map f)[i]? = (cs.map some)[i]? := by rw [e2]
      rw [List.getElem?_map, List.getElem?_map, List.getElem?_take_of_lt h, List.getElem?_eq_getElem (by omega : i < (cutP rest).length), List.getElem?_eq_getElem h] at h2
      simpa using h2
    refine pfilter_no sc rest cs w h58 (by omega) hne hk (by omega) (fun i h W hb => ?_) (fun W hb => ?_)
    · have := hone _ (List.getElem_mem (by omega : i < (cutP rest).length)) W hb
      rw [hat i h] at this
      exact this
    · have := hone _ (List.getElem_mem hk) W hb
      rw [e3] at this
      exact this
end Go.Proofs.YtnccpddjdgndcaaGreatDoor.Pa
end

section
/- THE WALK OF cond.Print: what a condition's text is. -/
namespace Go.Proofs.YtnccpddjdgndcaaGreatDoor.Val
open Go.RowKit Flt
def hasT : List UInt8 := [104, 97, 115, 32]
/-- a condition's text -/
def cT (c : C) : List UInt8 := if c.op == 7 then hasT ++ c.name else c.name ++ [32] ++ wordB c.op ++ [32] ++ vT c.val
theorem itoa_len (n : Int) (h0 : -9223372036854775808 ≤ n) (h1 : n ≤ 9223372036854775807) : (Lib.itoa n).length ≤ 100 := by
  have a := Fmt.nDigits_le20 (u := n.natAbs) (by omega)
  have b := Fmt.nDigits_le20 (u := n.toNat) (by omega)
  unfold Lib.itoa
  split
  · rw [List.length_cons, Lib.decDigits_length]; omega
  · rw [Lib.decDigits_length]; omega
theorem quoteT_len (t : List UInt8) : (Quo.quoteT Lib.goPrintTabs t).length ≤ 10 * t.length + 2 := by
  unfold Quo.quoteT
  rw [List.length_map]
  have h := Lib.quoteZ_length_le Lib.goPrintTabs ⟨t.toArray⟩
  have hs : (⟨t.toArray⟩ : ByteArray).size = t.length := by simp [ByteArray.size]
  rw [hs] at h
  exact h
theorem vT_len (v : V) (h0 : -9223372036854775808 ≤ v.int) (h1 : v.int ≤ 9223372036854775807) : (vT v).length ≤ 10 * v.text.length + 2000 := by
  unfold vT
  split
  · have := itoa_len v.int h0 h1; omega
  · split
    · have := flt_len (Ord.canon v.num)
      unfold Fmt.fltT
      split
      · omega
      · rw [List.length_append]; simp; omega
    · split
      · have := quoteT_len v.text; omega
      · have a : yesT.length = 3 := rfl
        have b : noT.length = 2 := rfl
        split <;> omega
end Go.Proofs.YtnccpddjdgndcaaGreatDoor.Val
end

section
/- THE WALK OF filter.Norm's comparison: by the conditions' texts. -/
namespace Go.Proofs.YtnccpddjdgndcaaGreatDoor.Val
open Go.RowKit Flt
/-- a condition that is not long, whose numbers are words -/
def CSmall (c : C) : Prop := c.name.length ≤ 1000 ∧ c.val.text.length ≤ 1000 ∧ c.val.num < 18446744073709551616 ∧ -9223372036854775808 ≤ c.val.int ∧ c.val.int ≤ 9223372036854775807
/-- how two conditions stand -/
def cmpC (a b : C) : Int := Lib.compareBytes (cT a) (cT b)
end Go.Proofs.YtnccpddjdgndcaaGreatDoor.Val
end

section
/- CONDITIONS IN A ROW, and how the library sorts a short row: plain, and in memory. No walk. -/
namespace Go.Proofs.YtnccpddjdgndcaaGreatDoor.Val
open Go.RowKit Flt
def cells7 (c : C) : List Value := [.string ⟨c.name.toArray⟩, .int .i64 c.op, .int .i64 c.val.kind, .int .i64 c.val.int, .float .f64 c.val.num, .string ⟨c.val.text.toArray⟩, .bool c.val.yes]
def flatC (l : List C) : List Value := l.flatMap cells7
theorem flatC_len (l : List C) : (flatC l).length = l.length * 7 := by
  induction l with
  | nil => rfl
  | cons v l ih => unfold flatC at *; rw [List.flatMap_cons, List.length_append, ih]; simp [cells7]; omega
theorem flatC_at : ∀ (l : List C) (i j : Nat) (hi : i < l.length), j < 7 → (flatC l)[i * 7 + j]? = (cells7 l[i])[j]?
  | v :: l, 0, j, _, hj => by
    unfold flatC; rw [List.flatMap_cons, List.getElem?_append_left (by simp [cells7]; omega)]; simp
  | v :: l, i + 1, j, hi, hj => by
    unfold flatC; rw [List.flatMap_cons, List.getElem?_append_right (by simp [cells7]; omega)]
    have e : (i + 1) * 7 + j - (cells7 v).length = i * 7 + j := by simp [cells7]; omega
    rw [e]
    exact flatC_at l i j (by simpa using hi) hj
theorem flatC_one (l : List C) : ∀ u ∈ flatC l, u.oneCell' = true := by
  intro u hu
  obtain ⟨v, _, hv⟩ := List.mem_flatMap.1 hu
  simp only [cells7, List.mem_cons, List.not_mem_nil, or_false] at hv
  rcases hv with rfl | rfl | rfl | rfl | rfl | rfl | rfl <;> rfl
theorem flatC_app (l : List C) (a : C) : flatC (l ++ [a]) = flatC l ++ flatC [a] := by simp [flatC]
/-- a row of conditions, in a block of its own, Z behind -/
def Row (w : World) (g : Nat) (l : List C) (Z : List Value) : Prop := w.heap[g]? = some (.cells (flatC l ++ Z).toArray 41 (0, 0))
theorem Row.at {w : World} {g : Nat} {l : List C} {Z : List Value} (h : Row w g l Z) (i j : Nat) (hi : i < l.length) (hj : j < 7) : w.cell? ⟨g, i * 7 + j, none⟩ = (cells7 l[i])[j]? := by
  have hl := flatC_len l
  rw [cell_of_row w g _ _ _ _ h]
  rw [List.getElem?_toArray, List.getElem?_append_left (by omega), flatC_at l i j hi hj]
theorem Row.lt {w : World} {g : Nat} {l : List C} {Z : List Value} (h : Row w g l Z) : g < w.heap.size := (Array.getElem?_eq_some_iff.1 h).1
theorem Row.below {w w2 : World} {g : Nat} {l : List C} {Z : List Value} {B : Nat} (h : Row w g l Z) (hb : Below B w w2) (hg : g < B) : Row w2 g l Z := (hb.block g hg).trans h
theorem setCell_row {w : World} {g : Nat} {cs : Array Value} {t : TypeId} {fz : Nat × Nat} (h : w.heap[g]? = some (.cells cs t fz)) (o : Nat) (v : Value) :
    (w.setCell ⟨g, o, none⟩ v).heap[g]? = some (.cells (cs.setIfInBounds o v) t fz) := by
  unfold World.setCell
  simp [Array.getElem?_modify, h]
theorem set_mid (P Q : List Value) (x0 x1 x2 x3 x4 x5 x6 v0 v1 v2 v3 v4 v5 v6 : Value) (n : Nat) (hn : P.length = n) :
    (((((((P ++ x0 :: x1 :: x2 :: x3 :: x4 :: x5 :: x6 :: Q).set n v0).set (n + 1) v1).set (n + 2) v2).set (n + 3) v3).set (n + 4) v4).set (n + 5) v5).set (n + 6) v6 =
      P ++ v0 :: v1 :: v2 :: v3 :: v4 :: v5 :: v6 :: Q := by
  subst hn
  have e : ∀ (k : Nat) (L : List Value) (v : Value), (P ++ L).set (P.length + k) v = P ++ L.set k v := fun k L v => by
    rw [List.set_append_right _ _ (by omega)]
    congr 2
    omega
  have e0 : ∀ (L : List Value) (v : Value), (P ++ L).set P.length v = P ++ L.set 0 v := fun L v => e 0 L v
  rw [e0, e, e, e, e, e, e]
  rfl
/-- seven cells stored -/
def put7 (w : World) (g o : Nat) (c : C) : World :=
  ((((((w.setCell ⟨g, o, none⟩ (.string ⟨c.name.toArray⟩)).setCell ⟨g, o + 1, none⟩ (.int .i64 c.op)).setCell ⟨g, o + 2, none⟩ (.int .i64 c.val.kind)).setCell ⟨g, o + 3, none⟩ (.int .i64 c.val.int)).setCell ⟨g, o + 4, none⟩ (.float .f64 c.val.num)).setCell ⟨g, o + 5, none⟩ (.string ⟨c.val.text.toArray⟩)).setCell ⟨g, o + 6, none⟩ (.bool c.val.yes)
theorem store7 {w : World} {g : Nat} {cs : Array Value} {t : TypeId} {fz : Nat × Nat} (h : w.heap[g]? = some (.cells cs t fz)) (o : Nat) (c : C) :
    (put7 w g o c).heap[g]? = some (.cells (((((((cs.setIfInBounds o (.string ⟨c.name.toArray⟩)).setIfInBounds (o + 1) (.int .i64 c.op)).setIfInBounds (o + 2) (.int .i64 c.val.kind)).setIfInBounds (o + 3) (.int .i64 c.val.int)).setIfInBounds (o + 4) (.float .f64 c.val.num)).setIfInBounds (o + 5) (.string ⟨c.val.text.toArray⟩)).setIfInBounds (o + 6) (.bool c.val.yes)) t fz) :=
  setCell_row (setCell_row (setCell_row (setCell_row (setCell_row (setCell_row (setCell_row h o _) _ _) _ _) _ _) _ _) _ _) _ _
theorem flatC_split (l : List C) (j : Nat) (hj : j < l.length) : flatC l = flatC (l.take j) ++ (cells7 l[j] ++ flatC (l.drop (j + 1))) := by
  have e : l = l.take j ++ l[j] :: l.drop (j + 1) := by
    rw [← List.drop_eq_getElem_cons hj, List.take_append_drop]
  rw [show flatC l = flatC (l.take j ++ l[j] :: l.drop (j + 1)) from congrArg flatC e]
  unfold flatC
  rw [List.flatMap_append, List.flatMap_cons]
theorem Row.put {w : World} {g : Nat} {l : List C} {Z : List Value} (h : Row w g l Z) (j : Nat) (hj : j < l.length) (c : C) : Row (put7 w g (j * 7) c) g (l.set j c) Z := by
  refine (store7 h (j * 7) c).trans (congrArg (fun z => some (Obj.cells z 41 (0, 0))) (Array.ext' ?_))
  simp only [Array.toList_setIfInBounds]
  rw [flatC_split l j hj, flatC_split (l.set j c) j (by simpa using hj)]
  have hp : (flatC (l.take j)).length = j * 7 := by rw [flatC_len, List.length_take]; rw [Nat.min_eq_left (by omega)]
  have e1 : (l.set j c).take j = l.take j := List.take_set_of_le (Nat.le_refl _)
  have e2 : (l.set j c).drop (j + 1) = l.drop (j + 1) := List.drop_set_of_lt (by omega)
  have e3 : (l.set j c)[j]'(by simpa using hj) = c := List.getElem_set_self ..
  rw [e1, e2, e3]
  simp only [cells7, List.append_assoc, List.cons_append, List.nil_append]
  exact set_mid _ _ _ _ _ _ _ _ _ _ _ _ _ _ _ _ _ hp
/-- two neighbours change places -/
def swp (L : List C) (j : Nat) : List C := (L.set (j + 1) L[j]!).set j L[j + 1]!
/-- one goes down as far as it is below its neighbour -/
def bub : List C → Nat → List C
  | L, 0 => L
  | L, j + 1 => if cmpC L[j + 1]! L[j]! < 0 then bub (swp L j) j else L
/-- the first i + 1 are brought in order -/
def isort (L : List C) : Nat → List C
  | 0 => L
  | i + 1 => bub (isort L i) (i + 1)
end Go.Proofs.YtnccpddjdgndcaaGreatDoor.Val
end

section
/- THE WALK OF the library's insertion sort over a row of conditions, and of SortStableFunc at a short row. -/
namespace Go.Proofs.YtnccpddjdgndcaaGreatDoor.Val
open Go.RowKit Flt
attribute [local go_sem] run_store_flt
end Go.Proofs.YtnccpddjdgndcaaGreatDoor.Val
end

section
/- THE WALK OF filter.needless: does another condition imply one? -/
namespace Go.Proofs.YtnccpddjdgndcaaGreatDoor.Val
open Go.RowKit Flt
attribute [local go_sem] run_store_flt
end Go.Proofs.YtnccpddjdgndcaaGreatDoor.Val
end

section
/- THE WALK OF filter.Norm. -/
namespace Go.Proofs.YtnccpddjdgndcaaGreatDoor.Val
open Go.RowKit Flt
def sortC (L : List C) : List C := isort L (L.length - 1)
theorem info_cond : (Tryz.prog.info? 41).map (fun i => (i.zero, i.size, i.bytes)) = some (some (.agg #[.string .empty, .int .i64 0, .int .i64 0, .int .i64 0, .float .f64 0, .string .empty, .bool false]), 7, 72) := by kernel_rfl
theorem new_cond (w : World) (g : Nat) (hg : g = w.heap.size) (c : C) (e : TypeId) : ∀ j u, (flatC [c])[j]? = some u → (w.alloc (.cells #[.string ⟨c.name.toArray⟩, .int .i64 c.op, .int .i64 c.val.kind, .int .i64 c.val.int, .float .f64 c.val.num, .string ⟨c.val.text.toArray⟩, .bool c.val.yes] e)).cell? ((⟨g, 0, none⟩ : Addr).add j) = some u := by
  subst hg
  intro j u hj
  have hadd : (⟨w.heap.size, 0, none⟩ : Addr).add j = ⟨w.heap.size, j, none⟩ := by unfold Addr.add; split <;> simp_all
  rw [hadd]
  simpa [flatC, cells7, go_sem] using hj
theorem own_conds {w : World} {v : Value} {l : List C} {base : Nat} (h : w.ownsRow base 41 7 v l.length (flatC l)) :
    ∃ b0 cap, v = .slice b0 l.length cap ∧ Conds w b0 l := by
  rcases h.2 with ⟨rfl, h0⟩ | ⟨g, cp, cur, rfl, hb, hg, hh⟩
  · have : l = [] := List.eq_nil_of_length_eq_zero h0
    subst this
    exact ⟨none, 0, rfl, fun i hi => absurd hi (Nat.not_lt_zero _)⟩
  · refine ⟨some ⟨g, 0, none⟩, cp, rfl, fun i hi => ⟨_, rfl, ?_⟩⟩
    have k : ∀ j (hj : j < 7), w.cell? ⟨g, i * 7 + j, none⟩ = (cells7 l[i])[j]? := by
      intro j hj
      have hl := flatC_len l
      have hm := flatC_at l i j hi hj
      have hc : (cells7 l[i])[j]? = some ((cells7 l[i])[j]'(by simpa [cells7] using hj)) := by simp
      rw [hc] at hm ⊢
      have := h.cells rfl (i * 7 + j) _ hm
      have hadd : (⟨g, 0, none⟩ : Addr).add (i * 7 + j) = ⟨g, i * 7 + j, none⟩ := by unfold Addr.add; split <;> simp_all
      rw [← hadd]; exact this
    have hadd : (⟨g, 0, none⟩ : Addr).add (i * 7) = ⟨g, i * 7, none⟩ := by unfold Addr.add; split <;> simp_all
    rw [hadd]
    exact ⟨k 0 (by decide), k 1 (by decide), k 2 (by decide), k 3 (by decide), k 4 (by decide), k 5 (by decide), k 6 (by decide)⟩
theorem own_low7 {W W2 : World} {base e size : Nat} {v : Value} {n : Nat} {xs : List Value} (h : W.ownsRow base e size v n xs) (hb : Below W.heap.size W W2) : W2.ownsRow base e size v n xs :=
  Fmt.own_low h hb (fun k hk => (h.lt k hk).2)
attribute [local go_sem] run_store_flt
end Go.Proofs.YtnccpddjdgndcaaGreatDoor.Val
end

section
/- THE WALK OF filter.Print, over whatever cond.Print writes. -/
namespace Go.Proofs.YtnccpddjdgndcaaGreatDoor.Val
open Go.RowKit Flt
attribute [local go_sem] run_store_flt
end Go.Proofs.YtnccpddjdgndcaaGreatDoor.Val
end

section
/- VALUES THAT ARE NOT THE SAME HAVE TEXTS THAT ARE NOT, whatever stands behind; those that are the same have one. No walk. -/
namespace Go.Proofs.YtnccpddjdgndcaaGreatDoor.Val
open Go.RowKit Flt
theorem nan_iff (b : Nat) : nan b = true ↔ 9218868437227405312 < b % 9223372036854775808 := by
  unfold nan rung inf
  rw [decide_eq_true_eq]
theorem zero_iff2 (b : Nat) : Ord.zero b = true ↔ b % 9223372036854775808 = 0 := by
  rw [Ord.zero_iff]
  unfold rung
  rw [decide_eq_true_eq]
/-- numbers with one key are kept alike, and others are not -/
theorem key_canon (a b : Nat) (ha : a < 18446744073709551616) (hb : b < 18446744073709551616) : Ord.key a = Ord.key b ↔ Ord.canon a = Ord.canon b := by
  unfold Ord.key Ord.canon Ord.most Ord.top Ord.nan0
  have na := nan_iff a; have nb := nan_iff b; have za := zero_iff2 a; have zb := zero_iff2 b
  cases h1 : nan a <;> cases h2 : nan b <;> cases h3 : Ord.zero a <;> cases h4 : Ord.zero b <;>
    rw [h1] at na <;> rw [h2] at nb <;> rw [h3] at za <;> rw [h4] at zb <;>
    simp only [Bool.false_eq_true, if_false, if_true] <;>
    (try split) <;> (try split) <;> simp at na nb za zb <;> omega
theorem canon_bits (x : Nat) (hx : x < 18446744073709551616) : Ord.canon x < 18446744073709551616 ∧
    ((Ord.canon x = 9221120237041090561) ∨ (Fmt.bexp (Ord.canon x) ≤ 2046) ∨ (Fmt.bexp (Ord.canon x) = 2047 ∧ Fmt.bman (Ord.canon x) = 0)) := by
  refine ⟨canon_lt x hx, ?_⟩
  have na := nan_iff x
  unfold Ord.canon Ord.nan0
  cases h1 : nan x
  · rw [h1] at na
    have : ¬ 9218868437227405312 < x % 9223372036854775808 := fun h => by have := na.2 h; cases this
    simp only [Bool.false_eq_true, if_false]
    split
    · right; left; decide
    · right
      unfold Fmt.bexp Fmt.bman
      omega
  · left; rfl
/-- a text without a blank and not quoted -/
def Bare (t : List UInt8) : Prop := t ≠ [] ∧ (∀ c ∈ t, c ≠ 32) ∧ ∀ r, t ≠ 34 :: r
/-- what may stand behind: nothing, or a blank first -/
def Tail (s : List UInt8) : Prop := s = [] ∨ ∃ r, s = 32 :: r
theorem bare_apart : ∀ (t u s r : List UInt8), (∀ c ∈ t, c ≠ 32) → (∀ c ∈ u, c ≠ 32) → Tail s → Tail r → t ++ s = u ++ r → t = u ∧ s = r
  | [], [], _, _, _, _, _, _, h => ⟨rfl, h⟩
  | [], c :: u, s, r, _, hu, hs, _, h => by
    exfalso
    rcases hs with rfl | ⟨q, rfl⟩
    · cases h
    · exact hu c (List.mem_cons_self ..) (List.cons.inj h).1.symm
  | c :: t, [], s, r, ht, _, _, hr, h => by
    exfalso
    rcases hr with rfl | ⟨q, rfl⟩
    · cases h
    · exact ht c (List.mem_cons_self ..) (List.cons.inj h).1
  | c :: t, d :: u, s, r, ht, hu, hs, hr, h => by
    obtain ⟨h1, h2⟩ := List.cons.inj h
    obtain ⟨i1, i2⟩ := bare_apart t u s r (fun x hx => ht x (List.mem_cons_of_mem _ hx)) (fun x hx => hu x (List.mem_cons_of_mem _ hx)) hs hr h2
    exact ⟨by rw [h1, i1], i2⟩
/-- a whole number's text: digits, a sign ahead -/
theorem itoa_chr (n : Int) : ∀ c ∈ Lib.itoa n, Fmt.IsD c ∨ c = 45 := by
  intro c hc
  unfold Lib.itoa at hc
  split at hc
  · rcases List.mem_cons.1 hc with rfl | hc
    · exact .inr rfl
    · exact .inl ((Fmt.decDigits_val _).2 c hc)
  · exact .inl ((Fmt.decDigits_val _).2 c hc)
theorem dec_ne (u : Nat) : Lib.decDigits u ≠ [] := by
  intro h
  have := Lib.decDigits_length u
  rw [h] at this
  have := Lib.nDigits_pos u
  simp at *
  omega
theorem itoa_ne (n : Int) : Lib.itoa n ≠ [] := by
  unfold Lib.itoa
  split
  · exact List.cons_ne_nil _ _
  · exact dec_ne _
theorem itoa_inj (n m : Int) (h : Lib.itoa n = Lib.itoa m) : n = m := by
  have dv := fun u => (Fmt.decDigits_val u).1
  have nod : ∀ u v, 45 :: Lib.decDigits u ≠ Lib.decDigits v := fun u v e => by
    have := (Fmt.decDigits_val v).2 45 (by rw [← e]; exact List.mem_cons_self ..)
    unfold Fmt.IsD at this
    simp at this
  unfold Lib.itoa at h
  split at h <;> split at h
  · have h2 := congrArg Fmt.dval (List.cons.inj h).2
    rw [dv, dv] at h2
    omega
  · exact absurd h (nod _ _)
  · exact absurd h.symm (nod _ _)
  · have h2 := congrArg Fmt.dval h
    rw [dv, dv] at h2
    omega
/-- what a number's text is, by its kind -/
theorem flt_ways (x : Nat) (hx : x < 18446744073709551616) :
    (Fmt.fltT (Ord.canon x) = [78, 97, 78] ∧ Ord.canon x = 9221120237041090561) ∨
    (Fmt.fltT (Ord.canon x) = [45, 73, 110, 102] ∧ Ord.canon x = 18442240474082181120) ∨ (Fmt.fltT (Ord.canon x) = [43, 73, 110, 102] ∧ Ord.canon x = 9218868437227405312) ∨
    (Fmt.bexp (Ord.canon x) ≤ 2046 ∧ ∃ X, Fmt.fltT (Ord.canon x) = Fmt.sgn (Fmt.bneg (Ord.canon x)) ++ X ∧ (∃ c r, X = c :: r ∧ Fmt.IsD c) ∧ ∀ c ∈ X, Fmt.IsN c) := by
  obtain ⟨hl, h⟩ := canon_bits x hx
  generalize Ord.canon x = b at *
  rcases h with rfl | h | ⟨h1, h2⟩
  · left
    exact ⟨Fmt.fltT_nan _ (by decide) (by decide), rfl⟩
  · right; right; right
    obtain ⟨X, hX⟩ := Fmt.body_fin b h
    exact ⟨h, X, hX.txt, hX.head, hX.chr⟩
  · have ht := Fmt.fltT_inf b h1 h2
    cases hn : Fmt.bneg b
    · right; right; left
      rw [hn] at ht
      refine ⟨ht, ?_⟩
      unfold Fmt.bneg at hn
      unfold Fmt.bexp at h1
      unfold Fmt.bman at h2
      simp at hn
      omega
    · right; left
      rw [hn] at ht
      refine ⟨ht, ?_⟩
      unfold Fmt.bneg at hn
      unfold Fmt.bexp at h1
      unfold Fmt.bman at h2
      simp at hn
      omega
theorem isN_ne {c : UInt8} (h : Fmt.IsN c) (k : UInt8) (hk : k.toNat < 43 ∨ (57 < k.toNat ∧ k.toNat ≠ 101)) : c ≠ k := by
  rintro rfl
  rcases h with h | h | h | h | h
  · unfold Fmt.IsD at h; omega
  all_goals (subst h; revert hk; decide)
theorem flt_bare (x : Nat) (hx : x < 18446744073709551616) : Bare (Fmt.fltT (Ord.canon x)) ∧ (∀ r, Fmt.fltT (Ord.canon x) ≠ 121 :: r) ∧ (∀ r, Fmt.fltT (Ord.canon x) ≠ 110 :: r) ∧ ∃ c ∈ Fmt.fltT (Ord.canon x), ¬ (Fmt.IsD c ∨ c = 45) := by
  have hmk : ∃ c ∈ Fmt.fltT (Ord.canon x), ¬ (Fmt.IsD c ∨ c = 45) := by
    have key : ∀ c : UInt8, c = 46 ∨ c = 101 ∨ c = 73 ∨ c = 78 → ¬ (Fmt.IsD c ∨ c = 45) := by
      intro c hc h
      rcases hc with rfl | rfl | rfl | rfl <;> rcases h with h | h <;> first | (unfold Fmt.IsD at h; simp at h) | (revert h; decide)
    unfold Fmt.fltT
    cases hm : Fmt.marked (Fmt.ftoaT (Ord.canon x))
    · simp only [Bool.false_eq_true, if_false]
      exact ⟨46, by simp, key 46 (.inl rfl)⟩
    · simp only [if_true]
      obtain ⟨c, hc, hk⟩ := (Fmt.marked_iff _).1 hm
      exact ⟨c, hc, key c hk⟩
  rcases flt_ways x hx with ⟨h, _⟩ | ⟨h, _⟩ | ⟨h, _⟩ | ⟨_, X, h, ⟨c, r, hX, hc⟩, hN⟩
  · refine ⟨⟨?_, ?_, ?_⟩, ?_, ?_, hmk⟩ <;> rw [h]
    · exact List.cons_ne_nil _ _
    · intro c hc; simp only [List.mem_cons, List.not_mem_nil, or_false] at hc; rcases hc with rfl | rfl | rfl <;> decide
    all_goals (intro r e; have := (List.cons.inj e).1; revert this; decide)
  · refine ⟨⟨?_, ?_, ?_⟩, ?_, ?_, hmk⟩ <;> rw [h]
    · exact List.cons_ne_nil _ _
    · intro c hc; simp only [List.mem_cons, List.not_mem_nil, or_false] at hc; rcases hc with rfl | rfl | rfl | rfl <;> decide
    all_goals (intro r e; have := (List.cons.inj e).1; revert this; decide)
  · refine ⟨⟨?_, ?_, ?_⟩, ?_, ?_, hmk⟩ <;> rw [h]
    · exact List.cons_ne_nil _ _
    · intro c hc; simp only [List.mem_cons, List.not_mem_nil, or_false] at hc; rcases hc with rfl | rfl | rfl | rfl <;> decide
    all_goals (intro r e; have := (List.cons.inj e).1; revert this; decide)
  · have hd : ∀ k : UInt8, k.toNat < 48 ∨ 57 < k.toNat → c ≠ k := fun k hk => Fmt.isD_ne hc k hk
    have hs : ∀ c ∈ Fmt.sgn (Fmt.bneg (Ord.canon x)), c = 45 := by
      intro c hc
      unfold Fmt.sgn at hc
      split at hc
      · exact List.mem_singleton.1 hc
      · cases hc
    have first : ∀ k : UInt8, k ≠ 45 → (k.toNat < 48 ∨ 57 < k.toNat) → ∀ r, Fmt.fltT (Ord.canon x) ≠ k :: r := by
      intro k h45 hk r e
      rw [h, hX] at e
      unfold Fmt.sgn at e
      split at e
      · exact h45 (List.cons.inj e).1.symm
      · exact hd k hk (List.cons.inj e).1
    refine ⟨⟨?_, ?_, first 34 (by decide) (by decide)⟩, first 121 (by decide) (by decide), first 110 (by decide) (by decide), hmk⟩
    · rw [h, hX]
      unfold Fmt.sgn
      split <;> exact List.cons_ne_nil _ _
    · intro d hd2
      rw [h] at hd2
      rcases List.mem_append.1 hd2 with hd2 | hd2
      · rw [hs d hd2]; decide
      · exact isN_ne (hN d hd2) 32 (by decide)
theorem flt_inj (x y : Nat) (hx : x < 18446744073709551616) (hy : y < 18446744073709551616) (h : Fmt.fltT (Ord.canon x) = Fmt.fltT (Ord.canon y)) : Ord.canon x = Ord.canon y := by
  have hd : ∀ {c : UInt8}, Fmt.IsD c → ∀ k : UInt8, k.toNat < 48 ∨ 57 < k.toNat → c ≠ k := fun hc k hk => Fmt.isD_ne hc k hk
  have fin : ∀ (b : Nat) (X : List UInt8) (c : UInt8) (r : List UInt8), X = c :: r → Fmt.IsD c → ∀ t, Fmt.fltT b = Fmt.sgn (Fmt.bneg b) ++ X → Fmt.fltT b = t → t ≠ [78, 97, 78] ∧ t ≠ [45, 73, 110, 102] ∧ t ≠ [43, 73, 110, 102] := by
    intro b X c r hX hc t ht e
    rw [ht, hX] at e
    unfold Fmt.sgn at e
    refine ⟨?_, ?_, ?_⟩ <;> rintro rfl <;> split at e
    · exact absurd (List.cons.inj e).1 (by decide)
    · exact hd hc 78 (by decide) (List.cons.inj e).1
    · exact hd hc 73 (by decide) (List.cons.inj (List.cons.inj e).2).1
    · exact hd hc 45 (by decide) (List.cons.inj e).1
    · exact absurd (List.cons.inj e).1 (by decide)
    · exact hd hc 43 (by decide) (List.cons.inj e).1
  rcases flt_ways x hx with ⟨h1, e1⟩ | ⟨h1, e1⟩ | ⟨h1, e1⟩ | ⟨f1, X, h1, ⟨c, r, hX, hc⟩, _⟩ <;>
    rcases flt_ways y hy with ⟨h2, e2⟩ | ⟨h2, e2⟩ | ⟨h2, e2⟩ | ⟨f2, Y, h2, ⟨d, q, hY, hd2⟩, _⟩
  · rw [e1, e2]
  · rw [h1, h2] at h; exact absurd h (by decide)
  · rw [h1, h2] at h; exact absurd h (by decide)
  · exact absurd h1 (fin _ Y d q hY hd2 _ h2 h.symm).1
  · rw [h1, h2] at h; exact absurd h (by decide)
  · rw [e1, e2]
  · rw [h1, h2] at h; exact absurd h (by decide)
  · exact absurd h1 (fin _ Y d q hY hd2 _ h2 h.symm).2.1
  · rw [h1, h2] at h; exact absurd h (by decide)
  · rw [h1, h2] at h; exact absurd h (by decide)
  · rw [e1, e2]
  · exact absurd h1 (fin _ Y d q hY hd2 _ h2 h.symm).2.2
  · exact absurd h2 (fin _ X c r hX hc _ h1 h).1
  · exact absurd h2 (fin _ X c r hX hc _ h1 h).2.1
  · exact absurd h2 (fin _ X c r hX hc _ h1 h).2.2
  · exact Fmt.fltT_fin _ _ (canon_lt x hx) (canon_lt y hy) f1 f2 h
/-- a value that may be -/
def VOk (v : V) : Prop := 0 ≤ v.kind ∧ v.kind ≤ 3 ∧ v.num < 18446744073709551616
theorem vT_ways (v : V) (h : VOk v) : (v.kind = 0 ∧ vT v = Lib.itoa v.int) ∨ (v.kind = 1 ∧ vT v = Fmt.fltT (Ord.canon v.num)) ∨ (v.kind = 2 ∧ vT v = Quo.quoteT Lib.goPrintTabs v.text) ∨ (v.kind = 3 ∧ vT v = if v.yes then yesT else noT) := by
  obtain ⟨k, n, x, t, y⟩ := v
  obtain ⟨h0, h3, _⟩ := h
  simp only at h0 h3
  rcases (show k = 0 ∨ k = 1 ∨ k = 2 ∨ k = 3 by omega) with rfl | rfl | rfl | rfl
  · exact .inl ⟨rfl, rfl⟩
  · exact .inr (.inl ⟨rfl, rfl⟩)
  · exact .inr (.inr (.inl ⟨rfl, rfl⟩))
  · exact .inr (.inr (.inr ⟨rfl, rfl⟩))
theorem itoa_bare (n : Int) : Bare (Lib.itoa n) ∧ (∀ r, Lib.itoa n ≠ 121 :: r) ∧ (∀ r, Lib.itoa n ≠ 110 :: r) := by
  have key : ∀ k : UInt8, k ≠ 45 → (k.toNat < 48 ∨ 57 < k.toNat) → ∀ c ∈ Lib.itoa n, c ≠ k := fun k h45 hk c hc => by
    rcases itoa_chr n c hc with h | h
    · exact Fmt.isD_ne h k hk
    · rw [h]; exact fun e => h45 e.symm
  have first : ∀ k : UInt8, k ≠ 45 → (k.toNat < 48 ∨ 57 < k.toNat) → ∀ r, Lib.itoa n ≠ k :: r := fun k h45 hk r e => key k h45 hk k (by rw [e]; exact List.mem_cons_self ..) rfl
  exact ⟨⟨itoa_ne n, key 32 (by decide) (by decide), first 34 (by decide) (by decide)⟩, first 121 (by decide) (by decide), first 110 (by decide) (by decide)⟩
theorem bool_bare (y : Bool) : Bare (if y then yesT else noT) ∧ ∃ c r, (if y then yesT else noT) = c :: r ∧ (c = 121 ∨ c = 110) := by
  cases y
  · refine ⟨⟨by decide, by decide, ?_⟩, 110, _, rfl, .inr rfl⟩
    intro r e; have := (List.cons.inj e).1; revert this; decide
  · refine ⟨⟨by decide, by decide, ?_⟩, 121, _, rfl, .inl rfl⟩
    intro r e; have := (List.cons.inj e).1; revert this; decide
/-- VALUES' TEXTS TELL THEM APART, whatever stands behind -/
theorem vT_apart (v u : V) (hv : VOk v) (hu : VOk u) (s r : List UInt8) (hs : Tail s) (hr : Tail r) (h : vT v ++ s = vT u ++ r) : sameB v u = true ∧ s = r := by
  have bb : ∀ t w : List UInt8, Bare t → Bare w → t ++ s = w ++ r → t = w ∧ s = r := fun t w ht hw e => bare_apart t w s r ht.2.1 hw.2.1 hs hr e
  have quo : ∀ (l : List UInt8) (w : List UInt8) (s r : List UInt8), Bare w → Quo.quoteT Lib.goPrintTabs l ++ s = w ++ r → False := by
    intro l w s r hw e
    obtain ⟨q, hq⟩ := Quo.quoteT_head Lib.goPrintTabs l
    cases w with
    | nil => exact hw.1 rfl
    | cons c w =>
      rw [hq] at e
      exact hw.2.2 w (by rw [(List.cons.inj e).1])
  rcases vT_ways v hv with ⟨k1, e1⟩ | ⟨k1, e1⟩ | ⟨k1, e1⟩ | ⟨k1, e1⟩ <;> rcases vT_ways u hu with ⟨k2, e2⟩ | ⟨k2, e2⟩ | ⟨k2, e2⟩ | ⟨k2, e2⟩ <;> rw [e1, e2] at h
  · obtain ⟨h1, h2⟩ := bb _ _ (itoa_bare _).1 (itoa_bare _).1 h
    refine ⟨?_, h2⟩
    have := itoa_inj _ _ h1
    unfold sameB; rw [k1, k2, this]; simp
  · exfalso
    obtain ⟨h1, _⟩ := bb _ _ (itoa_bare _).1 (flt_bare _ hu.2.2).1 h
    obtain ⟨c, hc, hn⟩ := (flt_bare _ hu.2.2).2.2.2
    exact hn (itoa_chr _ c (by rw [h1]; exact hc))
  · exact absurd h.symm (fun e => quo _ _ _ _ (itoa_bare _).1 e)
  · exfalso
    obtain ⟨h1, _⟩ := bb _ _ (itoa_bare _).1 (bool_bare _).1 h
    obtain ⟨c, q, e, hc⟩ := (bool_bare u.yes).2
    rw [e] at h1
    rcases hc with rfl | rfl
    · exact (itoa_bare _).2.1 _ h1
    · exact (itoa_bare _).2.2 _ h1
  · exfalso
    obtain ⟨h1, _⟩ := bb _ _ (flt_bare _ hv.2.2).1 (itoa_bare _).1 h
    obtain ⟨c, hc, hn⟩ := (flt_bare _ hv.2.2).2.2.2
    exact hn (itoa_chr _ c (by rw [← h1]; exact hc))
  · obtain ⟨h1, h2⟩ := bb _ _ (flt_bare _ hv.2.2).1 (flt_bare _ hu.2.2).1 h
    refine ⟨?_, h2⟩
    have := (key_canon _ _ hv.2.2 hu.2.2).2 (flt_inj _ _ hv.2.2 hu.2.2 h1)
    unfold sameB Ord.same; rw [k1, k2, this]; simp
  · exact absurd h.symm (fun e => quo _ _ _ _ (flt_bare _ hv.2.2).1 e)
  · exfalso
    obtain ⟨h1, _⟩ := bb _ _ (flt_bare _ hv.2.2).1 (bool_bare _).1 h
    obtain ⟨c, q, e, hc⟩ := (bool_bare u.yes).2
    rw [e] at h1
    rcases hc with rfl | rfl
    · exact (flt_bare _ hv.2.2).2.1 _ h1
    · exact (flt_bare _ hv.2.2).2.2.1 _ h1
  · exact absurd h (fun e => quo _ _ _ _ (itoa_bare _).1 e)
  · exact absurd h (fun e => quo _ _ _ _ (flt_bare _ hu.2.2).1 e)
  · obtain ⟨h1, h2⟩ := Quo.quoteT_apart _ _ _ _ _ h
    refine ⟨?_, h2⟩
    unfold sameB; rw [k1, k2, h1]; simp
  · exact absurd h (fun e => quo _ _ _ _ (bool_bare _).1 e)
  · exfalso
    obtain ⟨h1, _⟩ := bb _ _ (bool_bare _).1 (itoa_bare _).1 h
    obtain ⟨c, q, e, hc⟩ := (bool_bare v.yes).2
    rw [e] at h1
    rcases hc with rfl | rfl
    · exact (itoa_bare _).2.1 _ h1.symm
    · exact (itoa_bare _).2.2 _ h1.symm
  · exfalso
    obtain ⟨h1, _⟩ := bb _ _ (bool_bare _).1 (flt_bare _ hu.2.2).1 h
    obtain ⟨c, q, e, hc⟩ := (bool_bare v.yes).2
    rw [e] at h1
    rcases hc with rfl | rfl
    · exact (flt_bare _ hu.2.2).2.1 _ h1.symm
    · exact (flt_bare _ hu.2.2).2.2.1 _ h1.symm
  · exact absurd h.symm (fun e => quo _ _ _ _ (bool_bare _).1 e)
  · obtain ⟨h1, h2⟩ := bb _ _ (bool_bare _).1 (bool_bare _).1 h
    refine ⟨?_, h2⟩
    have : v.yes = u.yes := by
      cases hv2 : v.yes <;> cases hu2 : u.yes <;> rw [hv2, hu2] at h1 <;> first | rfl | (revert h1; decide)
    unfold sameB; rw [k1, k2, this]; simp
end Go.Proofs.YtnccpddjdgndcaaGreatDoor.Val
end

section
/- WHAT A FILTER IS BROUGHT TO: its conditions in order; the order in which they came, and doubles, play no part. No walk. -/
namespace Go.Proofs.YtnccpddjdgndcaaGreatDoor.Val
open Go.RowKit Flt
/-- into a row that falls -/
def insr : List C → C → List C
  | [], x => [x]
  | y :: Q, x => if cmpC x y < 0 then y :: insr Q x else x :: y :: Q
theorem insr_perm : ∀ (Q : List C) (x : C), List.Perm (insr Q x) (x :: Q)
  | [], x => List.Perm.refl _
  | y :: Q, x => by
    unfold insr
    split
    · exact ((insr_perm Q x).cons y).trans (List.Perm.swap x y Q)
    · exact List.Perm.refl _
theorem bub_insr : ∀ (Q : List C) (x : C) (R : List C), bub (Q.reverse ++ x :: R) Q.length = (insr Q x).reverse ++ R
  | [], x, R => rfl
  | y :: Q, x, R => by
    have hlen : ((y :: Q).reverse ++ x :: R).length = Q.length + 1 + 1 + R.length := by simp; omega
    have e : (y :: Q).reverse ++ x :: R = Q.reverse ++ y :: x :: R := by simp
    have g1 : (Q.reverse ++ y :: x :: R)[Q.length + 1]! = x := by
      rw [getElem!_pos _ _ (by simp)]
      rw [List.getElem_append_right (by simp)]
      simp
    have g0 : (Q.reverse ++ y :: x :: R)[Q.length]! = y := by
      rw [getElem!_pos _ _ (by simp)]
      rw [List.getElem_append_right (by simp)]
      simp
    rw [e, List.length_cons, bub, g1, g0]
    unfold insr
    split
    · have hs : swp (Q.reverse ++ y :: x :: R) Q.length = Q.reverse ++ x :: y :: R := by
        unfold swp
        rw [g1, g0]
        rw [List.set_append_right _ _ (by simp), List.set_append_right _ _ (by simp)]
        simp
      rw [hs, bub_insr Q x (y :: R)]
      simp
    · simp
theorem isort_insr (L : List C) : ∀ i, i < L.length → isort L i = ((L.take (i + 1)).foldl insr []).reverse ++ L.drop (i + 1)
  | 0, h => by
    cases L with
    | nil => simp at h
    | cons a l => simp [isort, insr]
  | i + 1, h => by
    rw [isort, isort_insr L i (by omega)]
    have hd : L.drop (i + 1) = L[i + 1] :: L.drop (i + 2) := List.drop_eq_getElem_cons h
    have hl : ((L.take (i + 1)).foldl insr []).length = i + 1 := by
      have : ∀ (l : List C) (acc : List C), (l.foldl insr acc).length = acc.length + l.length := by
        intro l
        induction l with
        | nil => intro acc; simp
        | cons a l ih => intro acc; rw [List.foldl_cons, ih, (insr_perm acc a).length_eq]; simp; omega
      rw [this, List.length_take]
      simp; omega
    rw [hd]
    have := bub_insr ((L.take (i + 1)).foldl insr []) L[i + 1] (L.drop (i + 2))
    rw [hl] at this
    rw [this, List.take_succ_eq_append_getElem h, List.foldl_append]
    rfl
theorem sortC_insr (L : List C) : sortC L = (L.foldl insr []).reverse := by
  unfold sortC
  cases L with
  | nil => rfl
  | cons a l =>
    rw [isort_insr _ _ (by simp)]
    have e : (a :: l).length - 1 + 1 = (a :: l).length := by simp
    rw [e, List.take_length, List.drop_length, List.append_nil]
/-- not behind -/
def leC (a b : C) : Prop := ¬ cmpC b a < 0
theorem leC_of_lt {a b : C} (h : cmpC a b < 0) : leC a b := fun h2 => by
  have := (cb_anti (cT a) (cT b)).1.1 h
  unfold cmpC at h2
  omega
theorem leC_trans {a b c : C} (h1 : leC a b) (h2 : leC b c) : leC a c := by
  unfold leC cmpC at *
  intro h
  rcases Int.lt_trichotomy (Lib.compareBytes (cT a) (cT b)) 0 with k | k | k
  · exact h2 (cb_trans h k)
  · have e : cT a = cT b := (cb_zero _ _).1 k
    rw [e] at h
    exact h2 h
  · exact h1 ((cb_anti (cT b) (cT a)).1.2 k)
theorem insr_falls : ∀ (Q : List C) (x : C), Q.Pairwise (fun a b => leC b a) → (insr Q x).Pairwise (fun a b => leC b a)
  | [], x, _ => by simp [insr]
  | y :: Q, x, h => by
    obtain ⟨h1, h2⟩ := List.pairwise_cons.1 h
    unfold insr
    split
    · rename_i hlt
      refine List.pairwise_cons.2 ⟨fun z hz => ?_, insr_falls Q x h2⟩
      rcases List.mem_cons.1 ((insr_perm Q x).subset hz) with rfl | hz
      · exact leC_of_lt hlt
      · exact h1 z hz
    · rename_i hge
      refine List.pairwise_cons.2 ⟨fun z hz => ?_, h⟩
      rcases List.mem_cons.1 hz with rfl | hz
      · exact hge
      · exact leC_trans (h1 z hz) hge
theorem foldl_falls : ∀ (l acc : List C), acc.Pairwise (fun a b => leC b a) → (l.foldl insr acc).Pairwise (fun a b => leC b a)
  | [], _, h => h
  | a :: l, acc, h => foldl_falls l _ (insr_falls acc a h)
theorem foldl_perm : ∀ (l acc : List C), List.Perm (l.foldl insr acc) (l ++ acc)
  | [], _ => List.Perm.refl _
  | a :: l, acc => (foldl_perm l (insr acc a)).trans (((insr_perm acc a).append_left l).trans (List.perm_middle))
theorem sortC_perm (L : List C) : List.Perm (sortC L) L := by
  rw [sortC_insr]
  have := foldl_perm L []
  rw [List.append_nil] at this
  exact (List.reverse_perm _).trans this
theorem sortC_rises (L : List C) : (sortC L).Pairwise leC := by
  rw [sortC_insr, List.pairwise_reverse]
  exact foldl_falls L [] List.Pairwise.nil
/-- a condition as it is kept, that may be -/
def CKept (c : C) : Prop := ∃ d : C, cRight d = true ∧ d.val.num < 18446744073709551616 ∧ c = canonC d
theorem word_no32 : ∀ n : Nat, n ≤ 7 → ∀ c ∈ wordL n, c ≠ 32 := by decide
theorem word_inj : ∀ n : Nat, n ≤ 6 → ∀ m : Nat, m ≤ 6 → wordL n = wordL m → n = m := by decide
theorem cut32 : ∀ (n m s t : List UInt8), (∀ c ∈ n, c ≠ 32) → (∀ c ∈ m, c ≠ 32) → n ++ 32 :: s = m ++ 32 :: t → n = m ∧ s = t := fun n m s t hn hm h => by
  have := bare_apart n m (32 :: s) (32 :: t) hn hm (.inr ⟨s, rfl⟩) (.inr ⟨t, rfl⟩) h
  exact ⟨this.1, (List.cons.inj this.2).2⟩
theorem canonV_same (a b : V) (ha : VOk a) (hb : VOk b) (h : sameB a b = true) : canonV a = canonV b := by
  unfold sameB at h
  rw [Bool.and_eq_true, beq_iff_eq] at h
  obtain ⟨hk, h⟩ := h
  obtain ⟨k, n, x, t, y⟩ := a
  obtain ⟨k2, n2, x2, t2, y2⟩ := b
  obtain ⟨h0, h3, hx⟩ := ha
  obtain ⟨_, _, hx2⟩ := hb
  simp only at hk h h0 h3 hx hx2
  subst hk
  rcases (show k = 0 ∨ k = 1 ∨ k = 2 ∨ k = 3 by omega) with rfl | rfl | rfl | rfl
  · have e : n = n2 := by simpa using h
    rw [e]; rfl
  · have e : Ord.key x = Ord.key x2 := by simpa [Ord.same] using h
    have := (key_canon x x2 hx hx2).1 e
    show (⟨1, 0, Ord.canon x, [], false⟩ : V) = ⟨1, 0, Ord.canon x2, [], false⟩
    rw [this]
  · have e : t = t2 := by simpa using h
    rw [e]; rfl
  · have e : y = y2 := by simpa using h
    rw [e]; rfl
theorem canon_again (x : Nat) : Ord.canon (Ord.canon x) = Ord.canon x := by
  unfold Ord.canon
  cases h : nan x
  · cases h2 : Ord.zero x
    · simp only [h, h2, Bool.false_eq_true, if_false]
    · simp only [Bool.false_eq_true, if_false, if_true]
      rw [if_neg (by decide), if_pos (by decide)]
  · simp only [if_true]
    rw [if_pos (by decide)]
theorem vT_kept (v : V) (h0 : 0 ≤ v.kind) (h3 : v.kind ≤ 3) : vT (canonV v) = vT v := by
  obtain ⟨k, n, x, t, y⟩ := v
  simp only at h0 h3
  rcases (show k = 0 ∨ k = 1 ∨ k = 2 ∨ k = 3 by omega) with rfl | rfl | rfl | rfl
  · rfl
  · show Fmt.fltT (Ord.canon (Ord.canon x)) = Fmt.fltT (Ord.canon x)
    rw [canon_again]
  · rfl
  · rfl
theorem cT_kept (c : C) (h0 : 0 ≤ c.val.kind) (h3 : c.val.kind ≤ 3) : cT (canonC c) = cT c := by
  obtain ⟨nm, op, v⟩ := c
  cases h7 : (op == 7)
  · have e : canonC ⟨nm, op, v⟩ = ⟨nm, op, canonV v⟩ := by unfold canonC; simp only [h7]; rfl
    rw [e]
    unfold cT
    simp only [h7, vT_kept v h0 h3]
  · have : op = 7 := by simpa using h7
    subst this
    rfl
theorem right_parts {c : C} (h : cRight c = true) : (∀ x ∈ c.name, x ≠ 32) ∧ 0 ≤ c.op ∧ c.op ≤ 7 ∧ 0 ≤ c.val.kind ∧ c.val.kind ≤ 3 := by
  unfold cRight vRight at h
  simp only [Bool.and_eq_true, decide_eq_true_eq] at h
  refine ⟨?_, h.1.1.2, h.1.2, h.2.1.1, h.2.1.2⟩
  have hn := h.1.1.1
  unfold Sc.nameB at hn
  simp only [Bool.and_eq_true] at hn
  have key : ∀ (l : List UInt8) (i : Nat), Sc.chsOk i l = true → ∀ x ∈ l, x ≠ 32 := by
    intro l
    induction l with
    | nil => intro _ _ x hx; cases hx
    | cons c l ih =>
      intro i h x hx
      rw [Sc.chsOk, Bool.and_eq_true] at h
      rcases List.mem_cons.1 hx with rfl | hx
      · have := h.1
        unfold Sc.chOk at this
        rintro rfl
        revert this
        simp
      · exact ih _ h.2 x hx
  exact key _ _ hn.1.1
/-- CONDITIONS THAT MAY BE, OF ONE TEXT, ARE KEPT ALIKE -/
theorem cT_inj (c d : C) (hc : cRight c = true) (hd : cRight d = true) (nc : c.val.num < 18446744073709551616) (nd : d.val.num < 18446744073709551616) (h : cT c = cT d) : canonC c = canonC d := by
  obtain ⟨c1, c2, c3, c4, c5⟩ := right_parts hc
  obtain ⟨d1, d2, d3, d4, d5⟩ := right_parts hd
  obtain ⟨nm, op, v⟩ := c
  obtain ⟨nm2, op2, v2⟩ := d
  simp only at *
  have hasE : ∀ n : List UInt8, hasT ++ n = [104, 97, 115] ++ 32 :: n := fun n => rfl
  have opE : ∀ (n : List UInt8) (o : Int) (w : V), n ++ [32] ++ wordB o ++ [32] ++ vT w = n ++ 32 :: (wordB o ++ 32 :: vT w) := fun n o w => by simp
  have wE : ∀ o : Int, 0 ≤ o → o ≤ 7 → wordB o = wordL o.toNat := fun o h1 h2 => by unfold wordB; rw [if_neg (by omega)]
  have h32 : ∀ x ∈ ([104, 97, 115] : List UInt8), x ≠ 32 := by decide
  unfold cT at h
  simp only at h
  cases o1 : (op == 7) <;> cases o2 : (op2 == 7) <;> simp only [o1, o2, Bool.false_eq_true, if_false, if_true] at h
  · have p1 : op ≠ 7 := by simpa using o1
    have p2 : op2 ≠ 7 := by simpa using o2
    rw [opE, opE] at h
    obtain ⟨e1, h2⟩ := cut32 _ _ _ _ c1 d1 h
    rw [wE op c2 c3, wE op2 d2 d3] at h2
    obtain ⟨e2, h3⟩ := cut32 _ _ _ _ (word_no32 _ (by omega)) (word_no32 _ (by omega)) h2
    have e3 := word_inj _ (by omega) _ (by omega) e2
    have e4 : op = op2 := by omega
    have h4 : vT v ++ [] = vT v2 ++ [] := by simpa using h3
    have e5 := (vT_apart v v2 ⟨c4, c5, nc⟩ ⟨d4, d5, nd⟩ [] [] (.inl rfl) (.inl rfl) h4).1
    have e6 := canonV_same v v2 ⟨c4, c5, nc⟩ ⟨d4, d5, nd⟩ e5
    unfold canonC
    simp only [o1, o2, Bool.false_eq_true, if_false]
    rw [e1, e4, e6]
  · exfalso
    rw [opE, hasE] at h
    obtain ⟨e1, h2⟩ := cut32 _ _ _ _ c1 h32 h
    exact d1 32 (by rw [← h2]; simp) rfl
  · exfalso
    rw [opE, hasE] at h
    obtain ⟨e1, h2⟩ := cut32 _ _ _ _ h32 d1 h
    exact c1 32 (by rw [h2]; simp) rfl
  · rw [hasE, hasE] at h
    obtain ⟨_, h2⟩ := cut32 _ _ _ _ h32 h32 h
    unfold canonC
    simp only [o1, o2, if_true]
    rw [h2]
theorem kept_inj {a b : C} (ha : CKept a) (hb : CKept b) (h : cT a = cT b) : a = b := by
  obtain ⟨c, c1, c2, rfl⟩ := ha
  obtain ⟨d, d1, d2, rfl⟩ := hb
  obtain ⟨_, _, _, k1, k2⟩ := right_parts c1
  obtain ⟨_, _, _, m1, m2⟩ := right_parts d1
  rw [cT_kept c k1 k2, cT_kept d m1 m2] at h
  exact cT_inj c d c1 d1 c2 d2 h
/-- a list of conditions that may be -/
def LOk (L : List C) : Prop := ∀ c ∈ L, cRight c = true ∧ c.val.num < 18446744073709551616
theorem LOk.kept {L : List C} (h : LOk L) : ∀ c ∈ L.map canonC, CKept c := fun c hc => by
  obtain ⟨d, hd, rfl⟩ := List.mem_map.1 hc
  exact ⟨d, (h d hd).1, (h d hd).2, rfl⟩
end Go.Proofs.YtnccpddjdgndcaaGreatDoor.Val
end

section
/- WHAT STAYS OF A ROW OF CONDITIONS: it hangs on which there are alone. No walk. -/
namespace Go.Proofs.YtnccpddjdgndcaaGreatDoor.Val
open Go.RowKit Flt
def ltC (a b : C) : Prop := cmpC a b < 0
/-- a row in order, each as it is kept -/
structure Rise (S : List C) : Prop where
  le : S.Pairwise leC
  kept : ∀ c ∈ S, CKept c
  op : ∀ c ∈ S, 0 ≤ c.op ∧ c.op ≤ 7
theorem Rise.at {S : List C} (h : Rise S) {i k : Nat} (hi : i < S.length) (hk : k < S.length) (hki : k < i) : leC (S[k]'hk) (S[i]'hi) := List.pairwise_iff_getElem.1 h.le k i hk hi hki
theorem Rise.lt {S : List C} (h : Rise S) {a b : C} (ha : a ∈ S) (hb : b ∈ S) (hl : leC a b) (hne : a ≠ b) : ltC a b := by
  rcases Int.lt_trichotomy (cmpC a b) 0 with e | e | e
  · exact e
  · exact absurd (kept_inj (h.kept a ha) (h.kept b hb) ((cb_zero _ _).1 e)) hne
  · exact absurd ((cb_anti (cT b) (cT a)).1.2 e) hl
theorem canon_op {c : C} (h : 0 ≤ c.op ∧ c.op ≤ 7) : 0 ≤ (canonC c).op ∧ (canonC c).op ≤ 7 := by
  unfold canonC
  split
  · exact ⟨by show (0 : Int) ≤ 7; omega, by show (7 : Int) ≤ 7; omega⟩
  · exact h
theorem LOk.rise {L : List C} (h : LOk L) : Rise (sortC (L.map canonC)) where
  le := sortC_rises _
  kept := fun c hc => h.kept c ((sortC_perm _).subset hc)
  op := fun c hc => by
    obtain ⟨d, hd, rfl⟩ := List.mem_map.1 ((sortC_perm _).subset hc)
    exact canon_op ⟨(right_parts (h d hd).1).2.1, (right_parts (h d hd).1).2.2.1⟩
end Go.Proofs.YtnccpddjdgndcaaGreatDoor.Val
end

section
/- WHAT FilterCovers, FilterNorms AND FilterKeys ASK, plain: conditions as they are kept imply what they did; one that none implies stays; a key tells its scope and conditions. No walk. -/
namespace Go.Proofs.YtnccpddjdgndcaaGreatDoor.Val
open Go.RowKit Flt
def KOk (v : V) : Prop := 0 ≤ v.kind ∧ v.kind ≤ 3
theorem KOk.canon {v : V} (h : KOk v) : KOk (canonV v) := by
  unfold KOk; rw [canonV_kind v h.1 h.2]; exact h
theorem KOk.of_right {c : C} (h : cRight c = true) : KOk c.val := ⟨(right_parts h).2.2.2.1, (right_parts h).2.2.2.2⟩
theorem KOk.canonC {c : C} (h : KOk c.val) : KOk (canonC c).val := by
  unfold Val.canonC
  split
  · exact ⟨Int.le_refl 0, by show (0 : Int) ≤ 3; decide⟩
  · exact h.canon
open Classical in
/-- below every one that is there stands one below which none stands -/
theorem least {α : Type} (S : List α) (R : α → α → Prop) (irr : ∀ x, ¬ R x x) (tr : ∀ x ∈ S, ∀ y ∈ S, ∀ z ∈ S, R z y → R y x → R z x) :
    ∀ n, ∀ c ∈ S, (S.filter (fun y => @decide (R y c) (Classical.propDecidable _))).length ≤ n → ∃ x ∈ S, (∀ y ∈ S, ¬ R y x) ∧ (x = c ∨ R x c) := by
  intro n
  induction n with
  | zero =>
    intro c hc h
    refine ⟨c, hc, fun y hy hr => ?_, .inl rfl⟩
    have hm : y ∈ S.filter (fun y => @decide (R y c) (Classical.propDecidable _)) := List.mem_filter.2 ⟨hy, decide_eq_true hr⟩
    rw [List.eq_nil_of_length_eq_zero (Nat.le_zero.1 h)] at hm
    cases hm
  | succ n ih =>
    intro c hc h
    by_cases hg : ∃ y ∈ S, R y c
    · obtain ⟨y, hy, hr⟩ := hg
      have hlt : (S.filter (fun z => @decide (R z y) (Classical.propDecidable _))).length < (S.filter (fun z => @decide (R z c) (Classical.propDecidable _))).length := by
        have he : S.filter (fun z => @decide (R z y) (Classical.propDecidable _)) = (S.filter (fun z => @decide (R z c) (Classical.propDecidable _))).filter (fun z => @decide (R z y) (Classical.propDecidable _)) := by
          rw [List.filter_filter]
          refine List.filter_congr fun z hz => ?_
          by_cases h1 : R z y
          · have h2 := tr c hc y hy z hz h1 hr
            simp [h1, h2]
          · simp [h1]
        rw [he]
        exact List.length_filter_lt_length_iff_exists.2 ⟨y, List.mem_filter.2 ⟨hy, decide_eq_true hr⟩, by simp [irr]⟩
      obtain ⟨x, hx, h1, h2⟩ := ih y hy (by omega)
      refine ⟨x, hx, h1, .inr ?_⟩
      rcases h2 with rfl | h2
      · exact hr
      · exact tr c hc y hy x hx h2 hr
    · exact ⟨c, hc, fun y hy hr => hg ⟨y, hy, hr⟩, .inl rfl⟩
theorem LOk.op {L : List C} (h : LOk L) : ∀ c ∈ L, 0 ≤ c.op ∧ c.op ≤ 7 := fun c hc => ⟨(right_parts (h c hc).1).2.1, (right_parts (h c hc).1).2.2.1⟩
theorem LOk.kind {L : List C} (h : LOk L) : ∀ c ∈ L, KOk c.val := fun c hc => KOk.of_right (h c hc).1
end Go.Proofs.YtnccpddjdgndcaaGreatDoor.Val
end
