/- MERGED BY A PROGRAM OF MINE (pmg.py) out of my own texts, pruned, in their order: OpenArr, OpenV, CondVoid, Canon, Attr, Match, Conds, OpenF, Sort1, SortFn, Sort2, Sort3, ImplFn, OrdKey, Same, Impl. -/
import Derived.Test.YtpbdgbejcdncgaaGreatDoorValFn
import Derived.Laws.CopyRow
import Derived.Laws.CopyOwn
import Derived.Lib.AppendZerosOnto
import Derived.Lib.Overlaps
import Derived.Laws.OwnMore
import Derived.Deep.RegionLaw
import Derived.Shelf.Spec.SlicesInsert
import Derived.Test.YtpbdgbejcdncgaaGreatDoorOpenG
import Derived.Deep.Slices
import Derived.Test.YtpbdgbejcdncgaaGreatDoorCond
import Derived.Test.YtpbdgbejcdncgaaGreatDoorName
import Derived.Test.YtpbdgbejcdncgaaGreatDoorCondFit
import Derived.Handy
import Derived.Laws.IdiomCopy
import Derived.Test.YtpbdgbejcdncgaaGreatDoorCPrint
import Derived.Laws.AppendOwn
import Derived.Test.YtpbdgbejcdncgaaGreatDoorOrd

section
/- TWO NUMBERS AS AN ARGUMENT. -/
namespace Go.Proofs.YtpbdgbejcdncgaaGreatDoor.Val
open Go.RowKit Go.ChangeShapes Go.WideShapes Go.ChangeAt
theorem okWide_arrv {Pr : Program} {w : World} {r : Reach} {b0 : Nat} {t e : TypeId} {n : Nat} {v : Value} (hu : Pr.underlying t = some (.array n e)) (hv : Value.okWide Pr w r b0 t v) : ∃ cs, v = .agg cs := by
  simp only [Value.okWide, hu] at hv
  obtain ⟨cs, h, _⟩ := hv
  exact ⟨cs, h⟩
set_option maxRecDepth 100000 in
theorem open_arr2 {H : Type} {enc : TypeId × Value → H} {w : World} {base : Nat} {spare : Nat → Bool} {held : Bool} {r : Reach} {b0 : Nat} {v : Value} {d : DataW H} {p : List MemPlace} (hv : Value.okWide Tryz.prog w r b0 25 v) (h : DataW.Trod enc Tryz.prog w base spare held 25 v d p) :
    ∃ m n : Int, v = .agg #[.int .i64 m, .int .i64 n] := by
  have hu : Tryz.prog.underlying 25 = some (.array 2 3) := Tryz.underlying25
  have hc : Tryz.prog.cellsOf 3 = 1 := by kernel_rfl
  have hc2 : Tryz.prog.cellsOf 25 = 2 := by kernel_rfl
  obtain ⟨cs, rfl⟩ := okWide_arrv hu hv
  obtain ⟨fuel, hf⟩ := h
  obtain ⟨xs, m, _, _, hl, hx, hi⟩ := DataW.trod_array hu hf
  rw [hc2] at hl
  obtain ⟨l⟩ := cs
  have hl' : l.length = 2 := by simpa [Value.cells] using hl
  match l, hl' with
  | [c0, c1], _ =>
    have h0 := hi 0 (by decide)
    have h1 := hi 1 (by decide)
    rw [hc] at h0 h1
    rw [List.getElem?_eq_getElem (by omega)] at h0 h1
    simp only [Value.cells, Nat.zero_mul, Nat.one_mul, List.drop_zero, List.drop_succ_cons, List.take_succ_cons, List.take_zero] at h0 h1
    obtain ⟨a, e0, _⟩ := DataW.trod_int Tryz.underlying3 h0
    obtain ⟨b, e1, _⟩ := DataW.trod_int Tryz.underlying3 h1
    simp only [List.cons.injEq, and_true] at e0 e1
    exact ⟨a, b, by rw [e0, e1]⟩
end Go.Proofs.YtpbdgbejcdncgaaGreatDoor.Val
end

section
/- WHAT THE OPENINGS OF SLICES SHARE. -/
namespace Go.Proofs.YtpbdgbejcdncgaaGreatDoor.Open
open Go.ChangeShapes Go.WideShapes Go.ChangeAt Go.RowKit Go.Deep
def VOk (v : Val.V) : Prop := ValOk v.kind v.int v.num v.text
instance : Inhabited Val.V := ⟨⟨0, 0, 0, [], false⟩⟩
section
variable {H : Type}
theorem weightsAll_mem {P : Program} {e : TypeId} : ∀ {l : List (DataW H)} {d : DataW H}, d ∈ l → ∀ n ∈ d.weights P e, n ∈ DataW.weightsAll P e l
  | d0 :: l, d, hd, n, hn => by
    rw [DataW.weightsAll, List.mem_append]
    rcases List.mem_cons.1 hd with rfl | hd
    · exact Or.inl hn
    · exact Or.inr (weightsAll_mem hd n hn)
end
end Go.Proofs.YtpbdgbejcdncgaaGreatDoor.Open
end

section
/- THE WALKS OF cond.Void and cond.Right, the laws' light. -/
namespace Go.Proofs.YtpbdgbejcdncgaaGreatDoor.Val
open Go.RowKit Flt
def cvoidB (c : C) : Bool := (c.op != 7 && voidB c.val) || (c.op == 6 && c.val.kind != 2)
def cRight (c : C) : Bool := Sc.nameB c.name && decide (0 ≤ c.op) && decide (c.op ≤ 7) && vRight c.val
set_option maxHeartbeats 400000 in
theorem cvoid_any (nm : List UInt8) (op k n : Int) (x : Nat) (t : List UInt8) (y : Bool) (w : World) :
    Calls Tryz.prog 59 #[cond nm op k n x t y] w fun e w' => e = .returned (.bool (cvoidB ⟨nm, op, k, n, x, t, y⟩)) ∧ Below w.heap.size w w' := by
  have hr : cvoidB ⟨nm, op, k, n, x, t, y⟩ = ((op != 7 && voidB ⟨k, n, x, t, y⟩) || (op == 6 && k != 2)) := rfl
  have hv (w : World) := void_any k n x t y w
  generalize voidB ⟨k, n, x, t, y⟩ = vb at *
  have HR := Lib.hid hr; have HV := Lib.hid hv; clear hr hv
  by_cases h7 : op = 7
  · subst h7
    go_enter Tryz.func59, Tryz.ntmps59
    go_wp2
    go_ret
    exact ⟨ret_bool (by rw [HR.out]; simp [*]), balloc _ _⟩
  by_cases h6 : op = 6
  · subst h6
    clear h7
    cases vb
    all_goals
      go_enter Tryz.func59, Tryz.ntmps59
      go_wp2_with (go_at_call 76; refine (HV.out _).mono ?_; rintro e w1 ⟨rfl, hb⟩; obtain ⟨hc, hf⟩ := bcell hb)
      go_ret
      exact ⟨ret_bool (by rw [HR.out]; simp [*]), btrans (balloc _ _) hb⟩
  cases vb
  all_goals
    go_enter Tryz.func59, Tryz.ntmps59
    go_wp2_with (go_at_call 76; refine (HV.out _).mono ?_; rintro e w1 ⟨rfl, hb⟩; obtain ⟨hc, hf⟩ := bcell hb)
    go_ret
    exact ⟨ret_bool (by rw [HR.out]; simp [*]), btrans (balloc _ _) hb⟩
theorem right_ways3 (op : Int) (n : Bool) : n = false ∨ (n = true ∧ decide (0 ≤ op) = false) ∨ (n = true ∧ decide (0 ≤ op) = true ∧ decide (op ≤ 7) = false) ∨ (n = true ∧ decide (0 ≤ op) = true ∧ decide (op ≤ 7) = true) := by
  cases n <;> cases decide (0 ≤ op) <;> cases decide (op ≤ 7) <;> simp
set_option maxHeartbeats 400000 in
theorem cright_any (nm : List UInt8) (op k n : Int) (x : Nat) (t : List UInt8) (y : Bool) (w : World) (hn : nm.length ≤ 140737488351232) (ht : t.length ≤ 140737488351232) :
    Calls Tryz.prog 15 #[cond nm op k n x t y] w fun e w' => e = .returned (.bool (cRight ⟨nm, op, k, n, x, t, y⟩)) ∧ Below w.heap.size w w' := by
  have hr : cRight ⟨nm, op, k, n, x, t, y⟩ = (Sc.nameB nm && decide (0 ≤ op) && decide (op ≤ 7) && vRight ⟨k, n, x, t, y⟩) := rfl
  have hv (w : World) := vright_any k n x t y w ht
  have hm (w : World) := Sc.name_l nm w hn
  generalize vRight ⟨k, n, x, t, y⟩ = vb at *
  generalize Sc.nameB nm = nb at *
  have HR := Lib.hid hr; have HV := Lib.hid hv; have HM := Lib.hid hm; clear hr hv hm
  rcases right_ways3 op nb with rfl | ⟨rfl, h1⟩ | ⟨rfl, h1, h2⟩ | ⟨rfl, h1, h2⟩
  · have HQ : Hid (cRight ⟨nm, op, k, n, x, t, y⟩ = false) := Lib.hid (by rw [HR.out]; rfl)
    go_enter Tryz.func15, Tryz.ntmps15
    go_wp2_with (first | (go_at_call 12; refine (HM.out _).mono ?_; rintro e w' ⟨rfl, rfl⟩) | (go_at_call 39; refine (HV.out _).mono ?_; rintro e w1 ⟨rfl, hb⟩; obtain ⟨hc, hf⟩ := bcell hb))
    go_ret
    exact ⟨ret_bool HQ.out.symm, by repeat (first | assumption | (with_reducible exact Below.refl _ _) | exact balloc _ _ | exact balloc2 _ _ _ | refine btrans ?_ (by assumption) | refine btrans ?_ (balloc _ _))⟩
  · have HQ : Hid (cRight ⟨nm, op, k, n, x, t, y⟩ = false) := Lib.hid (by rw [HR.out, h1]; rfl)
    go_enter Tryz.func15, Tryz.ntmps15
    go_wp2_with (first | (go_at_call 12; refine (HM.out _).mono ?_; rintro e w' ⟨rfl, rfl⟩) | (go_at_call 39; refine (HV.out _).mono ?_; rintro e w1 ⟨rfl, hb⟩; obtain ⟨hc, hf⟩ := bcell hb))
    go_ret
    exact ⟨ret_bool HQ.out.symm, by repeat (first | assumption | (with_reducible exact Below.refl _ _) | exact balloc _ _ | exact balloc2 _ _ _ | refine btrans ?_ (by assumption) | refine btrans ?_ (balloc _ _))⟩
  · have HQ : Hid (cRight ⟨nm, op, k, n, x, t, y⟩ = false) := Lib.hid (by rw [HR.out, h1, h2]; rfl)
    go_enter Tryz.func15, Tryz.ntmps15
    go_wp2_with (first | (go_at_call 12; refine (HM.out _).mono ?_; rintro e w' ⟨rfl, rfl⟩) | (go_at_call 39; refine (HV.out _).mono ?_; rintro e w1 ⟨rfl, hb⟩; obtain ⟨hc, hf⟩ := bcell hb))
    go_ret
    exact ⟨ret_bool HQ.out.symm, by repeat (first | assumption | (with_reducible exact Below.refl _ _) | exact balloc _ _ | exact balloc2 _ _ _ | refine btrans ?_ (by assumption) | refine btrans ?_ (balloc _ _))⟩
  · have HQ : Hid (cRight ⟨nm, op, k, n, x, t, y⟩ = vb) := Lib.hid (by rw [HR.out, h1, h2]; rfl)
    go_enter Tryz.func15, Tryz.ntmps15
    go_wp2_with (first | (go_at_call 12; refine (HM.out _).mono ?_; rintro e w' ⟨rfl, rfl⟩) | (go_at_call 39; refine (HV.out _).mono ?_; rintro e w1 ⟨rfl, hb⟩; obtain ⟨hc, hf⟩ := bcell hb))
    go_ret
    exact ⟨ret_bool HQ.out.symm, by repeat (first | assumption | (with_reducible exact Below.refl _ _) | exact balloc _ _ | exact balloc2 _ _ _ | refine btrans ?_ (by assumption) | refine btrans ?_ (balloc _ _))⟩
end Go.Proofs.YtpbdgbejcdncgaaGreatDoor.Val
end

section
/- THE WALKS OF value.Canon and cond.Canon. -/
namespace Go.Proofs.YtpbdgbejcdncgaaGreatDoor.Val
open Go.RowKit Flt
attribute [local go_sem] run_store_flt
def canonV (v : V) : V := if v.kind == 0 then ⟨0, v.int, 0, [], false⟩ else if v.kind == 1 then ⟨1, 0, Ord.canon v.num, [], false⟩ else if v.kind == 2 then ⟨2, 0, 0, v.text, false⟩ else if v.kind == 3 then ⟨3, 0, 0, [], v.yes⟩ else ⟨0, 0, 0, [], false⟩
/-- a value's own form -/
abbrev vv (v : V) : Value := val v.kind v.int v.num v.text v.yes
abbrev cc (c : C) : Value := cond c.name c.op c.val.kind c.val.int c.val.num c.val.text c.val.yes
def canonC (c : C) : C := if c.op == 7 then ⟨c.name, 7, 0, 0, 0, [], false⟩ else ⟨c.name, c.op, canonV c.val⟩
theorem kind_ways (k : Int) : (k == 0) = true ∨ ((k == 0) = false ∧ (k == 1) = true) ∨ ((k == 0) = false ∧ (k == 1) = false ∧ (k == 2) = true) ∨ ((k == 0) = false ∧ (k == 1) = false ∧ (k == 2) = false ∧ (k == 3) = true) ∨ ((k == 0) = false ∧ (k == 1) = false ∧ (k == 2) = false ∧ (k == 3) = false) := by
  cases h0 : (k == 0) <;> cases h1 : (k == 1) <;> cases h2 : (k == 2) <;> cases h3 : (k == 3) <;> simp
set_option maxHeartbeats 400000 in
theorem vcanon_any (k n : Int) (x : Nat) (t : List UInt8) (y : Bool) (w : World) :
    Calls Tryz.prog 40 #[val k n x t y] w fun e w' => e = .returned (vv (canonV ⟨k, n, x, t, y⟩)) ∧ Below w.heap.size w w' := by
  have hr : canonV ⟨k, n, x, t, y⟩ = if k == 0 then ⟨0, n, 0, [], false⟩ else if k == 1 then ⟨1, 0, Ord.canon x, [], false⟩ else if k == 2 then ⟨2, 0, 0, t, false⟩ else if k == 3 then ⟨3, 0, 0, [], y⟩ else ⟨0, 0, 0, [], false⟩ := rfl
  have HR := Lib.hid hr; clear hr
  rcases kind_ways k with h0 | ⟨h0, h1⟩ | ⟨h0, h1, h2⟩ | ⟨h0, h1, h2, h3⟩ | ⟨h0, h1, h2, h3⟩
  all_goals
    go_enter Tryz.func40, Tryz.ntmps40
    go_wp2_with (go_at_call 51; refine (Ord.canon_any _ _).mono ?_; rintro e w' ⟨rfl, rfl⟩)
    go_returns
    exact ⟨by rw [HR.out]; simp only [*, Bool.false_eq_true, if_false, if_true], by repeat (first | assumption | (with_reducible exact Below.refl _ _) | exact balloc _ _ | exact balloc2 _ _ _ | refine btrans ?_ (by assumption) | refine btrans ?_ (balloc _ _))⟩
theorem bdrew0 {w a : World} (h : Below w.drew.heap.size w.drew a) : Below w.heap.size w a := (bdrewN (Below.refl _ _) 1).trans h
theorem set7_far (w : World) (b b' o : Nat) (v0 v1 v2 v3 v4 v5 v6 : Value) (h : b ≠ b') : (((((((w.setCell ⟨b, 0, none⟩ v0).setCell ⟨b, 1, none⟩ v1).setCell ⟨b, 2, none⟩ v2).setCell ⟨b, 3, none⟩ v3).setCell ⟨b, 4, none⟩ v4).setCell ⟨b, 5, none⟩ v5).setCell ⟨b, 6, none⟩ v6).cell? ⟨b', o, none⟩ = w.cell? ⟨b', o, none⟩ :=
  World.cell?_setCells_out b [v0, v1, v2, v3, v4, v5, v6] 0 w ⟨b', o, none⟩ (fun h1 => absurd h1.symm h)
theorem set7_at (w : World) (b : Nat) (v0 v1 v2 v3 v4 v5 v6 : Value) (h : ∀ j, j < 7 → (w.cell? ⟨b, j, none⟩).isSome = true) :
    (((((((w.setCell ⟨b, 0, none⟩ v0).setCell ⟨b, 1, none⟩ v1).setCell ⟨b, 2, none⟩ v2).setCell ⟨b, 3, none⟩ v3).setCell ⟨b, 4, none⟩ v4).setCell ⟨b, 5, none⟩ v5).setCell ⟨b, 6, none⟩ v6).cell? ⟨b, 0, none⟩ = some v0 ∧
    (((((((w.setCell ⟨b, 0, none⟩ v0).setCell ⟨b, 1, none⟩ v1).setCell ⟨b, 2, none⟩ v2).setCell ⟨b, 3, none⟩ v3).setCell ⟨b, 4, none⟩ v4).setCell ⟨b, 5, none⟩ v5).setCell ⟨b, 6, none⟩ v6).cell? ⟨b, 1, none⟩ = some v1 ∧
    (((((((w.setCell ⟨b, 0, none⟩ v0).setCell ⟨b, 1, none⟩ v1).setCell ⟨b, 2, none⟩ v2).setCell ⟨b, 3, none⟩ v3).setCell ⟨b, 4, none⟩ v4).setCell ⟨b, 5, none⟩ v5).setCell ⟨b, 6, none⟩ v6).cell? ⟨b, 2, none⟩ = some v2 ∧
    (((((((w.setCell ⟨b, 0, none⟩ v0).setCell ⟨b, 1, none⟩ v1).setCell ⟨b, 2, none⟩ v2).setCell ⟨b, 3, none⟩ v3).setCell ⟨b, 4, none⟩ v4).setCell ⟨b, 5, none⟩ v5).setCell ⟨b, 6, none⟩ v6).cell? ⟨b, 3, none⟩ = some v3 ∧
    (((((((w.setCell ⟨b, 0, none⟩ v0).setCell ⟨b, 1, none⟩ v1).setCell ⟨b, 2, none⟩ v2).setCell ⟨b, 3, none⟩ v3).setCell ⟨b, 4, none⟩ v4).setCell ⟨b, 5, none⟩ v5).setCell ⟨b, 6, none⟩ v6).cell? ⟨b, 4, none⟩ = some v4 ∧
    (((((((w.setCell ⟨b, 0, none⟩ v0).setCell ⟨b, 1, none⟩ v1).setCell ⟨b, 2, none⟩ v2).setCell ⟨b, 3, none⟩ v3).setCell ⟨b, 4, none⟩ v4).setCell ⟨b, 5, none⟩ v5).setCell ⟨b, 6, none⟩ v6).cell? ⟨b, 5, none⟩ = some v5 ∧
    (((((((w.setCell ⟨b, 0, none⟩ v0).setCell ⟨b, 1, none⟩ v1).setCell ⟨b, 2, none⟩ v2).setCell ⟨b, 3, none⟩ v3).setCell ⟨b, 4, none⟩ v4).setCell ⟨b, 5, none⟩ v5).setCell ⟨b, 6, none⟩ v6).cell? ⟨b, 6, none⟩ = some v6 ∧
    Below b w (((((((w.setCell ⟨b, 0, none⟩ v0).setCell ⟨b, 1, none⟩ v1).setCell ⟨b, 2, none⟩ v2).setCell ⟨b, 3, none⟩ v3).setCell ⟨b, 4, none⟩ v4).setCell ⟨b, 5, none⟩ v5).setCell ⟨b, 6, none⟩ v6) := by
  have e := World.cell?_setCells_in b [v0, v1, v2, v3, v4, v5, v6] 0 w (fun j hj => by rw [Nat.zero_add]; exact h j hj)
  exact ⟨e 0 (by simp), e 1 (by simp), e 2 (by simp), e 3 (by simp), e 4 (by simp), e 5 (by simp), e 6 (by simp),
    (((((((Below.refl b w).setCell (Nat.le_refl _) _).setCell (Nat.le_refl _) _).setCell (Nat.le_refl _) _).setCell (Nat.le_refl _) _).setCell (Nat.le_refl _) _).setCell (Nat.le_refl _) _).setCell (Nat.le_refl _) _⟩
set_option maxHeartbeats 400000 in
theorem ccanon_any (nm : List UInt8) (op k n : Int) (x : Nat) (t : List UInt8) (y : Bool) (w : World) :
    Calls Tryz.prog 16 #[cond nm op k n x t y] w fun e w' => e = .returned (cc (canonC ⟨nm, op, k, n, x, t, y⟩)) ∧ Below w.heap.size w w' := by
  have hr : canonC ⟨nm, op, k, n, x, t, y⟩ = if op == 7 then ⟨nm, 7, 0, 0, 0, [], false⟩ else ⟨nm, op, canonV ⟨k, n, x, t, y⟩⟩ := rfl
  have hv (w : World) := vcanon_any k n x t y w
  generalize canonV ⟨k, n, x, t, y⟩ = cv at *
  obtain ⟨k', n', x', t', y'⟩ := cv
  have HR := Lib.hid hr; have HV := Lib.hid hv; clear hr hv
  cases h7 : (op == 7)
  rotate_left
  · go_enter Tryz.func16, Tryz.ntmps16
    go_wp2
    go_returns
    exact ⟨by rw [HR.out, h7]; rfl, by repeat (first | assumption | (with_reducible exact Below.refl _ _) | exact balloc _ _ | exact balloc2 _ _ _ | refine btrans ?_ (by assumption) | refine btrans ?_ (balloc _ _))⟩
  · go_enter Tryz.func16, Tryz.ntmps16
    go_wp2_with fail
    refine wp_region_held_drew (S := (fun w' => ∀ o, w'.cell? ⟨w.heap.size, o, none⟩ = #[(.string ⟨nm.toArray⟩), (.int .i64 op), (.int .i64 k), (.int .i64 n), (.float .f64 x), (.string ⟨t.toArray⟩), (.bool y)][o]?)) (by kernel_rfl) ?_ (fun hq0 => ?_)
    · ((try dsimp only); (first | (intro o; simp; done) | (intro o; rw [hc _ _ (by simp; omega)]; simp; done) | (intro o; refine (set7_far _ _ _ _ _ _ _ _ _ _ _ (by simp)).trans ?_; rw [hc _ _ (by simp; omega)]; simp)))
    (refine wpAnyH_take (i := 0) (oi := ?_) (v := ?_) ?_ (by kernel_rfl) (by kernel_rfl) (by kernel_rfl) ?_ (Or.inl ⟨?_, ?_⟩) (by assumption) ?_; rotate_left 2; (· (simp only [List.getElem?_toArray, List.getElem?_cons_zero]; first | done | rfl)); (· exact (fun _ _ _ h => h)); (· rfl); (· (intro w hSw; (try dsimp only at hSw); go_simp; (try with_reducible rfl))))
    (try simp only [Act.put, List.setIfInBounds_toArray, List.set_cons_zero, List.set_cons_succ])
    (refine wpAnyH_take (i := 1) (oi := ?_) (v := ?_) ?_ (by kernel_rfl) (by kernel_rfl) (by kernel_rfl) ?_ (Or.inl ⟨?_, ?_⟩) (by assumption) ?_; rotate_left 2; (· (simp only [List.getElem?_toArray, List.getElem?_cons_succ, List.getElem?_cons_zero]; first | done | rfl)); (· exact (fun _ _ _ h => h)); (· rfl); (· (intro w hSw; (try dsimp only at hSw); go_simp; (try with_reducible rfl))))
    (try simp only [Act.put, List.setIfInBounds_toArray, List.set_cons_zero, List.set_cons_succ])
    (refine wpAnyH_take (i := 2) (oi := ?_) (v := ?_) ?_ (by kernel_rfl) (by kernel_rfl) (by kernel_rfl) ?_ (Or.inl ⟨?_, ?_⟩) (by assumption) ?_; rotate_left 2; (· (simp only [List.getElem?_toArray, List.getElem?_cons_succ, List.getElem?_cons_zero]; first | done | rfl)); (· exact (fun _ _ _ h => h)); (· rfl); (· (intro w hSw; (try dsimp only at hSw); go_simp; (try with_reducible rfl))))
    (try simp only [Act.put, List.setIfInBounds_toArray, List.set_cons_zero, List.set_cons_succ])
    (refine wpAnyH_take (i := 3) (oi := ?_) (v := ?_) ?_ (by kernel_rfl) (by kernel_rfl) (by kernel_rfl) ?_ (Or.inl ⟨?_, ?_⟩) (by assumption) ?_; rotate_left 2; (· (simp only [List.getElem?_toArray, List.getElem?_cons_succ, List.getElem?_cons_zero]; first | done | rfl)); (· exact (fun _ _ _ h => h)); (· rfl); (· (intro w hSw; (try dsimp only at hSw); go_simp; (try with_reducible rfl))))
    (try simp only [Act.put, List.setIfInBounds_toArray, List.set_cons_zero, List.set_cons_succ])
    (refine wpAnyH_take (i := 4) (oi := ?_) (v := ?_) ?_ (by kernel_rfl) (by kernel_rfl) (by kernel_rfl) ?_ (Or.inl ⟨?_, ?_⟩) (by assumption) ?_; rotate_left 2; (· (simp only [List.getElem?_toArray, List.getElem?_cons_succ, List.getElem?_cons_zero]; first | done | rfl)); (· exact (fun _ _ _ h => h)); (· rfl); (· (intro w hSw; (try dsimp only at hSw); go_simp; (try with_reducible rfl))))
    (try simp only [Act.put, List.setIfInBounds_toArray, List.set_cons_zero, List.set_cons_succ])
    (refine wpAnyH_take (i := 5) (oi := ?_) (v := ?_) ?_ (by kernel_rfl) (by kernel_rfl) (by kernel_rfl) ?_ (Or.inl ⟨?_, ?_⟩) (by assumption) ?_; rotate_left 2; (· (simp only [List.getElem?_toArray, List.getElem?_cons_succ, List.getElem?_cons_zero]; first | done | rfl)); (· exact (fun _ _ _ h => h)); (· rfl); (· (intro w hSw; (try dsimp only at hSw); go_simp; (try with_reducible rfl))))
    (try simp only [Act.put, List.setIfInBounds_toArray, List.set_cons_zero, List.set_cons_succ])
    refine wpAnyH_ready (rs := [6]) (by kernel_rfl) (by simp) ?_
    refine AllReadyH.cons (o := ?_) ?_ (fun K hK => ?_) AllReadyH.nil
    rotate_left 1
    · (simp only [List.getElem?_toArray, List.getElem?_cons_succ, List.getElem?_cons_zero]; first | done | rfl)
    go_simp
    first | (refine hK.out _ _ ?_ (fun hq1 => ?_)) | ((go_at_call 40; refine (HV.out _).mono ?_; rintro e w1 ⟨rfl, hb⟩; obtain ⟨hc, hf⟩ := bcell hb); refine hK.out _ _ ?_ (fun hq1 => ?_)) | ((go_at_call 40; refine (HV.out _).mono ?_; rintro e w1 ⟨rfl, hb⟩; obtain ⟨hc, hf⟩ := bcell hb); go_wp2_with fail; refine hK.out _ _ ?_ (fun hq1 => ?_)) | fail
    · ((try dsimp only); (first | (intro o; simp; done) | (intro o; rw [hc _ _ (by simp; omega)]; simp; done) | (intro o; refine (set7_far _ _ _ _ _ _ _ _ _ _ _ (by simp)).trans ?_; rw [hc _ _ (by simp; omega)]; simp)))
    clear hK K
    (try simp only [Act.put, List.setIfInBounds_toArray, List.set_cons_zero, List.set_cons_succ])
    clear hq0
    (refine wpAnyH_take (i := 7) (oi := ?_) (v := ?_) ?_ (by kernel_rfl) (by kernel_rfl) (by kernel_rfl) ?_ (Or.inl ⟨?_, ?_⟩) (by assumption) ?_; rotate_left 2; (· (simp only [List.getElem?_toArray, List.getElem?_cons_succ, List.getElem?_cons_zero]; first | done | rfl)); (· exact (fun _ _ _ h => h)); (· rfl); (· (intro w hSw; (try dsimp only at hSw); go_simp; (try with_reducible rfl))))
    (try simp only [Act.put, List.setIfInBounds_toArray, List.set_cons_zero, List.set_cons_succ])
    refine wpAnyH_ready (rs := [8]) (by kernel_rfl) (by simp) ?_
    refine AllReadyH.cons (o := ?_) ?_ (fun K hK => ?_) AllReadyH.nil
    rotate_left 1
    · (simp only [List.getElem?_toArray, List.getElem?_cons_succ, List.getElem?_cons_zero]; first | done | rfl)
    go_simp
    first | (refine hK.out _ _ ?_ (fun hq2 => ?_)) | ((go_at_call 40; refine (HV.out _).mono ?_; rintro e w1 ⟨rfl, hb⟩; obtain ⟨hc, hf⟩ := bcell hb); refine hK.out _ _ ?_ (fun hq2 => ?_)) | ((go_at_call 40; refine (HV.out _).mono ?_; rintro e w1 ⟨rfl, hb⟩; obtain ⟨hc, hf⟩ := bcell hb); go_wp2_with fail; refine hK.out _ _ ?_ (fun hq2 => ?_)) | fail
    · ((try dsimp only); (first | (intro o; simp; done) | (intro o; rw [hc _ _ (by simp; omega)]; simp; done) | (intro o; refine (set7_far _ _ _ _ _ _ _ _ _ _ _ (by simp)).trans ?_; rw [hc _ _ (by simp; omega)]; simp)))
    clear hK K
    (try simp only [Act.put, List.setIfInBounds_toArray, List.set_cons_zero, List.set_cons_succ])
    clear hq1
    refine wpAnyH_done (by kernel_rfl) ?_ _
    go_wp2
    obtain ⟨e0, e1, e2, e3, e4, e5, e6, hb2⟩ := set7_at w1 (w.heap.size + 1) (.string ⟨nm.toArray⟩) (.int .i64 op) (.int .i64 k') (.int .i64 n') (.float .f64 x') (.string ⟨t'.toArray⟩) (.bool y') (fun j hj => by rw [hc _ _ (by simp)]; simp; omega)
    generalize World.setCell _ _ _ = W2 at *
    refine bodyPost_ret (v := cond nm op k' n' x' t' y') (by simp [results, Tryz.results16, go_sem, e0, e1, e2, e3, e4, e5, e6]; try rfl) rfl ?_
    exact ⟨by rw [HR.out, h7]; rfl, (btrans (balloc2 _ _ _) (bdrew0 hb)).trans (hb2.mono (by omega))⟩
theorem canonV_kind (v : V) (h0 : 0 ≤ v.kind) (h3 : v.kind ≤ 3) : (canonV v).kind = v.kind := by
  unfold canonV
  rcases kind_ways v.kind with h | ⟨h, h1⟩ | ⟨h, h1, h2⟩ | ⟨h, h1, h2, h3⟩ | ⟨h, h1, h2, h3⟩
  · simp only [h, if_true]; exact (beq_iff_eq.1 h).symm
  · simp only [h, h1, Bool.false_eq_true, if_false, if_true]; exact (beq_iff_eq.1 h1).symm
  · simp only [h, h1, h2, Bool.false_eq_true, if_false, if_true]; exact (beq_iff_eq.1 h2).symm
  · simp only [h, h1, h2, h3, Bool.false_eq_true, if_false, if_true]; exact (beq_iff_eq.1 h3).symm
  · simp at h h1 h2 h3; omega
end Go.Proofs.YtpbdgbejcdncgaaGreatDoor.Val
end

section
/- ATTRIBUTES: six cells each; the walks of event.find and event.Get, and of the library's search as event.find calls it. -/
namespace Go.Proofs.YtpbdgbejcdncgaaGreatDoor.Val
open Go.RowKit Flt
structure A where
  name : List UInt8
  val : V
instance : Inhabited A := ⟨⟨[], ⟨0, 0, 0, [], false⟩⟩⟩
abbrev aa (a : A) : Value := .agg #[.string ⟨a.name.toArray⟩, .int .i64 a.val.kind, .int .i64 a.val.int, .float .f64 a.val.num, .string ⟨a.val.text.toArray⟩, .bool a.val.yes]
def AAt (w : World) (p : Addr) (a : A) : Prop :=
  w.cell? p = some (.string ⟨a.name.toArray⟩) ∧ w.cell? ⟨p.block, p.off + 1, none⟩ = some (.int .i64 a.val.kind) ∧ w.cell? ⟨p.block, p.off + 2, none⟩ = some (.int .i64 a.val.int) ∧ w.cell? ⟨p.block, p.off + 3, none⟩ = some (.float .f64 a.val.num) ∧ w.cell? ⟨p.block, p.off + 4, none⟩ = some (.string ⟨a.val.text.toArray⟩) ∧ w.cell? ⟨p.block, p.off + 5, none⟩ = some (.bool a.val.yes)
def Attrs (w : World) (a0 : Option Addr) (l : List A) : Prop := ∀ i (h : i < l.length), ∃ a, a0 = some a ∧ AAt w (a.add (i * 6)) l[i]
theorem AAt.below {w w2 : World} {p : Addr} {a : A} (h : AAt w p a) (hb : Below w.heap.size w w2) : AAt w2 p a := by
  obtain ⟨h0, h1, h2, h3, h4, h5⟩ := h
  exact ⟨(hb.cell (World.block_lt_of_cell? _ _ h0)).trans h0, (hb.cell (World.block_lt_of_cell? _ _ h1)).trans h1, (hb.cell (World.block_lt_of_cell? _ _ h2)).trans h2, (hb.cell (World.block_lt_of_cell? _ _ h3)).trans h3, (hb.cell (World.block_lt_of_cell? _ _ h4)).trans h4, (hb.cell (World.block_lt_of_cell? _ _ h5)).trans h5⟩
theorem Attrs.below {w w2 : World} {a0 : Option Addr} {l : List A} (h : Attrs w a0 l) (hb : Below w.heap.size w w2) : Attrs w2 a0 l := fun i hi => by
  obtain ⟨a, e, h1⟩ := h i hi
  exact ⟨a, e, h1.below hb⟩
/-- where the search ends -/
def bs (l : List A) (t : List UInt8) (i j : Nat) : Nat :=
  if h : i < j then (if Lib.compareBytes (l[(i + j) / 2]!).name t < 0 then bs l t ((i + j) / 2 + 1) j else bs l t i ((i + j) / 2)) else i
termination_by j - i
attribute [local go_sem] run_store_flt
/-- an event's two cells -/
abbrev ev (sc : List UInt8) (a0 : Option Addr) (n cap : Nat) : Value := .agg #[.string ⟨sc.toArray⟩, .slice a0 n cap]
theorem set5_at (w : World) (b : Nat) (v0 v1 v2 v3 v4 : Value) (h : ∀ j, j < 5 → (w.cell? ⟨b, j, none⟩).isSome = true) :
    (((((w.setCell ⟨b, 0, none⟩ v0).setCell ⟨b, 1, none⟩ v1).setCell ⟨b, 2, none⟩ v2).setCell ⟨b, 3, none⟩ v3).setCell ⟨b, 4, none⟩ v4).cell? ⟨b, 0, none⟩ = some v0 ∧
    (((((w.setCell ⟨b, 0, none⟩ v0).setCell ⟨b, 1, none⟩ v1).setCell ⟨b, 2, none⟩ v2).setCell ⟨b, 3, none⟩ v3).setCell ⟨b, 4, none⟩ v4).cell? ⟨b, 1, none⟩ = some v1 ∧
    (((((w.setCell ⟨b, 0, none⟩ v0).setCell ⟨b, 1, none⟩ v1).setCell ⟨b, 2, none⟩ v2).setCell ⟨b, 3, none⟩ v3).setCell ⟨b, 4, none⟩ v4).cell? ⟨b, 2, none⟩ = some v2 ∧
    (((((w.setCell ⟨b, 0, none⟩ v0).setCell ⟨b, 1, none⟩ v1).setCell ⟨b, 2, none⟩ v2).setCell ⟨b, 3, none⟩ v3).setCell ⟨b, 4, none⟩ v4).cell? ⟨b, 3, none⟩ = some v3 ∧
    (((((w.setCell ⟨b, 0, none⟩ v0).setCell ⟨b, 1, none⟩ v1).setCell ⟨b, 2, none⟩ v2).setCell ⟨b, 3, none⟩ v3).setCell ⟨b, 4, none⟩ v4).cell? ⟨b, 4, none⟩ = some v4 ∧
    Below b w (((((w.setCell ⟨b, 0, none⟩ v0).setCell ⟨b, 1, none⟩ v1).setCell ⟨b, 2, none⟩ v2).setCell ⟨b, 3, none⟩ v3).setCell ⟨b, 4, none⟩ v4) := by
  have e := World.cell?_setCells_in b [v0, v1, v2, v3, v4] 0 w (fun j hj => by rw [Nat.zero_add]; exact h j hj)
  exact ⟨e 0 (by simp), e 1 (by simp), e 2 (by simp), e 3 (by simp), e 4 (by simp),
    (((((Below.refl b w).setCell (Nat.le_refl _) _).setCell (Nat.le_refl _) _).setCell (Nat.le_refl _) _).setCell (Nat.le_refl _) _).setCell (Nat.le_refl _) _⟩
end Go.Proofs.YtpbdgbejcdncgaaGreatDoor.Val
end

section
/- THE WALK OF cond.Match. -/
namespace Go.Proofs.YtpbdgbejcdncgaaGreatDoor.Val
open Go.RowKit Flt
attribute [local go_sem] run_store_flt
end Go.Proofs.YtpbdgbejcdncgaaGreatDoor.Val
end

section
/- CONDITIONS IN MEMORY: seven cells each. -/
namespace Go.Proofs.YtpbdgbejcdncgaaGreatDoor.Val
open Go.RowKit Flt
instance : Inhabited C := ⟨⟨[], 0, 0, 0, 0, [], false⟩⟩
def CAt (w : World) (p : Addr) (c : C) : Prop :=
  w.cell? p = some (.string ⟨c.name.toArray⟩) ∧ w.cell? ⟨p.block, p.off + 1, none⟩ = some (.int .i64 c.op) ∧ w.cell? ⟨p.block, p.off + 2, none⟩ = some (.int .i64 c.val.kind) ∧ w.cell? ⟨p.block, p.off + 3, none⟩ = some (.int .i64 c.val.int) ∧ w.cell? ⟨p.block, p.off + 4, none⟩ = some (.float .f64 c.val.num) ∧ w.cell? ⟨p.block, p.off + 5, none⟩ = some (.string ⟨c.val.text.toArray⟩) ∧ w.cell? ⟨p.block, p.off + 6, none⟩ = some (.bool c.val.yes)
def Conds (w : World) (a0 : Option Addr) (l : List C) : Prop := ∀ i (h : i < l.length), ∃ a, a0 = some a ∧ CAt w (a.add (i * 7)) l[i]
theorem CAt.below {w w2 : World} {p : Addr} {c : C} (h : CAt w p c) (hb : Below w.heap.size w w2) : CAt w2 p c := by
  obtain ⟨h0, h1, h2, h3, h4, h5, h6⟩ := h
  exact ⟨(hb.cell (World.block_lt_of_cell? _ _ h0)).trans h0, (hb.cell (World.block_lt_of_cell? _ _ h1)).trans h1, (hb.cell (World.block_lt_of_cell? _ _ h2)).trans h2, (hb.cell (World.block_lt_of_cell? _ _ h3)).trans h3, (hb.cell (World.block_lt_of_cell? _ _ h4)).trans h4, (hb.cell (World.block_lt_of_cell? _ _ h5)).trans h5, (hb.cell (World.block_lt_of_cell? _ _ h6)).trans h6⟩
theorem Conds.below {w w2 : World} {a0 : Option Addr} {l : List C} (h : Conds w a0 l) (hb : Below w.heap.size w w2) : Conds w2 a0 l := fun i hi => by
  obtain ⟨a, e, h1⟩ := h i hi
  exact ⟨a, e, h1.below hb⟩
theorem conds_nil (w : World) (a0 : Option Addr) : Conds w a0 [] := fun _ hi => absurd hi (Nat.not_lt_zero _)
theorem cat_new (w : World) (c : C) (e : TypeId) : CAt (w.alloc (.cells #[.string ⟨c.name.toArray⟩, .int .i64 c.op, .int .i64 c.val.kind, .int .i64 c.val.int, .float .f64 c.val.num, .string ⟨c.val.text.toArray⟩, .bool c.val.yes] e)) ⟨w.heap.size, 0, none⟩ c := by
  have hc : ∀ o, (w.alloc (.cells #[.string ⟨c.name.toArray⟩, .int .i64 c.op, .int .i64 c.val.kind, .int .i64 c.val.int, .float .f64 c.val.num, .string ⟨c.val.text.toArray⟩, .bool c.val.yes] e)).cell? ⟨w.heap.size, o, none⟩ = #[.string ⟨c.name.toArray⟩, .int .i64 c.op, .int .i64 c.val.kind, .int .i64 c.val.int, .float .f64 c.val.num, .string ⟨c.val.text.toArray⟩, .bool c.val.yes][o]? := fun o => World.cell?_alloc_at _ _ _ _ rfl
  exact ⟨hc 0, hc 1, hc 2, hc 3, hc 4, hc 5, hc 6⟩
end Go.Proofs.YtpbdgbejcdncgaaGreatDoor.Val
end

section
/- A FILTER AS AN ARGUMENT. -/
namespace Go.Proofs.YtpbdgbejcdncgaaGreatDoor.Open
open Go.ChangeShapes Go.WideShapes Go.ChangeAt Go.RowKit Go.Deep
def COk (c : Val.C) : Prop := CondOk c.name c.op c.val.kind c.val.int c.val.num c.val.text
section
variable {H : Type} {enc : TypeId × Value → H} {w : World} {base : Nat} {spare : Nat → Bool} {held : Bool}
set_option maxRecDepth 100000 in
theorem leaf_conds {W : List Nat} (hr : ∀ k ∈ W, k ≤ 140737488351232) {v : Value} (h : Leaf enc Tryz.prog w base spare held W 22 v) :
    ∃ (a0 : Option Addr) (cap : Nat) (l : List Val.C), v = .slice a0 l.length cap ∧ l.length ≤ cap ∧ cap ≤ maxLen ∧ Val.Conds w a0 l ∧ (∀ x ∈ l, COk x) ∧ (a0 = none → l = [] ∧ cap = 0) := by
  have hu : Tryz.prog.underlying 22 = some (.slice 49) := Tryz.underlying22
  have hce : Tryz.prog.cellsOf 49 = 7 := by kernel_rfl
  obtain ⟨fuel, ⟨d, pp⟩, hf, hW⟩ := h
  rcases open_slice hu hf with ⟨h0, _⟩ | ⟨a, len, cap, m, n, D, Pl, h0, hb, hl, hm, hmm, hx, hel⟩
  · have he : v = .slice none 0 0 := by simpa using h0
    subst he
    exact ⟨none, 0, [], rfl, Nat.le_refl _, Nat.zero_le _, fun _ h => absurd h (Nat.not_lt_zero _), fun _ hx => (nomatch hx), fun _ => ⟨rfl, rfl⟩⟩
  · have he : v = .slice (some a) len cap := by simpa using h0
    subst he
    have hlm : len ≤ m := by rw [hmm]; split <;> omega
    have each : ∀ i, i < len → ∃ x : Val.C, Val.CAt w (a.add (i * 7)) x ∧ COk x := by
      intro i hi
      obtain ⟨cs', h1, h2⟩ := hel i (by omega)
      rw [hce] at h1
      obtain ⟨_, hlen, hcell⟩ := World.cells?_some h1
      have hcs := cells_of 3 cond_packed h2 (by rw [hlen, hce])
      rw [cond_leaves] at hcs
      have hw : ∀ k ∈ DataW.weights Tryz.prog 49 (D i), k ≤ 140737488351232 := by
        intro k hk
        refine hr k (hW k ?_)
        have hd : d = .slice ((List.range len).map D) ((List.range (m - len)).map fun j => D (len + j)) := congrArg Prod.fst hx
        rw [hd]
        simp only [DataW.weights, hu]
        exact List.mem_cons_of_mem _ (List.mem_append_left _ (weightsAll_mem (List.mem_map.2 ⟨i, List.mem_range.2 hi, rfl⟩) k hk))
      obtain ⟨nm, op, k, nn, x, t, y, us, e, ok, hn⟩ := cond_cells hw (ts := []) hcs
      rw [hn.nil, List.append_nil] at e
      subst e
      refine ⟨⟨nm, op, ⟨k, nn, x, t, y⟩⟩, ⟨?_, ?_, ?_, ?_, ?_, ?_, ?_⟩, ok⟩
      · exact hcell 0 (by decide)
      · exact hcell 1 (by decide)
      · exact hcell 2 (by decide)
      · exact hcell 3 (by decide)
      · exact hcell 4 (by decide)
      · exact hcell 5 (by decide)
      · exact hcell 6 (by decide)
    obtain ⟨F, hF⟩ := choose_lt each
    refine ⟨some a, cap, (List.range len).map F, by simp, by simpa using hl, hm, fun i hi => ⟨a, rfl, ?_⟩, fun x hx => ?_, fun e => by cases e⟩
    · have hi' : i < len := by simpa using hi
      have : ((List.range len).map F)[i] = F i := by simp
      rw [this]
      exact (hF i hi').1
    · obtain ⟨i, hi, rfl⟩ := List.mem_map.1 hx
      exact (hF i (List.mem_range.1 hi)).2
theorem filter_leaves : leaves Tryz.prog 3 24 = [9, 22] := by kernel_rfl
theorem filter_packed : packed Tryz.prog 3 24 = true := by kernel_rfl
theorem filter_cells {W : List Nat} (hr : ∀ k ∈ W, k ≤ 140737488351232) {vs : List Value} (h : Cells enc Tryz.prog w base spare held W [9, 22] vs) :
    ∃ (sc : List UInt8) (a0 : Option Addr) (cap : Nat) (l : List Val.C), vs = [.string ⟨sc.toArray⟩, .slice a0 l.length cap] ∧ sc.length ≤ 140737488351232 ∧ l.length ≤ cap ∧ cap ≤ maxLen ∧ Val.Conds w a0 l ∧ (∀ x ∈ l, COk x) ∧ (a0 = none → l = [] ∧ cap = 0) := by
  obtain ⟨v0, u0, rfl, h0, r0⟩ := h.cons
  obtain ⟨v1, u1, rfl, h1, r1⟩ := r0.cons
  obtain ⟨sc, rfl, w0⟩ := h0.string Tryz.underlying9
  obtain ⟨a0, cap, l, rfl, q, m, s, k, n⟩ := leaf_conds hr h1
  exact ⟨sc, a0, cap, l, by rw [r1.nil], hr _ w0, q, m, s, k, n⟩
set_option maxRecDepth 100000 in
theorem open_filter {r : Reach} {b0 : Nat} {v : Value} {d : DataW H} {p : List MemPlace} (hv : Value.okWide Tryz.prog w r b0 24 v) (h : DataW.Trod enc Tryz.prog w base spare held 24 v d p)
    (hr : ∀ k ∈ DataW.weights Tryz.prog 24 d, k ≤ 140737488351232) :
    ∃ (sc : List UInt8) (a0 : Option Addr) (cap : Nat) (l : List Val.C), v = .agg #[.string ⟨sc.toArray⟩, .slice a0 l.length cap] ∧ sc.length ≤ 140737488351232 ∧ l.length ≤ cap ∧ cap ≤ maxLen ∧ Val.Conds w a0 l ∧ (∀ x ∈ l, COk x) ∧ (a0 = none → l = [] ∧ cap = 0) := by
  obtain ⟨cs, rfl, hc⟩ := arg_cells 3 Tryz.underlying24 filter_packed hv h
  rw [filter_leaves] at hc
  obtain ⟨sc, a0, cap, l, e, rest⟩ := filter_cells hr hc
  exact ⟨sc, a0, cap, l, by rw [← e], rest⟩
end
end Go.Proofs.YtpbdgbejcdncgaaGreatDoor.Open
end

section
/- THE WALK OF filter.Norm's comparison: by the conditions' texts. -/
namespace Go.Proofs.YtpbdgbejcdncgaaGreatDoor.Val
open Go.RowKit Flt
/-- a condition that is not long, whose numbers are words -/
def CSmall (c : C) : Prop := c.name.length ≤ 1000 ∧ c.val.text.length ≤ 1000 ∧ c.val.num < 18446744073709551616 ∧ -9223372036854775808 ≤ c.val.int ∧ c.val.int ≤ 9223372036854775807
/-- how two conditions stand -/
def cmpC (a b : C) : Int := Lib.compareBytes (cT a) (cT b)
theorem cp_below {a b : C} {w w1 w2 : World} (hb : Below w1.heap.size w1 w2) (h : w1.cell? ⟨w.heap.size, 0, none⟩ = some (.string ⟨a.name.toArray⟩) ∧ w1.cell? ⟨w.heap.size, 1, none⟩ = some (.int .i64 a.op) ∧ w1.cell? ⟨w.heap.size, 2, none⟩ = some (.int .i64 a.val.kind) ∧ w1.cell? ⟨w.heap.size, 3, none⟩ = some (.int .i64 a.val.int) ∧ w1.cell? ⟨w.heap.size, 4, none⟩ = some (.float .f64 a.val.num) ∧ w1.cell? ⟨w.heap.size, 5, none⟩ = some (.string ⟨a.val.text.toArray⟩) ∧ w1.cell? ⟨w.heap.size, 6, none⟩ = some (.bool a.val.yes) ∧ w1.cell? ⟨w.heap.size + 1, 0, none⟩ = some (.string ⟨b.name.toArray⟩) ∧ w1.cell? ⟨w.heap.size + 1, 1, none⟩ = some (.int .i64 b.op) ∧ w1.cell? ⟨w.heap.size + 1, 2, none⟩ = some (.int .i64 b.val.kind) ∧ w1.cell? ⟨w.heap.size + 1, 3, none⟩ = some (.int .i64 b.val.int) ∧ w1.cell? ⟨w.heap.size + 1, 4, none⟩ = some (.float .f64 b.val.num) ∧ w1.cell? ⟨w.heap.size + 1, 5, none⟩ = some (.string ⟨b.val.text.toArray⟩) ∧ w1.cell? ⟨w.heap.size + 1, 6, none⟩ = some (.bool b.val.yes) ∧ Below w.heap.size w w1 ∧ w.heap.size + 1 < w1.heap.size) :
    w2.cell? ⟨w.heap.size, 0, none⟩ = some (.string ⟨a.name.toArray⟩) ∧ w2.cell? ⟨w.heap.size, 1, none⟩ = some (.int .i64 a.op) ∧ w2.cell? ⟨w.heap.size, 2, none⟩ = some (.int .i64 a.val.kind) ∧ w2.cell? ⟨w.heap.size, 3, none⟩ = some (.int .i64 a.val.int) ∧ w2.cell? ⟨w.heap.size, 4, none⟩ = some (.float .f64 a.val.num) ∧ w2.cell? ⟨w.heap.size, 5, none⟩ = some (.string ⟨a.val.text.toArray⟩) ∧ w2.cell? ⟨w.heap.size, 6, none⟩ = some (.bool a.val.yes) ∧ w2.cell? ⟨w.heap.size + 1, 0, none⟩ = some (.string ⟨b.name.toArray⟩) ∧ w2.cell? ⟨w.heap.size + 1, 1, none⟩ = some (.int .i64 b.op) ∧ w2.cell? ⟨w.heap.size + 1, 2, none⟩ = some (.int .i64 b.val.kind) ∧ w2.cell? ⟨w.heap.size + 1, 3, none⟩ = some (.int .i64 b.val.int) ∧ w2.cell? ⟨w.heap.size + 1, 4, none⟩ = some (.float .f64 b.val.num) ∧ w2.cell? ⟨w.heap.size + 1, 5, none⟩ = some (.string ⟨b.val.text.toArray⟩) ∧ w2.cell? ⟨w.heap.size + 1, 6, none⟩ = some (.bool b.val.yes) ∧ Below w.heap.size w w2 ∧ w.heap.size + 1 < w2.heap.size := by
  obtain ⟨h0, h1, h2, h3, h4, h5, h6, h7, h8, h9, h10, h11, h12, h13, hB, hl⟩ := h
  have c : ∀ b o, b < w1.heap.size → w2.cell? ⟨b, o, none⟩ = w1.cell? ⟨b, o, none⟩ := fun b o h => hb.cell (p := ⟨b, o, none⟩) h
  exact ⟨(c _ _ (by omega)).trans h0, (c _ _ (by omega)).trans h1, (c _ _ (by omega)).trans h2, (c _ _ (by omega)).trans h3, (c _ _ (by omega)).trans h4, (c _ _ (by omega)).trans h5, (c _ _ (by omega)).trans h6, (c _ _ (by omega)).trans h7, (c _ _ (by omega)).trans h8, (c _ _ (by omega)).trans h9, (c _ _ (by omega)).trans h10, (c _ _ (by omega)).trans h11, (c _ _ (by omega)).trans h12, (c _ _ (by omega)).trans h13, btrans hB hb, Nat.lt_of_lt_of_le hl hb.size⟩
theorem cp_start {a b : C} {w : World} {T : TypeId} : ((w.alloc (.cells #[(.string ⟨a.name.toArray⟩), (.int .i64 a.op), (.int .i64 a.val.kind), (.int .i64 a.val.int), (.float .f64 a.val.num), (.string ⟨a.val.text.toArray⟩), (.bool a.val.yes)] T)).alloc (.cells #[(.string ⟨b.name.toArray⟩), (.int .i64 b.op), (.int .i64 b.val.kind), (.int .i64 b.val.int), (.float .f64 b.val.num), (.string ⟨b.val.text.toArray⟩), (.bool b.val.yes)] T)).drew.cell? ⟨w.heap.size, 0, none⟩ = some (.string ⟨a.name.toArray⟩) ∧ ((w.alloc (.cells #[(.string ⟨a.name.toArray⟩), (.int .i64 a.op), (.int .i64 a.val.kind), (.int .i64 a.val.int), (.float .f64 a.val.num), (.string ⟨a.val.text.toArray⟩), (.bool a.val.yes)] T)).alloc (.cells #[(.string ⟨b.name.toArray⟩), (.int .i64 b.op), (.int .i64 b.val.kind), (.int .i64 b.val.int), (.float .f64 b.val.num), (.string ⟨b.val.text.toArray⟩), (.bool b.val.yes)] T)).drew.cell? ⟨w.heap.size, 1, none⟩ = some (.int .i64 a.op) ∧ ((w.alloc (.cells #[(.string ⟨a.name.toArray⟩), (.int .i64 a.op), (.int .i64 a.val.kind), (.int .i64 a.val.int), (.float .f64 a.val.num), (.string ⟨a.val.text.toArray⟩), (.bool a.val.yes)] T)).alloc (.cells #[(.string ⟨b.name.toArray⟩), (.int .i64 b.op), (.int .i64 b.val.kind), (.int .i64 b.val.int), (.float .f64 b.val.num), (.string ⟨b.val.text.toArray⟩), (.bool b.val.yes)] T)).drew.cell? ⟨w.heap.size, 2, none⟩ = some (.int .i64 a.val.kind) ∧ ((w.alloc (.cells #[(.string ⟨a.name.toArray⟩), (.int .i64 a.op), (.int .i64 a.val.kind), (.int .i64 a.val.int), (.float .f64 a.val.num), (.string ⟨a.val.text.toArray⟩), (.bool a.val.yes)] T)).alloc (.cells #[(.string ⟨b.name.toArray⟩), (.int .i64 b.op), (.int .i64 b.val.kind), (.int .i64 b.val.int), (.float .f64 b.val.num), (.string ⟨b.val.text.toArray⟩), (.bool b.val.yes)] T)).drew.cell? ⟨w.heap.size, 3, none⟩ = some (.int .i64 a.val.int) ∧ ((w.alloc (.cells #[(.string ⟨a.name.toArray⟩), (.int .i64 a.op), (.int .i64 a.val.kind), (.int .i64 a.val.int), (.float .f64 a.val.num), (.string ⟨a.val.text.toArray⟩), (.bool a.val.yes)] T)).alloc (.cells #[(.string ⟨b.name.toArray⟩), (.int .i64 b.op), (.int .i64 b.val.kind), (.int .i64 b.val.int), (.float .f64 b.val.num), (.string ⟨b.val.text.toArray⟩), (.bool b.val.yes)] T)).drew.cell? ⟨w.heap.size, 4, none⟩ = some (.float .f64 a.val.num) ∧ ((w.alloc (.cells #[(.string ⟨a.name.toArray⟩), (.int .i64 a.op), (.int .i64 a.val.kind), (.int .i64 a.val.int), (.float .f64 a.val.num), (.string ⟨a.val.text.toArray⟩), (.bool a.val.yes)] T)).alloc (.cells #[(.string ⟨b.name.toArray⟩), (.int .i64 b.op), (.int .i64 b.val.kind), (.int .i64 b.val.int), (.float .f64 b.val.num), (.string ⟨b.val.text.toArray⟩), (.bool b.val.yes)] T)).drew.cell? ⟨w.heap.size, 5, none⟩ = some (.string ⟨a.val.text.toArray⟩) ∧ ((w.alloc (.cells #[(.string ⟨a.name.toArray⟩), (.int .i64 a.op), (.int .i64 a.val.kind), (.int .i64 a.val.int), (.float .f64 a.val.num), (.string ⟨a.val.text.toArray⟩), (.bool a.val.yes)] T)).alloc (.cells #[(.string ⟨b.name.toArray⟩), (.int .i64 b.op), (.int .i64 b.val.kind), (.int .i64 b.val.int), (.float .f64 b.val.num), (.string ⟨b.val.text.toArray⟩), (.bool b.val.yes)] T)).drew.cell? ⟨w.heap.size, 6, none⟩ = some (.bool a.val.yes) ∧ ((w.alloc (.cells #[(.string ⟨a.name.toArray⟩), (.int .i64 a.op), (.int .i64 a.val.kind), (.int .i64 a.val.int), (.float .f64 a.val.num), (.string ⟨a.val.text.toArray⟩), (.bool a.val.yes)] T)).alloc (.cells #[(.string ⟨b.name.toArray⟩), (.int .i64 b.op), (.int .i64 b.val.kind), (.int .i64 b.val.int), (.float .f64 b.val.num), (.string ⟨b.val.text.toArray⟩), (.bool b.val.yes)] T)).drew.cell? ⟨w.heap.size + 1, 0, none⟩ = some (.string ⟨b.name.toArray⟩) ∧ ((w.alloc (.cells #[(.string ⟨a.name.toArray⟩), (.int .i64 a.op), (.int .i64 a.val.kind), (.int .i64 a.val.int), (.float .f64 a.val.num), (.string ⟨a.val.text.toArray⟩), (.bool a.val.yes)] T)).alloc (.cells #[(.string ⟨b.name.toArray⟩), (.int .i64 b.op), (.int .i64 b.val.kind), (.int .i64 b.val.int), (.float .f64 b.val.num), (.string ⟨b.val.text.toArray⟩), (.bool b.val.yes)] T)).drew.cell? ⟨w.heap.size + 1, 1, none⟩ = some (.int .i64 b.op) ∧ ((w.alloc (.cells #[(.string ⟨a.name.toArray⟩), (.int .i64 a.op), (.int .i64 a.val.kind), (.int .i64 a.val.int), (.float .f64 a.val.num), (.string ⟨a.val.text.toArray⟩), (.bool a.val.yes)] T)).alloc (.cells #[(.string ⟨b.name.toArray⟩), (.int .i64 b.op), (.int .i64 b.val.kind), (.int .i64 b.val.int), (.float .f64 b.val.num), (.string ⟨b.val.text.toArray⟩), (.bool b.val.yes)] T)).drew.cell? ⟨w.heap.size + 1, 2, none⟩ = some (.int .i64 b.val.kind) ∧ ((w.alloc (.cells #[(.string ⟨a.name.toArray⟩), (.int .i64 a.op), (.int .i64 a.val.kind), (.int .i64 a.val.int), (.float .f64 a.val.num), (.string ⟨a.val.text.toArray⟩), (.bool a.val.yes)] T)).alloc (.cells #[(.string ⟨b.name.toArray⟩), (.int .i64 b.op), (.int .i64 b.val.kind), (.int .i64 b.val.int), (.float .f64 b.val.num), (.string ⟨b.val.text.toArray⟩), (.bool b.val.yes)] T)).drew.cell? ⟨w.heap.size + 1, 3, none⟩ = some (.int .i64 b.val.int) ∧ ((w.alloc (.cells #[(.string ⟨a.name.toArray⟩), (.int .i64 a.op), (.int .i64 a.val.kind), (.int .i64 a.val.int), (.float .f64 a.val.num), (.string ⟨a.val.text.toArray⟩), (.bool a.val.yes)] T)).alloc (.cells #[(.string ⟨b.name.toArray⟩), (.int .i64 b.op), (.int .i64 b.val.kind), (.int .i64 b.val.int), (.float .f64 b.val.num), (.string ⟨b.val.text.toArray⟩), (.bool b.val.yes)] T)).drew.cell? ⟨w.heap.size + 1, 4, none⟩ = some (.float .f64 b.val.num) ∧ ((w.alloc (.cells #[(.string ⟨a.name.toArray⟩), (.int .i64 a.op), (.int .i64 a.val.kind), (.int .i64 a.val.int), (.float .f64 a.val.num), (.string ⟨a.val.text.toArray⟩), (.bool a.val.yes)] T)).alloc (.cells #[(.string ⟨b.name.toArray⟩), (.int .i64 b.op), (.int .i64 b.val.kind), (.int .i64 b.val.int), (.float .f64 b.val.num), (.string ⟨b.val.text.toArray⟩), (.bool b.val.yes)] T)).drew.cell? ⟨w.heap.size + 1, 5, none⟩ = some (.string ⟨b.val.text.toArray⟩) ∧ ((w.alloc (.cells #[(.string ⟨a.name.toArray⟩), (.int .i64 a.op), (.int .i64 a.val.kind), (.int .i64 a.val.int), (.float .f64 a.val.num), (.string ⟨a.val.text.toArray⟩), (.bool a.val.yes)] T)).alloc (.cells #[(.string ⟨b.name.toArray⟩), (.int .i64 b.op), (.int .i64 b.val.kind), (.int .i64 b.val.int), (.float .f64 b.val.num), (.string ⟨b.val.text.toArray⟩), (.bool b.val.yes)] T)).drew.cell? ⟨w.heap.size + 1, 6, none⟩ = some (.bool b.val.yes) ∧ Below w.heap.size w ((w.alloc (.cells #[(.string ⟨a.name.toArray⟩), (.int .i64 a.op), (.int .i64 a.val.kind), (.int .i64 a.val.int), (.float .f64 a.val.num), (.string ⟨a.val.text.toArray⟩), (.bool a.val.yes)] T)).alloc (.cells #[(.string ⟨b.name.toArray⟩), (.int .i64 b.op), (.int .i64 b.val.kind), (.int .i64 b.val.int), (.float .f64 b.val.num), (.string ⟨b.val.text.toArray⟩), (.bool b.val.yes)] T)).drew ∧ w.heap.size + 1 < ((w.alloc (.cells #[(.string ⟨a.name.toArray⟩), (.int .i64 a.op), (.int .i64 a.val.kind), (.int .i64 a.val.int), (.float .f64 a.val.num), (.string ⟨a.val.text.toArray⟩), (.bool a.val.yes)] T)).alloc (.cells #[(.string ⟨b.name.toArray⟩), (.int .i64 b.op), (.int .i64 b.val.kind), (.int .i64 b.val.int), (.float .f64 b.val.num), (.string ⟨b.val.text.toArray⟩), (.bool b.val.yes)] T)).drew.heap.size := by
  have c1 : ∀ o, ((w.alloc (.cells #[(.string ⟨a.name.toArray⟩), (.int .i64 a.op), (.int .i64 a.val.kind), (.int .i64 a.val.int), (.float .f64 a.val.num), (.string ⟨a.val.text.toArray⟩), (.bool a.val.yes)] T)).alloc (.cells #[(.string ⟨b.name.toArray⟩), (.int .i64 b.op), (.int .i64 b.val.kind), (.int .i64 b.val.int), (.float .f64 b.val.num), (.string ⟨b.val.text.toArray⟩), (.bool b.val.yes)] T)).drew.cell? ⟨w.heap.size, o, none⟩ = #[(.string ⟨a.name.toArray⟩), (.int .i64 a.op), (.int .i64 a.val.kind), (.int .i64 a.val.int), (.float .f64 a.val.num), (.string ⟨a.val.text.toArray⟩), (.bool a.val.yes)][o]? := fun o => ((balloc (w.alloc (.cells #[(.string ⟨a.name.toArray⟩), (.int .i64 a.op), (.int .i64 a.val.kind), (.int .i64 a.val.int), (.float .f64 a.val.num), (.string ⟨a.val.text.toArray⟩), (.bool a.val.yes)] T)) _).cell (p := ⟨w.heap.size, o, none⟩) (by simp)).trans (World.cell?_alloc_at _ _ _ _ rfl)
  have c2 : ∀ o, ((w.alloc (.cells #[(.string ⟨a.name.toArray⟩), (.int .i64 a.op), (.int .i64 a.val.kind), (.int .i64 a.val.int), (.float .f64 a.val.num), (.string ⟨a.val.text.toArray⟩), (.bool a.val.yes)] T)).alloc (.cells #[(.string ⟨b.name.toArray⟩), (.int .i64 b.op), (.int .i64 b.val.kind), (.int .i64 b.val.int), (.float .f64 b.val.num), (.string ⟨b.val.text.toArray⟩), (.bool b.val.yes)] T)).drew.cell? ⟨w.heap.size + 1, o, none⟩ = #[(.string ⟨b.name.toArray⟩), (.int .i64 b.op), (.int .i64 b.val.kind), (.int .i64 b.val.int), (.float .f64 b.val.num), (.string ⟨b.val.text.toArray⟩), (.bool b.val.yes)][o]? := fun o => World.cell?_alloc_at _ _ _ _ (by simp)
  exact ⟨c1 0, c1 1, c1 2, c1 3, c1 4, c1 5, c1 6, c2 0, c2 1, c2 2, c2 3, c2 4, c2 5, c2 6, bdrewN (balloc2 _ _ _) 1, by show w.heap.size + 1 < ((w.alloc (.cells #[(.string ⟨a.name.toArray⟩), (.int .i64 a.op), (.int .i64 a.val.kind), (.int .i64 a.val.int), (.float .f64 a.val.num), (.string ⟨a.val.text.toArray⟩), (.bool a.val.yes)] T)).alloc (.cells #[(.string ⟨b.name.toArray⟩), (.int .i64 b.op), (.int .i64 b.val.kind), (.int .i64 b.val.int), (.float .f64 b.val.num), (.string ⟨b.val.text.toArray⟩), (.bool b.val.yes)] T)).heap.size; simp⟩
theorem cp_own {a b : C} {w w1 : World} (h : w1.cell? ⟨w.heap.size, 0, none⟩ = some (.string ⟨a.name.toArray⟩) ∧ w1.cell? ⟨w.heap.size, 1, none⟩ = some (.int .i64 a.op) ∧ w1.cell? ⟨w.heap.size, 2, none⟩ = some (.int .i64 a.val.kind) ∧ w1.cell? ⟨w.heap.size, 3, none⟩ = some (.int .i64 a.val.int) ∧ w1.cell? ⟨w.heap.size, 4, none⟩ = some (.float .f64 a.val.num) ∧ w1.cell? ⟨w.heap.size, 5, none⟩ = some (.string ⟨a.val.text.toArray⟩) ∧ w1.cell? ⟨w.heap.size, 6, none⟩ = some (.bool a.val.yes) ∧ w1.cell? ⟨w.heap.size + 1, 0, none⟩ = some (.string ⟨b.name.toArray⟩) ∧ w1.cell? ⟨w.heap.size + 1, 1, none⟩ = some (.int .i64 b.op) ∧ w1.cell? ⟨w.heap.size + 1, 2, none⟩ = some (.int .i64 b.val.kind) ∧ w1.cell? ⟨w.heap.size + 1, 3, none⟩ = some (.int .i64 b.val.int) ∧ w1.cell? ⟨w.heap.size + 1, 4, none⟩ = some (.float .f64 b.val.num) ∧ w1.cell? ⟨w.heap.size + 1, 5, none⟩ = some (.string ⟨b.val.text.toArray⟩) ∧ w1.cell? ⟨w.heap.size + 1, 6, none⟩ = some (.bool b.val.yes) ∧ Below w.heap.size w w1 ∧ w.heap.size + 1 < w1.heap.size) : Below w.heap.size w w1 := h.2.2.2.2.2.2.2.2.2.2.2.2.2.2.1
set_option maxRecDepth 20000 in
set_option maxHeartbeats 2000000 in
theorem cmp_any (a b : C) (w : World) (hw : Words w) (hT : Tab.Tabs w) (ha : CSmall a) (hb : CSmall b) :
    Calls Tryz.prog 18 #[cc a, cc b] w fun e w' => e = .returned (.int .i64 (cmpC a b)) ∧ Below w.heap.size w w' := by
  have hpa : ∀ w1, Below w.heap.size w w1 → Calls Tryz.prog 20 #[cc a] w1 fun e w' => e = .returned (.string ⟨(cT a).toArray⟩) ∧ Below w1.heap.size w1 w' :=
    fun w1 hb1 => cprint_any a.name a.op a.val.kind a.val.int a.val.num a.val.text a.val.yes w1 (hw.below hb1) (hT.below hb1 (Nat.le_refl _)) (by have := ha.1; omega) (by have := ha.2.1; omega) ha.2.2.1 ha.2.2.2.1 ha.2.2.2.2
  have hpb : ∀ w1, Below w.heap.size w w1 → Calls Tryz.prog 20 #[cc b] w1 fun e w' => e = .returned (.string ⟨(cT b).toArray⟩) ∧ Below w1.heap.size w1 w' :=
    fun w1 hb1 => cprint_any b.name b.op b.val.kind b.val.int b.val.num b.val.text b.val.yes w1 (hw.below hb1) (hT.below hb1 (Nat.le_refl _)) (by have := hb.1; omega) (by have := hb.2.1; omega) hb.2.2.1 hb.2.2.2.1 hb.2.2.2.2
  have hr : cmpC a b = Lib.compareBytes (cT a) (cT b) := rfl
  generalize cT a = ta at *
  generalize cT b = tb at *
  generalize cmpC a b = R at *
  have HPA := Lib.hid hpa; have HPB := Lib.hid hpb; have HR := Lib.hid hr
  clear hpa hpb hr hw hT ha hb
  go_enter Tryz.func18, Tryz.ntmps18
  go_wp2_with fail
  go_region_held3 (fun w' => w'.cell? ⟨w.heap.size, 0, none⟩ = some (.string ⟨a.name.toArray⟩) ∧ w'.cell? ⟨w.heap.size, 1, none⟩ = some (.int .i64 a.op) ∧ w'.cell? ⟨w.heap.size, 2, none⟩ = some (.int .i64 a.val.kind) ∧ w'.cell? ⟨w.heap.size, 3, none⟩ = some (.int .i64 a.val.int) ∧ w'.cell? ⟨w.heap.size, 4, none⟩ = some (.float .f64 a.val.num) ∧ w'.cell? ⟨w.heap.size, 5, none⟩ = some (.string ⟨a.val.text.toArray⟩) ∧ w'.cell? ⟨w.heap.size, 6, none⟩ = some (.bool a.val.yes) ∧ w'.cell? ⟨w.heap.size + 1, 0, none⟩ = some (.string ⟨b.name.toArray⟩) ∧ w'.cell? ⟨w.heap.size + 1, 1, none⟩ = some (.int .i64 b.op) ∧ w'.cell? ⟨w.heap.size + 1, 2, none⟩ = some (.int .i64 b.val.kind) ∧ w'.cell? ⟨w.heap.size + 1, 3, none⟩ = some (.int .i64 b.val.int) ∧ w'.cell? ⟨w.heap.size + 1, 4, none⟩ = some (.float .f64 b.val.num) ∧ w'.cell? ⟨w.heap.size + 1, 5, none⟩ = some (.string ⟨b.val.text.toArray⟩) ∧ w'.cell? ⟨w.heap.size + 1, 6, none⟩ = some (.bool b.val.yes) ∧ Below w.heap.size w w' ∧ w.heap.size + 1 < w'.heap.size)
    (first | exact cp_start | assumption | exact cp_below (by assumption) (by assumption))
    (first | (go_at_call 20; (first | (with_reducible refine (HPA.out _ ?_).mono ?_) | (with_reducible refine (HPB.out _ ?_).mono ?_)); (· exact cp_own (by assumption)); rintro e w7 ⟨rfl, hb7⟩) | (go_at_call 19; refine (Tryz.strings_Compare _ _ _).mono ?_; rintro e w8 ⟨rfl, rfl⟩))
  go_wp2_with fail
  go_ret
  exact ⟨by rw [HR.out]; rfl, cp_own (by assumption)⟩
end Go.Proofs.YtpbdgbejcdncgaaGreatDoor.Val
end

section
/- CONDITIONS IN A ROW, and how the library sorts a short row: plain, and in memory. No walk. -/
namespace Go.Proofs.YtpbdgbejcdncgaaGreatDoor.Val
open Go.RowKit Flt
def cells7 (c : C) : List Value := [.string ⟨c.name.toArray⟩, .int .i64 c.op, .int .i64 c.val.kind, .int .i64 c.val.int, .float .f64 c.val.num, .string ⟨c.val.text.toArray⟩, .bool c.val.yes]
def flatC (l : List C) : List Value := l.flatMap cells7
theorem flatC_len (l : List C) : (flatC l).length = l.length * 7 := by
  induction l with
  | nil => rfl
  | cons v l ih => unfold flatC at *; rw [List.flatMap_cons, List.length_append, ih]; simp [cells7]; omega
theorem flatC_at : ∀ (l : List C) (i j : Nat) (hi : i < l.length), j < 7 → (flatC l)[i * 7 + j]? = (cells7 l[i])[j]?
  | v :: l, 0, j, _, hj => by
    unfold flatC; rw [List.flatMap_cons, List.getElem?_append_left (by simp [cells7]; omega)]; simp
  | v :: l, i + 1, j, hi, hj => by
    unfold flatC; rw [List.flatMap_cons, List.getElem?_append_right (by simp [cells7]; omega)]
    have e : (i + 1) * 7 + j - (cells7 v).length = i * 7 + j := by simp [cells7]; omega
    rw [e]
    exact flatC_at l i j (by simpa using hi) hj
theorem flatC_one (l : List C) : ∀ u ∈ flatC l, u.oneCell' = true := by
  intro u hu
  obtain ⟨v, _, hv⟩ := List.mem_flatMap.1 hu
  simp only [cells7, List.mem_cons, List.not_mem_nil, or_false] at hv
  rcases hv with rfl | rfl | rfl | rfl | rfl | rfl | rfl <;> rfl
theorem flatC_app (l : List C) (a : C) : flatC (l ++ [a]) = flatC l ++ flatC [a] := by simp [flatC]
/-- a row of conditions, in a block of its own, Z behind -/
def Row (w : World) (g : Nat) (l : List C) (Z : List Value) : Prop := w.heap[g]? = some (.cells (flatC l ++ Z).toArray 49 (0, 0))
theorem Row.at {w : World} {g : Nat} {l : List C} {Z : List Value} (h : Row w g l Z) (i j : Nat) (hi : i < l.length) (hj : j < 7) : w.cell? ⟨g, i * 7 + j, none⟩ = (cells7 l[i])[j]? := by
  have hl := flatC_len l
  rw [cell_of_row w g _ _ _ _ h]
  rw [List.getElem?_toArray, List.getElem?_append_left (by omega), flatC_at l i j hi hj]
theorem Row.cat {w : World} {g : Nat} {l : List C} {Z : List Value} (h : Row w g l Z) (i : Nat) (hi : i < l.length) : CAt w ⟨g, i * 7, none⟩ l[i] :=
  ⟨h.at i 0 hi (by decide), h.at i 1 hi (by decide), h.at i 2 hi (by decide), h.at i 3 hi (by decide), h.at i 4 hi (by decide), h.at i 5 hi (by decide), h.at i 6 hi (by decide)⟩
theorem Row.frz {w : World} {g : Nat} {l : List C} {Z : List Value} (h : Row w g l Z) (o : Nat) : w.frozen? ⟨g, o, none⟩ = false := by
  unfold Row at h
  simp [World.frozen?, h]
theorem Row.lt {w : World} {g : Nat} {l : List C} {Z : List Value} (h : Row w g l Z) : g < w.heap.size := (Array.getElem?_eq_some_iff.1 h).1
theorem Row.below {w w2 : World} {g : Nat} {l : List C} {Z : List Value} {B : Nat} (h : Row w g l Z) (hb : Below B w w2) (hg : g < B) : Row w2 g l Z := (hb.block g hg).trans h
theorem setCell_row {w : World} {g : Nat} {cs : Array Value} {t : TypeId} {fz : Nat × Nat} (h : w.heap[g]? = some (.cells cs t fz)) (o : Nat) (v : Value) :
    (w.setCell ⟨g, o, none⟩ v).heap[g]? = some (.cells (cs.setIfInBounds o v) t fz) := by
  unfold World.setCell
  simp [Array.getElem?_modify, h]
theorem set_mid (P Q : List Value) (x0 x1 x2 x3 x4 x5 x6 v0 v1 v2 v3 v4 v5 v6 : Value) (n : Nat) (hn : P.length = n) :
    (((((((P ++ x0 :: x1 :: x2 :: x3 :: x4 :: x5 :: x6 :: Q).set n v0).set (n + 1) v1).set (n + 2) v2).set (n + 3) v3).set (n + 4) v4).set (n + 5) v5).set (n + 6) v6 =
      P ++ v0 :: v1 :: v2 :: v3 :: v4 :: v5 :: v6 :: Q := by
  subst hn
  have e : ∀ (k : Nat) (L : List Value) (v : Value), (P ++ L).set (P.length + k) v = P ++ L.set k v := fun k L v => by
    rw [List.set_append_right _ _ (by omega)]
    congr 2
    omega
  have e0 : ∀ (L : List Value) (v : Value), (P ++ L).set P.length v = P ++ L.set 0 v := fun L v => e 0 L v
  rw [e0, e, e, e, e, e, e]
  rfl
/-- seven cells stored -/
def put7 (w : World) (g o : Nat) (c : C) : World :=
  ((((((w.setCell ⟨g, o, none⟩ (.string ⟨c.name.toArray⟩)).setCell ⟨g, o + 1, none⟩ (.int .i64 c.op)).setCell ⟨g, o + 2, none⟩ (.int .i64 c.val.kind)).setCell ⟨g, o + 3, none⟩ (.int .i64 c.val.int)).setCell ⟨g, o + 4, none⟩ (.float .f64 c.val.num)).setCell ⟨g, o + 5, none⟩ (.string ⟨c.val.text.toArray⟩)).setCell ⟨g, o + 6, none⟩ (.bool c.val.yes)
theorem store7 {w : World} {g : Nat} {cs : Array Value} {t : TypeId} {fz : Nat × Nat} (h : w.heap[g]? = some (.cells cs t fz)) (o : Nat) (c : C) :
    (put7 w g o c).heap[g]? = some (.cells (((((((cs.setIfInBounds o (.string ⟨c.name.toArray⟩)).setIfInBounds (o + 1) (.int .i64 c.op)).setIfInBounds (o + 2) (.int .i64 c.val.kind)).setIfInBounds (o + 3) (.int .i64 c.val.int)).setIfInBounds (o + 4) (.float .f64 c.val.num)).setIfInBounds (o + 5) (.string ⟨c.val.text.toArray⟩)).setIfInBounds (o + 6) (.bool c.val.yes)) t fz) :=
  setCell_row (setCell_row (setCell_row (setCell_row (setCell_row (setCell_row (setCell_row h o _) _ _) _ _) _ _) _ _) _ _) _ _
theorem flatC_split (l : List C) (j : Nat) (hj : j < l.length) : flatC l = flatC (l.take j) ++ (cells7 l[j] ++ flatC (l.drop (j + 1))) := by
  have e : l = l.take j ++ l[j] :: l.drop (j + 1) := by
    rw [← List.drop_eq_getElem_cons hj, List.take_append_drop]
  rw [show flatC l = flatC (l.take j ++ l[j] :: l.drop (j + 1)) from congrArg flatC e]
  unfold flatC
  rw [List.flatMap_append, List.flatMap_cons]
theorem Row.put {w : World} {g : Nat} {l : List C} {Z : List Value} (h : Row w g l Z) (j : Nat) (hj : j < l.length) (c : C) : Row (put7 w g (j * 7) c) g (l.set j c) Z := by
  refine (store7 h (j * 7) c).trans (congrArg (fun z => some (Obj.cells z 49 (0, 0))) (Array.ext' ?_))
  simp only [Array.toList_setIfInBounds]
  rw [flatC_split l j hj, flatC_split (l.set j c) j (by simpa using hj)]
  have hp : (flatC (l.take j)).length = j * 7 := by rw [flatC_len, List.length_take]; rw [Nat.min_eq_left (by omega)]
  have e1 : (l.set j c).take j = l.take j := List.take_set_of_le (Nat.le_refl _)
  have e2 : (l.set j c).drop (j + 1) = l.drop (j + 1) := List.drop_set_of_lt (by omega)
  have e3 : (l.set j c)[j]'(by simpa using hj) = c := List.getElem_set_self ..
  rw [e1, e2, e3]
  simp only [cells7, List.append_assoc, List.cons_append, List.nil_append]
  exact set_mid _ _ _ _ _ _ _ _ _ _ _ _ _ _ _ _ _ hp
theorem below_put7 {w : World} {B g : Nat} (hg : B ≤ g) (o : Nat) (c : C) : Below B w (put7 w g o c) :=
  (((((((Below.refl B w).setCell hg _).setCell hg _).setCell hg _).setCell hg _).setCell hg _).setCell hg _).setCell hg _
/-- two neighbours change places -/
def swp (L : List C) (j : Nat) : List C := (L.set (j + 1) L[j]!).set j L[j + 1]!
/-- one goes down as far as it is below its neighbour -/
def bub : List C → Nat → List C
  | L, 0 => L
  | L, j + 1 => if cmpC L[j + 1]! L[j]! < 0 then bub (swp L j) j else L
/-- the first i + 1 are brought in order -/
def isort (L : List C) : Nat → List C
  | 0 => L
  | i + 1 => bub (isort L i) (i + 1)
theorem swp_len (L : List C) (j : Nat) : (swp L j).length = L.length := by simp [swp]
theorem bub_len : ∀ (j : Nat) (L : List C), (bub L j).length = L.length
  | 0, L => rfl
  | j + 1, L => by
    unfold bub
    split
    · rw [bub_len j, swp_len]
    · rfl
theorem isort_len (L : List C) : ∀ i, (isort L i).length = L.length
  | 0 => rfl
  | i + 1 => by rw [isort, bub_len, isort_len L i]
theorem swp_mem {L : List C} {j : Nat} (hj : j + 1 < L.length) {x : C} (h : x ∈ swp L j) : x ∈ L := by
  unfold swp at h
  rcases List.mem_or_eq_of_mem_set h with h | h
  · rcases List.mem_or_eq_of_mem_set h with h | h
    · exact h
    · rw [h, getElem!_pos L j (by omega)]; exact List.getElem_mem _
  · rw [h, getElem!_pos L (j + 1) hj]; exact List.getElem_mem _
theorem bub_mem : ∀ (j : Nat) (L : List C), j < L.length → ∀ x ∈ bub L j, x ∈ L
  | 0, L, _, x, h => h
  | j + 1, L, hj, x, h => by
    unfold bub at h
    split at h
    · exact swp_mem hj (bub_mem j _ (by rw [swp_len]; omega) x h)
    · exact h
theorem isort_mem (L : List C) : ∀ i, i < L.length → ∀ x ∈ isort L i, x ∈ L
  | 0, _, x, h => h
  | i + 1, hi, x, h => isort_mem L i (by omega) x (bub_mem (i + 1) _ (by rw [isort_len]; exact hi) x h)
end Go.Proofs.YtpbdgbejcdncgaaGreatDoor.Val
end

section
/- THE WALK OF the library's insertion sort over a row of conditions, and of SortStableFunc at a short row. -/
namespace Go.Proofs.YtpbdgbejcdncgaaGreatDoor.Val
open Go.RowKit Flt
theorem so_below {x y : C} {g j m : Nat} {wr w1 w2 : World} (hb : Below w1.heap.size w1 w2) (h : w1.cell? ⟨g, m * 7, none⟩ = some (.string ⟨x.name.toArray⟩) ∧ w1.cell? ⟨g, m * 7 + 1, none⟩ = some (.int .i64 x.op) ∧ w1.cell? ⟨g, m * 7 + 2, none⟩ = some (.int .i64 x.val.kind) ∧ w1.cell? ⟨g, m * 7 + 3, none⟩ = some (.int .i64 x.val.int) ∧ w1.cell? ⟨g, m * 7 + 4, none⟩ = some (.float .f64 x.val.num) ∧ w1.cell? ⟨g, m * 7 + 5, none⟩ = some (.string ⟨x.val.text.toArray⟩) ∧ w1.cell? ⟨g, m * 7 + 6, none⟩ = some (.bool x.val.yes) ∧ w1.cell? ⟨g, j * 7, none⟩ = some (.string ⟨y.name.toArray⟩) ∧ w1.cell? ⟨g, j * 7 + 1, none⟩ = some (.int .i64 y.op) ∧ w1.cell? ⟨g, j * 7 + 2, none⟩ = some (.int .i64 y.val.kind) ∧ w1.cell? ⟨g, j * 7 + 3, none⟩ = some (.int .i64 y.val.int) ∧ w1.cell? ⟨g, j * 7 + 4, none⟩ = some (.float .f64 y.val.num) ∧ w1.cell? ⟨g, j * 7 + 5, none⟩ = some (.string ⟨y.val.text.toArray⟩) ∧ w1.cell? ⟨g, j * 7 + 6, none⟩ = some (.bool y.val.yes) ∧ Below wr.heap.size wr w1 ∧ g < w1.heap.size) :
    w2.cell? ⟨g, m * 7, none⟩ = some (.string ⟨x.name.toArray⟩) ∧ w2.cell? ⟨g, m * 7 + 1, none⟩ = some (.int .i64 x.op) ∧ w2.cell? ⟨g, m * 7 + 2, none⟩ = some (.int .i64 x.val.kind) ∧ w2.cell? ⟨g, m * 7 + 3, none⟩ = some (.int .i64 x.val.int) ∧ w2.cell? ⟨g, m * 7 + 4, none⟩ = some (.float .f64 x.val.num) ∧ w2.cell? ⟨g, m * 7 + 5, none⟩ = some (.string ⟨x.val.text.toArray⟩) ∧ w2.cell? ⟨g, m * 7 + 6, none⟩ = some (.bool x.val.yes) ∧ w2.cell? ⟨g, j * 7, none⟩ = some (.string ⟨y.name.toArray⟩) ∧ w2.cell? ⟨g, j * 7 + 1, none⟩ = some (.int .i64 y.op) ∧ w2.cell? ⟨g, j * 7 + 2, none⟩ = some (.int .i64 y.val.kind) ∧ w2.cell? ⟨g, j * 7 + 3, none⟩ = some (.int .i64 y.val.int) ∧ w2.cell? ⟨g, j * 7 + 4, none⟩ = some (.float .f64 y.val.num) ∧ w2.cell? ⟨g, j * 7 + 5, none⟩ = some (.string ⟨y.val.text.toArray⟩) ∧ w2.cell? ⟨g, j * 7 + 6, none⟩ = some (.bool y.val.yes) ∧ Below wr.heap.size wr w2 ∧ g < w2.heap.size := by
  obtain ⟨h0, h1, h2, h3, h4, h5, h6, h7, h8, h9, h10, h11, h12, h13, hB, hl⟩ := h
  have c : ∀ o, w2.cell? ⟨g, o, none⟩ = w1.cell? ⟨g, o, none⟩ := fun o => hb.cell (p := ⟨g, o, none⟩) hl
  exact ⟨(c _).trans h0, (c _).trans h1, (c _).trans h2, (c _).trans h3, (c _).trans h4, (c _).trans h5, (c _).trans h6, (c _).trans h7, (c _).trans h8, (c _).trans h9, (c _).trans h10, (c _).trans h11, (c _).trans h12, (c _).trans h13, btrans hB hb, Nat.lt_of_lt_of_le hl hb.size⟩
set_option maxHeartbeats 400000 in
theorem so_start {M : List C} {Z : List Value} {g j m : Nat} {wr : World} (h : Row wr g M Z) (hj : m < M.length) (hj2 : j < M.length) : wr.drew.cell? ⟨g, m * 7, none⟩ = some (.string ⟨(M[m]'hj).name.toArray⟩) ∧ wr.drew.cell? ⟨g, m * 7 + 1, none⟩ = some (.int .i64 (M[m]'hj).op) ∧ wr.drew.cell? ⟨g, m * 7 + 2, none⟩ = some (.int .i64 (M[m]'hj).val.kind) ∧ wr.drew.cell? ⟨g, m * 7 + 3, none⟩ = some (.int .i64 (M[m]'hj).val.int) ∧ wr.drew.cell? ⟨g, m * 7 + 4, none⟩ = some (.float .f64 (M[m]'hj).val.num) ∧ wr.drew.cell? ⟨g, m * 7 + 5, none⟩ = some (.string ⟨(M[m]'hj).val.text.toArray⟩) ∧ wr.drew.cell? ⟨g, m * 7 + 6, none⟩ = some (.bool (M[m]'hj).val.yes) ∧ wr.drew.cell? ⟨g, j * 7, none⟩ = some (.string ⟨(M[j]'hj2).name.toArray⟩) ∧ wr.drew.cell? ⟨g, j * 7 + 1, none⟩ = some (.int .i64 (M[j]'hj2).op) ∧ wr.drew.cell? ⟨g, j * 7 + 2, none⟩ = some (.int .i64 (M[j]'hj2).val.kind) ∧ wr.drew.cell? ⟨g, j * 7 + 3, none⟩ = some (.int .i64 (M[j]'hj2).val.int) ∧ wr.drew.cell? ⟨g, j * 7 + 4, none⟩ = some (.float .f64 (M[j]'hj2).val.num) ∧ wr.drew.cell? ⟨g, j * 7 + 5, none⟩ = some (.string ⟨(M[j]'hj2).val.text.toArray⟩) ∧ wr.drew.cell? ⟨g, j * 7 + 6, none⟩ = some (.bool (M[j]'hj2).val.yes) ∧ Below wr.heap.size wr wr.drew ∧ g < wr.drew.heap.size := by
  have a := h.cat m hj
  have b := h.cat j hj2
  obtain ⟨a0, a1, a2, a3, a4, a5, a6⟩ := a
  obtain ⟨b0, b1, b2, b3, b4, b5, b6⟩ := b
  exact ⟨a0, a1, a2, a3, a4, a5, a6, b0, b1, b2, b3, b4, b5, b6, bdrewN (Below.refl _ _) 1, h.lt⟩
theorem row_drew {w : World} {g : Nat} {l : List C} {Z : List Value} (h : Row w g l Z) : Row w.drew g l Z := h
theorem so_own {x y : C} {g j m : Nat} {wr w1 : World} (h : w1.cell? ⟨g, m * 7, none⟩ = some (.string ⟨x.name.toArray⟩) ∧ w1.cell? ⟨g, m * 7 + 1, none⟩ = some (.int .i64 x.op) ∧ w1.cell? ⟨g, m * 7 + 2, none⟩ = some (.int .i64 x.val.kind) ∧ w1.cell? ⟨g, m * 7 + 3, none⟩ = some (.int .i64 x.val.int) ∧ w1.cell? ⟨g, m * 7 + 4, none⟩ = some (.float .f64 x.val.num) ∧ w1.cell? ⟨g, m * 7 + 5, none⟩ = some (.string ⟨x.val.text.toArray⟩) ∧ w1.cell? ⟨g, m * 7 + 6, none⟩ = some (.bool x.val.yes) ∧ w1.cell? ⟨g, j * 7, none⟩ = some (.string ⟨y.name.toArray⟩) ∧ w1.cell? ⟨g, j * 7 + 1, none⟩ = some (.int .i64 y.op) ∧ w1.cell? ⟨g, j * 7 + 2, none⟩ = some (.int .i64 y.val.kind) ∧ w1.cell? ⟨g, j * 7 + 3, none⟩ = some (.int .i64 y.val.int) ∧ w1.cell? ⟨g, j * 7 + 4, none⟩ = some (.float .f64 y.val.num) ∧ w1.cell? ⟨g, j * 7 + 5, none⟩ = some (.string ⟨y.val.text.toArray⟩) ∧ w1.cell? ⟨g, j * 7 + 6, none⟩ = some (.bool y.val.yes) ∧ Below wr.heap.size wr w1 ∧ g < w1.heap.size) : Below wr.heap.size wr w1 := h.2.2.2.2.2.2.2.2.2.2.2.2.2.2.1
attribute [local go_sem] run_store_flt
set_option maxRecDepth 20000 in
set_option maxHeartbeats 1000000 in
theorem insertion_any (L : List C) (Z : List Value) (g cap : Nat) (ws w : World) (hw : Words ws) (hT : Tab.Tabs ws) (hgs : ws.heap.size ≤ g) (hbs : Below ws.heap.size ws w) (hr : Row w g L Z) (hs : ∀ x ∈ L, CSmall x) (hl : L.length ≤ 1000) (h1 : 1 ≤ L.length) :
    Calls Tryz.prog 52 #[.slice (some ⟨g, 0, none⟩) L.length cap, .int .i64 0, .int .i64 (L.length : Nat), .func (.func 18) #[] #[]] w fun e w' =>
      e = .returned (.tuple #[]) ∧ Row w' g (isort L (L.length - 1)) Z ∧ Below g w w' := by
  have HR := Lib.hid hr; have HS := Lib.hid hs; have HW := Lib.hid hw; have HT := Lib.hid hT; have HBS := Lib.hid hbs
  clear hr hs hw hT hbs
  go_enter Tryz.func52, Tryz.ntmps52
  go_wp2_with fail
  go_loopw [8] (fun vi wr => ∃ i : Nat, 1 ≤ i ∧ i ≤ L.length ∧ vi = .int .i64 i ∧ Row wr g (isort L (i - 1)) Z ∧ Below g w wr) (fun vi _ => L.length + 1 - (intOf vi).toNat)
  case atStart => exact ⟨1, Nat.le_refl _, h1, rfl, HR.out, Below.refl _ _⟩
  case round =>
    obtain ⟨i, hi1, hi2, rfl, hrow, hbr⟩ := hrel
    by_cases hlt : i < L.length
    · have q1 : (i : Int) < (L.length : Int) := by omega
      have HROW := Lib.hid hrow; have HBR := Lib.hid hbr
      clear hrow hbr
      generalize wr = WE at *
      go_wp2_with fail
      go_loopw [9] (fun vj wr => ∃ (j : Nat) (M : List C), j ≤ i ∧ M.length = L.length ∧ vj = .int .i64 j ∧ Row wr g M Z ∧ Hid (bub M j = isort L i) ∧ Hid (∀ x ∈ M, x ∈ L) ∧ Below g w wr) (fun vj _ => (intOf vj).toNat)
      case atStart =>
        obtain ⟨k, rfl⟩ : ∃ k, i = k + 1 := ⟨i - 1, by omega⟩
        exact ⟨k + 1, isort L k, Nat.le_refl _, isort_len L k, rfl, HROW.out, Lib.hid rfl, Lib.hid (isort_mem L k (by omega)), HBR.out⟩
      case round =>
        obtain ⟨j, M, hji, hM, rfl, hrow, HB, HMEM, hbr⟩ := hrel
        cases j with
        | zero =>
          go_wp2_with fail
          refine wp_region_held_drew (S := (fun w' => w' = wr.drew)) (by kernel_rfl) ?_ (fun hq0 => ?_)
          · ((try dsimp only); all_goals (first | rfl | assumption))
          (refine wpAnyH_take (i := 0) (oi := ?_) (v := ?_) ?_ (by kernel_rfl) (by kernel_rfl) (by kernel_rfl) ?_ (Or.inl ⟨?_, ?_⟩) (by assumption) ?_; rotate_left 2; (· (simp only [List.getElem?_toArray, List.getElem?_cons_zero]; first | done | rfl)); (· exact (fun _ _ _ h => h)); (· rfl); (· (intro w hSw; (try dsimp only at hSw); go_simp; (try with_reducible rfl))))
          (try simp only [Act.put, List.setIfInBounds_toArray, List.set_cons_zero, List.set_cons_succ])
          (refine wpAnyH_take (i := 1) (oi := ?_) (v := ?_) ?_ (by kernel_rfl) (by kernel_rfl) (by kernel_rfl) ?_ (Or.inl ⟨?_, ?_⟩) (by assumption) ?_; rotate_left 2; (· (simp only [List.getElem?_toArray, List.getElem?_cons_succ, List.getElem?_cons_zero]; first | done | rfl)); (· exact (fun _ _ _ h => h)); (· rfl); (· (intro w hSw; (try dsimp only at hSw); go_simp; (try with_reducible rfl))))
          (try simp only [Act.put, List.setIfInBounds_toArray, List.set_cons_zero, List.set_cons_succ])
          (refine wpAnyH_take (i := 2) (oi := ?_) (v := ?_) ?_ (by kernel_rfl) (by kernel_rfl) (by kernel_rfl) ?_ (Or.inl ⟨?_, ?_⟩) (by assumption) ?_; rotate_left 2; (· (simp only [List.getElem?_toArray, List.getElem?_cons_succ, List.getElem?_cons_zero]; first | done | rfl)); (· exact (fun _ _ _ h => h)); (· rfl); (· (intro w hSw; (try dsimp only at hSw); go_simp; (try with_reducible rfl))))
          (try simp only [Act.put, List.setIfInBounds_toArray, List.set_cons_zero, List.set_cons_succ])
          (refine wpAnyH_take (i := 3) (oi := ?_) (v := ?_) ?_ (by kernel_rfl) (by kernel_rfl) (by kernel_rfl) ?_ (Or.inl ⟨?_, ?_⟩) (by assumption) ?_; rotate_left 2; (· (simp only [List.getElem?_toArray, List.getElem?_cons_succ, List.getElem?_cons_zero]; first | done | rfl)); (· exact (fun _ _ _ h => h)); (· rfl); (· (intro w hSw; (try dsimp only at hSw); go_simp; (try with_reducible rfl))))
          (try simp only [Act.put, List.setIfInBounds_toArray, List.set_cons_zero, List.set_cons_succ])
          (refine wpAnyH_take (i := 4) (oi := ?_) (v := ?_) ?_ (by kernel_rfl) (by kernel_rfl) (by kernel_rfl) ?_ (Or.inr ⟨?_, ?_⟩) (by assumption) ?_; rotate_left 2; (· (simp only [List.getElem?_toArray, List.getElem?_cons_succ, List.getElem?_cons_zero]; first | done | rfl)); (· exact (fun _ _ _ h => h)); (· rfl); (· rfl))
          (try simp only [Act.put, List.setIfInBounds_toArray, List.set_cons_zero, List.set_cons_succ])
          (refine wpAnyH_take (i := 5) (oi := ?_) (v := ?_) ?_ (by kernel_rfl) (by kernel_rfl) (by kernel_rfl) ?_ (Or.inr ⟨?_, ?_⟩) (by assumption) ?_; rotate_left 2; (· (simp only [List.getElem?_toArray, List.getElem?_cons_succ, List.getElem?_cons_zero]; first | done | rfl)); (· exact (fun _ _ _ h => h)); (· rfl); (· rfl))
          (try simp only [Act.put, List.setIfInBounds_toArray, List.set_cons_zero, List.set_cons_succ])
          (refine wpAnyH_take (i := 6) (oi := ?_) (v := ?_) ?_ (by kernel_rfl) (by kernel_rfl) (by kernel_rfl) ?_ (Or.inr ⟨?_, ?_⟩) (by assumption) ?_; rotate_left 2; (· (simp only [List.getElem?_toArray, List.getElem?_cons_succ, List.getElem?_cons_zero]; first | done | rfl)); (· exact (fun _ _ _ h => h)); (· rfl); (· rfl))
          (try simp only [Act.put, List.setIfInBounds_toArray, List.set_cons_zero, List.set_cons_succ])
          (refine wpAnyH_take (i := 7) (oi := ?_) (v := ?_) ?_ (by kernel_rfl) (by kernel_rfl) (by kernel_rfl) ?_ (Or.inr ⟨?_, ?_⟩) (by assumption) ?_; rotate_left 2; (· (simp only [List.getElem?_toArray, List.getElem?_cons_succ, List.getElem?_cons_zero]; first | done | rfl)); (· exact (fun _ _ _ h => h)); (· rfl); (· rfl))
          (try simp only [Act.put, List.setIfInBounds_toArray, List.set_cons_zero, List.set_cons_succ])
          (refine wpAnyH_take (i := 8) (oi := ?_) (v := ?_) ?_ (by kernel_rfl) (by kernel_rfl) (by kernel_rfl) ?_ (Or.inr ⟨?_, ?_⟩) (by assumption) ?_; rotate_left 2; (· (simp only [List.getElem?_toArray, List.getElem?_cons_succ, List.getElem?_cons_zero]; first | done | rfl)); (· exact (fun _ _ _ h => h)); (· rfl); (· rfl))
          (try simp only [Act.put, List.setIfInBounds_toArray, List.set_cons_zero, List.set_cons_succ])
          (refine wpAnyH_take (i := 9) (oi := ?_) (v := ?_) ?_ (by kernel_rfl) (by kernel_rfl) (by kernel_rfl) ?_ (Or.inr ⟨?_, ?_⟩) (by assumption) ?_; rotate_left 2; (· (simp only [List.getElem?_toArray, List.getElem?_cons_succ, List.getElem?_cons_zero]; first | done | rfl)); (· exact (fun _ _ _ h => h)); (· rfl); (· rfl))
          (try simp only [Act.put, List.setIfInBounds_toArray, List.set_cons_zero, List.set_cons_succ])
          (refine wpAnyH_take (i := 10) (oi := ?_) (v := ?_) ?_ (by kernel_rfl) (by kernel_rfl) (by kernel_rfl) ?_ (Or.inr ⟨?_, ?_⟩) (by assumption) ?_; rotate_left 2; (· (simp only [List.getElem?_toArray, List.getElem?_cons_succ, List.getElem?_cons_zero]; first | done | rfl)); (· exact (fun _ _ _ h => h)); (· rfl); (· rfl))
          (try simp only [Act.put, List.setIfInBounds_toArray, List.set_cons_zero, List.set_cons_succ])
          (refine wpAnyH_take (i := 11) (oi := ?_) (v := ?_) ?_ (by kernel_rfl) (by kernel_rfl) (by kernel_rfl) ?_ (Or.inr ⟨?_, ?_⟩) (by assumption) ?_; rotate_left 2; (· (simp only [List.getElem?_toArray, List.getElem?_cons_succ, List.getElem?_cons_zero]; first | done | rfl)); (· exact (fun _ _ _ h => h)); (· rfl); (· rfl))
          (try simp only [Act.put, List.setIfInBounds_toArray, List.set_cons_zero, List.set_cons_succ])
          (refine wpAnyH_take (i := 12) (oi := ?_) (v := ?_) ?_ (by kernel_rfl) (by kernel_rfl) (by kernel_rfl) ?_ (Or.inr ⟨?_, ?_⟩) (by assumption) ?_; rotate_left 2; (· (simp only [List.getElem?_toArray, List.getElem?_cons_succ, List.getElem?_cons_zero]; first | done | rfl)); (· exact (fun _ _ _ h => h)); (· rfl); (· rfl))
          (try simp only [Act.put, List.setIfInBounds_toArray, List.set_cons_zero, List.set_cons_succ])
          (refine wpAnyH_take (i := 13) (oi := ?_) (v := ?_) ?_ (by kernel_rfl) (by kernel_rfl) (by kernel_rfl) ?_ (Or.inr ⟨?_, ?_⟩) (by assumption) ?_; rotate_left 2; (· (simp only [List.getElem?_toArray, List.getElem?_cons_succ, List.getElem?_cons_zero]; first | done | rfl)); (· exact (fun _ _ _ h => h)); (· rfl); (· rfl))
          (try simp only [Act.put, List.setIfInBounds_toArray, List.set_cons_zero, List.set_cons_succ])
          (refine wpAnyH_take (i := 14) (oi := ?_) (v := ?_) ?_ (by kernel_rfl) (by kernel_rfl) (by kernel_rfl) ?_ (Or.inr ⟨?_, ?_⟩) (by assumption) ?_; rotate_left 2; (· (simp only [List.getElem?_toArray, List.getElem?_cons_succ, List.getElem?_cons_zero]; first | done | rfl)); (· exact (fun _ _ _ h => h)); (· rfl); (· rfl))
          (try simp only [Act.put, List.setIfInBounds_toArray, List.set_cons_zero, List.set_cons_succ])
          (refine wpAnyH_take (i := 15) (oi := ?_) (v := ?_) ?_ (by kernel_rfl) (by kernel_rfl) (by kernel_rfl) ?_ (Or.inr ⟨?_, ?_⟩) (by assumption) ?_; rotate_left 2; (· (simp only [List.getElem?_toArray, List.getElem?_cons_succ, List.getElem?_cons_zero]; first | done | rfl)); (· exact (fun _ _ _ h => h)); (· rfl); (· rfl))
          (try simp only [Act.put, List.setIfInBounds_toArray, List.set_cons_zero, List.set_cons_succ])
          (refine wpAnyH_take (i := 16) (oi := ?_) (v := ?_) ?_ (by kernel_rfl) (by kernel_rfl) (by kernel_rfl) ?_ (Or.inl ⟨?_, ?_⟩) (by assumption) ?_; rotate_left 2; (· (simp only [List.getElem?_toArray, List.getElem?_cons_succ, List.getElem?_cons_zero]; first | done | rfl)); (· exact (fun _ _ _ h => h)); (· rfl); (· (intro w hSw; (try dsimp only at hSw); go_simp; (try with_reducible rfl))))
          (try simp only [Act.put, List.setIfInBounds_toArray, List.set_cons_zero, List.set_cons_succ])
          refine wpAnyH_done (by kernel_rfl) ?_ _
          go_wp2_with fail
          exact ⟨⟨i + 1, by omega, by omega, by go_num, by
            have e : isort L (i + 1 - 1) = M := HB.out.symm
            rw [e]; exact hrow, hbr.drew⟩, by simp [intOf]; go_num⟩
        | succ j =>
          obtain ⟨m, hm⟩ : ∃ m, m = j + 1 := ⟨_, rfl⟩
          rw [← hm] at hji HB ⊢
          have hmL : m < M.length := by omega
          have hjL : j < M.length := by omega
          have hst := so_start hrow (j := j) (m := m) hmL hjL
          have q2 : decide ((0 : Int) < (m : Int)) = true := by rw [decide_eq_true_iff]; omega
          have q2i : (0 : Int) < (m : Int) := by omega
          have q2n : 0 < m := by omega
          have q2d : decide (0 < m) = true := by rw [decide_eq_true_iff]; omega
          have q3 : (m : Int) < (L.length : Int) := by omega
          have q4 : (0 : Int) ≤ (m : Int) := by omega
          have q5 : (0 : Int) ≤ (j : Int) := by omega
          have q6 : (j : Int) < (L.length : Int) := by omega
          have q7 : (m : Int) - 1 = (j : Int) := by omega
          have q8 : IntKind.i64.wrap ((m : Int) - 1) = (j : Int) := by rw [IntKind.wrap_i64]; omega
          have q9 : IntKind.i64.wrap (j : Int) = (j : Int) := by rw [IntKind.wrap_i64]; omega
          have HST := Lib.hid hst; have HROW2 := Lib.hid hrow
          have hcm : ∀ W, Below wr.heap.size wr W → Calls Tryz.prog 18 #[cc (M[m]'hmL), cc (M[j]'hjL)] W fun e w' => e = .returned (.int .i64 (cmpC (M[m]'hmL) (M[j]'hjL))) ∧ Below W.heap.size W w' := fun W hb => by
            have hbs : Below ws.heap.size ws W := HBS.out.trans ((hbr.mono hgs).trans (hb.mono (by have := hrow.lt; omega)))
            exact cmp_any _ _ W (HW.out.below hbs) (HT.out.below hbs (Nat.le_refl _)) (HS.out _ (HMEM.out _ (List.getElem_mem _))) (HS.out _ (HMEM.out _ (List.getElem_mem _)))
          have HCM := Lib.hid hcm
          have HBR2 := Lib.hid hbr
          have hbub : bub M m = if cmpC (M[m]'hmL) (M[j]'hjL) < 0 then bub (swp M j) j else M := by
            subst hm
            rw [bub, getElem!_pos M (j + 1) hmL, getElem!_pos M j hjL]
          have HBUB := Lib.hid hbub; have HMJ := Lib.hid hm
          clear hst hcm hrow hbr hbub hm
          obtain ⟨x, hx⟩ : ∃ x, x = M[m]'hmL := ⟨_, rfl⟩
          obtain ⟨y, hy⟩ : ∃ y, y = M[j]'hjL := ⟨_, rfl⟩
          rw [← hx, ← hy] at HST HCM HBUB
          have HX := Lib.hid hx; have HY := Lib.hid hy
          clear hx hy
          generalize cmpC x y = cr at *
          have hcr : (cr < 0 ∧ decide (cr < 0) = true) ∨ (¬ cr < 0 ∧ decide (cr < 0) = false) := by
            by_cases h : cr < 0
            · exact .inl ⟨h, by simpa using h⟩
            · exact .inr ⟨h, by simpa using h⟩
          rcases hcr with ⟨z1, z2⟩ | ⟨z1, z2⟩
          · go_wp2_with fail
            refine wp_region_held_drew (S := (fun w' => w'.cell? ⟨g, m * 7, none⟩ = some (.string ⟨x.name.toArray⟩) ∧ w'.cell? ⟨g, m * 7 + 1, none⟩ = some (.int .i64 x.op) ∧ w'.cell? ⟨g, m * 7 + 2, none⟩ = some (.int .i64 x.val.kind) ∧ w'.cell? ⟨g, m * 7 + 3, none⟩ = some (.int .i64 x.val.int) ∧ w'.cell? ⟨g, m * 7 + 4, none⟩ = some (.float .f64 x.val.num) ∧ w'.cell? ⟨g, m * 7 + 5, none⟩ = some (.string ⟨x.val.text.toArray⟩) ∧ w'.cell? ⟨g, m * 7 + 6, none⟩ = some (.bool x.val.yes) ∧ w'.cell? ⟨g, j * 7, none⟩ = some (.string ⟨y.name.toArray⟩) ∧ w'.cell? ⟨g, j * 7 + 1, none⟩ = some (.int .i64 y.op) ∧ w'.cell? ⟨g, j * 7 + 2, none⟩ = some (.int .i64 y.val.kind) ∧ w'.cell? ⟨g, j * 7 + 3, none⟩ = some (.int .i64 y.val.int) ∧ w'.cell? ⟨g, j * 7 + 4, none⟩ = some (.float .f64 y.val.num) ∧ w'.cell? ⟨g, j * 7 + 5, none⟩ = some (.string ⟨y.val.text.toArray⟩) ∧ w'.cell? ⟨g, j * 7 + 6, none⟩ = some (.bool y.val.yes) ∧ Below wr.heap.size wr w' ∧ g < w'.heap.size)) (by kernel_rfl) ?_ (fun hq0 => ?_)
            · ((try dsimp only); (first | exact HST.out | assumption | exact so_below (by assumption) (by assumption)))
            (refine wpAnyH_take (i := 0) (oi := ?_) (v := ?_) ?_ (by kernel_rfl) (by kernel_rfl) (by kernel_rfl) ?_ (Or.inl ⟨?_, ?_⟩) (by assumption) ?_; rotate_left 2; (· (simp only [List.getElem?_toArray, List.getElem?_cons_zero]; first | done | rfl)); (· exact (fun _ _ _ h => h)); (· rfl); (· (intro w hSw; (try dsimp only at hSw); go_simp; (try with_reducible rfl))))
            (try simp only [Act.put, List.setIfInBounds_toArray, List.set_cons_zero, List.set_cons_succ])
            (refine wpAnyH_take (i := 1) (oi := ?_) (v := ?_) ?_ (by kernel_rfl) (by kernel_rfl) (by kernel_rfl) ?_ (Or.inl ⟨?_, ?_⟩) (by assumption) ?_; rotate_left 2; (· (simp only [List.getElem?_toArray, List.getElem?_cons_succ, List.getElem?_cons_zero]; first | done | rfl)); (· exact (fun _ _ _ h => h)); (· rfl); (· (intro w hSw; (try dsimp only at hSw); go_simp; (try with_reducible rfl))))
            (try simp only [Act.put, List.setIfInBounds_toArray, List.set_cons_zero, List.set_cons_succ])
            (refine wpAnyH_take (i := 2) (oi := ?_) (v := ?_) ?_ (by kernel_rfl) (by kernel_rfl) (by kernel_rfl) ?_ (Or.inl ⟨?_, ?_⟩) (by assumption) ?_; rotate_left 2; (· (simp only [List.getElem?_toArray, List.getElem?_cons_succ, List.getElem?_cons_zero]; first | done | rfl)); (· exact (fun _ _ _ h => h)); (· rfl); (· (intro w hSw; (try dsimp only at hSw); go_simp; (try with_reducible rfl))))
            (try simp only [Act.put, List.setIfInBounds_toArray, List.set_cons_zero, List.set_cons_succ])
            (refine wpAnyH_take (i := 3) (oi := ?_) (v := ?_) ?_ (by kernel_rfl) (by kernel_rfl) (by kernel_rfl) ?_ (Or.inl ⟨?_, ?_⟩) (by assumption) ?_; rotate_left 2; (· (simp only [List.getElem?_toArray, List.getElem?_cons_succ, List.getElem?_cons_zero]; first | done | rfl)); (· exact (fun _ _ _ h => h)); (· rfl); (· (intro w hSw; (try dsimp only at hSw); go_simp; (try with_reducible rfl))))
            (try simp only [Act.put, List.setIfInBounds_toArray, List.set_cons_zero, List.set_cons_succ])
            (refine wpAnyH_take (i := 4) (oi := ?_) (v := ?_) ?_ (by kernel_rfl) (by kernel_rfl) (by kernel_rfl) ?_ (Or.inl ⟨?_, ?_⟩) (by assumption) ?_; rotate_left 2; (· (simp only [List.getElem?_toArray, List.getElem?_cons_succ, List.getElem?_cons_zero]; first | done | rfl)); (· exact (fun _ _ _ h => h)); (· rfl); (· (intro w hSw; (try dsimp only at hSw); go_simp; (try with_reducible rfl))))
            (try simp only [Act.put, List.setIfInBounds_toArray, List.set_cons_zero, List.set_cons_succ])
            (refine wpAnyH_take (i := 5) (oi := ?_) (v := ?_) ?_ (by kernel_rfl) (by kernel_rfl) (by kernel_rfl) ?_ (Or.inl ⟨?_, ?_⟩) (by assumption) ?_; rotate_left 2; (· (simp only [List.getElem?_toArray, List.getElem?_cons_succ, List.getElem?_cons_zero]; first | done | rfl)); (· exact (fun _ _ _ h => h)); (· rfl); (· (intro w hSw; (try dsimp only at hSw); go_simp; (try with_reducible rfl))))
            (try simp only [Act.put, List.setIfInBounds_toArray, List.set_cons_zero, List.set_cons_succ])
            (refine wpAnyH_take (i := 6) (oi := ?_) (v := ?_) ?_ (by kernel_rfl) (by kernel_rfl) (by kernel_rfl) ?_ (Or.inl ⟨?_, ?_⟩) (by assumption) ?_; rotate_left 2; (· (simp only [List.getElem?_toArray, List.getElem?_cons_succ, List.getElem?_cons_zero]; first | done | rfl)); (· exact (fun _ _ _ h => h)); (· rfl); (· (intro w hSw; (try dsimp only at hSw); go_simp; (try with_reducible rfl))))
            (try simp only [Act.put, List.setIfInBounds_toArray, List.set_cons_zero, List.set_cons_succ])
            (refine wpAnyH_take (i := 7) (oi := ?_) (v := ?_) ?_ (by kernel_rfl) (by kernel_rfl) (by kernel_rfl) ?_ (Or.inl ⟨?_, ?_⟩) (by assumption) ?_; rotate_left 2; (· (simp only [List.getElem?_toArray, List.getElem?_cons_succ, List.getElem?_cons_zero]; first | done | rfl)); (· exact (fun _ _ _ h => h)); (· rfl); (· (intro w hSw; (try dsimp only at hSw); go_simp; (try with_reducible rfl))))
            (try simp only [Act.put, List.setIfInBounds_toArray, List.set_cons_zero, List.set_cons_succ])
            (refine wpAnyH_take (i := 8) (oi := ?_) (v := ?_) ?_ (by kernel_rfl) (by kernel_rfl) (by kernel_rfl) ?_ (Or.inl ⟨?_, ?_⟩) (by assumption) ?_; rotate_left 2; (· (simp only [List.getElem?_toArray, List.getElem?_cons_succ, List.getElem?_cons_zero]; first | done | rfl)); (· exact (fun _ _ _ h => h)); (· rfl); (· (intro w hSw; (try dsimp only at hSw); go_simp; (try with_reducible rfl))))
            (try simp only [Act.put, List.setIfInBounds_toArray, List.set_cons_zero, List.set_cons_succ])
            (refine wpAnyH_take (i := 9) (oi := ?_) (v := ?_) ?_ (by kernel_rfl) (by kernel_rfl) (by kernel_rfl) ?_ (Or.inl ⟨?_, ?_⟩) (by assumption) ?_; rotate_left 2; (· (simp only [List.getElem?_toArray, List.getElem?_cons_succ, List.getElem?_cons_zero]; first | done | rfl)); (· exact (fun _ _ _ h => h)); (· rfl); (· (intro w hSw; (try dsimp only at hSw); go_simp; (try with_reducible rfl))))
            (try simp only [Act.put, List.setIfInBounds_toArray, List.set_cons_zero, List.set_cons_succ])
            (refine wpAnyH_take (i := 10) (oi := ?_) (v := ?_) ?_ (by kernel_rfl) (by kernel_rfl) (by kernel_rfl) ?_ (Or.inl ⟨?_, ?_⟩) (by assumption) ?_; rotate_left 2; (· (simp only [List.getElem?_toArray, List.getElem?_cons_succ, List.getElem?_cons_zero]; first | done | rfl)); (· exact (fun _ _ _ h => h)); (· rfl); (· (intro w hSw; (try dsimp only at hSw); go_simp; (try with_reducible rfl))))
            (try simp only [Act.put, List.setIfInBounds_toArray, List.set_cons_zero, List.set_cons_succ])
            (refine wpAnyH_take (i := 11) (oi := ?_) (v := ?_) ?_ (by kernel_rfl) (by kernel_rfl) (by kernel_rfl) ?_ (Or.inl ⟨?_, ?_⟩) (by assumption) ?_; rotate_left 2; (· (simp only [List.getElem?_toArray, List.getElem?_cons_succ, List.getElem?_cons_zero]; first | done | rfl)); (· exact (fun _ _ _ h => h)); (· rfl); (· (intro w hSw; (try dsimp only at hSw); go_simp; (try with_reducible rfl))))
            (try simp only [Act.put, List.setIfInBounds_toArray, List.set_cons_zero, List.set_cons_succ])
            (refine wpAnyH_take (i := 12) (oi := ?_) (v := ?_) ?_ (by kernel_rfl) (by kernel_rfl) (by kernel_rfl) ?_ (Or.inl ⟨?_, ?_⟩) (by assumption) ?_; rotate_left 2; (· (simp only [List.getElem?_toArray, List.getElem?_cons_succ, List.getElem?_cons_zero]; first | done | rfl)); (· exact (fun _ _ _ h => h)); (· rfl); (· (intro w hSw; (try dsimp only at hSw); go_simp; (try with_reducible rfl))))
            (try simp only [Act.put, List.setIfInBounds_toArray, List.set_cons_zero, List.set_cons_succ])
            (refine wpAnyH_take (i := 13) (oi := ?_) (v := ?_) ?_ (by kernel_rfl) (by kernel_rfl) (by kernel_rfl) ?_ (Or.inl ⟨?_, ?_⟩) (by assumption) ?_; rotate_left 2; (· (simp only [List.getElem?_toArray, List.getElem?_cons_succ, List.getElem?_cons_zero]; first | done | rfl)); (· exact (fun _ _ _ h => h)); (· rfl); (· (intro w hSw; (try dsimp only at hSw); go_simp; (try with_reducible rfl))))
            (try simp only [Act.put, List.setIfInBounds_toArray, List.set_cons_zero, List.set_cons_succ])
            refine wpAnyH_ready (rs := [14]) (by kernel_rfl) (by simp) ?_
            refine AllReadyH.cons (o := ?_) ?_ (fun K hK => ?_) AllReadyH.nil
            rotate_left 1
            · (simp only [List.getElem?_toArray, List.getElem?_cons_succ, List.getElem?_cons_zero]; first | done | rfl)
            go_simp
            first | (refine hK.out _ _ ?_ (fun hq1 => ?_)) | ((go_at_call 18; refine (HCM.out _ (so_own (by assumption))).mono ?_; rintro e w7 ⟨rfl, hb7⟩); refine hK.out _ _ ?_ (fun hq1 => ?_)) | ((go_at_call 18; refine (HCM.out _ (so_own (by assumption))).mono ?_; rintro e w7 ⟨rfl, hb7⟩); go_wp2_with fail; refine hK.out _ _ ?_ (fun hq1 => ?_)) | fail
            · ((try dsimp only); (first | exact HST.out | assumption | exact so_below (by assumption) (by assumption)))
            clear hK K
            (try simp only [Act.put, List.setIfInBounds_toArray, List.set_cons_zero, List.set_cons_succ])
            clear hq0
            (refine wpAnyH_take (i := 15) (oi := ?_) (v := ?_) ?_ (by kernel_rfl) (by kernel_rfl) (by kernel_rfl) ?_ (Or.inl ⟨?_, ?_⟩) (by assumption) ?_; rotate_left 2; (· (simp only [List.getElem?_toArray, List.getElem?_cons_succ, List.getElem?_cons_zero]; first | done | rfl)); (· exact (fun _ _ _ h => h)); (· rfl); (· (intro w hSw; (try dsimp only at hSw); go_simp; (try with_reducible rfl))))
            (try simp only [Act.put, List.setIfInBounds_toArray, List.set_cons_zero, List.set_cons_succ])
            (refine wpAnyH_take (i := 16) (oi := ?_) (v := ?_) ?_ (by kernel_rfl) (by kernel_rfl) (by kernel_rfl) ?_ (Or.inl ⟨?_, ?_⟩) (by assumption) ?_; rotate_left 2; (· (simp only [List.getElem?_toArray, List.getElem?_cons_succ, List.getElem?_cons_zero]; first | done | rfl)); (· exact (fun _ _ _ h => h)); (· rfl); (· (intro w hSw; (try dsimp only at hSw); go_simp; (try with_reducible rfl))))
            (try simp only [Act.put, List.setIfInBounds_toArray, List.set_cons_zero, List.set_cons_succ])
            refine wpAnyH_done (by kernel_rfl) ?_ _
            have hb17 := so_own hq1
            have hrow7 : Row w7 g M Z := HROW2.out.below hb17 HROW2.out.lt
            obtain ⟨v0, v1, v2, v3, v4, v5, v6, u0, u1, u2, u3, u4, u5, u6, _, _⟩ := hq1
            clear hb7
            have fm0 := hrow7.frz (m * 7)
            have fj0 := hrow7.frz (j * 7)
            have fm1 := hrow7.frz (m * 7 + 1)
            have fj1 := hrow7.frz (j * 7 + 1)
            have fm2 := hrow7.frz (m * 7 + 2)
            have fj2 := hrow7.frz (j * 7 + 2)
            have fm3 := hrow7.frz (m * 7 + 3)
            have fj3 := hrow7.frz (j * 7 + 3)
            have fm4 := hrow7.frz (m * 7 + 4)
            have fj4 := hrow7.frz (j * 7 + 4)
            have fm5 := hrow7.frz (m * 7 + 5)
            have fj5 := hrow7.frz (j * 7 + 5)
            have fm6 := hrow7.frz (m * 7 + 6)
            have fj6 := hrow7.frz (j * 7 + 6)
            have HROW7 := Lib.hid hrow7; have HB17 := Lib.hid hb17
            have hne : m ≠ j := by have := HMJ.out; omega
            clear hrow7 hb17 HCM HST
            go_wp2_with fail
            go_region
            go_wp2_with fail
            have hmj := HMJ.out
            have hr2 : Row (put7 (put7 w7 g (m * 7) y) g (j * 7) x) g ((M.set m y).set j x) Z := (HROW7.out.put m hmL y).put j (by rw [List.length_set]; exact hjL) x
            have hsw : (M.set m y).set j x = swp M j := by
              unfold swp
              rw [← hmj, getElem!_pos M j hjL, getElem!_pos M m hmL, ← HX.out, ← HY.out]
            rw [hsw] at hr2
            have hbp : Below g w7 (put7 (put7 w7 g (m * 7) y) g (j * 7) x) := (below_put7 (Nat.le_refl _) _ _).trans (below_put7 (Nat.le_refl _) _ _)
            have hr3 := row_drew hr2
            have hb3 := (((HBR2.out.trans (HB17.out.mono (Nat.le_of_lt HROW2.out.lt))).trans hbp)).drew
            unfold put7 at hr3 hb3
            have hmem : ∀ c ∈ swp M j, c ∈ L := fun c hc => HMEM.out _ (swp_mem (by omega) hc)
            have hbub2 : bub (swp M j) j = isort L i := by rw [← HB.out, HBUB.out, if_pos z1]
            exact ⟨⟨j, swp M j, by omega, by rw [swp_len]; exact hM, rfl, hr3, Lib.hid hbub2, Lib.hid hmem, hb3⟩, by simp [intOf]; omega⟩
          · go_wp2_with fail
            refine wp_region_held_drew (S := (fun w' => w'.cell? ⟨g, m * 7, none⟩ = some (.string ⟨x.name.toArray⟩) ∧ w'.cell? ⟨g, m * 7 + 1, none⟩ = some (.int .i64 x.op) ∧ w'.cell? ⟨g, m * 7 + 2, none⟩ = some (.int .i64 x.val.kind) ∧ w'.cell? ⟨g, m * 7 + 3, none⟩ = some (.int .i64 x.val.int) ∧ w'.cell? ⟨g, m * 7 + 4, none⟩ = some (.float .f64 x.val.num) ∧ w'.cell? ⟨g, m * 7 + 5, none⟩ = some (.string ⟨x.val.text.toArray⟩) ∧ w'.cell? ⟨g, m * 7 + 6, none⟩ = some (.bool x.val.yes) ∧ w'.cell? ⟨g, j * 7, none⟩ = some (.string ⟨y.name.toArray⟩) ∧ w'.cell? ⟨g, j * 7 + 1, none⟩ = some (.int .i64 y.op) ∧ w'.cell? ⟨g, j * 7 + 2, none⟩ = some (.int .i64 y.val.kind) ∧ w'.cell? ⟨g, j * 7 + 3, none⟩ = some (.int .i64 y.val.int) ∧ w'.cell? ⟨g, j * 7 + 4, none⟩ = some (.float .f64 y.val.num) ∧ w'.cell? ⟨g, j * 7 + 5, none⟩ = some (.string ⟨y.val.text.toArray⟩) ∧ w'.cell? ⟨g, j * 7 + 6, none⟩ = some (.bool y.val.yes) ∧ Below wr.heap.size wr w' ∧ g < w'.heap.size)) (by kernel_rfl) ?_ (fun hq0 => ?_)
            · ((try dsimp only); (first | exact HST.out | assumption | exact so_below (by assumption) (by assumption)))
            (refine wpAnyH_take (i := 0) (oi := ?_) (v := ?_) ?_ (by kernel_rfl) (by kernel_rfl) (by kernel_rfl) ?_ (Or.inl ⟨?_, ?_⟩) (by assumption) ?_; rotate_left 2; (· (simp only [List.getElem?_toArray, List.getElem?_cons_zero]; first | done | rfl)); (· exact (fun _ _ _ h => h)); (· rfl); (· (intro w hSw; (try dsimp only at hSw); go_simp; (try with_reducible rfl))))
            (try simp only [Act.put, List.setIfInBounds_toArray, List.set_cons_zero, List.set_cons_succ])
            (refine wpAnyH_take (i := 1) (oi := ?_) (v := ?_) ?_ (by kernel_rfl) (by kernel_rfl) (by kernel_rfl) ?_ (Or.inl ⟨?_, ?_⟩) (by assumption) ?_; rotate_left 2; (· (simp only [List.getElem?_toArray, List.getElem?_cons_succ, List.getElem?_cons_zero]; first | done | rfl)); (· exact (fun _ _ _ h => h)); (· rfl); (· (intro w hSw; (try dsimp only at hSw); go_simp; (try with_reducible rfl))))
            (try simp only [Act.put, List.setIfInBounds_toArray, List.set_cons_zero, List.set_cons_succ])
            (refine wpAnyH_take (i := 2) (oi := ?_) (v := ?_) ?_ (by kernel_rfl) (by kernel_rfl) (by kernel_rfl) ?_ (Or.inl ⟨?_, ?_⟩) (by assumption) ?_; rotate_left 2; (· (simp only [List.getElem?_toArray, List.getElem?_cons_succ, List.getElem?_cons_zero]; first | done | rfl)); (· exact (fun _ _ _ h => h)); (· rfl); (· (intro w hSw; (try dsimp only at hSw); go_simp; (try with_reducible rfl))))
            (try simp only [Act.put, List.setIfInBounds_toArray, List.set_cons_zero, List.set_cons_succ])
            (refine wpAnyH_take (i := 3) (oi := ?_) (v := ?_) ?_ (by kernel_rfl) (by kernel_rfl) (by kernel_rfl) ?_ (Or.inl ⟨?_, ?_⟩) (by assumption) ?_; rotate_left 2; (· (simp only [List.getElem?_toArray, List.getElem?_cons_succ, List.getElem?_cons_zero]; first | done | rfl)); (· exact (fun _ _ _ h => h)); (· rfl); (· (intro w hSw; (try dsimp only at hSw); go_simp; (try with_reducible rfl))))
            (try simp only [Act.put, List.setIfInBounds_toArray, List.set_cons_zero, List.set_cons_succ])
            (refine wpAnyH_take (i := 4) (oi := ?_) (v := ?_) ?_ (by kernel_rfl) (by kernel_rfl) (by kernel_rfl) ?_ (Or.inl ⟨?_, ?_⟩) (by assumption) ?_; rotate_left 2; (· (simp only [List.getElem?_toArray, List.getElem?_cons_succ, List.getElem?_cons_zero]; first | done | rfl)); (· exact (fun _ _ _ h => h)); (· rfl); (· (intro w hSw; (try dsimp only at hSw); go_simp; (try with_reducible rfl))))
            (try simp only [Act.put, List.setIfInBounds_toArray, List.set_cons_zero, List.set_cons_succ])
            (refine wpAnyH_take (i := 5) (oi := ?_) (v := ?_) ?_ (by kernel_rfl) (by kernel_rfl) (by kernel_rfl) ?_ (Or.inl ⟨?_, ?_⟩) (by assumption) ?_; rotate_left 2; (· (simp only [List.getElem?_toArray, List.getElem?_cons_succ, List.getElem?_cons_zero]; first | done | rfl)); (· exact (fun _ _ _ h => h)); (· rfl); (· (intro w hSw; (try dsimp only at hSw); go_simp; (try with_reducible rfl))))
            (try simp only [Act.put, List.setIfInBounds_toArray, List.set_cons_zero, List.set_cons_succ])
            (refine wpAnyH_take (i := 6) (oi := ?_) (v := ?_) ?_ (by kernel_rfl) (by kernel_rfl) (by kernel_rfl) ?_ (Or.inl ⟨?_, ?_⟩) (by assumption) ?_; rotate_left 2; (· (simp only [List.getElem?_toArray, List.getElem?_cons_succ, List.getElem?_cons_zero]; first | done | rfl)); (· exact (fun _ _ _ h => h)); (· rfl); (· (intro w hSw; (try dsimp only at hSw); go_simp; (try with_reducible rfl))))
            (try simp only [Act.put, List.setIfInBounds_toArray, List.set_cons_zero, List.set_cons_succ])
            (refine wpAnyH_take (i := 7) (oi := ?_) (v := ?_) ?_ (by kernel_rfl) (by kernel_rfl) (by kernel_rfl) ?_ (Or.inl ⟨?_, ?_⟩) (by assumption) ?_; rotate_left 2; (· (simp only [List.getElem?_toArray, List.getElem?_cons_succ, List.getElem?_cons_zero]; first | done | rfl)); (· exact (fun _ _ _ h => h)); (· rfl); (· (intro w hSw; (try dsimp only at hSw); go_simp; (try with_reducible rfl))))
            (try simp only [Act.put, List.setIfInBounds_toArray, List.set_cons_zero, List.set_cons_succ])
            (refine wpAnyH_take (i := 8) (oi := ?_) (v := ?_) ?_ (by kernel_rfl) (by kernel_rfl) (by kernel_rfl) ?_ (Or.inl ⟨?_, ?_⟩) (by assumption) ?_; rotate_left 2; (· (simp only [List.getElem?_toArray, List.getElem?_cons_succ, List.getElem?_cons_zero]; first | done | rfl)); (· exact (fun _ _ _ h => h)); (· rfl); (· (intro w hSw; (try dsimp only at hSw); go_simp; (try with_reducible rfl))))
            (try simp only [Act.put, List.setIfInBounds_toArray, List.set_cons_zero, List.set_cons_succ])
            (refine wpAnyH_take (i := 9) (oi := ?_) (v := ?_) ?_ (by kernel_rfl) (by kernel_rfl) (by kernel_rfl) ?_ (Or.inl ⟨?_, ?_⟩) (by assumption) ?_; rotate_left 2; (· (simp only [List.getElem?_toArray, List.getElem?_cons_succ, List.getElem?_cons_zero]; first | done | rfl)); (· exact (fun _ _ _ h => h)); (· rfl); (· (intro w hSw; (try dsimp only at hSw); go_simp; (try with_reducible rfl))))
            (try simp only [Act.put, List.setIfInBounds_toArray, List.set_cons_zero, List.set_cons_succ])
            (refine wpAnyH_take (i := 10) (oi := ?_) (v := ?_) ?_ (by kernel_rfl) (by kernel_rfl) (by kernel_rfl) ?_ (Or.inl ⟨?_, ?_⟩) (by assumption) ?_; rotate_left 2; (· (simp only [List.getElem?_toArray, List.getElem?_cons_succ, List.getElem?_cons_zero]; first | done | rfl)); (· exact (fun _ _ _ h => h)); (· rfl); (· (intro w hSw; (try dsimp only at hSw); go_simp; (try with_reducible rfl))))
            (try simp only [Act.put, List.setIfInBounds_toArray, List.set_cons_zero, List.set_cons_succ])
            (refine wpAnyH_take (i := 11) (oi := ?_) (v := ?_) ?_ (by kernel_rfl) (by kernel_rfl) (by kernel_rfl) ?_ (Or.inl ⟨?_, ?_⟩) (by assumption) ?_; rotate_left 2; (· (simp only [List.getElem?_toArray, List.getElem?_cons_succ, List.getElem?_cons_zero]; first | done | rfl)); (· exact (fun _ _ _ h => h)); (· rfl); (· (intro w hSw; (try dsimp only at hSw); go_simp; (try with_reducible rfl))))
            (try simp only [Act.put, List.setIfInBounds_toArray, List.set_cons_zero, List.set_cons_succ])
            (refine wpAnyH_take (i := 12) (oi := ?_) (v := ?_) ?_ (by kernel_rfl) (by kernel_rfl) (by kernel_rfl) ?_ (Or.inl ⟨?_, ?_⟩) (by assumption) ?_; rotate_left 2; (· (simp only [List.getElem?_toArray, List.getElem?_cons_succ, List.getElem?_cons_zero]; first | done | rfl)); (· exact (fun _ _ _ h => h)); (· rfl); (· (intro w hSw; (try dsimp only at hSw); go_simp; (try with_reducible rfl))))
            (try simp only [Act.put, List.setIfInBounds_toArray, List.set_cons_zero, List.set_cons_succ])
            (refine wpAnyH_take (i := 13) (oi := ?_) (v := ?_) ?_ (by kernel_rfl) (by kernel_rfl) (by kernel_rfl) ?_ (Or.inl ⟨?_, ?_⟩) (by assumption) ?_; rotate_left 2; (· (simp only [List.getElem?_toArray, List.getElem?_cons_succ, List.getElem?_cons_zero]; first | done | rfl)); (· exact (fun _ _ _ h => h)); (· rfl); (· (intro w hSw; (try dsimp only at hSw); go_simp; (try with_reducible rfl))))
            (try simp only [Act.put, List.setIfInBounds_toArray, List.set_cons_zero, List.set_cons_succ])
            refine wpAnyH_ready (rs := [14]) (by kernel_rfl) (by simp) ?_
            refine AllReadyH.cons (o := ?_) ?_ (fun K hK => ?_) AllReadyH.nil
            rotate_left 1
            · (simp only [List.getElem?_toArray, List.getElem?_cons_succ, List.getElem?_cons_zero]; first | done | rfl)
            go_simp
            first | (refine hK.out _ _ ?_ (fun hq1 => ?_)) | ((go_at_call 18; refine (HCM.out _ (so_own (by assumption))).mono ?_; rintro e w7 ⟨rfl, hb7⟩); refine hK.out _ _ ?_ (fun hq1 => ?_)) | ((go_at_call 18; refine (HCM.out _ (so_own (by assumption))).mono ?_; rintro e w7 ⟨rfl, hb7⟩); go_wp2_with fail; refine hK.out _ _ ?_ (fun hq1 => ?_)) | fail
            · ((try dsimp only); (first | exact HST.out | assumption | exact so_below (by assumption) (by assumption)))
            clear hK K
            (try simp only [Act.put, List.setIfInBounds_toArray, List.set_cons_zero, List.set_cons_succ])
            clear hq0
            (refine wpAnyH_take (i := 15) (oi := ?_) (v := ?_) ?_ (by kernel_rfl) (by kernel_rfl) (by kernel_rfl) ?_ (Or.inl ⟨?_, ?_⟩) (by assumption) ?_; rotate_left 2; (· (simp only [List.getElem?_toArray, List.getElem?_cons_succ, List.getElem?_cons_zero]; first | done | rfl)); (· exact (fun _ _ _ h => h)); (· rfl); (· (intro w hSw; (try dsimp only at hSw); go_simp; (try with_reducible rfl))))
            (try simp only [Act.put, List.setIfInBounds_toArray, List.set_cons_zero, List.set_cons_succ])
            (refine wpAnyH_take (i := 16) (oi := ?_) (v := ?_) ?_ (by kernel_rfl) (by kernel_rfl) (by kernel_rfl) ?_ (Or.inl ⟨?_, ?_⟩) (by assumption) ?_; rotate_left 2; (· (simp only [List.getElem?_toArray, List.getElem?_cons_succ, List.getElem?_cons_zero]; first | done | rfl)); (· exact (fun _ _ _ h => h)); (· rfl); (· (intro w hSw; (try dsimp only at hSw); go_simp; (try with_reducible rfl))))
            (try simp only [Act.put, List.setIfInBounds_toArray, List.set_cons_zero, List.set_cons_succ])
            refine wpAnyH_done (by kernel_rfl) ?_ _
            go_wp2_with fail
            exact ⟨⟨i + 1, by omega, by omega, by go_num, by
              have e : isort L (i + 1 - 1) = M := by
                show isort L i = M
                rw [← HB.out, HBUB.out, if_neg (by omega)]
              rw [e]; exact HROW2.out.below (so_own (by assumption)) HROW2.out.lt, HBR2.out.trans ((so_own (by assumption)).mono (Nat.le_of_lt HROW2.out.lt))⟩, by simp [intOf]; go_num⟩
    · obtain rfl : i = L.length := by omega
      have q1 : ¬ ((L.length : Nat) : Int) < (L.length : Int) := by omega
      go_wp2_with fail
      go_end0
      exact ⟨rfl, hrow, hbr⟩
end Go.Proofs.YtpbdgbejcdncgaaGreatDoor.Val
end

section
/- THE WALK OF slices.SortStableFunc at a short row of conditions. -/
namespace Go.Proofs.YtpbdgbejcdncgaaGreatDoor.Val
open Go.RowKit Flt
set_option maxRecDepth 20000 in
set_option maxHeartbeats 1000000 in
theorem insertion_none (v : Value) (w : World) :
    Calls Tryz.prog 52 #[v, .int .i64 0, .int .i64 0, .func (.func 18) #[] #[]] w fun e w' => e = .returned (.tuple #[]) ∧ Below w.heap.size w w' := by
  go_enter Tryz.func52, Tryz.ntmps52
  go_wp2_with fail
  go_loopw [8] (fun vi wr => vi = .int .i64 1 ∧ Below w.heap.size w wr) (fun _ _ => 0)
  case atStart => exact ⟨rfl, Below.refl _ _⟩
  case round =>
    obtain ⟨rfl, hb⟩ := hrel
    go_wp2_with fail
    go_end0
    exact ⟨rfl, hb⟩
set_option maxRecDepth 20000 in
set_option maxHeartbeats 1000000 in
theorem stable_in (v : Value) (n : Nat) (hn : n ≤ 19) (w : World) (R : World → Prop)
    (hi : ∀ W, Below w.heap.size w W → Calls Tryz.prog 52 #[v, .int .i64 0, .int .i64 (n : Nat), .func (.func 18) #[] #[]] W fun e w' => e = .returned (.tuple #[]) ∧ R w') :
    Calls Tryz.prog 41 #[v, .int .i64 (n : Nat), .func (.func 18) #[] #[]] w fun e w' => e = .returned (.tuple #[]) ∧ R w' := by
  have HI := Lib.hid hi; clear hi
  have q1 : ¬ (20 : Int) ≤ (n : Int) := by omega
  have q2 : ¬ (20 : Int) < (n : Int) := by omega
  go_enter Tryz.func41, Tryz.ntmps41
  go_wp2_with fail
  go_loopw [7, 8] (fun va vb wr => va = .int .i64 0 ∧ vb = .int .i64 20 ∧ Below w.heap.size w wr) (fun _ _ _ => 0)
  case atStart => exact ⟨rfl, rfl, Below.refl _ _⟩
  case round =>
    obtain ⟨rfl, rfl, hb⟩ := hrel
    go_wp2_with (first | (go_at_call 52; refine (HI.out _ hb).mono ?_; rintro e w3 ⟨rfl, hr⟩) | fail)
    have HRR := Lib.hid hr; clear hr hb
    go_loopw [6] (fun vs wr => vs = .int .i64 20 ∧ wr = w3) (fun _ _ => 0)
    case atStart => exact ⟨rfl, rfl⟩
    case round =>
      obtain ⟨rfl, rfl⟩ := hrel
      go_wp2_with fail
      go_end0
      exact ⟨rfl, HRR.out⟩
set_option maxRecDepth 20000 in
set_option maxHeartbeats 1000000 in
theorem sort_in (a0 : Option Addr) (n cap : Nat) (w : World) (R : World → Prop)
    (hi : ∀ W, Below w.heap.size w W → Calls Tryz.prog 41 #[.slice a0 n cap, .int .i64 (n : Nat), .func (.func 18) #[] #[]] W fun e w' => e = .returned (.tuple #[]) ∧ R w') :
    Calls Tryz.prog 17 #[.slice a0 n cap, .func (.func 18) #[] #[]] w fun e w' => e = .returned (.tuple #[]) ∧ R w' := by
  have HI := Lib.hid hi; clear hi
  go_enter Tryz.func17, Tryz.ntmps17
  go_wp2_with (first | (go_at_call 41; refine (HI.out _ (Below.refl _ _)).mono ?_; rintro e w3 ⟨rfl, hr⟩) | fail)
  go_end0
  exact ⟨rfl, hr⟩
/-- a row of conditions is brought in order -/
theorem sort_any (L : List C) (Z : List Value) (g cap : Nat) (ws w : World) (hw : Words ws) (hT : Tab.Tabs ws) (hgs : ws.heap.size ≤ g) (hbs : Below ws.heap.size ws w) (hr : Row w g L Z) (hs : ∀ x ∈ L, CSmall x) (hl : L.length ≤ 19) (h1 : 1 ≤ L.length) :
    Calls Tryz.prog 17 #[.slice (some ⟨g, 0, none⟩) L.length cap, .func (.func 18) #[] #[]] w fun e w' =>
      e = .returned (.tuple #[]) ∧ (Row w' g (isort L (L.length - 1)) Z ∧ Below g w w') :=
  sort_in _ _ _ w (fun w' => Row w' g (isort L (L.length - 1)) Z ∧ Below g w w') (fun W hb => stable_in _ L.length hl W _ (fun W2 hb2 => by
    have hg := hr.lt
    have hb3 : Below w.heap.size w W2 := hb.trans (hb2.mono hb.size)
    have hb4 : Below g w W2 := hb3.mono (Nat.le_of_lt hg)
    refine (insertion_any L Z g cap ws W2 hw hT hgs (hbs.trans (hb3.mono hbs.size)) (hr.below hb3 hg) hs (by omega) h1).mono ?_
    rintro e w' ⟨h1, h2, h3⟩
    exact ⟨h1, h2, hb4.trans h3⟩))
theorem sort_none (a0 : Option Addr) (cap : Nat) (w : World) :
    Calls Tryz.prog 17 #[.slice a0 0 cap, .func (.func 18) #[] #[]] w fun e w' => e = .returned (.tuple #[]) ∧ Below w.heap.size w w' :=
  sort_in a0 0 cap w (fun w' => Below w.heap.size w w') (fun W hb => stable_in _ 0 (by decide) W _ (fun W2 hb2 => (insertion_none _ W2).mono fun e w' ⟨h1, h2⟩ => ⟨h1, (hb.trans (hb2.mono hb.size)).trans (h2.mono (Nat.le_trans hb.size hb2.size))⟩))
end Go.Proofs.YtpbdgbejcdncgaaGreatDoor.Val
end

section
/- PLAIN LAW OF Implies: what it answers, that it is sound, that it is handed on. No program in sight. -/
namespace Go.Proofs.YtpbdgbejcdncgaaGreatDoor.Val
open Flt
theorem cb_zero : ∀ (a b : List UInt8), Lib.compareBytes a b = 0 ↔ a = b
  | [], [] => by simp [Lib.compareBytes]
  | [], _ :: _ => by simp [Lib.compareBytes]
  | _ :: _, [] => by simp [Lib.compareBytes]
  | a :: ar, b :: bs => by
    unfold Lib.compareBytes
    by_cases h : a < b
    · rw [if_pos h]; constructor
      · intro h'; omega
      · intro h'; injection h' with h1 h2; subst h1; exact absurd h (UInt8.lt_irrefl _)
    · rw [if_neg h]
      by_cases h' : b < a
      · rw [if_pos h']; constructor
        · intro h'; omega
        · intro h2; injection h2 with h1 h3; subst h1; exact absurd h' (UInt8.lt_irrefl _)
      · rw [if_neg h', cb_zero ar bs]
        have e : a = b := by
          rw [UInt8.lt_iff_toNat_lt] at h h'
          exact UInt8.toNat_inj.1 (by omega)
        subst e; simp
theorem cb_lt : ∀ (a b c : List UInt8), (Lib.compareBytes a b < 0 → Lib.compareBytes b c < 0 → Lib.compareBytes a c < 0) ∧ (0 < Lib.compareBytes a b → 0 < Lib.compareBytes b c → 0 < Lib.compareBytes a c)
  | [], [], _ => by simp [Lib.compareBytes]
  | [], _ :: _, [] => by simp [Lib.compareBytes]
  | [], _ :: _, _ :: _ => by simp [Lib.compareBytes]
  | _ :: _, [], [] => by simp [Lib.compareBytes]
  | _ :: _, [], _ :: _ => by simp [Lib.compareBytes]
  | _ :: _, _ :: _, [] => by simp [Lib.compareBytes]
  | a :: ar, b :: bs, c :: cs => by
    have ih := cb_lt ar bs cs
    unfold Lib.compareBytes
    simp only [UInt8.lt_iff_toNat_lt]
    by_cases h1 : a.toNat < b.toNat <;> by_cases h2 : b.toNat < a.toNat <;> by_cases h3 : b.toNat < c.toNat <;> by_cases h4 : c.toNat < b.toNat <;> by_cases h5 : a.toNat < c.toNat <;> by_cases h6 : c.toNat < a.toNat <;> simp only [h1, h2, h3, h4, h5, h6, if_true, if_false] <;> first | exact ih | omega
/-- how three comparisons hang together -/
def Ord3 (p q r : Int) : Prop := (p < 0 → q ≤ 0 → r < 0) ∧ (p ≤ 0 → q < 0 → r < 0) ∧ (p = 0 → q = 0 → r = 0) ∧ (0 < p → 0 ≤ q → 0 < r) ∧ (0 ≤ p → 0 < q → 0 < r)
theorem cb_ord (a b c : List UInt8) : Ord3 (Lib.compareBytes a b) (Lib.compareBytes b c) (Lib.compareBytes a c) := by
  have h := cb_lt a b c
  have h1 := cb_zero a b
  have h2 := cb_zero b c
  unfold Ord3
  by_cases e1 : a = b
  · subst e1; rw [(cb_zero a a).2 rfl] at *; omega
  by_cases e2 : b = c
  · subst e2; rw [(cb_zero b b).2 rfl] at *; omega
  simp only [e1, iff_false] at h1
  simp only [e2, iff_false] at h2
  omega
theorem sgn_spec (a b : Int) : (sgn (decide (a < b)) (decide (b < a)) < 0 ↔ a < b) ∧ (sgn (decide (a < b)) (decide (b < a)) = 0 ↔ a = b) := by
  unfold sgn
  by_cases h : a < b
  · simp [h]; omega
  · by_cases h2 : b < a
    · simp [h, h2]; omega
    · simp [h, h2]; omega
def lowB (n a b : Int) : Bool := ((b == 2 || b == 3) && (decide (n < 0) || (n == 0 && (b == 3 || a != 3)))) || (b == 1 && (decide (n < 0) || (n == 0 && a != 3)))
def uppB (n a b : Int) : Bool := ((b == 4 || b == 5) && (decide (0 < n) || (n == 0 && (b == 5 || a != 5)))) || (b == 1 && (decide (0 < n) || (n == 0 && a != 5)))
/-- the rule for two conditions on one kind, none void, neither Has -/
def ruleB (a b : C) : Bool :=
  if a.op == 0 then holdsB b a.val
  else if a.op == 1 then b.op == 1 && cmp1 a.val b.val == 0
  else if a.op == 6 then (b.op == 6 && pre a.val.text b.val.text) || (b.op == 1 && !pre b.val.text a.val.text)
  else if a.op == 2 || a.op == 3 then lowB (cmp1 a.val b.val) a.op b.op
  else uppB (cmp1 a.val b.val) a.op b.op
def impliesB (a b : C) : Bool :=
  if a.name != b.name then false
  else if cvoidB a || b.op == 7 then true
  else if a.op == 7 || cvoidB b || a.val.kind != b.val.kind then false
  else ruleB a b
theorem eight {o : Int} (h1 : 0 ≤ o) (h2 : o ≤ 7) (h : o ≠ 7) : o = 0 ∨ o = 1 ∨ o = 2 ∨ o = 3 ∨ o = 4 ∨ o = 5 ∨ o = 6 := by omega
theorem cvoid_at {c : C} (h : cvoidB c = false) (h7 : c.op ≠ 7) : voidB c.val = false := by
  unfold cvoidB at h
  have : (c.op != 7) = true := by simpa using h7
  rw [this] at h
  simp at h
  exact h.1
theorem cmpOk_of {x y : V} (h : x.kind = y.kind) (h1 : voidB x = false) (h2 : voidB y = false) : cmpOk x y = true := by
  unfold cmpOk; simp [h, h1, h2]
end Go.Proofs.YtpbdgbejcdncgaaGreatDoor.Val
end

section
/- THE WALKS OF package order: Key, Same. -/
namespace Go.Proofs.YtpbdgbejcdncgaaGreatDoor.Ord
open Go.RowKit Flt
attribute [local go_sem] ford_eq ford_lt ford_gt
theorem bits_call (b : Nat) (w : World) : (callFunc 81 #[.float .f64 b]).run Tryz.prog w = .ok (.value (.int .u64 b)) w :=
  run_callFunc_extern (e := Extern.MathFloatBits.float64bits) Tryz.func81 (by kernel_rfl) (by kernel_rfl) (by kernel_rfl) (by kernel_rfl) _ w
theorem umax_xor (b : Nat) (hb : b < 18446744073709551616) : bits .xor .u64 IntKind.u64.max (b : Int) = ((most - b : Nat) : Int) := by
  have h := u64_xor 18446744073709551615 (b : Int) (by decide) (by decide) (by omega) (by omega)
  have e : IntKind.u64.max = 18446744073709551615 := by decide
  rw [e, h]
  have e2 : (18446744073709551615 : Int).toNat = most := by decide
  rw [e2, Int.toNat_natCast, xor_most hb]
theorem top_or (b : Nat) (hb : b < 18446744073709551616) : bits .or .u64 (b : Int) 9223372036854775808 = ((b ||| top : Nat) : Int) := by
  have h := u64_or (b : Int) 9223372036854775808 (by omega) (by omega) (by decide) (by decide)
  rw [h, Int.toNat_natCast]; rfl
theorem top_off (b : Nat) (hb : b < 18446744073709551616) : bits .andNot .u64 (b : Int) 9223372036854775808 = ((b % 9223372036854775808 : Nat) : Int) := by
  have h := u64_andNot (b : Int) 9223372036854775808 (by omega) (by omega) (by decide) (by decide)
  rw [h, Int.toNat_natCast]
  have e2 : (9223372036854775808 : Int).toNat = 9223372036854775808 := by decide
  rw [e2, and_low]

theorem ret_u64 {a b : Int} (h : a = b) : Ending.returned (.int .u64 a) = .returned (.int .u64 b) := by rw [h]
set_option maxHeartbeats 400000 in
theorem key_any (b : Nat) (hb : b < 18446744073709551616) (w : World) :
    Calls Tryz.prog 66 #[.float .f64 b] w fun e w' => e = .returned (.int .u64 (key b)) ∧ w = w' := by
  have hc := bits_call
  have h1 := ford_ne_self (canon b)
  rw [canon_nan] at h1
  cases hn : nan b with
  | true =>
    rw [key_nan hn]
    rw [hn] at h1; clear hn hb
    go_enter Tryz.func66, Tryz.ntmps66
    go_wp2_with (go_at_call 51; refine (canon_any _ _).mono ?_; rintro e w' ⟨rfl, rfl⟩)
    go_ret
    exact ⟨rfl, rfl⟩
  | false =>
    rw [hn] at h1
    have hk := key_of_canon b hb hn
    have hl := canon_lt b hb
    clear hn hb
    by_cases h : canon b / 9223372036854775808 = 1
    · rw [if_pos h] at hk
      have HK := Lib.hid hk; clear hk
      have h' : ((canon b : Int) / 9223372036854775808 == 1) = true := by rw [beq_iff_eq]; omega
      clear h
      go_enter Tryz.func66, Tryz.ntmps66
      go_wp2_with (go_at_call 51; refine (canon_any _ _).mono ?_; rintro e w' ⟨rfl, rfl⟩)
      go_ret
      exact ⟨ret_u64 (by rw [HK.out, umax_xor _ hl]), rfl⟩
    · rw [if_neg h] at hk
      have HK := Lib.hid hk; clear hk
      have h' : ((canon b : Int) / 9223372036854775808 == 1) = false := by rw [beq_eq_false_iff_ne]; omega
      clear h
      go_enter Tryz.func66, Tryz.ntmps66
      go_wp2_with (go_at_call 51; refine (canon_any _ _).mono ?_; rintro e w' ⟨rfl, rfl⟩)
      go_ret
      exact ⟨ret_u64 (by rw [HK.out, top_or _ hl]), rfl⟩
def same (a b : Nat) : Bool := key a == key b
theorem beq_cast (a b : Nat) : ((a : Int) == (b : Int)) = (a == b) := by
  rw [Bool.eq_iff_iff]; simp; omega
set_option maxHeartbeats 400000 in
theorem same_any (a b : Nat) (ha : a < 18446744073709551616) (hb : b < 18446744073709551616) (w : World) :
    Calls Tryz.prog 77 #[.float .f64 a, .float .f64 b] w fun e w' => e = .returned (.bool (same a b)) ∧ w = w' := by
  go_enter Tryz.func77, Tryz.ntmps77
  go_wp2_with (go_at_call 66; refine (key_any _ (by assumption) _).mono ?_; rintro e w' ⟨rfl, rfl⟩)
  go_ret
  exact ⟨ret_bool (beq_cast _ _), rfl⟩
end Go.Proofs.YtpbdgbejcdncgaaGreatDoor.Ord
end

section
/- THE WALKS OF value.Same, cond.below, cond.above. -/
namespace Go.Proofs.YtpbdgbejcdncgaaGreatDoor.Val
open Go.RowKit Flt
def sameB (a b : V) : Bool := a.kind == b.kind && (if a.kind == 0 then a.int == b.int else if a.kind == 1 then Ord.same a.num b.num else if a.kind == 2 then a.text == b.text else a.yes == b.yes)
set_option maxHeartbeats 400000 in
theorem same_any (k1 n1 : Int) (x1 : Nat) (t1 : List UInt8) (y1 : Bool) (k2 n2 : Int) (x2 : Nat) (t2 : List UInt8) (y2 : Bool) (w : World) (h1 : x1 < 18446744073709551616) (h2 : x2 < 18446744073709551616) :
    Calls Tryz.prog 61 #[val k1 n1 x1 t1 y1, val k2 n2 x2 t2 y2] w fun e w' => e = .returned (.bool (sameB ⟨k1, n1, x1, t1, y1⟩ ⟨k2, n2, x2, t2, y2⟩)) ∧ Below w.heap.size w w' := by
  have hr : sameB ⟨k1, n1, x1, t1, y1⟩ ⟨k2, n2, x2, t2, y2⟩ = (k1 == k2 && (if k1 == 0 then n1 == n2 else if k1 == 1 then Ord.same x1 x2 else if k1 == 2 then t1 == t2 else y1 == y2)) := rfl
  have ho (w : World) := Ord.same_any x1 x2 h1 h2 w
  generalize Ord.same x1 x2 = sb at *
  have HR := Lib.hid hr; have HO := Lib.hid ho; clear hr ho h1 h2
  cases hk : (k1 == k2)
  · have hk' : (k1 != k2) = true := by rw [bne, hk]; rfl
    go_enter Tryz.func61, Tryz.ntmps61
    go_wp2
    go_ret
    exact ⟨ret_bool (by rw [HR.out, hk]; rfl), balloc2 _ _ _⟩
  have hk' : (k1 != k2) = false := by rw [bne, hk]; rfl
  cases q0 : (k1 == 0)
  · cases q1 : (k1 == 1)
    · cases q2 : (k1 == 2)
      all_goals
        go_enter Tryz.func61, Tryz.ntmps61
        go_wp2
        go_ret
        exact ⟨ret_bool (by rw [HR.out, hk, q0, q1, q2]; rfl), balloc2 _ _ _⟩
    · go_enter Tryz.func61, Tryz.ntmps61
      go_wp2_with (go_at_call 77; refine (HO.out _).mono ?_; rintro e w' ⟨rfl, rfl⟩)
      go_ret
      exact ⟨ret_bool (by rw [HR.out, hk, q0, q1]; rfl), balloc2 _ _ _⟩
  · go_enter Tryz.func61, Tryz.ntmps61
    go_wp2
    go_ret
    exact ⟨ret_bool (by rw [HR.out, hk, q0]; rfl), balloc2 _ _ _⟩
theorem same_cmp (a b : V) (hk : a.kind = b.kind) (v1 : voidB a = false) (v2 : voidB b = false) (h1 : a.num < 18446744073709551616) (h2 : b.num < 18446744073709551616) : sameB a b = (cmp1 a b == 0) := by
  have ok := cmpOk_of hk v1 v2
  have e : cmp1 a b = cmp a b := by unfold cmp1; rw [ok]; rfl
  rw [e]
  unfold sameB cmp
  have hkk : (a.kind == b.kind) = true := by rw [beq_iff_eq]; exact hk
  rw [hkk]
  unfold voidB at v1 v2
  rw [← hk] at v2
  by_cases k0 : a.kind = 0
  · have := (sgn_spec a.int b.int).2
    simp only [k0]
    rw [Bool.eq_iff_iff]
    simpa using this.symm
  by_cases k1 : a.kind = 1
  · have n1 : nan a.num = false := by simpa [k1] using v1
    have n2 : nan b.num = false := by simpa [k1] using v2
    have hs := (sgn_spec (sk a.num) (sk b.num)).2
    have hq := Ord.key_eq_iff h1 h2 n1 n2
    simp only [k1, Flt.lt, n1, n2, Ord.same]
    rw [Bool.eq_iff_iff]
    simp only [Bool.not_false, Bool.and_self, Bool.true_and]
    simp
    rw [hs, hq]
  by_cases k2 : a.kind = 2
  · have := cb_zero a.text b.text
    simp only [k2]
    rw [Bool.eq_iff_iff]
    simpa using this.symm
  have e0 : (a.kind == 0) = false := by simpa using k0
  have e1 : (a.kind == 1) = false := by simpa using k1
  have e2 : (a.kind == 2) = false := by simpa using k2
  simp only [e0, e1, e2, Bool.false_eq_true, if_false]
  unfold sgn
  cases a.yes <;> cases b.yes <;> rfl
theorem side_ways (op p q : Int) (h : p ≠ q) : (op == p) = true ∧ (op == q) = false ∨ (op == p) = false ∧ (op == q) = true ∨ (op == p) = false ∧ (op == q) = false := by
  cases h1 : (op == p) <;> cases h2 : (op == q) <;> simp_all
theorem below_any (op : Int) (w : World) :
    Calls Tryz.prog 64 #[.int .i64 op] w fun e w' => e = .returned (.tuple #[.bool (op == 2 || op == 3), .bool (op == 3)]) ∧ w = w' := by
  rcases side_ways op 2 3 (by decide) with ⟨h1, h2⟩ | ⟨h1, h2⟩ | ⟨h1, h2⟩
  all_goals
    go_enter Tryz.func64, Tryz.ntmps64
    go_wp2
    go_ret2
    exact ⟨by rw [h1, h2]; rfl, rfl⟩
theorem above_any (op : Int) (w : World) :
    Calls Tryz.prog 65 #[.int .i64 op] w fun e w' => e = .returned (.tuple #[.bool (op == 4 || op == 5), .bool (op == 5)]) ∧ w = w' := by
  rcases side_ways op 4 5 (by decide) with ⟨h1, h2⟩ | ⟨h1, h2⟩ | ⟨h1, h2⟩
  all_goals
    go_enter Tryz.func65, Tryz.ntmps65
    go_wp2
    go_ret2
    exact ⟨by rw [h1, h2]; rfl, rfl⟩
end Go.Proofs.YtpbdgbejcdncgaaGreatDoor.Val
end

section
/- THE WALK OF cond.Implies. -/
namespace Go.Proofs.YtpbdgbejcdncgaaGreatDoor.Val
open Go.RowKit Flt
theorem low_ways (o p q : Int) (h : p ≠ q) (hp : p ≠ 1) (hq : q ≠ 1) : ((o == p) = true ∧ (o == q) = false ∧ (o == 1) = false) ∨ ((o == p) = false ∧ (o == q) = true ∧ (o == 1) = false) ∨ ((o == p) = false ∧ (o == q) = false ∧ (o == 1) = true) ∨ ((o == p) = false ∧ (o == q) = false ∧ (o == 1) = false) := by
  cases h1 : (o == p) <;> cases h2 : (o == q) <;> cases h3 : (o == 1) <;> simp_all
theorem cmp3_ways (c : Int) : (decide (c < 0) = true ∧ (c == 0) = false ∧ decide (0 < c) = false) ∨ (decide (c < 0) = false ∧ (c == 0) = true ∧ decide (0 < c) = false) ∨ (decide (c < 0) = false ∧ (c == 0) = false ∧ decide (0 < c) = true) := by
  rcases Int.lt_trichotomy c 0 with h | h | h
  · left; simp [h]; omega
  · right; left; simp [h]
  · right; right; simp [h]; omega
set_option maxRecDepth 20000 in
set_option maxHeartbeats 4000000 in
theorem implies_any (nm1 : List UInt8) (op1 k1 n1 : Int) (x1 : Nat) (t1 : List UInt8) (y1 : Bool) (nm2 : List UInt8) (op2 k2 n2 : Int) (x2 : Nat) (t2 : List UInt8) (y2 : Bool) (w : World)
    (a0 : 0 ≤ op1) (a7 : op1 ≤ 7) (hx1 : x1 < 18446744073709551616) (hx2 : x2 < 18446744073709551616) :
    Calls Tryz.prog 45 #[cond nm1 op1 k1 n1 x1 t1 y1, cond nm2 op2 k2 n2 x2 t2 y2] w fun e w' => e = .returned (.bool (impliesB ⟨nm1, op1, k1, n1, x1, t1, y1⟩ ⟨nm2, op2, k2, n2, x2, t2, y2⟩)) ∧ Below w.heap.size w w' := by
  have hr : impliesB ⟨nm1, op1, k1, n1, x1, t1, y1⟩ ⟨nm2, op2, k2, n2, x2, t2, y2⟩ = (if !(nm1 == nm2) then false else if cvoidB ⟨nm1, op1, k1, n1, x1, t1, y1⟩ || op2 == 7 then true else if op1 == 7 || cvoidB ⟨nm2, op2, k2, n2, x2, t2, y2⟩ || k1 != k2 then false
    else if op1 == 0 then holdsB ⟨nm2, op2, k2, n2, x2, t2, y2⟩ ⟨k1, n1, x1, t1, y1⟩ else if op1 == 1 then op2 == 1 && cmp1 ⟨k1, n1, x1, t1, y1⟩ ⟨k2, n2, x2, t2, y2⟩ == 0
    else if op1 == 6 then (op2 == 6 && pre t1 t2) || (op2 == 1 && !pre t2 t1)
    else if op1 == 2 || op1 == 3 then lowB (cmp1 ⟨k1, n1, x1, t1, y1⟩ ⟨k2, n2, x2, t2, y2⟩) op1 op2 else uppB (cmp1 ⟨k1, n1, x1, t1, y1⟩ ⟨k2, n2, x2, t2, y2⟩) op1 op2) := rfl
  have hsc : cvoidB ⟨nm1, op1, k1, n1, x1, t1, y1⟩ = false → cvoidB ⟨nm2, op2, k2, n2, x2, t2, y2⟩ = false → op1 ≠ 7 → op2 ≠ 7 → k1 = k2 → sameB ⟨k1, n1, x1, t1, y1⟩ ⟨k2, n2, x2, t2, y2⟩ = (cmp1 ⟨k1, n1, x1, t1, y1⟩ ⟨k2, n2, x2, t2, y2⟩ == 0) :=
    fun h1 h2 h3 h4 h5 => same_cmp _ _ h5 (cvoid_at h1 h3) (cvoid_at h2 h4) hx1 hx2
  have hho (w : World) := holds_any nm2 op2 k2 n2 x2 t2 y2 k1 n1 x1 t1 y1 w
  have hsm (w : World) := same_any k1 n1 x1 t1 y1 k2 n2 x2 t2 y2 w hx1 hx2
  have hcm (w : World) := compare_any k1 n1 x1 t1 y1 k2 n2 x2 t2 y2 w
  clear hx1 hx2
  have ep : Lib.hasPrefix t1 t2 = pre t1 t2 := rfl
  have eq : Lib.hasPrefix t2 t1 = pre t2 t1 := rfl
  have ea : cvoidB ⟨nm1, op1, k1, n1, x1, t1, y1⟩ = cvoidB ⟨nm1, op1, k1, n1, x1, t1, y1⟩ := rfl
  have eb : cvoidB ⟨nm2, op2, k2, n2, x2, t2, y2⟩ = cvoidB ⟨nm2, op2, k2, n2, x2, t2, y2⟩ := rfl
  generalize impliesB ⟨nm1, op1, k1, n1, x1, t1, y1⟩ ⟨nm2, op2, k2, n2, x2, t2, y2⟩ = R at *
  generalize holdsB ⟨nm2, op2, k2, n2, x2, t2, y2⟩ ⟨k1, n1, x1, t1, y1⟩ = hv at *
  generalize sameB ⟨k1, n1, x1, t1, y1⟩ ⟨k2, n2, x2, t2, y2⟩ = sm at *
  generalize cmpOk ⟨k1, n1, x1, t1, y1⟩ ⟨k2, n2, x2, t2, y2⟩ = ok at *
  generalize cmp1 ⟨k1, n1, x1, t1, y1⟩ ⟨k2, n2, x2, t2, y2⟩ = c at *
  generalize pre t1 t2 = p1 at *
  generalize pre t2 t1 = p2 at *
  generalize hva : cvoidB ⟨nm1, op1, k1, n1, x1, t1, y1⟩ = va at hr hsc
  generalize hvb : cvoidB ⟨nm2, op2, k2, n2, x2, t2, y2⟩ = vb at hr hsc
  clear ea eb
  have EA := Lib.hid hva; have EB := Lib.hid hvb; have EP := Lib.hid ep; have EQ := Lib.hid eq
  have HHO := Lib.hid hho; have HSM := Lib.hid hsm; have HCM := Lib.hid hcm; have HR := Lib.hid hr; have HSC := Lib.hid hsc
  clear hva hvb ep eq hho hsm hcm hr hsc
  cases hn : (nm1 == nm2)
  · go_enter Tryz.func45, Tryz.ntmps45
    go_wp2
    go_ret
    exact ⟨ret_bool (by rw [HR.out, hn]; rfl), by repeat (first | assumption | (with_reducible exact Below.refl _ _) | exact balloc _ _ | exact balloc2 _ _ _ | refine btrans ?_ (by assumption) | refine btrans ?_ (balloc _ _))⟩
  cases va
  rotate_left
  · go_enter Tryz.func45, Tryz.ntmps45
    go_wp2_with (first | (go_at_call 59; refine (cvoid_any _ _ _ _ _ _ _ _).mono ?_; rintro e w2 ⟨rfl, hb2⟩; (first | rw [EA.out] | rw [EB.out]); (first | (replace hb1 := btrans hb1 hb2; clear hb2 hc1 hf1; obtain ⟨hc1, hf1⟩ := bcell hb1) | (have hb1 := hb2; clear hb2; obtain ⟨hc1, hf1⟩ := bcell hb1))) | fail)
    go_ret
    exact ⟨ret_bool (by rw [HR.out, hn]; rfl), by repeat (first | assumption | (with_reducible exact Below.refl _ _) | exact balloc _ _ | exact balloc2 _ _ _ | refine btrans ?_ (by assumption) | refine btrans ?_ (balloc _ _))⟩
  cases b7 : (op2 == 7)
  rotate_left
  · go_enter Tryz.func45, Tryz.ntmps45
    go_wp2_with (first | (go_at_call 59; refine (cvoid_any _ _ _ _ _ _ _ _).mono ?_; rintro e w2 ⟨rfl, hb2⟩; (first | rw [EA.out] | rw [EB.out]); (first | (replace hb1 := btrans hb1 hb2; clear hb2 hc1 hf1; obtain ⟨hc1, hf1⟩ := bcell hb1) | (have hb1 := hb2; clear hb2; obtain ⟨hc1, hf1⟩ := bcell hb1))) | fail)
    go_ret
    exact ⟨ret_bool (by rw [HR.out, hn, b7]; rfl), by repeat (first | assumption | (with_reducible exact Below.refl _ _) | exact balloc _ _ | exact balloc2 _ _ _ | refine btrans ?_ (by assumption) | refine btrans ?_ (balloc _ _))⟩
  by_cases h7 : op1 = 7
  · subst h7
    go_enter Tryz.func45, Tryz.ntmps45
    go_wp2_with (first | (go_at_call 59; refine (cvoid_any _ _ _ _ _ _ _ _).mono ?_; rintro e w2 ⟨rfl, hb2⟩; (first | rw [EA.out] | rw [EB.out]); (first | (replace hb1 := btrans hb1 hb2; clear hb2 hc1 hf1; obtain ⟨hc1, hf1⟩ := bcell hb1) | (have hb1 := hb2; clear hb2; obtain ⟨hc1, hf1⟩ := bcell hb1))) | fail)
    go_ret
    exact ⟨ret_bool (by rw [HR.out, hn, b7]; rfl), by repeat (first | assumption | (with_reducible exact Below.refl _ _) | exact balloc _ _ | exact balloc2 _ _ _ | refine btrans ?_ (by assumption) | refine btrans ?_ (balloc _ _))⟩
  have g7 : (op1 == 7) = false := by simpa using h7
  cases vb
  rotate_left
  · go_enter Tryz.func45, Tryz.ntmps45
    go_wp2_with (first | (go_at_call 59; refine (cvoid_any _ _ _ _ _ _ _ _).mono ?_; rintro e w2 ⟨rfl, hb2⟩; (first | rw [EA.out] | rw [EB.out]); (first | (replace hb1 := btrans hb1 hb2; clear hb2 hc1 hf1; obtain ⟨hc1, hf1⟩ := bcell hb1) | (have hb1 := hb2; clear hb2; obtain ⟨hc1, hf1⟩ := bcell hb1))) | fail)
    go_ret
    exact ⟨ret_bool (by rw [HR.out, hn, b7, g7]; rfl), by repeat (first | assumption | (with_reducible exact Below.refl _ _) | exact balloc _ _ | exact balloc2 _ _ _ | refine btrans ?_ (by assumption) | refine btrans ?_ (balloc _ _))⟩
  cases hk : (k1 != k2)
  rotate_left
  · go_enter Tryz.func45, Tryz.ntmps45
    go_wp2_with (first | (go_at_call 59; refine (cvoid_any _ _ _ _ _ _ _ _).mono ?_; rintro e w2 ⟨rfl, hb2⟩; (first | rw [EA.out] | rw [EB.out]); (first | (replace hb1 := btrans hb1 hb2; clear hb2 hc1 hf1; obtain ⟨hc1, hf1⟩ := bcell hb1) | (have hb1 := hb2; clear hb2; obtain ⟨hc1, hf1⟩ := bcell hb1))) | fail)
    go_ret
    exact ⟨ret_bool (by rw [HR.out, hn, b7, g7, hk]; rfl), by repeat (first | assumption | (with_reducible exact Below.refl _ _) | exact balloc _ _ | exact balloc2 _ _ _ | refine btrans ?_ (by assumption) | refine btrans ?_ (balloc _ _))⟩
  have HS : Hid (sm = (c == 0)) := Lib.hid (HSC.out rfl rfl h7 (by simpa using b7) (by simpa using hk))
  have hr1 := HR.out
  rw [hn, b7, g7, hk] at hr1
  simp only [Bool.false_eq_true, if_false, Bool.or_self] at hr1
  clear HR HSC
  rcases eight a0 a7 h7 with rfl | rfl | rfl | rfl | rfl | rfl | rfl
  all_goals clear g7 h7 a0 a7
  · have HR : Hid (R = hv) := Lib.hid hr1
    clear hr1
    go_enter Tryz.func45, Tryz.ntmps45
    go_wp2_with (first | (go_at_call 59; refine (cvoid_any _ _ _ _ _ _ _ _).mono ?_; rintro e w2 ⟨rfl, hb2⟩; (first | rw [EA.out] | rw [EB.out]); (first | (replace hb1 := btrans hb1 hb2; clear hb2 hc1 hf1; obtain ⟨hc1, hf1⟩ := bcell hb1) | (have hb1 := hb2; clear hb2; obtain ⟨hc1, hf1⟩ := bcell hb1))) | (go_at_call 60; refine (HHO.out _).mono ?_; rintro e w2 ⟨rfl, hb2⟩; (first | (replace hb1 := btrans hb1 hb2; clear hb2 hc1 hf1; obtain ⟨hc1, hf1⟩ := bcell hb1) | (have hb1 := hb2; clear hb2; obtain ⟨hc1, hf1⟩ := bcell hb1))) | fail)
    go_ret
    exact ⟨ret_bool HR.out.symm, by repeat (first | assumption | (with_reducible exact Below.refl _ _) | exact balloc _ _ | exact balloc2 _ _ _ | refine btrans ?_ (by assumption) | refine btrans ?_ (balloc _ _))⟩
  · have HR : Hid (R = (op2 == 1 && c == 0)) := Lib.hid hr1
    clear hr1
    cases o1 : (op2 == 1)
    all_goals
      go_enter Tryz.func45, Tryz.ntmps45
      go_wp2_with (first | (go_at_call 59; refine (cvoid_any _ _ _ _ _ _ _ _).mono ?_; rintro e w2 ⟨rfl, hb2⟩; (first | rw [EA.out] | rw [EB.out]); (first | (replace hb1 := btrans hb1 hb2; clear hb2 hc1 hf1; obtain ⟨hc1, hf1⟩ := bcell hb1) | (have hb1 := hb2; clear hb2; obtain ⟨hc1, hf1⟩ := bcell hb1))) | (go_at_call 61; refine (HSM.out _).mono ?_; rintro e w2 ⟨rfl, hb2⟩; (first | (replace hb1 := btrans hb1 hb2; clear hb2 hc1 hf1; obtain ⟨hc1, hf1⟩ := bcell hb1) | (have hb1 := hb2; clear hb2; obtain ⟨hc1, hf1⟩ := bcell hb1))) | fail)
      go_ret
      exact ⟨ret_bool (by rw [HR.out, o1]; first | rfl | exact HS.out), by repeat (first | assumption | (with_reducible exact Below.refl _ _) | exact balloc _ _ | exact balloc2 _ _ _ | refine btrans ?_ (by assumption) | refine btrans ?_ (balloc _ _))⟩
  · have HR : Hid (R = lowB c 2 op2) := Lib.hid hr1
    clear hr1
    go_enter Tryz.func45, Tryz.ntmps45
    go_wp2_with (first | (go_at_call 59; refine (cvoid_any _ _ _ _ _ _ _ _).mono ?_; rintro e w2 ⟨rfl, hb2⟩; (first | rw [EA.out] | rw [EB.out]); (first | (replace hb1 := btrans hb1 hb2; clear hb2 hc1 hf1; obtain ⟨hc1, hf1⟩ := bcell hb1) | (have hb1 := hb2; clear hb2; obtain ⟨hc1, hf1⟩ := bcell hb1))) | fail)
    refine (HCM.out _).mono ?_; rintro e w2 ⟨rfl, hb2⟩; (first | (replace hb1 := btrans hb1 hb2; clear hb2 hc1 hf1; obtain ⟨hc1, hf1⟩ := bcell hb1) | (have hb1 := hb2; clear hb2; obtain ⟨hc1, hf1⟩ := bcell hb1))
    rcases low_ways op2 2 3 (by decide) (by decide) (by decide) with ⟨o1, o2, o3⟩ | ⟨o1, o2, o3⟩ | ⟨o1, o2, o3⟩ | ⟨o1, o2, o3⟩ <;> rcases cmp3_ways c with ⟨q1, q2, q3⟩ | ⟨q1, q2, q3⟩ | ⟨q1, q2, q3⟩
    all_goals
      go_wp2_with (first | (go_at_call 64; refine (below_any _ _).mono ?_; rintro e w' ⟨rfl, rfl⟩) | fail)
      go_ret
      exact ⟨ret_bool (by rw [HR.out]; unfold lowB; rw [o1, o2, o3, q1, q2]; rfl), by repeat (first | assumption | (with_reducible exact Below.refl _ _) | exact balloc _ _ | exact balloc2 _ _ _ | refine btrans ?_ (by assumption) | refine btrans ?_ (balloc _ _))⟩
  · have HR : Hid (R = lowB c 3 op2) := Lib.hid hr1
    clear hr1
    go_enter Tryz.func45, Tryz.ntmps45
    go_wp2_with (first | (go_at_call 59; refine (cvoid_any _ _ _ _ _ _ _ _).mono ?_; rintro e w2 ⟨rfl, hb2⟩; (first | rw [EA.out] | rw [EB.out]); (first | (replace hb1 := btrans hb1 hb2; clear hb2 hc1 hf1; obtain ⟨hc1, hf1⟩ := bcell hb1) | (have hb1 := hb2; clear hb2; obtain ⟨hc1, hf1⟩ := bcell hb1))) | fail)
    refine (HCM.out _).mono ?_; rintro e w2 ⟨rfl, hb2⟩; (first | (replace hb1 := btrans hb1 hb2; clear hb2 hc1 hf1; obtain ⟨hc1, hf1⟩ := bcell hb1) | (have hb1 := hb2; clear hb2; obtain ⟨hc1, hf1⟩ := bcell hb1))
    rcases low_ways op2 2 3 (by decide) (by decide) (by decide) with ⟨o1, o2, o3⟩ | ⟨o1, o2, o3⟩ | ⟨o1, o2, o3⟩ | ⟨o1, o2, o3⟩ <;> rcases cmp3_ways c with ⟨q1, q2, q3⟩ | ⟨q1, q2, q3⟩ | ⟨q1, q2, q3⟩
    all_goals
      go_wp2_with (first | (go_at_call 64; refine (below_any _ _).mono ?_; rintro e w' ⟨rfl, rfl⟩) | fail)
      go_ret
      exact ⟨ret_bool (by rw [HR.out]; unfold lowB; rw [o1, o2, o3, q1, q2]; rfl), by repeat (first | assumption | (with_reducible exact Below.refl _ _) | exact balloc _ _ | exact balloc2 _ _ _ | refine btrans ?_ (by assumption) | refine btrans ?_ (balloc _ _))⟩
  · have HR : Hid (R = uppB c 4 op2) := Lib.hid hr1
    clear hr1
    go_enter Tryz.func45, Tryz.ntmps45
    go_wp2_with (first | (go_at_call 59; refine (cvoid_any _ _ _ _ _ _ _ _).mono ?_; rintro e w2 ⟨rfl, hb2⟩; (first | rw [EA.out] | rw [EB.out]); (first | (replace hb1 := btrans hb1 hb2; clear hb2 hc1 hf1; obtain ⟨hc1, hf1⟩ := bcell hb1) | (have hb1 := hb2; clear hb2; obtain ⟨hc1, hf1⟩ := bcell hb1))) | fail)
    refine (HCM.out _).mono ?_; rintro e w2 ⟨rfl, hb2⟩; (first | (replace hb1 := btrans hb1 hb2; clear hb2 hc1 hf1; obtain ⟨hc1, hf1⟩ := bcell hb1) | (have hb1 := hb2; clear hb2; obtain ⟨hc1, hf1⟩ := bcell hb1))
    rcases low_ways op2 4 5 (by decide) (by decide) (by decide) with ⟨o1, o2, o3⟩ | ⟨o1, o2, o3⟩ | ⟨o1, o2, o3⟩ | ⟨o1, o2, o3⟩ <;> rcases cmp3_ways c with ⟨q1, q2, q3⟩ | ⟨q1, q2, q3⟩ | ⟨q1, q2, q3⟩
    all_goals
      go_wp2_with (first | (go_at_call 64; refine (below_any _ _).mono ?_; rintro e w' ⟨rfl, rfl⟩) | (go_at_call 65; refine (above_any _ _).mono ?_; rintro e w' ⟨rfl, rfl⟩) | fail)
      go_ret
      exact ⟨ret_bool (by rw [HR.out]; unfold uppB; rw [o1, o2, o3, q2, q3]; rfl), by repeat (first | assumption | (with_reducible exact Below.refl _ _) | exact balloc _ _ | exact balloc2 _ _ _ | refine btrans ?_ (by assumption) | refine btrans ?_ (balloc _ _))⟩
  · have HR : Hid (R = uppB c 5 op2) := Lib.hid hr1
    clear hr1
    go_enter Tryz.func45, Tryz.ntmps45
    go_wp2_with (first | (go_at_call 59; refine (cvoid_any _ _ _ _ _ _ _ _).mono ?_; rintro e w2 ⟨rfl, hb2⟩; (first | rw [EA.out] | rw [EB.out]); (first | (replace hb1 := btrans hb1 hb2; clear hb2 hc1 hf1; obtain ⟨hc1, hf1⟩ := bcell hb1) | (have hb1 := hb2; clear hb2; obtain ⟨hc1, hf1⟩ := bcell hb1))) | fail)
    refine (HCM.out _).mono ?_; rintro e w2 ⟨rfl, hb2⟩; (first | (replace hb1 := btrans hb1 hb2; clear hb2 hc1 hf1; obtain ⟨hc1, hf1⟩ := bcell hb1) | (have hb1 := hb2; clear hb2; obtain ⟨hc1, hf1⟩ := bcell hb1))
    rcases low_ways op2 4 5 (by decide) (by decide) (by decide) with ⟨o1, o2, o3⟩ | ⟨o1, o2, o3⟩ | ⟨o1, o2, o3⟩ | ⟨o1, o2, o3⟩ <;> rcases cmp3_ways c with ⟨q1, q2, q3⟩ | ⟨q1, q2, q3⟩ | ⟨q1, q2, q3⟩
    all_goals
      go_wp2_with (first | (go_at_call 64; refine (below_any _ _).mono ?_; rintro e w' ⟨rfl, rfl⟩) | (go_at_call 65; refine (above_any _ _).mono ?_; rintro e w' ⟨rfl, rfl⟩) | fail)
      go_ret
      exact ⟨ret_bool (by rw [HR.out]; unfold uppB; rw [o1, o2, o3, q2, q3]; rfl), by repeat (first | assumption | (with_reducible exact Below.refl _ _) | exact balloc _ _ | exact balloc2 _ _ _ | refine btrans ?_ (by assumption) | refine btrans ?_ (balloc _ _))⟩
  · have HR : Hid (R = ((op2 == 6 && p1) || (op2 == 1 && !p2))) := Lib.hid hr1
    clear hr1
    have o61 : ((op2 == 6) = true ∧ (op2 == 1) = false) ∨ ((op2 == 6) = false ∧ (op2 == 1) = true) ∨ ((op2 == 6) = false ∧ (op2 == 1) = false) := by
      cases h1 : (op2 == 6) <;> cases h2 : (op2 == 1) <;> simp_all
    rcases o61 with ⟨o1, o2⟩ | ⟨o1, o2⟩ | ⟨o1, o2⟩
    all_goals
      cases p1
      all_goals
        go_enter Tryz.func45, Tryz.ntmps45
        go_wp2_with (first | (go_at_call 59; refine (cvoid_any _ _ _ _ _ _ _ _).mono ?_; rintro e w2 ⟨rfl, hb2⟩; (first | rw [EA.out] | rw [EB.out]); (first | (replace hb1 := btrans hb1 hb2; clear hb2 hc1 hf1; obtain ⟨hc1, hf1⟩ := bcell hb1) | (have hb1 := hb2; clear hb2; obtain ⟨hc1, hf1⟩ := bcell hb1))) | (go_at_call 62; refine (Tryz.strings_HasPrefix _ _ _).mono ?_; rintro e w' ⟨rfl, rfl⟩; (first | rw [EP.out] | rw [EQ.out])) | fail)
        go_ret
        exact ⟨ret_bool (by rw [HR.out, o1, o2]; simp), by repeat (first | assumption | (with_reducible exact Below.refl _ _) | exact balloc _ _ | exact balloc2 _ _ _ | refine btrans ?_ (by assumption) | refine btrans ?_ (balloc _ _))⟩
end Go.Proofs.YtpbdgbejcdncgaaGreatDoor.Val
end
