/- MERGED BY A PROGRAM OF MINE (mg.py) out of my own texts, in their order: CondVoid, Canon, Attr, FlatA, Insert, InsertFn, Ins, ImplFn, NewFn, New, Fit03, OpenA, Light03, OrdKey, Same, ESame, NewOk, Match, MatchFn, ERight, RightA, Conds, ScFn, FilFn, PolFn, Sc, ScL, Impl, Fil, FilM. -/
import Derived.Test.YtfkedobofamkiaaGreatDoorCond
import Derived.Test.YtfkedobofamkiaaGreatDoorName
import Derived.Test.YtfkedobofamkiaaGreatDoorCondLaw
import Derived.Test.YtfkedobofamkiaaGreatDoorCondFit
import Derived.Handy
import Derived.Laws.IdiomCopy
import Derived.Test.YtfkedobofamkiaaGreatDoorOpenV
import Derived.Laws.AppendOwn
import Derived.Lib.SlicesS
import Derived.Laws.CopyRow
import Derived.Laws.CopyOwn
import Derived.Lib.AppendZerosOnto
import Derived.Lib.Overlaps
import Derived.Laws.OwnMore
import Derived.Deep.RegionLaw
import Derived.Shelf.Spec.SlicesInsert
import Derived.Test.YtfkedobofamkiaaGreatDoorOrd
import Derived.Laws.StructEq
import Derived.Test.YtfkedobofamkiaaGreatDoorNameFn
import Derived.Lib.Bytealg
import Derived.Lib.Strings
import Derived.Test.YtfkedobofamkiaaGreatDoorRows
import Derived.Test.YtfkedobofamkiaaGreatDoorShelf
import Derived.WalkKit
import Derived.WalkSpells
import Derived.WalkLawsBesides
import Derived.Lib.Hide
import Derived.Lib.PathFns
import Derived.Deep.Draws

section
/- THE WALKS OF cond.Void and cond.Right, the laws' light. -/
namespace Go.Proofs.YtfkedobofamkiaaGreatDoor.Val
open Go.RowKit Flt
def cvoidB (c : C) : Bool := (c.op != 7 && voidB c.val) || (c.op == 6 && c.val.kind != 2)
def cRight (c : C) : Bool := Sc.nameB c.name && decide (0 ≤ c.op) && decide (c.op ≤ 7) && vRight c.val
set_option maxHeartbeats 400000 in
theorem cvoid_any (nm : List UInt8) (op k n : Int) (x : Nat) (t : List UInt8) (y : Bool) (w : World) :
    Calls Tryz.prog 55 #[cond nm op k n x t y] w fun e w' => e = .returned (.bool (cvoidB ⟨nm, op, k, n, x, t, y⟩)) ∧ Below w.heap.size w w' := by
  have hr : cvoidB ⟨nm, op, k, n, x, t, y⟩ = ((op != 7 && voidB ⟨k, n, x, t, y⟩) || (op == 6 && k != 2)) := rfl
  have hv (w : World) := void_any k n x t y w
  generalize voidB ⟨k, n, x, t, y⟩ = vb at *
  have HR := Lib.hid hr; have HV := Lib.hid hv; clear hr hv
  by_cases h7 : op = 7
  · subst h7
    go_enter Tryz.func55, Tryz.ntmps55
    go_wp2
    go_ret
    exact ⟨ret_bool (by rw [HR.out]; simp [*]), balloc _ _⟩
  by_cases h6 : op = 6
  · subst h6
    clear h7
    cases vb
    all_goals
      go_enter Tryz.func55, Tryz.ntmps55
      go_wp2_with (go_at_call 69; refine (HV.out _).mono ?_; rintro e w1 ⟨rfl, hb⟩; obtain ⟨hc, hf⟩ := bcell hb)
      go_ret
      exact ⟨ret_bool (by rw [HR.out]; simp [*]), btrans (balloc _ _) hb⟩
  cases vb
  all_goals
    go_enter Tryz.func55, Tryz.ntmps55
    go_wp2_with (go_at_call 69; refine (HV.out _).mono ?_; rintro e w1 ⟨rfl, hb⟩; obtain ⟨hc, hf⟩ := bcell hb)
    go_ret
    exact ⟨ret_bool (by rw [HR.out]; simp [*]), btrans (balloc _ _) hb⟩
theorem right_ways3 (op : Int) (n : Bool) : n = false ∨ (n = true ∧ decide (0 ≤ op) = false) ∨ (n = true ∧ decide (0 ≤ op) = true ∧ decide (op ≤ 7) = false) ∨ (n = true ∧ decide (0 ≤ op) = true ∧ decide (op ≤ 7) = true) := by
  cases n <;> cases decide (0 ≤ op) <;> cases decide (op ≤ 7) <;> simp
set_option maxHeartbeats 400000 in
theorem cright_any (nm : List UInt8) (op k n : Int) (x : Nat) (t : List UInt8) (y : Bool) (w : World) (hn : nm.length ≤ 140737488351232) (ht : t.length ≤ 140737488351232) :
    Calls Tryz.prog 24 #[cond nm op k n x t y] w fun e w' => e = .returned (.bool (cRight ⟨nm, op, k, n, x, t, y⟩)) ∧ Below w.heap.size w w' := by
  have hr : cRight ⟨nm, op, k, n, x, t, y⟩ = (Sc.nameB nm && decide (0 ≤ op) && decide (op ≤ 7) && vRight ⟨k, n, x, t, y⟩) := rfl
  have hv (w : World) := vright_any k n x t y w ht
  have hm (w : World) := Sc.name_l nm w hn
  generalize vRight ⟨k, n, x, t, y⟩ = vb at *
  generalize Sc.nameB nm = nb at *
  have HR := Lib.hid hr; have HV := Lib.hid hv; have HM := Lib.hid hm; clear hr hv hm
  rcases right_ways3 op nb with rfl | ⟨rfl, h1⟩ | ⟨rfl, h1, h2⟩ | ⟨rfl, h1, h2⟩
  · have HQ : Hid (cRight ⟨nm, op, k, n, x, t, y⟩ = false) := Lib.hid (by rw [HR.out]; rfl)
    go_enter Tryz.func24, Tryz.ntmps24
    go_wp2_with (first | (go_at_call 34; refine (HM.out _).mono ?_; rintro e w' ⟨rfl, rfl⟩) | (go_at_call 35; refine (HV.out _).mono ?_; rintro e w1 ⟨rfl, hb⟩; obtain ⟨hc, hf⟩ := bcell hb))
    go_ret
    exact ⟨ret_bool HQ.out.symm, by repeat (first | assumption | (with_reducible exact Below.refl _ _) | exact balloc _ _ | exact balloc2 _ _ _ | refine btrans ?_ (by assumption) | refine btrans ?_ (balloc _ _))⟩
  · have HQ : Hid (cRight ⟨nm, op, k, n, x, t, y⟩ = false) := Lib.hid (by rw [HR.out, h1]; rfl)
    go_enter Tryz.func24, Tryz.ntmps24
    go_wp2_with (first | (go_at_call 34; refine (HM.out _).mono ?_; rintro e w' ⟨rfl, rfl⟩) | (go_at_call 35; refine (HV.out _).mono ?_; rintro e w1 ⟨rfl, hb⟩; obtain ⟨hc, hf⟩ := bcell hb))
    go_ret
    exact ⟨ret_bool HQ.out.symm, by repeat (first | assumption | (with_reducible exact Below.refl _ _) | exact balloc _ _ | exact balloc2 _ _ _ | refine btrans ?_ (by assumption) | refine btrans ?_ (balloc _ _))⟩
  · have HQ : Hid (cRight ⟨nm, op, k, n, x, t, y⟩ = false) := Lib.hid (by rw [HR.out, h1, h2]; rfl)
    go_enter Tryz.func24, Tryz.ntmps24
    go_wp2_with (first | (go_at_call 34; refine (HM.out _).mono ?_; rintro e w' ⟨rfl, rfl⟩) | (go_at_call 35; refine (HV.out _).mono ?_; rintro e w1 ⟨rfl, hb⟩; obtain ⟨hc, hf⟩ := bcell hb))
    go_ret
    exact ⟨ret_bool HQ.out.symm, by repeat (first | assumption | (with_reducible exact Below.refl _ _) | exact balloc _ _ | exact balloc2 _ _ _ | refine btrans ?_ (by assumption) | refine btrans ?_ (balloc _ _))⟩
  · have HQ : Hid (cRight ⟨nm, op, k, n, x, t, y⟩ = vb) := Lib.hid (by rw [HR.out, h1, h2]; rfl)
    go_enter Tryz.func24, Tryz.ntmps24
    go_wp2_with (first | (go_at_call 34; refine (HM.out _).mono ?_; rintro e w' ⟨rfl, rfl⟩) | (go_at_call 35; refine (HV.out _).mono ?_; rintro e w1 ⟨rfl, hb⟩; obtain ⟨hc, hf⟩ := bcell hb))
    go_ret
    exact ⟨ret_bool HQ.out.symm, by repeat (first | assumption | (with_reducible exact Below.refl _ _) | exact balloc _ _ | exact balloc2 _ _ _ | refine btrans ?_ (by assumption) | refine btrans ?_ (balloc _ _))⟩
theorem void_holds (c : C) (v : V) (h : cvoidB c = true) : holdsB c v = false := by
  unfold cvoidB at h
  have h' : ((c.op = 7) = False ∧ voidB c.val = true) ∨ (c.op = 6 ∧ c.val.kind ≠ 2) := by
    simp at h
    rcases h with h | h
    · exact Or.inl ⟨by simpa using h.1, h.2⟩
    · exact Or.inr h
  rcases h' with ⟨h7, hv⟩ | ⟨h6, hk⟩
  · have e : cmpOk v c.val = false := by unfold cmpOk; rw [hv]; simp
    unfold holdsB; rw [e]; simp [h7]
  · have e : (cmpOk v c.val && v.kind == 2) = false := by
      unfold cmpOk
      cases hh : (v.kind == c.val.kind)
      · rfl
      · have : (v.kind == 2) = false := by
          rw [beq_eq_false_iff_ne]; rw [beq_iff_eq] at hh; rw [hh]; exact hk
        rw [this]; simp
    unfold holdsB; rw [h6, e]; rfl
end Go.Proofs.YtfkedobofamkiaaGreatDoor.Val
end

section
/- THE WALKS OF value.Canon and cond.Canon. -/
namespace Go.Proofs.YtfkedobofamkiaaGreatDoor.Val
open Go.RowKit Flt
attribute [local go_sem] run_store_flt
def canonV (v : V) : V := if v.kind == 0 then ⟨0, v.int, 0, [], false⟩ else if v.kind == 1 then ⟨1, 0, Ord.canon v.num, [], false⟩ else if v.kind == 2 then ⟨2, 0, 0, v.text, false⟩ else if v.kind == 3 then ⟨3, 0, 0, [], v.yes⟩ else ⟨0, 0, 0, [], false⟩
/-- a value's own form -/
abbrev vv (v : V) : Value := val v.kind v.int v.num v.text v.yes
abbrev cc (c : C) : Value := cond c.name c.op c.val.kind c.val.int c.val.num c.val.text c.val.yes
def canonC (c : C) : C := if c.op == 7 then ⟨c.name, 7, 0, 0, 0, [], false⟩ else ⟨c.name, c.op, canonV c.val⟩
theorem kind_ways (k : Int) : (k == 0) = true ∨ ((k == 0) = false ∧ (k == 1) = true) ∨ ((k == 0) = false ∧ (k == 1) = false ∧ (k == 2) = true) ∨ ((k == 0) = false ∧ (k == 1) = false ∧ (k == 2) = false ∧ (k == 3) = true) ∨ ((k == 0) = false ∧ (k == 1) = false ∧ (k == 2) = false ∧ (k == 3) = false) := by
  cases h0 : (k == 0) <;> cases h1 : (k == 1) <;> cases h2 : (k == 2) <;> cases h3 : (k == 3) <;> simp
theorem ret_vv {a b : V} (h : a = b) : Ending.returned (vv a) = .returned (vv b) := by rw [h]
theorem ret_cc {a b : C} (h : a = b) : Ending.returned (cc a) = .returned (cc b) := by rw [h]
set_option maxHeartbeats 400000 in
theorem vcanon_any (k n : Int) (x : Nat) (t : List UInt8) (y : Bool) (w : World) :
    Calls Tryz.prog 37 #[val k n x t y] w fun e w' => e = .returned (vv (canonV ⟨k, n, x, t, y⟩)) ∧ Below w.heap.size w w' := by
  have hr : canonV ⟨k, n, x, t, y⟩ = if k == 0 then ⟨0, n, 0, [], false⟩ else if k == 1 then ⟨1, 0, Ord.canon x, [], false⟩ else if k == 2 then ⟨2, 0, 0, t, false⟩ else if k == 3 then ⟨3, 0, 0, [], y⟩ else ⟨0, 0, 0, [], false⟩ := rfl
  have HR := Lib.hid hr; clear hr
  rcases kind_ways k with h0 | ⟨h0, h1⟩ | ⟨h0, h1, h2⟩ | ⟨h0, h1, h2, h3⟩ | ⟨h0, h1, h2, h3⟩
  all_goals
    go_enter Tryz.func37, Tryz.ntmps37
    go_wp2_with (go_at_call 47; refine (Ord.canon_any _ _).mono ?_; rintro e w' ⟨rfl, rfl⟩)
    go_returns
    exact ⟨by rw [HR.out]; simp only [*, Bool.false_eq_true, if_false, if_true], by repeat (first | assumption | (with_reducible exact Below.refl _ _) | exact balloc _ _ | exact balloc2 _ _ _ | refine btrans ?_ (by assumption) | refine btrans ?_ (balloc _ _))⟩
theorem bdrew0 {w a : World} (h : Below w.drew.heap.size w.drew a) : Below w.heap.size w a := (bdrewN (Below.refl _ _) 1).trans h
theorem set7_far (w : World) (b b' o : Nat) (v0 v1 v2 v3 v4 v5 v6 : Value) (h : b ≠ b') : (((((((w.setCell ⟨b, 0, none⟩ v0).setCell ⟨b, 1, none⟩ v1).setCell ⟨b, 2, none⟩ v2).setCell ⟨b, 3, none⟩ v3).setCell ⟨b, 4, none⟩ v4).setCell ⟨b, 5, none⟩ v5).setCell ⟨b, 6, none⟩ v6).cell? ⟨b', o, none⟩ = w.cell? ⟨b', o, none⟩ :=
  World.cell?_setCells_out b [v0, v1, v2, v3, v4, v5, v6] 0 w ⟨b', o, none⟩ (fun h1 => absurd h1.symm h)
theorem set7_at (w : World) (b : Nat) (v0 v1 v2 v3 v4 v5 v6 : Value) (h : ∀ j, j < 7 → (w.cell? ⟨b, j, none⟩).isSome = true) :
    (((((((w.setCell ⟨b, 0, none⟩ v0).setCell ⟨b, 1, none⟩ v1).setCell ⟨b, 2, none⟩ v2).setCell ⟨b, 3, none⟩ v3).setCell ⟨b, 4, none⟩ v4).setCell ⟨b, 5, none⟩ v5).setCell ⟨b, 6, none⟩ v6).cell? ⟨b, 0, none⟩ = some v0 ∧
    (((((((w.setCell ⟨b, 0, none⟩ v0).setCell ⟨b, 1, none⟩ v1).setCell ⟨b, 2, none⟩ v2).setCell ⟨b, 3, none⟩ v3).setCell ⟨b, 4, none⟩ v4).setCell ⟨b, 5, none⟩ v5).setCell ⟨b, 6, none⟩ v6).cell? ⟨b, 1, none⟩ = some v1 ∧
    (((((((w.setCell ⟨b, 0, none⟩ v0).setCell ⟨b, 1, none⟩ v1).setCell ⟨b, 2, none⟩ v2).setCell ⟨b, 3, none⟩ v3).setCell ⟨b, 4, none⟩ v4).setCell ⟨b, 5, none⟩ v5).setCell ⟨b, 6, none⟩ v6).cell? ⟨b, 2, none⟩ = some v2 ∧
    (((((((w.setCell ⟨b, 0, none⟩ v0).setCell ⟨b, 1, none⟩ v1).setCell ⟨b, 2, none⟩ v2).setCell ⟨b, 3, none⟩ v3).setCell ⟨b, 4, none⟩ v4).setCell ⟨b, 5, none⟩ v5).setCell ⟨b, 6, none⟩ v6).cell? ⟨b, 3, none⟩ = some v3 ∧
    (((((((w.setCell ⟨b, 0, none⟩ v0).setCell ⟨b, 1, none⟩ v1).setCell ⟨b, 2, none⟩ v2).setCell ⟨b, 3, none⟩ v3).setCell ⟨b, 4, none⟩ v4).setCell ⟨b, 5, none⟩ v5).setCell ⟨b, 6, none⟩ v6).cell? ⟨b, 4, none⟩ = some v4 ∧
    (((((((w.setCell ⟨b, 0, none⟩ v0).setCell ⟨b, 1, none⟩ v1).setCell ⟨b, 2, none⟩ v2).setCell ⟨b, 3, none⟩ v3).setCell ⟨b, 4, none⟩ v4).setCell ⟨b, 5, none⟩ v5).setCell ⟨b, 6, none⟩ v6).cell? ⟨b, 5, none⟩ = some v5 ∧
    (((((((w.setCell ⟨b, 0, none⟩ v0).setCell ⟨b, 1, none⟩ v1).setCell ⟨b, 2, none⟩ v2).setCell ⟨b, 3, none⟩ v3).setCell ⟨b, 4, none⟩ v4).setCell ⟨b, 5, none⟩ v5).setCell ⟨b, 6, none⟩ v6).cell? ⟨b, 6, none⟩ = some v6 ∧
    Below b w (((((((w.setCell ⟨b, 0, none⟩ v0).setCell ⟨b, 1, none⟩ v1).setCell ⟨b, 2, none⟩ v2).setCell ⟨b, 3, none⟩ v3).setCell ⟨b, 4, none⟩ v4).setCell ⟨b, 5, none⟩ v5).setCell ⟨b, 6, none⟩ v6) := by
  have e := World.cell?_setCells_in b [v0, v1, v2, v3, v4, v5, v6] 0 w (fun j hj => by rw [Nat.zero_add]; exact h j hj)
  exact ⟨e 0 (by simp), e 1 (by simp), e 2 (by simp), e 3 (by simp), e 4 (by simp), e 5 (by simp), e 6 (by simp),
    (((((((Below.refl b w).setCell (Nat.le_refl _) _).setCell (Nat.le_refl _) _).setCell (Nat.le_refl _) _).setCell (Nat.le_refl _) _).setCell (Nat.le_refl _) _).setCell (Nat.le_refl _) _).setCell (Nat.le_refl _) _⟩
set_option maxHeartbeats 400000 in
theorem ccanon_any (nm : List UInt8) (op k n : Int) (x : Nat) (t : List UInt8) (y : Bool) (w : World) :
    Calls Tryz.prog 26 #[cond nm op k n x t y] w fun e w' => e = .returned (cc (canonC ⟨nm, op, k, n, x, t, y⟩)) ∧ Below w.heap.size w w' := by
  have hr : canonC ⟨nm, op, k, n, x, t, y⟩ = if op == 7 then ⟨nm, 7, 0, 0, 0, [], false⟩ else ⟨nm, op, canonV ⟨k, n, x, t, y⟩⟩ := rfl
  have hv (w : World) := vcanon_any k n x t y w
  generalize canonV ⟨k, n, x, t, y⟩ = cv at *
  obtain ⟨k', n', x', t', y'⟩ := cv
  have HR := Lib.hid hr; have HV := Lib.hid hv; clear hr hv
  cases h7 : (op == 7)
  rotate_left
  · go_enter Tryz.func26, Tryz.ntmps26
    go_wp2
    go_returns
    exact ⟨by rw [HR.out, h7]; rfl, by repeat (first | assumption | (with_reducible exact Below.refl _ _) | exact balloc _ _ | exact balloc2 _ _ _ | refine btrans ?_ (by assumption) | refine btrans ?_ (balloc _ _))⟩
  · go_enter Tryz.func26, Tryz.ntmps26
    go_wp2_with fail
    refine wp_region_held_drew (S := (fun w' => ∀ o, w'.cell? ⟨w.heap.size, o, none⟩ = #[(.string ⟨nm.toArray⟩), (.int .i64 op), (.int .i64 k), (.int .i64 n), (.float .f64 x), (.string ⟨t.toArray⟩), (.bool y)][o]?)) (by kernel_rfl) ?_ (fun hq0 => ?_)
    · ((try dsimp only); (first | (intro o; simp; done) | (intro o; rw [hc _ _ (by simp; omega)]; simp; done) | (intro o; refine (set7_far _ _ _ _ _ _ _ _ _ _ _ (by simp)).trans ?_; rw [hc _ _ (by simp; omega)]; simp)))
    (refine wpAnyH_take (i := 0) (oi := ?_) (v := ?_) ?_ (by kernel_rfl) (by kernel_rfl) (by kernel_rfl) ?_ (Or.inl ⟨?_, ?_⟩) (by assumption) ?_; rotate_left 2; (· (simp only [List.getElem?_toArray, List.getElem?_cons_zero]; first | done | rfl)); (· exact (fun _ _ _ h => h)); (· rfl); (· (intro w hSw; (try dsimp only at hSw); go_simp; (try with_reducible rfl))))
    (try simp only [Act.put, List.setIfInBounds_toArray, List.set_cons_zero, List.set_cons_succ])
    (refine wpAnyH_take (i := 1) (oi := ?_) (v := ?_) ?_ (by kernel_rfl) (by kernel_rfl) (by kernel_rfl) ?_ (Or.inl ⟨?_, ?_⟩) (by assumption) ?_; rotate_left 2; (· (simp only [List.getElem?_toArray, List.getElem?_cons_succ, List.getElem?_cons_zero]; first | done | rfl)); (· exact (fun _ _ _ h => h)); (· rfl); (· (intro w hSw; (try dsimp only at hSw); go_simp; (try with_reducible rfl))))
    (try simp only [Act.put, List.setIfInBounds_toArray, List.set_cons_zero, List.set_cons_succ])
    (refine wpAnyH_take (i := 2) (oi := ?_) (v := ?_) ?_ (by kernel_rfl) (by kernel_rfl) (by kernel_rfl) ?_ (Or.inl ⟨?_, ?_⟩) (by assumption) ?_; rotate_left 2; (· (simp only [List.getElem?_toArray, List.getElem?_cons_succ, List.getElem?_cons_zero]; first | done | rfl)); (· exact (fun _ _ _ h => h)); (· rfl); (· (intro w hSw; (try dsimp only at hSw); go_simp; (try with_reducible rfl))))
    (try simp only [Act.put, List.setIfInBounds_toArray, List.set_cons_zero, List.set_cons_succ])
    (refine wpAnyH_take (i := 3) (oi := ?_) (v := ?_) ?_ (by kernel_rfl) (by kernel_rfl) (by kernel_rfl) ?_ (Or.inl ⟨?_, ?_⟩) (by assumption) ?_; rotate_left 2; (· (simp only [List.getElem?_toArray, List.getElem?_cons_succ, List.getElem?_cons_zero]; first | done | rfl)); (· exact (fun _ _ _ h => h)); (· rfl); (· (intro w hSw; (try dsimp only at hSw); go_simp; (try with_reducible rfl))))
    (try simp only [Act.put, List.setIfInBounds_toArray, List.set_cons_zero, List.set_cons_succ])
    (refine wpAnyH_take (i := 4) (oi := ?_) (v := ?_) ?_ (by kernel_rfl) (by kernel_rfl) (by kernel_rfl) ?_ (Or.inl ⟨?_, ?_⟩) (by assumption) ?_; rotate_left 2; (· (simp only [List.getElem?_toArray, List.getElem?_cons_succ, List.getElem?_cons_zero]; first | done | rfl)); (· exact (fun _ _ _ h => h)); (· rfl); (· (intro w hSw; (try dsimp only at hSw); go_simp; (try with_reducible rfl))))
    (try simp only [Act.put, List.setIfInBounds_toArray, List.set_cons_zero, List.set_cons_succ])
    (refine wpAnyH_take (i := 5) (oi := ?_) (v := ?_) ?_ (by kernel_rfl) (by kernel_rfl) (by kernel_rfl) ?_ (Or.inl ⟨?_, ?_⟩) (by assumption) ?_; rotate_left 2; (· (simp only [List.getElem?_toArray, List.getElem?_cons_succ, List.getElem?_cons_zero]; first | done | rfl)); (· exact (fun _ _ _ h => h)); (· rfl); (· (intro w hSw; (try dsimp only at hSw); go_simp; (try with_reducible rfl))))
    (try simp only [Act.put, List.setIfInBounds_toArray, List.set_cons_zero, List.set_cons_succ])
    refine wpAnyH_ready (rs := [6]) (by kernel_rfl) (by simp) ?_
    refine AllReadyH.cons (o := ?_) ?_ (fun K hK => ?_) AllReadyH.nil
    rotate_left 1
    · (simp only [List.getElem?_toArray, List.getElem?_cons_succ, List.getElem?_cons_zero]; first | done | rfl)
    go_simp
    first | (refine hK.out _ _ ?_ (fun hq1 => ?_)) | ((go_at_call 37; refine (HV.out _).mono ?_; rintro e w1 ⟨rfl, hb⟩; obtain ⟨hc, hf⟩ := bcell hb); refine hK.out _ _ ?_ (fun hq1 => ?_)) | ((go_at_call 37; refine (HV.out _).mono ?_; rintro e w1 ⟨rfl, hb⟩; obtain ⟨hc, hf⟩ := bcell hb); go_wp2_with fail; refine hK.out _ _ ?_ (fun hq1 => ?_)) | fail
    · ((try dsimp only); (first | (intro o; simp; done) | (intro o; rw [hc _ _ (by simp; omega)]; simp; done) | (intro o; refine (set7_far _ _ _ _ _ _ _ _ _ _ _ (by simp)).trans ?_; rw [hc _ _ (by simp; omega)]; simp)))
    clear hK K
    (try simp only [Act.put, List.setIfInBounds_toArray, List.set_cons_zero, List.set_cons_succ])
    clear hq0
    (refine wpAnyH_take (i := 7) (oi := ?_) (v := ?_) ?_ (by kernel_rfl) (by kernel_rfl) (by kernel_rfl) ?_ (Or.inl ⟨?_, ?_⟩) (by assumption) ?_; rotate_left 2; (· (simp only [List.getElem?_toArray, List.getElem?_cons_succ, List.getElem?_cons_zero]; first | done | rfl)); (· exact (fun _ _ _ h => h)); (· rfl); (· (intro w hSw; (try dsimp only at hSw); go_simp; (try with_reducible rfl))))
    (try simp only [Act.put, List.setIfInBounds_toArray, List.set_cons_zero, List.set_cons_succ])
    refine wpAnyH_ready (rs := [8]) (by kernel_rfl) (by simp) ?_
    refine AllReadyH.cons (o := ?_) ?_ (fun K hK => ?_) AllReadyH.nil
    rotate_left 1
    · (simp only [List.getElem?_toArray, List.getElem?_cons_succ, List.getElem?_cons_zero]; first | done | rfl)
    go_simp
    first | (refine hK.out _ _ ?_ (fun hq2 => ?_)) | ((go_at_call 37; refine (HV.out _).mono ?_; rintro e w1 ⟨rfl, hb⟩; obtain ⟨hc, hf⟩ := bcell hb); refine hK.out _ _ ?_ (fun hq2 => ?_)) | ((go_at_call 37; refine (HV.out _).mono ?_; rintro e w1 ⟨rfl, hb⟩; obtain ⟨hc, hf⟩ := bcell hb); go_wp2_with fail; refine hK.out _ _ ?_ (fun hq2 => ?_)) | fail
    · ((try dsimp only); (first | (intro o; simp; done) | (intro o; rw [hc _ _ (by simp; omega)]; simp; done) | (intro o; refine (set7_far _ _ _ _ _ _ _ _ _ _ _ (by simp)).trans ?_; rw [hc _ _ (by simp; omega)]; simp)))
    clear hK K
    (try simp only [Act.put, List.setIfInBounds_toArray, List.set_cons_zero, List.set_cons_succ])
    clear hq1
    refine wpAnyH_done (by kernel_rfl) ?_ _
    go_wp2
    obtain ⟨e0, e1, e2, e3, e4, e5, e6, hb2⟩ := set7_at w1 (w.heap.size + 1) (.string ⟨nm.toArray⟩) (.int .i64 op) (.int .i64 k') (.int .i64 n') (.float .f64 x') (.string ⟨t'.toArray⟩) (.bool y') (fun j hj => by rw [hc _ _ (by simp)]; simp; omega)
    generalize World.setCell _ _ _ = W2 at *
    refine bodyPost_ret (v := cond nm op k' n' x' t' y') (by simp [results, Tryz.results26, go_sem, e0, e1, e2, e3, e4, e5, e6]; try rfl) rfl ?_
    exact ⟨by rw [HR.out, h7]; rfl, (btrans (balloc2 _ _ _) (bdrew0 hb)).trans (hb2.mono (by omega))⟩
theorem canonV_kind (v : V) (h0 : 0 ≤ v.kind) (h3 : v.kind ≤ 3) : (canonV v).kind = v.kind := by
  unfold canonV
  rcases kind_ways v.kind with h | ⟨h, h1⟩ | ⟨h, h1, h2⟩ | ⟨h, h1, h2, h3⟩ | ⟨h, h1, h2, h3⟩
  · simp only [h, if_true]; exact (beq_iff_eq.1 h).symm
  · simp only [h, h1, Bool.false_eq_true, if_false, if_true]; exact (beq_iff_eq.1 h1).symm
  · simp only [h, h1, h2, Bool.false_eq_true, if_false, if_true]; exact (beq_iff_eq.1 h2).symm
  · simp only [h, h1, h2, h3, Bool.false_eq_true, if_false, if_true]; exact (beq_iff_eq.1 h3).symm
  · simp at h h1 h2 h3; omega
theorem canonV_void (v : V) : voidB (canonV v) = voidB v := by
  unfold canonV voidB
  rcases kind_ways v.kind with h | ⟨h, h1⟩ | ⟨h, h1, h2⟩ | ⟨h, h1, h2, h3⟩ | ⟨h, h1, h2, h3⟩
  · have : (v.kind == 1) = false := by rw [beq_iff_eq] at h; rw [h]; rfl
    simp [h, this]
  · simp [h, h1, Ord.canon_nan]
  · simp [h, h1, h2]
  · simp [h, h1, h2, h3]
  · simp [h, h1, h2, h3]
theorem canonC_void (c : C) (h0 : 0 ≤ c.val.kind) (h3 : c.val.kind ≤ 3) : cvoidB (canonC c) = cvoidB c := by
  unfold canonC cvoidB
  cases h7 : (c.op == 7)
  · have : (c.op != 7) = true := by rw [bne, h7]; rfl
    simp [this, canonV_void, canonV_kind _ h0 h3]
  · have : c.op = 7 := by simpa using h7
    simp [this]
end Go.Proofs.YtfkedobofamkiaaGreatDoor.Val
end

section
/- ATTRIBUTES: six cells each; the walks of event.find and event.Get, and of the library's search as event.find calls it. -/
namespace Go.Proofs.YtfkedobofamkiaaGreatDoor.Val
open Go.RowKit Flt
structure A where
  name : List UInt8
  val : V
instance : Inhabited A := ⟨⟨[], ⟨0, 0, 0, [], false⟩⟩⟩
abbrev aa (a : A) : Value := .agg #[.string ⟨a.name.toArray⟩, .int .i64 a.val.kind, .int .i64 a.val.int, .float .f64 a.val.num, .string ⟨a.val.text.toArray⟩, .bool a.val.yes]
def AAt (w : World) (p : Addr) (a : A) : Prop :=
  w.cell? p = some (.string ⟨a.name.toArray⟩) ∧ w.cell? ⟨p.block, p.off + 1, none⟩ = some (.int .i64 a.val.kind) ∧ w.cell? ⟨p.block, p.off + 2, none⟩ = some (.int .i64 a.val.int) ∧ w.cell? ⟨p.block, p.off + 3, none⟩ = some (.float .f64 a.val.num) ∧ w.cell? ⟨p.block, p.off + 4, none⟩ = some (.string ⟨a.val.text.toArray⟩) ∧ w.cell? ⟨p.block, p.off + 5, none⟩ = some (.bool a.val.yes)
def Attrs (w : World) (a0 : Option Addr) (l : List A) : Prop := ∀ i (h : i < l.length), ∃ a, a0 = some a ∧ AAt w (a.add (i * 6)) l[i]
theorem AAt.below {w w2 : World} {p : Addr} {a : A} (h : AAt w p a) (hb : Below w.heap.size w w2) : AAt w2 p a := by
  obtain ⟨h0, h1, h2, h3, h4, h5⟩ := h
  exact ⟨(hb.cell (World.block_lt_of_cell? _ _ h0)).trans h0, (hb.cell (World.block_lt_of_cell? _ _ h1)).trans h1, (hb.cell (World.block_lt_of_cell? _ _ h2)).trans h2, (hb.cell (World.block_lt_of_cell? _ _ h3)).trans h3, (hb.cell (World.block_lt_of_cell? _ _ h4)).trans h4, (hb.cell (World.block_lt_of_cell? _ _ h5)).trans h5⟩
theorem Attrs.below {w w2 : World} {a0 : Option Addr} {l : List A} (h : Attrs w a0 l) (hb : Below w.heap.size w w2) : Attrs w2 a0 l := fun i hi => by
  obtain ⟨a, e, h1⟩ := h i hi
  exact ⟨a, e, h1.below hb⟩
/-- where the search ends -/
def bs (l : List A) (t : List UInt8) (i j : Nat) : Nat :=
  if h : i < j then (if Lib.compareBytes (l[(i + j) / 2]!).name t < 0 then bs l t ((i + j) / 2 + 1) j else bs l t i ((i + j) / 2)) else i
termination_by j - i
theorem bs_le (l : List A) (t : List UInt8) (i j : Nat) (h : i ≤ j) : bs l t i j ≤ j := by
  rw [bs]
  split
  · split
    · exact bs_le l t _ j (by omega)
    · exact Nat.le_trans (bs_le l t i _ (by omega)) (by omega)
  · exact h
termination_by j - i
attribute [local go_sem] run_store_flt
theorem find1_any (a : A) (t : List UInt8) (w : World) : Calls Tryz.prog 74 #[aa a, .string ⟨t.toArray⟩] w fun e w' => e = .returned (.int .i64 (Lib.compareBytes a.name t)) ∧ Below w.heap.size w w' := by
  obtain ⟨nm, k, n, x, tx, y⟩ := a
  go_enter Tryz.func74, Tryz.ntmps74
  go_wp2_with (go_at_call 29; refine (Tryz.strings_Compare _ _ _).mono ?_; rintro e w' ⟨rfl, rfl⟩)
  go_ret
  exact ⟨rfl, by repeat (first | assumption | (with_reducible exact Below.refl _ _) | exact balloc _ _ | exact balloc2 _ _ _ | refine btrans ?_ (by assumption) | refine btrans ?_ (balloc _ _))⟩
set_option maxHeartbeats 2000000 in
theorem bsearch_any (a0 : Option Addr) (cap : Nat) (l : List A) (t : List UInt8) (w : World) (hl : Attrs w a0 l) (hlm : l.length ≤ 1000000) :
    Calls Tryz.prog 73 #[.slice a0 l.length cap, .string ⟨t.toArray⟩, .func (.func 74) #[] #[]] w fun e w' =>
      e = .returned (.tuple #[.int .i64 (bs l t 0 l.length : Nat), .bool (decide (bs l t 0 l.length < l.length) && Lib.compareBytes (l[bs l t 0 l.length]!).name t == 0)]) ∧ Below w.heap.size w w' := by
  have HL := Lib.hid hl; clear hl
  generalize hR0 : bs l t 0 l.length = R
  have HR0 := Lib.hid hR0; clear hR0
  go_enter Tryz.func73, Tryz.ntmps73
  go_wp2_with fail
  go_loopw [9, 10] (fun vi vj wr => ∃ i j : Nat, i ≤ j ∧ j ≤ l.length ∧ vi = .int .i64 i ∧ vj = .int .i64 j ∧ Hid (bs l t i j = R) ∧ Below w.heap.size w wr) (fun vi vj _ => (intOf vj).toNat - (intOf vi).toNat)
  case atStart => exact ⟨0, l.length, Nat.zero_le _, Nat.le_refl _, rfl, rfl, HR0, Below.refl _ _⟩
  case round =>
    obtain ⟨i, j, hij, hj, rfl, rfl, HB, hbr⟩ := hrel
    clear HR0
    by_cases hlt : i < j
    · have l1 : (i : Int) < (j : Int) := by omega
      have hm : (i + j) / 2 < l.length := by omega
      have hw1 : IntKind.i64.wrap ((i : Int) + (j : Int)) = (i : Int) + (j : Int) := by simp only [IntKind.wrap, IntKind.bits, IntKind.signed]; simp; omega
      obtain ⟨a, rfl, v0, v1, v2, v3, v4, v5⟩ := (HL.out.below hbr) ((i + j) / 2) hm
      have hg : l[(i + j) / 2]! = l[(i + j) / 2] := getElem!_pos l _ hm
      have hstep : bs l t i j = if Lib.compareBytes (l[(i + j) / 2]).name t < 0 then bs l t ((i + j) / 2 + 1) j else bs l t i ((i + j) / 2) := by
        rw [bs, dif_pos hlt, hg]
      have HS := Lib.hid hstep
      clear hstep hg
      by_cases hc : Lib.compareBytes (l[(i + j) / 2]).name t < 0
      · have HB2 : Hid (bs l t ((i + j) / 2 + 1) j = R) := Lib.hid (by rw [← HB.out, HS.out, if_pos hc])
        go_wp2_with (go_at_call 74; refine (find1_any (l[(i + j) / 2]) t _).mono ?_; rintro e w2 ⟨rfl, hb2⟩)
        exact ⟨⟨(i + j) / 2 + 1, j, by omega, hj, by go_num, rfl, HB2, btrans hbr hb2⟩, by simp [intOf]; go_num⟩
      · have HB2 : Hid (bs l t i ((i + j) / 2) = R) := Lib.hid (by rw [← HB.out, HS.out, if_neg hc])
        go_wp2_with (go_at_call 74; refine (find1_any (l[(i + j) / 2]) t _).mono ?_; rintro e w2 ⟨rfl, hb2⟩)
        exact ⟨⟨i, (i + j) / 2, by omega, by omega, rfl, by go_num, HB2, btrans hbr hb2⟩, by simp [intOf]; go_num⟩
    · have l1 : ¬ (i : Int) < (j : Int) := by omega
      obtain rfl : i = j := by omega
      have hRi : R = i := by rw [← HB.out, bs, dif_neg hlt]
      subst hRi
      clear HB
      by_cases hlt2 : R < l.length
      · have l2 : (R : Int) < (l.length : Int) := by omega
        have hg : l[R]! = l[R] := getElem!_pos l _ hlt2
        have HG := Lib.hid hg
        clear hg
        obtain ⟨a, rfl, v0, v1, v2, v3, v4, v5⟩ := (HL.out.below hbr) R hlt2
        go_wp2_with (go_at_call 74; refine (find1_any (l[R]) t _).mono ?_; rintro e w2 ⟨rfl, hb2⟩)
        go_ret2
        exact ⟨by rw [HG.out]; simp [hlt2], btrans hbr hb2⟩
      · have l2 : ¬ (R : Int) < (l.length : Int) := by omega
        go_wp2
        go_ret2
        exact ⟨by simp, hbr⟩
/-- an event's two cells -/
abbrev ev (sc : List UInt8) (a0 : Option Addr) (n cap : Nat) : Value := .agg #[.string ⟨sc.toArray⟩, .slice a0 n cap]
def foundB (l : List A) (t : List UInt8) : Bool := decide (bs l t 0 l.length < l.length) && Lib.compareBytes (l[bs l t 0 l.length]!).name t == 0
theorem find_any (sc : List UInt8) (a0 : Option Addr) (cap : Nat) (l : List A) (t : List UInt8) (w : World) (hl : Attrs w a0 l) (hlm : l.length ≤ 1000000) :
    Calls Tryz.prog 60 #[ev sc a0 l.length cap, .string ⟨t.toArray⟩] w fun e w' =>
      e = .returned (.tuple #[.int .i64 (bs l t 0 l.length : Nat), .bool (foundB l t)]) ∧ Below w.heap.size w w' := by
  have hf (w : World) (h : Attrs w a0 l) : Calls Tryz.prog 73 #[.slice a0 l.length cap, .string ⟨t.toArray⟩, .func (.func 74) #[] #[]] w fun e w' =>
      e = .returned (.tuple #[.int .i64 (bs l t 0 l.length : Nat), .bool (foundB l t)]) ∧ Below w.heap.size w w' := bsearch_any a0 cap l t w h hlm
  have HL := Lib.hid hl; have HF := Lib.hid hf; clear hl hf
  generalize foundB l t = F at *
  generalize bs l t 0 l.length = R at *
  go_enter Tryz.func60, Tryz.ntmps60
  go_wp2_with (go_at_call 73; refine (HF.out _ (HL.out.below (by repeat (first | assumption | (with_reducible exact Below.refl _ _) | exact balloc _ _ | exact balloc2 _ _ _ | refine btrans ?_ (by assumption) | refine btrans ?_ (balloc _ _))))).mono ?_; rintro e w2 ⟨rfl, hb1⟩)
  go_ret2
  exact ⟨rfl, by repeat (first | assumption | (with_reducible exact Below.refl _ _) | exact balloc _ _ | exact balloc2 _ _ _ | refine btrans ?_ (by assumption) | refine btrans ?_ (balloc _ _))⟩
theorem set5_at (w : World) (b : Nat) (v0 v1 v2 v3 v4 : Value) (h : ∀ j, j < 5 → (w.cell? ⟨b, j, none⟩).isSome = true) :
    (((((w.setCell ⟨b, 0, none⟩ v0).setCell ⟨b, 1, none⟩ v1).setCell ⟨b, 2, none⟩ v2).setCell ⟨b, 3, none⟩ v3).setCell ⟨b, 4, none⟩ v4).cell? ⟨b, 0, none⟩ = some v0 ∧
    (((((w.setCell ⟨b, 0, none⟩ v0).setCell ⟨b, 1, none⟩ v1).setCell ⟨b, 2, none⟩ v2).setCell ⟨b, 3, none⟩ v3).setCell ⟨b, 4, none⟩ v4).cell? ⟨b, 1, none⟩ = some v1 ∧
    (((((w.setCell ⟨b, 0, none⟩ v0).setCell ⟨b, 1, none⟩ v1).setCell ⟨b, 2, none⟩ v2).setCell ⟨b, 3, none⟩ v3).setCell ⟨b, 4, none⟩ v4).cell? ⟨b, 2, none⟩ = some v2 ∧
    (((((w.setCell ⟨b, 0, none⟩ v0).setCell ⟨b, 1, none⟩ v1).setCell ⟨b, 2, none⟩ v2).setCell ⟨b, 3, none⟩ v3).setCell ⟨b, 4, none⟩ v4).cell? ⟨b, 3, none⟩ = some v3 ∧
    (((((w.setCell ⟨b, 0, none⟩ v0).setCell ⟨b, 1, none⟩ v1).setCell ⟨b, 2, none⟩ v2).setCell ⟨b, 3, none⟩ v3).setCell ⟨b, 4, none⟩ v4).cell? ⟨b, 4, none⟩ = some v4 ∧
    Below b w (((((w.setCell ⟨b, 0, none⟩ v0).setCell ⟨b, 1, none⟩ v1).setCell ⟨b, 2, none⟩ v2).setCell ⟨b, 3, none⟩ v3).setCell ⟨b, 4, none⟩ v4) := by
  have e := World.cell?_setCells_in b [v0, v1, v2, v3, v4] 0 w (fun j hj => by rw [Nat.zero_add]; exact h j hj)
  exact ⟨e 0 (by simp), e 1 (by simp), e 2 (by simp), e 3 (by simp), e 4 (by simp),
    (((((Below.refl b w).setCell (Nat.le_refl _) _).setCell (Nat.le_refl _) _).setCell (Nat.le_refl _) _).setCell (Nat.le_refl _) _).setCell (Nat.le_refl _) _⟩
set_option maxHeartbeats 1000000 in
theorem get_any (sc : List UInt8) (a0 : Option Addr) (cap : Nat) (l : List A) (t : List UInt8) (w : World) (hl : Attrs w a0 l) (hlm : l.length ≤ 1000000) :
    Calls Tryz.prog 43 #[ev sc a0 l.length cap, .string ⟨t.toArray⟩] w fun e w' =>
      e = .returned (.tuple #[vv (if foundB l t then (l[bs l t 0 l.length]!).val else ⟨0, 0, 0, [], false⟩), .bool (foundB l t)]) ∧ Below w.heap.size w w' := by
  have hf (w : World) (h : Attrs w a0 l) := find_any sc a0 cap l t w h hlm
  have hlt : foundB l t = true → bs l t 0 l.length < l.length := by unfold foundB; simp; intro h _; exact h
  have HL := Lib.hid hl; have HF := Lib.hid hf; clear hl hf
  generalize foundB l t = F at *
  generalize bs l t 0 l.length = R at *
  cases F
  · go_enter Tryz.func43, Tryz.ntmps43
    go_wp2_with (go_at_call 60; refine (HF.out _ (HL.out.below (by repeat (first | assumption | (with_reducible exact Below.refl _ _) | exact balloc _ _ | exact balloc2 _ _ _ | refine btrans ?_ (by assumption) | refine btrans ?_ (balloc _ _))))).mono ?_; rintro e w2 ⟨rfl, hb1⟩; obtain ⟨hc1, hf1⟩ := bcell hb1)
    obtain ⟨e0, e1, e2, e3, e4, hb2⟩ := set5_at w2 (w.heap.size + 1) (.int .i64 0) (.int .i64 0) (.float .f64 0) (.string ⟨#[]⟩) (.bool false) (fun j hj => by rw [hc1 _ _ (by simp)]; simp; omega)
    generalize World.setCell _ _ _ = W2 at *
    refine bodyPost_ret (v := .tuple #[val 0 0 0 [] false, .bool false]) (by simp [results, Tryz.results43, go_sem, e0, e1, e2, e3, e4]; try rfl) rfl ?_
    exact ⟨rfl, (btrans (balloc2 _ _ _) hb1).trans (hb2.mono (by omega))⟩
  · have hR := hlt rfl
    clear hlt
    rw [if_pos rfl, show l[R]! = l[R] from getElem!_pos l _ hR]
    have r0 : (R : Int) < (l.length : Int) := by omega
    go_enter Tryz.func43, Tryz.ntmps43
    go_wp2_with fail
    refine (HF.out _ (HL.out.below (by repeat (first | assumption | (with_reducible exact Below.refl _ _) | exact balloc _ _ | exact balloc2 _ _ _ | refine btrans ?_ (by assumption) | refine btrans ?_ (balloc _ _))))).mono ?_; rintro e w2 ⟨rfl, hb1⟩; obtain ⟨hc1, hf1⟩ := bcell hb1
    obtain ⟨a, rfl, v0, v1, v2, v3, v4, v5⟩ := (HL.out.below (btrans (balloc2 _ _ _) hb1)) R hR
    go_wp2_with fail
    obtain ⟨e0, e1, e2, e3, e4, hb2⟩ := set5_at w2 (w.heap.size + 1) (.int .i64 l[R].val.kind) (.int .i64 l[R].val.int) (.float .f64 l[R].val.num) (.string ⟨l[R].val.text.toArray⟩) (.bool l[R].val.yes) (fun j hj => by rw [hc1 _ _ (by simp)]; simp; omega)
    generalize World.setCell _ _ _ = W2 at *
    refine bodyPost_ret (v := .tuple #[vv l[R].val, .bool true]) (by simp [results, Tryz.results43, go_sem, e0, e1, e2, e3, e4]; try rfl) rfl ?_
    exact ⟨rfl, (btrans (balloc2 _ _ _) hb1).trans (hb2.mono (by omega))⟩
end Go.Proofs.YtfkedobofamkiaaGreatDoor.Val
end

section
/- ATTRIBUTES in a row: their cells one behind the other. -/
namespace Go.Proofs.YtfkedobofamkiaaGreatDoor.Val
open Go.RowKit Flt
def cells6 (a : A) : List Value := [.string ⟨a.name.toArray⟩, .int .i64 a.val.kind, .int .i64 a.val.int, .float .f64 a.val.num, .string ⟨a.val.text.toArray⟩, .bool a.val.yes]
def flatA (l : List A) : List Value := l.flatMap cells6
theorem flatA_len (l : List A) : (flatA l).length = l.length * 6 := by
  induction l with
  | nil => rfl
  | cons v l ih => unfold flatA at *; rw [List.flatMap_cons, List.length_append, ih]; simp [cells6]; omega
theorem flatA_at : ∀ (l : List A) (i j : Nat) (hi : i < l.length), j < 6 → (flatA l)[i * 6 + j]? = (cells6 l[i])[j]?
  | v :: l, 0, j, _, hj => by
    unfold flatA; rw [List.flatMap_cons, List.getElem?_append_left (by simp [cells6]; omega)]; simp
  | v :: l, i + 1, j, hi, hj => by
    unfold flatA; rw [List.flatMap_cons, List.getElem?_append_right (by simp [cells6]; omega)]
    have e : (i + 1) * 6 + j - (cells6 v).length = i * 6 + j := by simp [cells6]; omega
    rw [e]
    exact flatA_at l i j (by simpa using hi) hj
theorem flatA_one (l : List A) : ∀ u ∈ flatA l, u.oneCell' = true := by
  intro u hu
  obtain ⟨v, _, hv⟩ := List.mem_flatMap.1 hu
  simp only [cells6, List.mem_cons, List.not_mem_nil, or_false] at hv
  rcases hv with rfl | rfl | rfl | rfl | rfl | rfl <;> rfl
theorem flatA_app (l : List A) (a : A) : flatA (l ++ [a]) = flatA l ++ flatA [a] := by simp [flatA]
theorem info_attr : (Tryz.prog.info? 94).map (fun i => (i.zero, i.size, i.bytes)) = some (some (.agg #[.string .empty, .int .i64 0, .int .i64 0, .float .f64 0, .string .empty, .bool false]), 6, 64) := by kernel_rfl
theorem liesA {w : World} {g : Nat} {l : List A} (h : ∀ j u, (flatA l)[j]? = some u → w.cell? ((⟨g, 0, none⟩ : Addr).add j) = some u) : Attrs w (some ⟨g, 0, none⟩) l := by
  intro i hi
  refine ⟨_, rfl, ?_⟩
  have k : ∀ j (hj : j < 6), w.cell? (((⟨g, 0, none⟩ : Addr).add (i * 6)).add j) = (cells6 l[i])[j]? := by
    intro j hj
    rw [Deep.add_add]
    have : (flatA l)[i * 6 + j]? = some ((cells6 l[i])[j]'(by simpa [cells6] using hj)) := by rw [flatA_at l i j hi hj]; simp
    rw [h _ _ this]; simp
  exact ⟨k 0 (by decide), k 1 (by decide), k 2 (by decide), k 3 (by decide), k 4 (by decide), k 5 (by decide)⟩
/-- what the call's own row holds, as attributes; nil too -/
theorem own_attrs {w : World} {e : TypeId} {v : Value} {l : List A} {base : Nat} (h : w.ownsRow base e 6 v l.length (flatA l)) :
    ∃ a0 cap, v = .slice a0 l.length cap ∧ Attrs w a0 l := by
  rcases h.2 with ⟨rfl, h0⟩ | ⟨g, cp, cur, rfl, hb, _⟩
  · have : l = [] := List.eq_nil_of_length_eq_zero h0
    subst this
    exact ⟨none, 0, rfl, fun i hi => absurd hi (Nat.not_lt_zero _)⟩
  · exact ⟨some ⟨g, 0, none⟩, cp, rfl, liesA (h.cells rfl)⟩
theorem new_attr (w : World) (a : A) (e : TypeId) : ∀ j u, (flatA [a])[j]? = some u → (w.alloc (.cells #[.string ⟨a.name.toArray⟩, .int .i64 a.val.kind, .int .i64 a.val.int, .float .f64 a.val.num, .string ⟨a.val.text.toArray⟩, .bool a.val.yes] e)).cell? ((⟨w.heap.size, 0, none⟩ : Addr).add j) = some u := by
  intro j u hj
  have hadd : (⟨w.heap.size, 0, none⟩ : Addr).add j = ⟨w.heap.size, j, none⟩ := by unfold Addr.add; split <;> simp_all
  rw [hadd]
  simpa [flatA, cells6, go_sem] using hj
theorem new_attr2 (w : World) (g : Nat) (hg : g = w.heap.size) (a : A) (e : TypeId) : ∀ j u, (flatA [a])[j]? = some u → (w.alloc (.cells #[.string ⟨a.name.toArray⟩, .int .i64 a.val.kind, .int .i64 a.val.int, .float .f64 a.val.num, .string ⟨a.val.text.toArray⟩, .bool a.val.yes] e)).cell? ((⟨g, 0, none⟩ : Addr).add j) = some u := by
  subst hg; exact new_attr w a e
theorem keep_blk {wr w1 w3 : World} {base : Nat} {e : TypeId} {v : Value} {n : Nat} {xs : List Value} (hown : wr.ownsRow base e 6 v n xs) (hg : w1.grownBy w3 v.ownBlock) {p : Nat} (hp : p < base) (hp2 : p < w1.heap.size) : w3.heap[p]? = w1.heap[p]? :=
  hg.block p hp2 (fun h => by have := (hown.lt p h.symm).1; omega)
def keepB (zs : List ByteArray) (l : List A) : List A := l.filter fun a => !Lib.containsS zs ⟨a.name.toArray⟩
theorem keep_succ (zs : List ByteArray) (l : List A) (k : Nat) (h : k < l.length) : keepB zs (l.take (k + 1)) = keepB zs (l.take k) ++ (if Lib.containsS zs ⟨l[k].name.toArray⟩ then [] else [l[k]]) := by
  unfold keepB
  rw [List.take_succ_eq_append_getElem h, List.filter_append]
  cases hc : Lib.containsS zs ⟨l[k].name.toArray⟩ <;> simp [hc]
theorem keep_len (zs : List ByteArray) (l : List A) (k : Nat) : (keepB zs (l.take k)).length ≤ l.length :=
  Nat.le_trans (List.length_filter_le _ _) (by rw [List.length_take]; omega)
end Go.Proofs.YtfkedobofamkiaaGreatDoor.Val
end

section
/- THE WALK OF slices.Insert at attributes, one element, onto a row of the call's own: at the end. -/
namespace Go.Proofs.YtfkedobofamkiaaGreatDoor.Val
open Go.RowKit Flt
theorem liesA_one {w : World} {b off : Nat} {a : A} (h : AAt w ⟨b, off, none⟩ a) : ∀ j u, (flatA [a])[j]? = some u → w.cell? ((⟨b, off, none⟩ : Addr).add j) = some u := by
  intro j u hj
  obtain ⟨h0, h1, h2, h3, h4, h5⟩ := h
  have hadd : (⟨b, off, none⟩ : Addr).add j = ⟨b, off + j, none⟩ := by unfold Addr.add; split <;> simp_all
  rw [hadd]
  have hjl : j < 6 := by have := (List.getElem?_eq_some_iff.1 hj).1; simpa [flatA, cells6] using this
  match j, hjl, hj with
  | 0, _, hj => simp [flatA, cells6] at hj; subst hj; exact h0
  | 1, _, hj => simp [flatA, cells6] at hj; subst hj; exact h1
  | 2, _, hj => simp [flatA, cells6] at hj; subst hj; exact h2
  | 3, _, hj => simp [flatA, cells6] at hj; subst hj; exact h3
  | 4, _, hj => simp [flatA, cells6] at hj; subst hj; exact h4
  | 5, _, hj => simp [flatA, cells6] at hj; subst hj; exact h5
end Go.Proofs.YtfkedobofamkiaaGreatDoor.Val
end

section
/- COPIES OF ELEMENTS OF SEVERAL CELLS INTO A ROW THAT IS KNOWN WHOLE; what an insertion leaves of a row. No walk. -/
namespace Go.Proofs.YtfkedobofamkiaaGreatDoor.Val
open Go.RowKit Flt
theorem run_copy_rowN {P : Program} (w : World) (dT sT ty elem : TypeId) (size g o dLen dCap : Nat) (a : Addr) (sLen sCap : Nat) (cur : List Value) (t : TypeId) (cs : List Value)
    (hu : P.underlying dT = some (.slice elem)) (hs : (P.info? elem).map (·.size) = some size)
    (hg : w.heap[g]? = some (.cells cur.toArray t (0, 0))) (hn : cs.length = Nat.min sLen dLen * size)
    (hsrc : ∀ j v, cs[j]? = some v → w.cell? (a.add j) = some v) (hfit : o + cs.length ≤ cur.length) (h1 : ∀ v ∈ cs, v.oneCell' = true) :
    (Builtin.copy_ #[dT, sT] ty #[.slice (some ⟨g, o, none⟩) dLen dCap, .slice (some a) sLen sCap]).run P w =
      .ok (goInt (Nat.min sLen dLen : Nat)) (w.setRow g (splice cur o cs).toArray) := by
  have hl := run_loadCells_list (P := P) w a cs hsrc
  have hst := run_storeCells_at P g o t cs 0 cur.toArray w hg (by simpa using hfit) h1
  cases hq : P.info? elem with
  | none => simp [hq] at hs
  | some i =>
    have hi : i.size = size := by simpa [hq] using hs
    simp [Builtin.copy_, run_underlying hu, Builtin.lenOf, Builtin.firstCells, sizeOf, typeInfo, hq, hi, ← hn, hl, hst, splice]
theorem splice_take {α : Type} (L : List α) (off : Nat) (cs : List α) (j : Nat) (h : j ≤ off) (ho : off ≤ L.length) : (splice L off cs).take j = L.take j := by
  unfold splice
  rw [List.take_append_of_le_length (by rw [List.length_take]; omega), List.take_take]
  congr 1; omega
theorem splice_drop {α : Type} (L : List α) (off : Nat) (cs : List α) (ho : off ≤ L.length) : (splice L off cs).drop off = cs ++ L.drop (off + cs.length) := by
  unfold splice
  exact List.drop_left' (by rw [List.length_take]; omega)
theorem flatA_split (l : List A) (i : Nat) : flatA (l.take i) ++ flatA (l.drop i) = flatA l := by
  rw [← flatA_app2, List.take_append_drop]
where flatA_app2 : ∀ {l m : List A}, flatA (l ++ m) = flatA l ++ flatA m := by intro l m; simp [flatA]
theorem flatA_apps (l m : List A) : flatA (l ++ m) = flatA l ++ flatA m := by simp [flatA]
theorem flatA_take (l : List A) (i : Nat) (hi : i ≤ l.length) : (flatA l).take (i * 6) = flatA (l.take i) := by
  rw [← flatA_split l i]
  exact List.take_left' (by rw [flatA_len, List.length_take]; congr 1; omega)
theorem flatA_drop (l : List A) (i : Nat) (hi : i ≤ l.length) : (flatA l).drop (i * 6) = flatA (l.drop i) := by
  rw [← flatA_split l i]
  exact List.drop_left' (by rw [flatA_len, List.length_take]; congr 1; omega)
/-- there is room: what stands from i on is moved, the new one laid -/
theorem row_shift (l : List A) (a : A) (i cap : Nat) (cur : List Value) (hi : i < l.length) (hroom : l.length + 1 ≤ cap) (hcur : cur.length = cap * 6) (ht : cur.take (l.length * 6) = flatA l) :
    (splice (splice cur ((i + 1) * 6) (flatA (l.drop i))) (i * 6) (flatA [a])).length = cap * 6 ∧
    (splice (splice cur ((i + 1) * 6) (flatA (l.drop i))) (i * 6) (flatA [a])).take ((l.take i ++ a :: l.drop i).length * 6) = flatA (l.take i ++ a :: l.drop i) := by
  have hdl : (flatA (l.drop i)).length = (l.length - i) * 6 := by rw [flatA_len, List.length_drop]
  have h1l : (flatA [a]).length = 6 := by rw [flatA_len]; rfl
  have e1 : (splice cur ((i + 1) * 6) (flatA (l.drop i))).length = cap * 6 := by rw [length_splice _ _ _ (by rw [hdl, hcur]; omega), hcur]
  refine ⟨by rw [length_splice _ _ _ (by rw [e1, h1l]; omega), e1], ?_⟩
  have ea : (l.take i ++ a :: l.drop i).length * 6 = i * 6 + 6 + (l.length - i) * 6 := by
    simp only [List.length_append, List.length_take, List.length_cons, List.length_drop]; omega
  rw [ea]
  have f1 := splice_take cur ((i + 1) * 6) (flatA (l.drop i)) (i * 6) (by omega) (by rw [hcur]; omega)
  have f2 : (splice cur ((i + 1) * 6) (flatA (l.drop i))).drop (i * 6 + 6) = flatA (l.drop i) ++ cur.drop ((i + 1) * 6 + (flatA (l.drop i)).length) := by
    rw [show i * 6 + 6 = (i + 1) * 6 by omega]; exact splice_drop _ _ _ (by rw [hcur]; omega)
  generalize splice cur ((i + 1) * 6) (flatA (l.drop i)) = X at *
  unfold splice
  rw [f1, h1l, f2]
  have e3 : cur.take (i * 6) = flatA (l.take i) := by
    rw [← flatA_take l i (by omega), ← ht, List.take_take]; congr 1; omega
  rw [e3, show flatA (l.take i ++ a :: l.drop i) = flatA (l.take i) ++ (flatA [a] ++ flatA (l.drop i)) by rw [flatA_apps, show a :: l.drop i = [a] ++ l.drop i from rfl, flatA_apps]]
  rw [← List.append_assoc, ← List.append_assoc, ← List.append_assoc]
  refine List.take_left' ?_
  simp only [List.length_append, hdl, h1l, flatA_len, List.length_take]
  omega
/-- there is no room: a new row -/
theorem row_grow (l : List A) (a : A) (i G : Nat) (Z : List Value) (hi : i < l.length) (hG : l.length + 1 ≤ G) (hZ : (flatA (l.take i) ++ Z).length = G * 6) :
    (splice (splice (flatA (l.take i) ++ Z) (i * 6) (flatA [a])) ((i + 1) * 6) (flatA (l.drop i))).length = G * 6 ∧
    (splice (splice (flatA (l.take i) ++ Z) (i * 6) (flatA [a])) ((i + 1) * 6) (flatA (l.drop i))).take ((l.take i ++ a :: l.drop i).length * 6) = flatA (l.take i ++ a :: l.drop i) := by
  have hdl : (flatA (l.drop i)).length = (l.length - i) * 6 := by rw [flatA_len, List.length_drop]
  have htl : (flatA (l.take i)).length = i * 6 := by rw [flatA_len, List.length_take]; congr 1; omega
  have h1l : (flatA [a]).length = 6 := by rw [flatA_len]; rfl
  have e1 : (splice (flatA (l.take i) ++ Z) (i * 6) (flatA [a])).length = G * 6 := by rw [length_splice _ _ _ (by rw [h1l, hZ]; omega), hZ]
  refine ⟨by rw [length_splice _ _ _ (by rw [e1, hdl]; omega), e1], ?_⟩
  have ea : (l.take i ++ a :: l.drop i).length * 6 = i * 6 + 6 + (l.length - i) * 6 := by
    simp only [List.length_append, List.length_take, List.length_cons, List.length_drop]; omega
  rw [ea]
  have e3 : (splice (flatA (l.take i) ++ Z) (i * 6) (flatA [a])).take ((i + 1) * 6) = flatA (l.take i) ++ flatA [a] := by
    unfold splice
    rw [← List.append_assoc]
    have e4 : (flatA (l.take i) ++ Z).take (i * 6) = flatA (l.take i) := List.take_left' htl
    rw [e4]
    refine List.take_left' ?_
    rw [List.length_append, htl, h1l]; omega
  generalize splice (flatA (l.take i) ++ Z) (i * 6) (flatA [a]) = X at *
  unfold splice
  rw [e3, show flatA (l.take i ++ a :: l.drop i) = flatA (l.take i) ++ flatA [a] ++ flatA (l.drop i) by rw [flatA_apps, show a :: l.drop i = [a] ++ l.drop i from rfl, flatA_apps, List.append_assoc]]
  rw [← List.append_assoc]
  refine List.take_left' ?_
  simp only [List.length_append, hdl, h1l, htl]
end Go.Proofs.YtfkedobofamkiaaGreatDoor.Val
end

section
/- THE WALK OF slices.Insert at attributes, one element, onto a row of the call's own: ahead of others. -/
namespace Go.Proofs.YtfkedobofamkiaaGreatDoor.Val
open Go.RowKit Flt Go.Lib
theorem addj (b o j : Nat) : (⟨b, o, none⟩ : Addr).add j = ⟨b, o + j, none⟩ := by unfold Addr.add; split <;> simp_all
theorem zero_attr_cells : (Value.agg #[.string .empty, .int .i64 0, .int .i64 0, .float .f64 0, .string .empty, .bool false]).cells.size = 6 := by kernel_rfl
theorem grown_of_below {w w' : World} (h : Below w.heap.size w w') (row : Option Nat) : w.grownBy w' row := by
  obtain ⟨h1, h2, h3, h4, h5⟩ := h
  exact ⟨h1, h2, h3, h4, fun k hk _ => h5 k hk⟩
end Go.Proofs.YtfkedobofamkiaaGreatDoor.Val
end

section
/- PLAIN LAW OF Implies: what it answers, that it is sound, that it is handed on. No program in sight. -/
namespace Go.Proofs.YtfkedobofamkiaaGreatDoor.Val
open Flt
theorem cb_zero : ∀ (a b : List UInt8), Lib.compareBytes a b = 0 ↔ a = b
  | [], [] => by simp [Lib.compareBytes]
  | [], _ :: _ => by simp [Lib.compareBytes]
  | _ :: _, [] => by simp [Lib.compareBytes]
  | a :: ar, b :: bs => by
    unfold Lib.compareBytes
    by_cases h : a < b
    · rw [if_pos h]; constructor
      · intro h'; omega
      · intro h'; injection h' with h1 h2; subst h1; exact absurd h (UInt8.lt_irrefl _)
    · rw [if_neg h]
      by_cases h' : b < a
      · rw [if_pos h']; constructor
        · intro h'; omega
        · intro h2; injection h2 with h1 h3; subst h1; exact absurd h' (UInt8.lt_irrefl _)
      · rw [if_neg h', cb_zero ar bs]
        have e : a = b := by
          rw [UInt8.lt_iff_toNat_lt] at h h'
          exact UInt8.toNat_inj.1 (by omega)
        subst e; simp
theorem cb_lt : ∀ (a b c : List UInt8), (Lib.compareBytes a b < 0 → Lib.compareBytes b c < 0 → Lib.compareBytes a c < 0) ∧ (0 < Lib.compareBytes a b → 0 < Lib.compareBytes b c → 0 < Lib.compareBytes a c)
  | [], [], _ => by simp [Lib.compareBytes]
  | [], _ :: _, [] => by simp [Lib.compareBytes]
  | [], _ :: _, _ :: _ => by simp [Lib.compareBytes]
  | _ :: _, [], [] => by simp [Lib.compareBytes]
  | _ :: _, [], _ :: _ => by simp [Lib.compareBytes]
  | _ :: _, _ :: _, [] => by simp [Lib.compareBytes]
  | a :: ar, b :: bs, c :: cs => by
    have ih := cb_lt ar bs cs
    unfold Lib.compareBytes
    simp only [UInt8.lt_iff_toNat_lt]
    by_cases h1 : a.toNat < b.toNat <;> by_cases h2 : b.toNat < a.toNat <;> by_cases h3 : b.toNat < c.toNat <;> by_cases h4 : c.toNat < b.toNat <;> by_cases h5 : a.toNat < c.toNat <;> by_cases h6 : c.toNat < a.toNat <;> simp only [h1, h2, h3, h4, h5, h6, if_true, if_false] <;> first | exact ih | omega
/-- how three comparisons hang together -/
def Ord3 (p q r : Int) : Prop := (p < 0 → q ≤ 0 → r < 0) ∧ (p ≤ 0 → q < 0 → r < 0) ∧ (p = 0 → q = 0 → r = 0) ∧ (0 < p → 0 ≤ q → 0 < r) ∧ (0 ≤ p → 0 < q → 0 < r)
theorem cb_ord (a b c : List UInt8) : Ord3 (Lib.compareBytes a b) (Lib.compareBytes b c) (Lib.compareBytes a c) := by
  have h := cb_lt a b c
  have h1 := cb_zero a b
  have h2 := cb_zero b c
  unfold Ord3
  by_cases e1 : a = b
  · subst e1; rw [(cb_zero a a).2 rfl] at *; omega
  by_cases e2 : b = c
  · subst e2; rw [(cb_zero b b).2 rfl] at *; omega
  simp only [e1, iff_false] at h1
  simp only [e2, iff_false] at h2
  omega
theorem sgn_spec (a b : Int) : (sgn (decide (a < b)) (decide (b < a)) < 0 ↔ a < b) ∧ (sgn (decide (a < b)) (decide (b < a)) = 0 ↔ a = b) := by
  unfold sgn
  by_cases h : a < b
  · simp [h]; omega
  · by_cases h2 : b < a
    · simp [h, h2]; omega
    · simp [h, h2]; omega
theorem sgn_ord (a b c : Int) : Ord3 (sgn (decide (a < b)) (decide (b < a))) (sgn (decide (b < c)) (decide (c < b))) (sgn (decide (a < c)) (decide (c < a))) := by
  have h1 := sgn_spec a b
  have h2 := sgn_spec b c
  have h3 := sgn_spec a c
  unfold Ord3
  generalize sgn (decide (a < b)) (decide (b < a)) = p at *
  generalize sgn (decide (b < c)) (decide (c < b)) = q at *
  generalize sgn (decide (a < c)) (decide (c < a)) = r at *
  omega
theorem cmp_ord (x y z : V) (h1 : x.kind = y.kind) (h2 : y.kind = z.kind) (v1 : voidB x = false) (v2 : voidB y = false) (v3 : voidB z = false) : Ord3 (cmp x y) (cmp y z) (cmp x z) := by
  unfold cmp
  unfold voidB at v1 v2 v3
  rw [h1, h2] at v1; rw [h2] at v2; rw [h1, h2]
  by_cases k0 : z.kind = 0
  · simp only [k0]; exact sgn_ord _ _ _
  by_cases k1 : z.kind = 1
  · have n1 : nan x.num = false := by simpa [k1] using v1
    have n2 : nan y.num = false := by simpa [k1] using v2
    have n3 : nan z.num = false := by simpa [k1] using v3
    simp only [k1, Flt.lt, n1, n2, n3]
    exact sgn_ord _ _ _
  by_cases k2 : z.kind = 2
  · simp only [k2]; exact cb_ord _ _ _
  have e0 : (z.kind == 0) = false := by simpa using k0
  have e1 : (z.kind == 1) = false := by simpa using k1
  have e2 : (z.kind == 2) = false := by simpa using k2
  simp only [e0, e1, e2, Bool.false_eq_true, if_false]
  cases x.yes <;> cases y.yes <;> cases z.yes <;> (unfold Ord3 sgn; simp)
def relB (op n : Int) (p : Bool) : Bool :=
  if op == 7 then true else if op == 6 then p else if op == 0 then n == 0 else if op == 1 then n != 0 else if op == 2 then decide (n < 0) else if op == 3 then decide (n ≤ 0) else if op == 4 then decide (0 < n) else if op == 5 then decide (0 ≤ n) else false
theorem holds_rel (c : C) (v : V) (h : cmpOk v c.val = true) : holdsB c v = relB c.op (cmp v c.val) (v.kind == 2 && pre v.text c.val.text) := by
  unfold holdsB relB cmp1
  simp [h]
def lowB (n a b : Int) : Bool := ((b == 2 || b == 3) && (decide (n < 0) || (n == 0 && (b == 3 || a != 3)))) || (b == 1 && (decide (n < 0) || (n == 0 && a != 3)))
def uppB (n a b : Int) : Bool := ((b == 4 || b == 5) && (decide (0 < n) || (n == 0 && (b == 5 || a != 5)))) || (b == 1 && (decide (0 < n) || (n == 0 && a != 5)))
/-- the rule for two conditions on one kind, none void, neither Has -/
def ruleB (a b : C) : Bool :=
  if a.op == 0 then holdsB b a.val
  else if a.op == 1 then b.op == 1 && cmp1 a.val b.val == 0
  else if a.op == 6 then (b.op == 6 && pre a.val.text b.val.text) || (b.op == 1 && !pre b.val.text a.val.text)
  else if a.op == 2 || a.op == 3 then lowB (cmp1 a.val b.val) a.op b.op
  else uppB (cmp1 a.val b.val) a.op b.op
def impliesB (a b : C) : Bool :=
  if a.name != b.name then false
  else if cvoidB a || b.op == 7 then true
  else if a.op == 7 || cvoidB b || a.val.kind != b.val.kind then false
  else ruleB a b
theorem eight {o : Int} (h1 : 0 ≤ o) (h2 : o ≤ 7) (h : o ≠ 7) : o = 0 ∨ o = 1 ∨ o = 2 ∨ o = 3 ∨ o = 4 ∨ o = 5 ∨ o = 6 := by omega
theorem cvoid_at {c : C} (h : cvoidB c = false) (h7 : c.op ≠ 7) : voidB c.val = false := by
  unfold cvoidB at h
  have : (c.op != 7) = true := by simpa using h7
  rw [this] at h
  simp at h
  exact h.1
/-- a condition that holds and isn't Has can be held against -/
theorem holds_ok {c : C} {v : V} (h : holdsB c v = true) (h7 : c.op ≠ 7) : cmpOk v c.val = true := by
  cases hh : cmpOk v c.val
  · unfold holdsB at h; simp [hh, h7] at h
  · rfl
theorem cmpOk_parts {x y : V} (h : cmpOk x y = true) : x.kind = y.kind ∧ voidB x = false ∧ voidB y = false := by
  unfold cmpOk at h; simp at h; exact ⟨h.1.1, h.1.2, h.2⟩
theorem cmpOk_of {x y : V} (h : x.kind = y.kind) (h1 : voidB x = false) (h2 : voidB y = false) : cmpOk x y = true := by
  unfold cmpOk; simp [h, h1, h2]
theorem pre_iff (s p : List UInt8) : pre s p = true ↔ p <+: s := by unfold pre Lib.hasPrefix; exact List.isPrefixOf_iff_prefix
theorem pre_trans {s t u : List UInt8} (h1 : pre s t = true) (h2 : pre t u = true) : pre s u = true := (pre_iff _ _).2 (((pre_iff _ _).1 h2).trans ((pre_iff _ _).1 h1))
theorem cmp_text {x y : V} (hx : x.kind = 2) (h : cmp x y = 0) : x.text = y.text := by
  unfold cmp at h; simp [hx] at h; exact (cb_zero _ _).1 h
/-- THE RULE IS SOUND. -/
theorem rule_sound (a b : C) (v : V) (a0 : 0 ≤ a.op) (a7 : a.op ≤ 7) (b0 : 0 ≤ b.op) (b7 : b.op ≤ 7) (ha : a.op ≠ 7) (hb : b.op ≠ 7) (nb : cvoidB b = false) (hk : a.val.kind = b.val.kind)
    (h : ruleB a b = true) (hv : holdsB a v = true) : holdsB b v = true := by
  have ok := holds_ok hv ha
  obtain ⟨k1, v1, v2⟩ := cmpOk_parts ok
  have v3 := cvoid_at nb hb
  have ok2 := cmpOk_of (k1.trans hk) v1 v3
  have ok3 := cmpOk_of hk v2 v3
  have ho := cmp_ord v a.val b.val k1 hk v1 v2 v3
  rw [holds_rel _ _ ok2]
  rw [holds_rel _ _ ok] at hv
  unfold ruleB at h
  rw [holds_rel _ _ ok3] at h
  have hc : cmp1 a.val b.val = cmp a.val b.val := by unfold cmp1; rw [ok3]; rfl
  rw [hc] at h
  have t1 := @cmp_text v a.val
  have t2 := @cmp_text v b.val
  have p1 := @pre_trans v.text a.val.text b.val.text
  have hk2 : (b.op == 6) = true → b.val.kind = 2 := by
    intro e; unfold cvoidB at nb; rw [e] at nb; simp at nb; exact nb.2
  have hs := pre_self v.text
  unfold lowB uppB at h
  unfold Ord3 at ho
  generalize cmp v a.val = p at *
  generalize cmp a.val b.val = q at *
  generalize cmp v b.val = r at *
  rcases eight a0 a7 ha with e | e | e | e | e | e | e <;> rcases eight b0 b7 hb with f | f | f | f | f | f | f <;>
    simp [e, f, relB] at h hv hk2 ⊢ <;> (try omega)
  · rw [k1, hk, hk2]; exact ⟨rfl, by rw [t1 (by rw [k1, hk, hk2]) hv]; exact h.2⟩
  · intro hr
    have := t2 hv.1 hr
    rw [← this, hv.2] at h
    exact absurd h (by simp)
  · exact ⟨hv.1, p1 hv.2 h⟩
theorem implies_sound (a b : C) (v : V) (a0 : 0 ≤ a.op) (a7 : a.op ≤ 7) (b0 : 0 ≤ b.op) (b7 : b.op ≤ 7) (h : impliesB a b = true) (hv : holdsB a v = true) : holdsB b v = true := by
  unfold impliesB at h
  by_cases hn : a.name = b.name
  · by_cases va : cvoidB a = true
    · rw [void_holds a v va] at hv; exact absurd hv (by simp)
    · by_cases hb : b.op = 7
      · unfold holdsB; simp [hb]
      · by_cases ha : a.op = 7
        · simp [hn, va, hb, ha] at h
        · by_cases vb : cvoidB b = true
          · simp [hn, va, hb, vb] at h
          · by_cases hk : a.val.kind = b.val.kind
            · simp [hn, va, hb, ha, vb, hk] at h
              exact rule_sound a b v a0 a7 b0 b7 ha hb (by simpa using vb) hk h hv
            · simp [hn, va, hb, hk] at h
  · simp [hn] at h
theorem rule_self (a : C) (a0 : 0 ≤ a.op) (a7 : a.op ≤ 7) (ha : a.op ≠ 7) (na : cvoidB a = false) : ruleB a a = true := by
  have v := cvoid_at na ha
  have hk2 : (a.op == 6) = true → a.val.kind = 2 := by
    intro e; unfold cvoidB at na; rw [e] at na; simp at na; exact na.2
  have hs : holdsB a a.val = sideB a.op (voidB a.val) (a.val.kind == 2) := side_eq a.name a.op a.val
  unfold ruleB
  rw [hs, cmp1_self, pre_self]
  unfold lowB uppB sideB
  rcases eight a0 a7 ha with e | e | e | e | e | e | e <;> simp [e, v]
theorem implies_self (a : C) (a0 : 0 ≤ a.op) (a7 : a.op ≤ 7) : impliesB a a = true := by
  unfold impliesB
  by_cases va : cvoidB a = true
  · simp [va]
  by_cases ha : a.op = 7
  · simp [ha]
  have na : cvoidB a = false := by simpa using va
  simp [na, ha, rule_self a a0 a7 ha na]
/-- THE RULE IS HANDED ON. -/
theorem rule_trans (a b c : C) (a0 : 0 ≤ a.op) (a7 : a.op ≤ 7) (b0 : 0 ≤ b.op) (b7 : b.op ≤ 7) (c0 : 0 ≤ c.op) (c7 : c.op ≤ 7) (ha : a.op ≠ 7) (hb : b.op ≠ 7) (hc : c.op ≠ 7)
    (na : cvoidB a = false) (nb : cvoidB b = false) (nc : cvoidB c = false) (k1 : a.val.kind = b.val.kind) (k2 : b.val.kind = c.val.kind)
    (h1 : ruleB a b = true) (h2 : ruleB b c = true) : ruleB a c = true := by
  have v1 := cvoid_at na ha
  have v2 := cvoid_at nb hb
  have v3 := cvoid_at nc hc
  by_cases hz : a.op = 0
  · have e : ∀ d, ruleB a d = holdsB d a.val := fun d => by unfold ruleB; simp [hz]
    rw [e] at h1 ⊢
    exact rule_sound b c a.val b0 b7 c0 c7 hb hc nc k2 h2 h1
  have ok1 := cmpOk_of k1 v1 v2
  have ok2 := cmpOk_of k2 v2 v3
  have ok3 := cmpOk_of (k1.trans k2) v1 v3
  have ho := cmp_ord a.val b.val c.val k1 k2 v1 v2 v3
  have e1 : cmp1 a.val b.val = cmp a.val b.val := by unfold cmp1; rw [ok1]; rfl
  have e2 : cmp1 b.val c.val = cmp b.val c.val := by unfold cmp1; rw [ok2]; rfl
  have e3 : cmp1 a.val c.val = cmp a.val c.val := by unfold cmp1; rw [ok3]; rfl
  have ka : (a.op == 6) = true → a.val.kind = 2 := by
    intro e; unfold cvoidB at na; rw [e] at na; simp at na; exact na.2
  have kb : (b.op == 6) = true → b.val.kind = 2 := by
    intro e; unfold cvoidB at nb; rw [e] at nb; simp at nb; exact nb.2
  have t2 := @cmp_text b.val c.val
  have p1 := @pre_trans a.val.text b.val.text c.val.text
  have p2 := @pre_trans c.val.text a.val.text b.val.text
  unfold ruleB lowB uppB at *
  rw [e1] at h1; rw [e2] at h2; rw [e3]
  unfold Ord3 at ho
  generalize holdsB b a.val = x1 at *
  generalize holdsB c b.val = x2 at *
  generalize holdsB c a.val = x3 at *
  generalize cmp a.val b.val = p at *
  generalize cmp b.val c.val = q at *
  generalize cmp a.val c.val = r at *
  rcases eight a0 a7 ha with e | e | e | e | e | e | e <;> rcases eight b0 b7 hb with f | f | f | f | f | f | f <;> (try (simp [e, f] at h1; done)) <;> (try omega) <;>
    rcases eight c0 c7 hc with g | g | g | g | g | g | g <;> (try (simp [f, g] at h2; done)) <;>
    simp [e, f, g] at h1 h2 ka kb ⊢ <;> (try omega)
  · rw [t2 (by rw [← k1, ka]) h2] at h1; exact h1
  · cases hh : pre c.val.text a.val.text
    · rfl
    · have := p2 hh h1; rw [this] at h2; exact absurd h2 (by simp)
  · exact p1 h1 h2
theorem implies_trans (a b c : C) (a0 : 0 ≤ a.op) (a7 : a.op ≤ 7) (b0 : 0 ≤ b.op) (b7 : b.op ≤ 7) (c0 : 0 ≤ c.op) (c7 : c.op ≤ 7) (h1 : impliesB a b = true) (h2 : impliesB b c = true) : impliesB a c = true := by
  unfold impliesB at *
  by_cases n1 : a.name = b.name
  · by_cases n2 : b.name = c.name
    · by_cases va : cvoidB a = true
      · simp [n1, n2, va]
      by_cases hc : c.op = 7
      · simp [n1, n2, hc]
      have na : cvoidB a = false := by simpa using va
      by_cases hb : b.op = 7
      · have nb : cvoidB b = false := by unfold cvoidB; simp [hb]
        simp [n2, hb, nb, hc] at h2
      by_cases ha : a.op = 7
      · simp [n1, na, ha, hb] at h1
      by_cases vb : cvoidB b = true
      · simp [n1, na, vb, hb] at h1
      have nb : cvoidB b = false := by simpa using vb
      by_cases vc : cvoidB c = true
      · simp [n2, nb, vc, hc] at h2
      have nc : cvoidB c = false := by simpa using vc
      by_cases k1 : a.val.kind = b.val.kind
      · by_cases k2 : b.val.kind = c.val.kind
        · simp [n1, na, ha, hb, nb, k1] at h1
          simp [n2, nb, hb, hc, nc, k2] at h2
          simp [n1, n2, na, ha, hc, nc, k1, k2]
          exact rule_trans a b c a0 a7 b0 b7 c0 c7 ha hb hc na nb nc k1 k2 h1 h2
        · simp [n2, nb, hc, k2] at h2
      · simp [n1, na, hb, k1] at h1
    · simp [n2] at h2
  · simp [n1] at h1
end Go.Proofs.YtfkedobofamkiaaGreatDoor.Val
end

section
/- PLAIN LAW OF EVENTS: attributes that rise by their names, what the search finds among them, what New makes. No program in sight. -/
namespace Go.Proofs.YtfkedobofamkiaaGreatDoor.Val
open Flt
theorem cb_anti (a b : List UInt8) : (Lib.compareBytes a b < 0 ↔ 0 < Lib.compareBytes b a) ∧ (Lib.compareBytes a b = 0 ↔ Lib.compareBytes b a = 0) := by
  have h1 := cb_ord a b a
  have h2 := cb_ord b a b
  rw [(cb_zero a a).2 rfl] at h1
  rw [(cb_zero b b).2 rfl] at h2
  have h3 := cb_zero a b
  have h4 := cb_zero b a
  unfold Ord3 at h1 h2
  refine ⟨by omega, ?_⟩
  rw [h3, h4]; exact eq_comm
theorem cb_trans {a b c : List UInt8} (h1 : Lib.compareBytes a b < 0) (h2 : Lib.compareBytes b c < 0) : Lib.compareBytes a c < 0 := (cb_lt a b c).1 h1 h2
theorem cb_irr (a : List UInt8) : ¬ Lib.compareBytes a a < 0 := by rw [(cb_zero a a).2 rfl]; decide
/-- each name stands ahead of those behind it -/
def Rising (l : List A) : Prop := l.Pairwise fun x y => Lib.compareBytes x.name y.name < 0
def getL (l : List A) (t : List UInt8) : Option V := (l.find? fun a => a.name == t).map (·.val)
theorem getL_cons (x : A) (l : List A) (t : List UInt8) : getL (x :: l) t = if x.name = t then some x.val else getL l t := by
  unfold getL
  rw [List.find?_cons]
  by_cases h : x.name = t
  · simp [h]
  · have : (x.name == t) = false := by simpa using h
    simp [h, this]
theorem getL_none {l : List A} {t : List UInt8} (h : ∀ a ∈ l, a.name ≠ t) : getL l t = none := by
  induction l with
  | nil => rfl
  | cons x l ih => rw [getL_cons, if_neg (h x (by simp))]; exact ih fun a ha => h a (by simp [ha])
theorem getL_some {l : List A} {t : List UInt8} {v : V} (h : getL l t = some v) : ∃ a ∈ l, a.name = t ∧ a.val = v := by
  induction l with
  | nil => cases h
  | cons x l ih =>
    rw [getL_cons] at h
    by_cases e : x.name = t
    · rw [if_pos e] at h; cases h; exact ⟨x, by simp, e, rfl⟩
    · rw [if_neg e] at h
      obtain ⟨a, ha, h1, h2⟩ := ih h
      exact ⟨a, by simp [ha], h1, h2⟩
theorem name_ne {x y : A} (h : Lib.compareBytes x.name y.name < 0) : x.name ≠ y.name := fun e => by rw [e] at h; exact cb_irr _ h
theorem getL_mem {l : List A} (hr : Rising l) {a : A} (ha : a ∈ l) : getL l a.name = some a.val := by
  induction l with
  | nil => cases ha
  | cons x l ih =>
    have hp := List.pairwise_cons.1 hr
    rw [getL_cons]
    rcases List.mem_cons.1 ha with rfl | ha
    · rw [if_pos rfl]
    · rw [if_neg (name_ne (hp.1 a ha))]
      exact ih hp.2 ha
theorem rising_ext : ∀ {l m : List A}, Rising l → Rising m → (∀ t, getL l t = getL m t) → l = m
  | [], [], _, _, _ => rfl
  | [], y :: m, _, _, h => by have := h y.name; rw [getL_cons, if_pos rfl] at this; cases this
  | x :: l, [], _, _, h => by have := h x.name; rw [getL_cons, if_pos rfl] at this; cases this
  | x :: l, y :: m, hl, hm, h => by
    have hl2 := List.pairwise_cons.1 hl
    have hm2 := List.pairwise_cons.1 hm
    by_cases e : x.name = y.name
    · have hx := h x.name
      rw [getL_cons, if_pos rfl, getL_cons, if_pos e.symm] at hx
      have hv : x.val = y.val := Option.some.inj hx
      have exy : x = y := by cases x; cases y; simp_all
      subst exy
      have : l = m := rising_ext hl2.2 hm2.2 fun t => by
        by_cases ht : x.name = t
        · subst ht
          rw [getL_none fun a ha => (name_ne (hl2.1 a ha)).symm, getL_none fun a ha => (name_ne (hm2.1 a ha)).symm]
        · have := h t
          rwa [getL_cons, if_neg ht, getL_cons, if_neg ht] at this
      rw [this]
    · exfalso
      have h0 := cb_zero x.name y.name
      have ha := (cb_anti x.name y.name).1
      rcases Int.lt_trichotomy (Lib.compareBytes x.name y.name) 0 with hc | hc | hc
      · have hx := h x.name
        rw [getL_cons, if_pos rfl, getL_cons, if_neg (Ne.symm e), getL_none fun a ha => (name_ne (cb_trans hc (hm2.1 a ha))).symm] at hx
        cases hx
      · exact e (h0.1 hc)
      · have hc' := (cb_anti y.name x.name).1.2 hc
        have hx := h y.name
        rw [getL_cons, if_neg e, getL_cons, if_pos rfl, getL_none fun a ha => (name_ne (cb_trans hc' (hl2.1 a ha))).symm] at hx
        cases hx
/-- an attribute laid in its place -/
def insL (a : A) : List A → List A
  | [] => [a]
  | x :: l => if Lib.compareBytes x.name a.name < 0 then x :: insL a l else if Lib.compareBytes x.name a.name = 0 then a :: l else a :: x :: l
theorem insL_mem {a : A} : ∀ {l : List A} {y : A}, y ∈ insL a l → y = a ∨ y ∈ l
  | [], y, h => by simpa [insL] using h
  | x :: l, y, h => by
    unfold insL at h
    split at h
    · rcases List.mem_cons.1 h with rfl | h
      · simp
      · rcases insL_mem h with h | h <;> simp [h]
    · split at h
      · rcases List.mem_cons.1 h with rfl | h <;> simp [*]
      · rcases List.mem_cons.1 h with rfl | h
        · simp
        · exact Or.inr h
theorem insL_rising {a : A} : ∀ {l : List A}, Rising l → Rising (insL a l)
  | [], _ => by unfold insL Rising; simp
  | x :: l, h => by
    have hp := List.pairwise_cons.1 h
    unfold insL
    split
    · rename_i hc
      refine List.pairwise_cons.2 ⟨fun y hy => ?_, insL_rising hp.2⟩
      rcases insL_mem hy with rfl | hy
      · exact hc
      · exact hp.1 y hy
    · rename_i hc
      split
      · rename_i h0
        have e := (cb_zero _ _).1 h0
        exact List.pairwise_cons.2 ⟨fun y hy => by rw [← e]; exact hp.1 y hy, hp.2⟩
      · rename_i h0
        have hc' : Lib.compareBytes a.name x.name < 0 := (cb_anti _ _).1.2 (by omega)
        exact List.pairwise_cons.2 ⟨fun y hy => by
          rcases List.mem_cons.1 hy with rfl | hy
          · exact hc'
          · exact cb_trans hc' (hp.1 y hy), h⟩
theorem insL_get {a : A} (t : List UInt8) : ∀ {l : List A}, getL (insL a l) t = if a.name = t then some a.val else getL l t
  | [] => by unfold insL; rw [getL_cons]
  | x :: l => by
    unfold insL
    split
    · rename_i hc
      rw [getL_cons, getL_cons, insL_get t]
      by_cases h1 : x.name = t
      · have : a.name ≠ t := by subst h1; exact (name_ne hc).symm
        simp [h1, this]
      · simp [h1]
    · split
      · rename_i h0
        have e := (cb_zero _ _).1 h0
        rw [getL_cons, getL_cons, ← e]
        by_cases h1 : x.name = t <;> simp [h1]
      · rw [getL_cons]
theorem insL_len {a : A} : ∀ {l : List A}, (insL a l).length = l.length + (if (getL l a.name).isSome then 0 else 1) ∨ ¬ Rising l
  | [] => Or.inl (by simp [insL, getL])
  | x :: l => by
    by_cases hr : Rising (x :: l)
    · left
      have hp := List.pairwise_cons.1 hr
      unfold insL
      rw [getL_cons]
      split
      · rename_i hc
        rw [if_neg (name_ne hc)]
        rcases insL_len (a := a) (l := l) with h | h
        · simp only [List.length_cons, h]; omega
        · exact absurd hp.2 h
      · rename_i hc
        split
        · rename_i h0
          rw [if_pos ((cb_zero _ _).1 h0)]; simp
        · rename_i h0
          rw [if_neg (fun e => h0 ((cb_zero _ _).2 e)), getL_none]
          · simp
          · intro y hy e
            have := hp.1 y hy
            rw [e] at this
            omega
    · exact Or.inr hr
theorem insL_le (a : A) : ∀ (l : List A), (insL a l).length ≤ l.length + 1
  | [] => by simp [insL]
  | x :: l => by
    unfold insL
    split
    · simpa using insL_le a l
    · split <;> simp
/-- where the search ends among rising names -/
theorem bs_spec (l : List A) (t : List UInt8) (hr : Rising l) (i j : Nat) (hij : i ≤ j) (hj : j ≤ l.length) (h1 : ∀ k (h : k < l.length), k < i → Lib.compareBytes l[k].name t < 0) (h2 : ∀ k (h : k < l.length), j ≤ k → ¬ Lib.compareBytes l[k].name t < 0) :
    (∀ k (h : k < l.length), k < bs l t i j → Lib.compareBytes l[k].name t < 0) ∧ (∀ k (h : k < l.length), bs l t i j ≤ k → ¬ Lib.compareBytes l[k].name t < 0) := by
  have hx := List.pairwise_iff_getElem.1 hr
  rw [bs]
  split
  · rename_i hlt
    have hm : (i + j) / 2 < l.length := by omega
    rw [show l[(i + j) / 2]! = l[(i + j) / 2] from getElem!_pos l _ hm]
    split
    · rename_i hc
      refine bs_spec l t hr _ j (by omega) hj (fun k h hk => ?_) h2
      by_cases e : k = (i + j) / 2
      · subst e; exact hc
      · exact cb_trans (hx k _ h hm (by omega)) hc
    · rename_i hc
      refine bs_spec l t hr i _ (by omega) (by omega) h1 (fun k h hk hk2 => ?_)
      by_cases e : k = (i + j) / 2
      · subst e; exact hc hk2
      · exact hc (cb_trans (hx _ k hm h (by omega)) hk2)
  · exact ⟨fun k h hk => h1 k h hk, fun k h hk => h2 k h (by omega)⟩
termination_by j - i
theorem bs_at (l : List A) (t : List UInt8) (hr : Rising l) : (∀ k (h : k < l.length), k < bs l t 0 l.length → Lib.compareBytes l[k].name t < 0) ∧ (∀ k (h : k < l.length), bs l t 0 l.length ≤ k → ¬ Lib.compareBytes l[k].name t < 0) :=
  bs_spec l t hr 0 l.length (Nat.zero_le _) (Nat.le_refl _) (fun _ _ h => absurd h (Nat.not_lt_zero _)) (fun k h hk => absurd h (by omega))
theorem found_at {l : List A} {t : List UInt8} (h : foundB l t = true) : ∃ hR : bs l t 0 l.length < l.length, (l[bs l t 0 l.length]'hR).name = t := by
  unfold foundB at h
  simp only [Bool.and_eq_true, decide_eq_true_eq, beq_iff_eq] at h
  refine ⟨h.1, ?_⟩
  have := (cb_zero _ _).1 h.2
  rwa [show l[bs l t 0 l.length]! = l[bs l t 0 l.length]'h.1 from getElem!_pos l _ h.1] at this
theorem found_of {l : List A} {t : List UInt8} (hr : Rising l) {a : A} (ha : a ∈ l) (e : a.name = t) : foundB l t = true := by
  obtain ⟨k, hk, hak⟩ := List.mem_iff_getElem.1 ha
  have ⟨s1, s2⟩ := bs_at l t hr
  have hx := List.pairwise_iff_getElem.1 hr
  have hkR : bs l t 0 l.length ≤ k := by
    by_cases h : k < bs l t 0 l.length
    · have := s1 k hk h
      rw [hak, e] at this
      exact absurd this (cb_irr _)
    · omega
  have hR : bs l t 0 l.length < l.length := by omega
  have hRk : bs l t 0 l.length = k := by
    by_cases h : bs l t 0 l.length = k
    · exact h
    · have h1 := hx _ k hR hk (by omega)
      rw [hak, e] at h1
      exact absurd h1 (s2 _ hR (Nat.le_refl _))
  unfold foundB
  rw [show l[bs l t 0 l.length]! = l[bs l t 0 l.length]'hR from getElem!_pos l _ hR]
  have hn : (l[bs l t 0 l.length]'hR).name = t := by
    have : l[bs l t 0 l.length]'hR = l[k] := by congr 1
    rw [this, hak, e]
  rw [hn, (cb_zero t t).2 rfl]
  simp [hR]
/-- a name is found just if it is there, with its value -/
theorem found_get {l : List A} (hr : Rising l) (t : List UInt8) : getL l t = if foundB l t then some (l[bs l t 0 l.length]!).val else none := by
  cases hf : foundB l t
  · simp only [Bool.false_eq_true, if_false]
    refine getL_none fun a ha e => ?_
    rw [found_of hr ha e] at hf
    cases hf
  · obtain ⟨hR, hn⟩ := found_at hf
    rw [if_pos rfl, show l[bs l t 0 l.length]! = l[bs l t 0 l.length]'hR from getElem!_pos l _ hR]
    have := getL_mem hr (List.getElem_mem hR)
    rwa [hn] at this
def canonA (a : A) : A := ⟨a.name, canonV a.val⟩
/-- one round of New -/
def stepA (acc : List A) (a : A) : List A := if foundB acc a.name then acc.set (bs acc a.name 0 acc.length) (canonA a) else acc.take (bs acc a.name 0 acc.length) ++ canonA a :: acc.drop (bs acc a.name 0 acc.length)
def newB (l : List A) : List A := l.foldl stepA []
theorem ins_at (a : A) : ∀ (l : List A) (R : Nat), R ≤ l.length → (∀ k (h : k < l.length), k < R → Lib.compareBytes l[k].name a.name < 0) → (∀ k (h : k < l.length), R ≤ k → ¬ Lib.compareBytes l[k].name a.name < 0) →
    (if decide (R < l.length) && Lib.compareBytes (l[R]!).name a.name == 0 then l.set R a else l.take R ++ a :: l.drop R) = insL a l
  | [], R, hR, _, _ => by simp at hR; subst hR; simp [insL]
  | x :: l, 0, _, _, h2 => by
    have hx := h2 0 (by simp) (Nat.le_refl _)
    simp only [List.getElem_cons_zero] at hx
    unfold insL
    rw [if_neg hx]
    by_cases h0 : Lib.compareBytes x.name a.name = 0
    · simp [h0]
    · simp [h0]
  | x :: l, R + 1, hR, h1, h2 => by
    have hx := h1 0 (by simp) (by omega)
    simp only [List.getElem_cons_zero] at hx
    have ih := ins_at a l R (by simpa using hR) (fun k h hk => by have := h1 (k + 1) (by simpa using h) (by omega); simpa using this) (fun k h hk => by have := h2 (k + 1) (by simpa using h) (by omega); simpa using this)
    unfold insL
    rw [if_pos hx, ← ih]
    have e : (x :: l)[R + 1]! = l[R]! := by simp
    rw [e]
    simp only [List.length_cons, Nat.add_lt_add_iff_right]
    split <;> simp
theorem step_ins {acc : List A} (hr : Rising acc) (a : A) : stepA acc a = insL (canonA a) acc := by
  have ⟨s1, s2⟩ := bs_at acc a.name hr
  exact ins_at (canonA a) acc (bs acc a.name 0 acc.length) (bs_le _ _ _ _ (Nat.zero_le _)) s1 s2
theorem foldl_rising : ∀ (l : List A) (acc : List A), Rising acc → Rising (l.foldl stepA acc)
  | [], _, h => h
  | a :: l, acc, h => foldl_rising l _ (by rw [step_ins h]; exact insL_rising h)
theorem newB_rising (l : List A) : Rising (newB l) := foldl_rising l [] List.Pairwise.nil
/-- the last one of a name, as it is kept -/
def lastV (l : List A) (t : List UInt8) : Option V := l.foldl (fun o a => if a.name = t then some (canonV a.val) else o) none
theorem foldl_get (t : List UInt8) : ∀ (l : List A) (acc : List A), Rising acc → getL (l.foldl stepA acc) t = l.foldl (fun o a => if a.name = t then some (canonV a.val) else o) (getL acc t)
  | [], _, _ => rfl
  | a :: l, acc, h => by
    rw [List.foldl_cons, List.foldl_cons, foldl_get t l _ (by rw [step_ins h]; exact insL_rising h), step_ins h, insL_get]
    rfl
theorem newB_get (l : List A) (t : List UInt8) : getL (newB l) t = lastV l t := foldl_get t l [] List.Pairwise.nil
theorem newB_snoc (l : List A) (a : A) : newB (l ++ [a]) = stepA (newB l) a := by unfold newB; rw [List.foldl_append]; rfl
theorem lastV_snoc (l : List A) (a : A) (t : List UInt8) : lastV (l ++ [a]) t = if a.name = t then some (canonV a.val) else lastV l t := by unfold lastV; rw [List.foldl_append]; rfl
theorem stepA_le (acc : List A) (a : A) : (stepA acc a).length ≤ acc.length + 1 := by
  unfold stepA
  split
  · simp
  · simp only [List.length_append, List.length_take, List.length_cons, List.length_drop]; omega
theorem newB_len (l : List A) : (newB l).length ≤ l.length := by
  have : ∀ (l acc : List A), (l.foldl stepA acc).length ≤ acc.length + l.length := by
    intro l
    induction l with
    | nil => intro acc; simp
    | cons a l ih => intro acc; rw [List.foldl_cons]; have := ih (stepA acc a); have := stepA_le acc a; simp; omega
  unfold newB; have h := this l []; simpa using h
/-- of a name in any list the last one -/
theorem lastV_none {l : List A} {t : List UInt8} (h : ∀ a ∈ l, a.name ≠ t) : lastV l t = none := by
  unfold lastV
  have : ∀ (l : List A) (o : Option V), (∀ a ∈ l, a.name ≠ t) → l.foldl (fun o a => if a.name = t then some (canonV a.val) else o) o = o := by
    intro l
    induction l with
    | nil => intro o _; rfl
    | cons a l ih => intro o h; rw [List.foldl_cons, if_neg (h a (by simp))]; exact ih o fun b hb => h b (by simp [hb])
  exact this l none h
/-- rising attributes, as they are kept, are what New makes of them -/
theorem newB_self {l : List A} (hr : Rising l) (hc : ∀ a ∈ l, canonV a.val = a.val) : newB l = l := by
  refine rising_ext (newB_rising l) hr fun t => ?_
  rw [newB_get]
  have : ∀ (l : List A) (o : Option V), Rising l → (∀ a ∈ l, canonV a.val = a.val) → l.foldl (fun o a => if a.name = t then some (canonV a.val) else o) o = (getL l t).or o := by
    intro l
    induction l with
    | nil => intro o _ _; simp [getL]
    | cons x l ih =>
      intro o hr hc
      have hp := List.pairwise_cons.1 hr
      rw [List.foldl_cons, getL_cons, ih _ hp.2 fun a ha => hc a (by simp [ha])]
      by_cases e : x.name = t
      · rw [if_pos e, if_pos e, hc x (by simp), getL_none fun a ha => by rw [← e]; exact (name_ne (hp.1 a ha)).symm]; simp
      · rw [if_neg e, if_neg e]
  rw [show lastV l t = _ from this l none hr hc]; simp
theorem canon_twice (b : Nat) : Ord.canon (Ord.canon b) = Ord.canon b := by
  have h0 : nan 0 = false := by decide
  have h1 : nan Ord.nan0 = true := by decide
  unfold Ord.canon
  cases hn : nan b
  · cases hz : Ord.zero b
    · simp [hn, hz]
    · simp [h0]
  · simp [h1]
theorem canonV_twice (v : V) : canonV (canonV v) = canonV v := by
  unfold canonV
  rcases kind_ways v.kind with h | ⟨h, h1⟩ | ⟨h, h1, h2⟩ | ⟨h, h1, h2, h3⟩ | ⟨h, h1, h2, h3⟩ <;> simp [*, canon_twice]
theorem newB_canon (l : List A) : ∀ a ∈ newB l, canonV a.val = a.val := by
  intro a ha
  have h := getL_mem (newB_rising l) ha
  rw [newB_get] at h
  have : ∀ (t : List UInt8) (l : List A) (o : Option V) (v : V), (∀ u, o = some u → canonV u = u) → l.foldl (fun o a => if a.name = t then some (canonV a.val) else o) o = some v → canonV v = v := by
    intro t l
    induction l with
    | nil => intro o v ho h; exact ho v h
    | cons x l ih =>
      intro o v ho h
      rw [List.foldl_cons] at h
      refine ih _ v ?_ h
      intro u hu
      split at hu
      · cases hu; exact canonV_twice _
      · exact ho u hu
  exact this a.name l none a.val (fun u h => by cases h) h
theorem newB_twice (l : List A) : newB (newB l) = newB l := newB_self (newB_rising l) (newB_canon l)
theorem keepB_rising {zs : List ByteArray} {l : List A} (h : Rising l) : Rising (keepB zs l) := List.Pairwise.filter _ h
end Go.Proofs.YtfkedobofamkiaaGreatDoor.Val
end

section
/- THE WALK OF event.New. -/
namespace Go.Proofs.YtfkedobofamkiaaGreatDoor.Val
open Go.RowKit Flt
theorem grownBy_trans {a b c : World} {row : Option Nat} (h : a.grownBy b row) (k : b.grownBy c row) : a.grownBy c row :=
  ⟨k.os.trans h.os, k.tape.trans h.tape, k.output.trans h.output, Nat.le_trans h.size k.size, fun i hi hne => (k.block i (Nat.lt_of_lt_of_le hi h.size) hne).trans (h.block i hi hne)⟩
theorem flatA_set (a : A) : ∀ (l : List A) (R : Nat), R < l.length →
    ((((((flatA l).set (R * 6) (.string ⟨a.name.toArray⟩)).set (R * 6 + 1) (.int .i64 a.val.kind)).set (R * 6 + 2) (.int .i64 a.val.int)).set (R * 6 + 3) (.float .f64 a.val.num)).set (R * 6 + 4) (.string ⟨a.val.text.toArray⟩)).set (R * 6 + 5) (.bool a.val.yes) = flatA (l.set R a)
  | x :: l, 0, _ => by simp [flatA, cells6]
  | x :: l, R + 1, h => by
    have ih := flatA_set a l R (by simpa using h)
    have e : flatA (x :: l) = cells6 x ++ flatA l := by simp [flatA]
    have e2 : flatA ((x :: l).set (R + 1) a) = cells6 x ++ flatA (l.set R a) := by simp [flatA]
    rw [e, e2, ← ih]
    have hs : ∀ (ys : List Value) (j : Nat) (v : Value), (cells6 x ++ ys).set ((R + 1) * 6 + j) v = cells6 x ++ ys.set (R * 6 + j) v := fun ys j v => by
      rw [List.set_append_right _ _ (by simp [cells6]; omega)]
      congr 2
      simp [cells6]; omega
    have hs0 : ∀ (ys : List Value) (v : Value), (cells6 x ++ ys).set ((R + 1) * 6) v = cells6 x ++ ys.set (R * 6) v := fun ys v => hs ys 0 v
    rw [hs0, hs, hs, hs, hs, hs]
theorem set_row6 {w : World} {base g cap R : Nat} {l : List A} (a : A) (h : w.ownsRow base 94 6 (.slice (some ⟨g, 0, none⟩) l.length cap) l.length (flatA l)) (hR : R < l.length) :
    ((((((w.setCell ⟨g, R * 6, none⟩ (.string ⟨a.name.toArray⟩)).setCell ⟨g, R * 6 + 1, none⟩ (.int .i64 a.val.kind)).setCell ⟨g, R * 6 + 2, none⟩ (.int .i64 a.val.int)).setCell ⟨g, R * 6 + 3, none⟩ (.float .f64 a.val.num)).setCell ⟨g, R * 6 + 4, none⟩ (.string ⟨a.val.text.toArray⟩)).setCell ⟨g, R * 6 + 5, none⟩ (.bool a.val.yes)).ownsRow base 94 6 (.slice (some ⟨g, 0, none⟩) (l.set R a).length cap) (l.set R a).length (flatA (l.set R a)) ∧
    w.grownBy ((((((w.setCell ⟨g, R * 6, none⟩ (.string ⟨a.name.toArray⟩)).setCell ⟨g, R * 6 + 1, none⟩ (.int .i64 a.val.kind)).setCell ⟨g, R * 6 + 2, none⟩ (.int .i64 a.val.int)).setCell ⟨g, R * 6 + 3, none⟩ (.float .f64 a.val.num)).setCell ⟨g, R * 6 + 4, none⟩ (.string ⟨a.val.text.toArray⟩)).setCell ⟨g, R * 6 + 5, none⟩ (.bool a.val.yes)) (some g) := by
  obtain ⟨h1, g1⟩ := h.stored (R * 6) (.string ⟨a.name.toArray⟩)
  obtain ⟨h2, g2⟩ := h1.stored (R * 6 + 1) (.int .i64 a.val.kind)
  obtain ⟨h3, g3⟩ := h2.stored (R * 6 + 2) (.int .i64 a.val.int)
  obtain ⟨h4, g4⟩ := h3.stored (R * 6 + 3) (.float .f64 a.val.num)
  obtain ⟨h5, g5⟩ := h4.stored (R * 6 + 4) (.string ⟨a.val.text.toArray⟩)
  obtain ⟨h6, g6⟩ := h5.stored (R * 6 + 5) (.bool a.val.yes)
  rw [flatA_set a l R hR] at h6
  rw [List.length_set]
  exact ⟨h6, grownBy_trans (grownBy_trans (grownBy_trans (grownBy_trans (grownBy_trans g1 g2) g3) g4) g5) g6⟩
/-- five cells behind the first one of a block -/
theorem set5_from1 (w : World) (b : Nat) (v1 v2 v3 v4 v5 : Value) (h : ∀ j, j < 5 → (w.cell? ⟨b, 1 + j, none⟩).isSome = true) :
    (((((w.setCell ⟨b, 1, none⟩ v1).setCell ⟨b, 2, none⟩ v2).setCell ⟨b, 3, none⟩ v3).setCell ⟨b, 4, none⟩ v4).setCell ⟨b, 5, none⟩ v5).cell? ⟨b, 0, none⟩ = w.cell? ⟨b, 0, none⟩ ∧
    (((((w.setCell ⟨b, 1, none⟩ v1).setCell ⟨b, 2, none⟩ v2).setCell ⟨b, 3, none⟩ v3).setCell ⟨b, 4, none⟩ v4).setCell ⟨b, 5, none⟩ v5).cell? ⟨b, 1, none⟩ = some v1 ∧
    (((((w.setCell ⟨b, 1, none⟩ v1).setCell ⟨b, 2, none⟩ v2).setCell ⟨b, 3, none⟩ v3).setCell ⟨b, 4, none⟩ v4).setCell ⟨b, 5, none⟩ v5).cell? ⟨b, 2, none⟩ = some v2 ∧
    (((((w.setCell ⟨b, 1, none⟩ v1).setCell ⟨b, 2, none⟩ v2).setCell ⟨b, 3, none⟩ v3).setCell ⟨b, 4, none⟩ v4).setCell ⟨b, 5, none⟩ v5).cell? ⟨b, 3, none⟩ = some v3 ∧
    (((((w.setCell ⟨b, 1, none⟩ v1).setCell ⟨b, 2, none⟩ v2).setCell ⟨b, 3, none⟩ v3).setCell ⟨b, 4, none⟩ v4).setCell ⟨b, 5, none⟩ v5).cell? ⟨b, 4, none⟩ = some v4 ∧
    (((((w.setCell ⟨b, 1, none⟩ v1).setCell ⟨b, 2, none⟩ v2).setCell ⟨b, 3, none⟩ v3).setCell ⟨b, 4, none⟩ v4).setCell ⟨b, 5, none⟩ v5).cell? ⟨b, 5, none⟩ = some v5 ∧
    Below b w (((((w.setCell ⟨b, 1, none⟩ v1).setCell ⟨b, 2, none⟩ v2).setCell ⟨b, 3, none⟩ v3).setCell ⟨b, 4, none⟩ v4).setCell ⟨b, 5, none⟩ v5) ∧
    (((((w.setCell ⟨b, 1, none⟩ v1).setCell ⟨b, 2, none⟩ v2).setCell ⟨b, 3, none⟩ v3).setCell ⟨b, 4, none⟩ v4).setCell ⟨b, 5, none⟩ v5).heap.size = w.heap.size := by
  have e := World.cell?_setCells_in b [v1, v2, v3, v4, v5] 1 w (fun j hj => h j hj)
  have e0 := World.cell?_setCells_out b [v1, v2, v3, v4, v5] 1 w ⟨b, 0, none⟩ (fun _ _ => Or.inl (by simp))
  exact ⟨e0, e 0 (by simp), e 1 (by simp), e 2 (by simp), e 3 (by simp), e 4 (by simp),
    (((((Below.refl b w).setCell (Nat.le_refl _) _).setCell (Nat.le_refl _) _).setCell (Nat.le_refl _) _).setCell (Nat.le_refl _) _).setCell (Nat.le_refl _) _, by simp [World.setCell]⟩
/-- what the walk knows of the blocks of the call between two rounds -/
def NewAt (N : Nat) (sc : List UInt8) (v : Value) (l : List A) (W : World) : Prop :=
  W.cell? ⟨N + 1, 0, none⟩ = some (.string ⟨sc.toArray⟩) ∧ W.cell? ⟨N + 1, 1, none⟩ = some v ∧ W.frozen? ⟨N + 1, 1, none⟩ = false ∧
    (W.cell? ⟨N, 0, none⟩).isSome = true ∧ (W.cell? ⟨N, 1, none⟩).isSome = true ∧ W.frozen? ⟨N, 0, none⟩ = false ∧ W.frozen? ⟨N, 1, none⟩ = false ∧
    W.ownsRow (N + 2) 94 6 v l.length (flatA l) ∧ N + 2 ≤ W.heap.size
theorem NewAt.below_at {N B : Nat} {sc : List UInt8} {v : Value} {l : List A} {W W2 : World} (h : NewAt N sc v l W) (hb : Below B W W2) (hN : N + 2 ≤ B) (hv : ∀ k, v.ownBlock = some k → k < B) : NewAt N sc v l W2 := by
  obtain ⟨o0, o1, ofz, r0, r1, rf0, rf1, hown, hsz⟩ := h
  obtain ⟨_, _, _, hs, hk⟩ := hb
  have g1 := hk (N + 1) (by omega)
  have g0 := hk N (by omega)
  refine ⟨(World.cell?_of_block (a := ⟨N + 1, 0, none⟩) g1).trans o0, (World.cell?_of_block (a := ⟨N + 1, 1, none⟩) g1).trans o1, (World.frozen?_of_block (a := ⟨N + 1, 1, none⟩) g1).trans ofz,
    (congrArg Option.isSome (World.cell?_of_block (a := ⟨N, 0, none⟩) g0)).trans r0, (congrArg Option.isSome (World.cell?_of_block (a := ⟨N, 1, none⟩) g0)).trans r1,
    (World.frozen?_of_block (a := ⟨N, 0, none⟩) g0).trans rf0, (World.frozen?_of_block (a := ⟨N, 1, none⟩) g0).trans rf1, ⟨hown.1, ?_⟩, Nat.le_trans hsz hs⟩
  rcases hown.2 with h0 | ⟨g, c, cur, rfl, h2, h3, h4⟩
  · exact Or.inl h0
  · exact Or.inr ⟨g, c, cur, rfl, h2, (hk g (hv g rfl)).trans h3, h4⟩
theorem NewAt.below {N : Nat} {sc : List UInt8} {v : Value} {l : List A} {W W2 : World} (h : NewAt N sc v l W) (hb : Below W.heap.size W W2) : NewAt N sc v l W2 :=
  h.below_at hb h.2.2.2.2.2.2.2.2 (fun k hk => (h.2.2.2.2.2.2.2.1.lt k hk).2)
/-- what New lays of an attribute in its box -/
def BoxA (W : World) (b : Nat) (a : A) : Prop :=
  W.cell? ⟨b, 0, none⟩ = some (.string ⟨a.name.toArray⟩) ∧ W.cell? ⟨b, 1, none⟩ = some (.int .i64 a.val.kind) ∧ W.cell? ⟨b, 2, none⟩ = some (.int .i64 a.val.int) ∧ W.cell? ⟨b, 3, none⟩ = some (.float .f64 a.val.num) ∧ W.cell? ⟨b, 4, none⟩ = some (.string ⟨a.val.text.toArray⟩) ∧ W.cell? ⟨b, 5, none⟩ = some (.bool a.val.yes)
theorem BoxA.below {W W2 : World} {b : Nat} {a : A} (h : BoxA W b a) (hb : Below W.heap.size W W2) : BoxA W2 b a := by
  obtain ⟨h0, h1, h2, h3, h4, h5⟩ := h
  exact ⟨(hb.cell (World.block_lt_of_cell? _ _ h0)).trans h0, (hb.cell (World.block_lt_of_cell? _ _ h1)).trans h1, (hb.cell (World.block_lt_of_cell? _ _ h2)).trans h2, (hb.cell (World.block_lt_of_cell? _ _ h3)).trans h3, (hb.cell (World.block_lt_of_cell? _ _ h4)).trans h4, (hb.cell (World.block_lt_of_cell? _ _ h5)).trans h5⟩
theorem step_yes {acc : List A} {a : A} (h : foundB acc a.name = true) : stepA acc a = acc.set (bs acc a.name 0 acc.length) (canonA a) := by unfold stepA; rw [h]; rfl
theorem step_no {acc : List A} {a : A} (h : foundB acc a.name = false) : stepA acc a = acc.take (bs acc a.name 0 acc.length) ++ canonA a :: acc.drop (bs acc a.name 0 acc.length) := by unfold stepA; rw [h]; rfl
/-- the row's cells at one element -/
theorem own_at {w : World} {base g cap R : Nat} {l : List A} (h : w.ownsRow base 94 6 (.slice (some ⟨g, 0, none⟩) l.length cap) l.length (flatA l)) (hR : R < l.length) (j : Nat) (hj : j < 6) : ∃ u, w.cell? ⟨g, R * 6 + j, none⟩ = some u := by
  have h1 := h.cellAt (R * 6 + j) (by omega)
  rw [flatA_at l R j hR hj] at h1
  have hl : (cells6 l[R]).length = 6 := rfl
  rw [List.getElem?_eq_getElem (by omega)] at h1
  exact ⟨_, h1⟩
theorem NewAt.kept {N : Nat} {sc : List UInt8} {v v' : Value} {l l' : List A} {W W2 : World} {row : Option Nat} (h : NewAt N sc v l W) (hg : W.grownBy W2 row) (hrow : ∀ k, row = some k → N + 2 ≤ k) (hown' : W2.ownsRow (N + 2) 94 6 v' l'.length (flatA l')) :
    NewAt N sc v' l' (W2.setCell ⟨N + 1, 1, none⟩ v') := by
  obtain ⟨o0, o1, ofz, r0, r1, rf0, rf1, hown, hsz⟩ := h
  have g1 := hg.block (N + 1) (by omega) (fun e => by have := hrow _ e.symm; omega)
  have g0 := hg.block N (by omega) (fun e => by have := hrow _ e.symm; omega)
  have p1 := (World.cell?_of_block (a := ⟨N + 1, 1, none⟩) g1).trans o1
  refine ⟨(World.cell?_setCell_other _ _ _ _ (by simp)).trans ((World.cell?_of_block (a := ⟨N + 1, 0, none⟩) g1).trans o0), World.cell?_setCell_same _ _ _ p1, by rw [World.frozen?_setCell]; exact (World.frozen?_of_block (a := ⟨N + 1, 1, none⟩) g1).trans ofz,
    (congrArg Option.isSome (World.cell?_setCell_other _ _ _ _ (by simp))).trans ((congrArg Option.isSome (World.cell?_of_block (a := ⟨N, 0, none⟩) g0)).trans r0),
    (congrArg Option.isSome (World.cell?_setCell_other _ _ _ _ (by simp))).trans ((congrArg Option.isSome (World.cell?_of_block (a := ⟨N, 1, none⟩) g0)).trans r1),
    by rw [World.frozen?_setCell]; exact (World.frozen?_of_block (a := ⟨N, 0, none⟩) g0).trans rf0, by rw [World.frozen?_setCell]; exact (World.frozen?_of_block (a := ⟨N, 1, none⟩) g0).trans rf1, ?_, ?_⟩
  · exact ownsRow_setCell_below hown' (by show N + 1 < N + 2; omega) _
  · have := hg.size; simp [World.setCell]; omega
/-- a store in place: nothing but the row turns -/
theorem NewAt.same {N : Nat} {sc : List UInt8} {v : Value} {l l' : List A} {W W2 : World} {row : Option Nat} (h : NewAt N sc v l W) (hg : W.grownBy W2 row) (hrow : ∀ k, row = some k → N + 2 ≤ k) (hown' : W2.ownsRow (N + 2) 94 6 v l'.length (flatA l')) :
    NewAt N sc v l' W2 := by
  obtain ⟨o0, o1, ofz, r0, r1, rf0, rf1, hown, hsz⟩ := h
  have g1 := hg.block (N + 1) (by omega) (fun e => by have := hrow _ e.symm; omega)
  have g0 := hg.block N (by omega) (fun e => by have := hrow _ e.symm; omega)
  exact ⟨(World.cell?_of_block (a := ⟨N + 1, 0, none⟩) g1).trans o0, (World.cell?_of_block (a := ⟨N + 1, 1, none⟩) g1).trans o1, (World.frozen?_of_block (a := ⟨N + 1, 1, none⟩) g1).trans ofz,
    (congrArg Option.isSome (World.cell?_of_block (a := ⟨N, 0, none⟩) g0)).trans r0, (congrArg Option.isSome (World.cell?_of_block (a := ⟨N, 1, none⟩) g0)).trans r1,
    (World.frozen?_of_block (a := ⟨N, 0, none⟩) g0).trans rf0, (World.frozen?_of_block (a := ⟨N, 1, none⟩) g0).trans rf1, hown', Nat.le_trans hsz hg.size⟩
theorem newB_take (l : List A) (k : Nat) (h : k < l.length) : newB (l.take (k + 1)) = stepA (newB (l.take k)) l[k] := by
  rw [List.take_succ_eq_append_getElem h, newB_snoc]
attribute [local go_sem] run_store_flt
end Go.Proofs.YtfkedobofamkiaaGreatDoor.Val
end

section
/- THE WALK OF the fit of chapter 03's laws. -/
namespace Go.Proofs.YtfkedobofamkiaaGreatDoor.Val
open Go.RowKit Flt
attribute [local go_sem] run_store_flt
/-- what the region of Print holds of the world: an attribute's box -/
theorem box_below {b : Nat} {v0 v1 v2 v3 v4 v5 : Value} {w w1 w2 : World} (hb : Below w1.heap.size w1 w2)
    (h : w1.cell? ⟨b, 0, none⟩ = some v0 ∧ w1.cell? ⟨b, 1, none⟩ = some v1 ∧ w1.cell? ⟨b, 2, none⟩ = some v2 ∧ w1.cell? ⟨b, 3, none⟩ = some v3 ∧ w1.cell? ⟨b, 4, none⟩ = some v4 ∧ w1.cell? ⟨b, 5, none⟩ = some v5 ∧ Below w.heap.size w w1 ∧ b < w1.heap.size) :
    w2.cell? ⟨b, 0, none⟩ = some v0 ∧ w2.cell? ⟨b, 1, none⟩ = some v1 ∧ w2.cell? ⟨b, 2, none⟩ = some v2 ∧ w2.cell? ⟨b, 3, none⟩ = some v3 ∧ w2.cell? ⟨b, 4, none⟩ = some v4 ∧ w2.cell? ⟨b, 5, none⟩ = some v5 ∧ Below w.heap.size w w2 ∧ b < w2.heap.size := by
  obtain ⟨h0, h1, h2, h3, h4, h5, hB, hl⟩ := h
  have c : ∀ o, w2.cell? ⟨b, o, none⟩ = w1.cell? ⟨b, o, none⟩ := fun o => hb.cell (p := ⟨b, o, none⟩) hl
  exact ⟨by rw [c]; exact h0, by rw [c]; exact h1, by rw [c]; exact h2, by rw [c]; exact h3, by rw [c]; exact h4, by rw [c]; exact h5, btrans hB hb, Nat.lt_of_lt_of_le hl hb.size⟩
theorem box_start {v0 v1 v2 v3 v4 v5 : Value} {T : TypeId} {w wr : World} (hw : Below w.heap.size w wr) :
    (wr.alloc (.cells #[v0, v1, v2, v3, v4, v5] T)).drew.cell? ⟨wr.heap.size, 0, none⟩ = some v0 ∧ (wr.alloc (.cells #[v0, v1, v2, v3, v4, v5] T)).drew.cell? ⟨wr.heap.size, 1, none⟩ = some v1 ∧ (wr.alloc (.cells #[v0, v1, v2, v3, v4, v5] T)).drew.cell? ⟨wr.heap.size, 2, none⟩ = some v2 ∧ (wr.alloc (.cells #[v0, v1, v2, v3, v4, v5] T)).drew.cell? ⟨wr.heap.size, 3, none⟩ = some v3 ∧ (wr.alloc (.cells #[v0, v1, v2, v3, v4, v5] T)).drew.cell? ⟨wr.heap.size, 4, none⟩ = some v4 ∧ (wr.alloc (.cells #[v0, v1, v2, v3, v4, v5] T)).drew.cell? ⟨wr.heap.size, 5, none⟩ = some v5 ∧
    Below w.heap.size w (wr.alloc (.cells #[v0, v1, v2, v3, v4, v5] T)).drew ∧ wr.heap.size < (wr.alloc (.cells #[v0, v1, v2, v3, v4, v5] T)).drew.heap.size := by
  have c : ∀ o, (wr.alloc (.cells #[v0, v1, v2, v3, v4, v5] T)).cell? ⟨wr.heap.size, o, none⟩ = #[v0, v1, v2, v3, v4, v5][o]? := fun o => World.cell?_alloc_at _ _ _ _ rfl
  exact ⟨c 0, c 1, c 2, c 3, c 4, c 5, bdrewN (btrans hw (balloc _ _)) 1, by show wr.heap.size < (wr.alloc _).heap.size; simp⟩
theorem box_own {b : Nat} {v0 v1 v2 v3 v4 v5 : Value} {w w1 : World}
    (h : w1.cell? ⟨b, 0, none⟩ = some v0 ∧ w1.cell? ⟨b, 1, none⟩ = some v1 ∧ w1.cell? ⟨b, 2, none⟩ = some v2 ∧ w1.cell? ⟨b, 3, none⟩ = some v3 ∧ w1.cell? ⟨b, 4, none⟩ = some v4 ∧ w1.cell? ⟨b, 5, none⟩ = some v5 ∧ Below w.heap.size w w1 ∧ b < w1.heap.size) : Below w.heap.size w w1 := h.2.2.2.2.2.2.1
theorem newB_one (a : A) (h : canonV a.val = a.val) : newB [a] = [a] := newB_self (by simp [Rising]) (by intro b hb; rw [List.mem_singleton.1 hb]; exact h)
/-- one attribute in a block of its own -/
theorem one_attrs (w : World) (a : A) (e : TypeId) : Attrs (w.alloc (.cells #[.string ⟨a.name.toArray⟩, .int .i64 a.val.kind, .int .i64 a.val.int, .float .f64 a.val.num, .string ⟨a.val.text.toArray⟩, .bool a.val.yes] e)) (some ⟨w.heap.size, 0, none⟩) [a] := by
  intro i hi
  have : i = 0 := by simpa using hi
  subst this
  refine ⟨_, rfl, ?_⟩
  have c : ∀ o, (w.alloc (.cells #[.string ⟨a.name.toArray⟩, .int .i64 a.val.kind, .int .i64 a.val.int, .float .f64 a.val.num, .string ⟨a.val.text.toArray⟩, .bool a.val.yes] e)).cell? ⟨w.heap.size, o, none⟩ = #[.string ⟨a.name.toArray⟩, .int .i64 a.val.kind, .int .i64 a.val.int, .float .f64 a.val.num, .string ⟨a.val.text.toArray⟩, .bool a.val.yes][o]? := fun o => World.cell?_alloc_at _ _ _ _ rfl
  exact ⟨c 0, c 1, c 2, c 3, c 4, c 5⟩
end Go.Proofs.YtfkedobofamkiaaGreatDoor.Val
end

section
/- A SLICE OF ATTRIBUTES AS AN ARGUMENT. -/
namespace Go.Proofs.YtfkedobofamkiaaGreatDoor.Open
open Go.ChangeShapes Go.WideShapes Go.ChangeAt Go.RowKit Go.Deep
def AOk (a : Val.A) : Prop := a.name.length ≤ 140737488351232 ∧ VOk a.val
section
variable {H : Type} {enc : TypeId × Value → H} {w : World} {base : Nat} {spare : Nat → Bool} {held : Bool}
theorem attr_leaves : leaves Tryz.prog 3 94 = [9, 3, 2, 55, 9, 4] := by kernel_rfl
theorem attr_packed : packed Tryz.prog 3 94 = true := by kernel_rfl
set_option maxRecDepth 100000 in
theorem open_attrs {r : Reach} {b0 : Nat} {v : Value} {d : DataW H} {p : List MemPlace} (hv : Value.okWide Tryz.prog w r b0 45 v) (h : DataW.Trod enc Tryz.prog w base spare held 45 v d p)
    (hr : ∀ k ∈ DataW.weights Tryz.prog 45 d, k ≤ 140737488351232) : ∃ (a0 : Option Addr) (cap : Nat) (l : List Val.A), v = .slice a0 l.length cap ∧ l.length ≤ cap ∧ cap ≤ maxLen ∧ Val.Attrs w a0 l ∧ (∀ x ∈ l, AOk x) ∧ (a0 = none → l = [] ∧ cap = 0) := by
  have hu : Tryz.prog.underlying 45 = some (.slice 94) := Tryz.underlying45
  have hce : Tryz.prog.cellsOf 94 = 6 := by kernel_rfl
  obtain ⟨a0, ln, cp, rfl⟩ := okWide_slice hu hv
  obtain ⟨fuel, hf⟩ := h
  rcases open_slice hu hf with ⟨h0, _⟩ | ⟨a, len, cap, m, n, D, Pl, h0, hb, hl, hm, hmm, hx, hel⟩
  · have he : (a0 = none ∧ ln = 0 ∧ cp = 0) := by simpa [Value.cells] using h0
    obtain ⟨rfl, rfl, rfl⟩ := he
    exact ⟨none, 0, [], rfl, Nat.le_refl _, Nat.zero_le _, fun i h => absurd h (Nat.not_lt_zero _), fun x hx => (nomatch hx), fun _ => ⟨rfl, rfl⟩⟩
  · have he : (a0 = some a ∧ ln = len ∧ cp = cap) := by simpa [Value.cells] using h0
    obtain ⟨rfl, rfl, rfl⟩ := he
    have hlm : ln ≤ m := by rw [hmm]; split <;> omega
    have each : ∀ i, i < ln → ∃ x : Val.A, Val.AAt w (a.add (i * 6)) x ∧ AOk x := by
      intro i hi
      obtain ⟨cs', h1, h2⟩ := hel i (by omega)
      rw [hce] at h1
      obtain ⟨_, hlen, hcell⟩ := World.cells?_some h1
      have hcs := cells_of 3 attr_packed h2 (by rw [hlen, hce])
      rw [attr_leaves] at hcs
      have hw : ∀ k ∈ DataW.weights Tryz.prog 94 (D i), k ≤ 140737488351232 := by
        intro k hk
        refine hr k ?_
        have hd : d = .slice ((List.range ln).map D) ((List.range (m - ln)).map fun j => D (ln + j)) := congrArg Prod.fst hx
        rw [hd]
        simp only [DataW.weights, hu]
        exact List.mem_cons_of_mem _ (List.mem_append_left _ (weightsAll_mem (List.mem_map.2 ⟨i, List.mem_range.2 hi, rfl⟩) k hk))
      obtain ⟨v0, u0, e0, hh0, r0⟩ := hcs.cons
      obtain ⟨nm, rfl, w0⟩ := hh0.string Tryz.underlying9
      obtain ⟨k, nn, x, t, y, us, e, ok, hn⟩ := val_cells hw (ts := []) r0
      rw [hn.nil, List.append_nil] at e
      subst e; subst e0
      refine ⟨⟨nm, ⟨k, nn, x, t, y⟩⟩, ⟨?_, ?_, ?_, ?_, ?_, ?_⟩, hw _ w0, ok⟩
      · exact hcell 0 (by decide)
      · exact hcell 1 (by decide)
      · exact hcell 2 (by decide)
      · exact hcell 3 (by decide)
      · exact hcell 4 (by decide)
      · exact hcell 5 (by decide)
    obtain ⟨F, hF⟩ := choose_lt each
    refine ⟨some a, cp, (List.range ln).map F, by simp, by simpa using hl, hm, fun i hi => ⟨a, rfl, ?_⟩, fun x hx => ?_, fun e => by cases e⟩
    · have hi' : i < ln := by simpa using hi
      have : ((List.range ln).map F)[i] = F i := by simp
      rw [this]
      exact (hF i hi').1
    · obtain ⟨i, hi, rfl⟩ := List.mem_map.1 hx
      exact (hF i (List.mem_range.1 hi)).2
end
end Go.Proofs.YtfkedobofamkiaaGreatDoor.Open
end

section
/- THE WALK OF light of chapter 03's laws; of a name the last attribute. -/
namespace Go.Proofs.YtfkedobofamkiaaGreatDoor.Val
open Go.RowKit Flt
attribute [local go_sem] run_store_flt
def lit1 (a : A) : Bool := decide (a.name.length + a.val.text.length ≤ 300)
def lightB (l : List A) : Bool := l.all lit1 && decide (l.length ≤ 30)
theorem all_take_succ (l : List A) (k : Nat) (h : k < l.length) : (l.take (k + 1)).all lit1 = ((l.take k).all lit1 && lit1 l[k]) := by
  rw [List.take_succ_eq_append_getElem h]; simp only [List.all_append, List.all_cons, List.all_nil, Bool.and_true]
theorem all_no (l : List A) (k : Nat) (h : k < l.length) (hk : lit1 l[k] = false) : l.all lit1 = false := by
  rw [Bool.eq_false_iff]; intro ha
  have := List.all_eq_true.1 ha l[k] (List.getElem_mem h)
  rw [hk] at this; cases this
theorem fold_skip (t : List UInt8) : ∀ (l : List A) (o : Option V), (∀ a ∈ l, a.name ≠ t) → l.foldl (fun o a => if a.name = t then some (canonV a.val) else o) o = o
  | [], _, _ => rfl
  | a :: l, o, h => by rw [List.foldl_cons, if_neg (h a (by simp))]; exact fold_skip t l o fun b hb => h b (by simp [hb])
theorem last_at {l : List A} {t : List UInt8} {i : Nat} (hi : i < l.length) (he : l[i].name = t) (h : ∀ j (hj : j < l.length), i + 1 ≤ j → l[j].name ≠ t) : lastV l t = some (canonV l[i].val) := by
  have e : l = l.take (i + 1) ++ l.drop (i + 1) := (List.take_append_drop _ _).symm
  have hs : lastV l t = lastV (l.take (i + 1)) t := by
    conv => lhs; rw [e]
    unfold lastV
    rw [List.foldl_append]
    refine fold_skip t _ _ fun a ha => ?_
    obtain ⟨k, hk, hak⟩ := List.mem_iff_getElem.1 ha
    rw [List.getElem_drop] at hak
    rw [← hak]
    exact h _ _ (by omega)
  rw [hs, List.take_succ_eq_append_getElem hi, lastV_snoc, if_pos he]
theorem last_no {l : List A} {t : List UInt8} (h : ∀ j (hj : j < l.length), 0 ≤ j → l[j].name ≠ t) : lastV l t = none :=
  lastV_none fun a ha => by
    obtain ⟨k, hk, rfl⟩ := List.mem_iff_getElem.1 ha
    exact h k hk (Nat.zero_le _)
end Go.Proofs.YtfkedobofamkiaaGreatDoor.Val
end

section
/- THE WALKS OF package order: Key, Same. -/
namespace Go.Proofs.YtfkedobofamkiaaGreatDoor.Ord
open Go.RowKit Flt
attribute [local go_sem] ford_eq ford_lt ford_gt
theorem bits_call (b : Nat) (w : World) : (callFunc 117 #[.float .f64 b]).run Tryz.prog w = .ok (.value (.int .u64 b)) w :=
  run_callFunc_extern (e := Extern.MathFloatBits.float64bits) Tryz.func117 (by kernel_rfl) (by kernel_rfl) (by kernel_rfl) (by kernel_rfl) _ w
theorem umax_xor (b : Nat) (hb : b < 18446744073709551616) : bits .xor .u64 IntKind.u64.max (b : Int) = ((most - b : Nat) : Int) := by
  have h := u64_xor 18446744073709551615 (b : Int) (by decide) (by decide) (by omega) (by omega)
  have e : IntKind.u64.max = 18446744073709551615 := by decide
  rw [e, h]
  have e2 : (18446744073709551615 : Int).toNat = most := by decide
  rw [e2, Int.toNat_natCast, xor_most hb]
theorem top_or (b : Nat) (hb : b < 18446744073709551616) : bits .or .u64 (b : Int) 9223372036854775808 = ((b ||| top : Nat) : Int) := by
  have h := u64_or (b : Int) 9223372036854775808 (by omega) (by omega) (by decide) (by decide)
  rw [h, Int.toNat_natCast]; rfl
theorem top_off (b : Nat) (hb : b < 18446744073709551616) : bits .andNot .u64 (b : Int) 9223372036854775808 = ((b % 9223372036854775808 : Nat) : Int) := by
  have h := u64_andNot (b : Int) 9223372036854775808 (by omega) (by omega) (by decide) (by decide)
  rw [h, Int.toNat_natCast]
  have e2 : (9223372036854775808 : Int).toNat = 9223372036854775808 := by decide
  rw [e2, and_low]

theorem ret_u64 {a b : Int} (h : a = b) : Ending.returned (.int .u64 a) = .returned (.int .u64 b) := by rw [h]
set_option maxHeartbeats 400000 in
theorem key_any (b : Nat) (hb : b < 18446744073709551616) (w : World) :
    Calls Tryz.prog 93 #[.float .f64 b] w fun e w' => e = .returned (.int .u64 (key b)) ∧ w = w' := by
  have hc := bits_call
  have h1 := ford_ne_self (canon b)
  rw [canon_nan] at h1
  cases hn : nan b with
  | true =>
    rw [key_nan hn]
    rw [hn] at h1; clear hn hb
    go_enter Tryz.func93, Tryz.ntmps93
    go_wp2_with (go_at_call 47; refine (canon_any _ _).mono ?_; rintro e w' ⟨rfl, rfl⟩)
    go_ret
    exact ⟨rfl, rfl⟩
  | false =>
    rw [hn] at h1
    have hk := key_of_canon b hb hn
    have hl := canon_lt b hb
    clear hn hb
    by_cases h : canon b / 9223372036854775808 = 1
    · rw [if_pos h] at hk
      have HK := Lib.hid hk; clear hk
      have h' : ((canon b : Int) / 9223372036854775808 == 1) = true := by rw [beq_iff_eq]; omega
      clear h
      go_enter Tryz.func93, Tryz.ntmps93
      go_wp2_with (go_at_call 47; refine (canon_any _ _).mono ?_; rintro e w' ⟨rfl, rfl⟩)
      go_ret
      exact ⟨ret_u64 (by rw [HK.out, umax_xor _ hl]), rfl⟩
    · rw [if_neg h] at hk
      have HK := Lib.hid hk; clear hk
      have h' : ((canon b : Int) / 9223372036854775808 == 1) = false := by rw [beq_eq_false_iff_ne]; omega
      clear h
      go_enter Tryz.func93, Tryz.ntmps93
      go_wp2_with (go_at_call 47; refine (canon_any _ _).mono ?_; rintro e w' ⟨rfl, rfl⟩)
      go_ret
      exact ⟨ret_u64 (by rw [HK.out, top_or _ hl]), rfl⟩
def same (a b : Nat) : Bool := key a == key b
theorem beq_cast (a b : Nat) : ((a : Int) == (b : Int)) = (a == b) := by
  rw [Bool.eq_iff_iff]; simp; omega
set_option maxHeartbeats 400000 in
theorem same_any (a b : Nat) (ha : a < 18446744073709551616) (hb : b < 18446744073709551616) (w : World) :
    Calls Tryz.prog 70 #[.float .f64 a, .float .f64 b] w fun e w' => e = .returned (.bool (same a b)) ∧ w = w' := by
  go_enter Tryz.func70, Tryz.ntmps70
  go_wp2_with (go_at_call 93; refine (key_any _ (by assumption) _).mono ?_; rintro e w' ⟨rfl, rfl⟩)
  go_ret
  exact ⟨ret_bool (beq_cast _ _), rfl⟩
end Go.Proofs.YtfkedobofamkiaaGreatDoor.Ord
end

section
/- THE WALKS OF value.Same, cond.below, cond.above. -/
namespace Go.Proofs.YtfkedobofamkiaaGreatDoor.Val
open Go.RowKit Flt
def sameB (a b : V) : Bool := a.kind == b.kind && (if a.kind == 0 then a.int == b.int else if a.kind == 1 then Ord.same a.num b.num else if a.kind == 2 then a.text == b.text else a.yes == b.yes)
set_option maxHeartbeats 400000 in
theorem same_any (k1 n1 : Int) (x1 : Nat) (t1 : List UInt8) (y1 : Bool) (k2 n2 : Int) (x2 : Nat) (t2 : List UInt8) (y2 : Bool) (w : World) (h1 : x1 < 18446744073709551616) (h2 : x2 < 18446744073709551616) :
    Calls Tryz.prog 56 #[val k1 n1 x1 t1 y1, val k2 n2 x2 t2 y2] w fun e w' => e = .returned (.bool (sameB ⟨k1, n1, x1, t1, y1⟩ ⟨k2, n2, x2, t2, y2⟩)) ∧ Below w.heap.size w w' := by
  have hr : sameB ⟨k1, n1, x1, t1, y1⟩ ⟨k2, n2, x2, t2, y2⟩ = (k1 == k2 && (if k1 == 0 then n1 == n2 else if k1 == 1 then Ord.same x1 x2 else if k1 == 2 then t1 == t2 else y1 == y2)) := rfl
  have ho (w : World) := Ord.same_any x1 x2 h1 h2 w
  generalize Ord.same x1 x2 = sb at *
  have HR := Lib.hid hr; have HO := Lib.hid ho; clear hr ho h1 h2
  cases hk : (k1 == k2)
  · have hk' : (k1 != k2) = true := by rw [bne, hk]; rfl
    go_enter Tryz.func56, Tryz.ntmps56
    go_wp2
    go_ret
    exact ⟨ret_bool (by rw [HR.out, hk]; rfl), balloc2 _ _ _⟩
  have hk' : (k1 != k2) = false := by rw [bne, hk]; rfl
  cases q0 : (k1 == 0)
  · cases q1 : (k1 == 1)
    · cases q2 : (k1 == 2)
      all_goals
        go_enter Tryz.func56, Tryz.ntmps56
        go_wp2
        go_ret
        exact ⟨ret_bool (by rw [HR.out, hk, q0, q1, q2]; rfl), balloc2 _ _ _⟩
    · go_enter Tryz.func56, Tryz.ntmps56
      go_wp2_with (go_at_call 70; refine (HO.out _).mono ?_; rintro e w' ⟨rfl, rfl⟩)
      go_ret
      exact ⟨ret_bool (by rw [HR.out, hk, q0, q1]; rfl), balloc2 _ _ _⟩
  · go_enter Tryz.func56, Tryz.ntmps56
    go_wp2
    go_ret
    exact ⟨ret_bool (by rw [HR.out, hk, q0]; rfl), balloc2 _ _ _⟩
theorem same_cmp (a b : V) (hk : a.kind = b.kind) (v1 : voidB a = false) (v2 : voidB b = false) (h1 : a.num < 18446744073709551616) (h2 : b.num < 18446744073709551616) : sameB a b = (cmp1 a b == 0) := by
  have ok := cmpOk_of hk v1 v2
  have e : cmp1 a b = cmp a b := by unfold cmp1; rw [ok]; rfl
  rw [e]
  unfold sameB cmp
  have hkk : (a.kind == b.kind) = true := by rw [beq_iff_eq]; exact hk
  rw [hkk]
  unfold voidB at v1 v2
  rw [← hk] at v2
  by_cases k0 : a.kind = 0
  · have := (sgn_spec a.int b.int).2
    simp only [k0]
    rw [Bool.eq_iff_iff]
    simpa using this.symm
  by_cases k1 : a.kind = 1
  · have n1 : nan a.num = false := by simpa [k1] using v1
    have n2 : nan b.num = false := by simpa [k1] using v2
    have hs := (sgn_spec (sk a.num) (sk b.num)).2
    have hq := Ord.key_eq_iff h1 h2 n1 n2
    simp only [k1, Flt.lt, n1, n2, Ord.same]
    rw [Bool.eq_iff_iff]
    simp only [Bool.not_false, Bool.and_self, Bool.true_and]
    simp
    rw [hs, hq]
  by_cases k2 : a.kind = 2
  · have := cb_zero a.text b.text
    simp only [k2]
    rw [Bool.eq_iff_iff]
    simpa using this.symm
  have e0 : (a.kind == 0) = false := by simpa using k0
  have e1 : (a.kind == 1) = false := by simpa using k1
  have e2 : (a.kind == 2) = false := by simpa using k2
  simp only [e0, e1, e2, Bool.false_eq_true, if_false]
  unfold sgn
  cases a.yes <;> cases b.yes <;> rfl
theorem side_ways (op p q : Int) (h : p ≠ q) : (op == p) = true ∧ (op == q) = false ∨ (op == p) = false ∧ (op == q) = true ∨ (op == p) = false ∧ (op == q) = false := by
  cases h1 : (op == p) <;> cases h2 : (op == q) <;> simp_all
theorem below_any (op : Int) (w : World) :
    Calls Tryz.prog 58 #[.int .i64 op] w fun e w' => e = .returned (.tuple #[.bool (op == 2 || op == 3), .bool (op == 3)]) ∧ w = w' := by
  rcases side_ways op 2 3 (by decide) with ⟨h1, h2⟩ | ⟨h1, h2⟩ | ⟨h1, h2⟩
  all_goals
    go_enter Tryz.func58, Tryz.ntmps58
    go_wp2
    go_ret2
    exact ⟨by rw [h1, h2]; rfl, rfl⟩
theorem above_any (op : Int) (w : World) :
    Calls Tryz.prog 59 #[.int .i64 op] w fun e w' => e = .returned (.tuple #[.bool (op == 4 || op == 5), .bool (op == 5)]) ∧ w = w' := by
  rcases side_ways op 4 5 (by decide) with ⟨h1, h2⟩ | ⟨h1, h2⟩ | ⟨h1, h2⟩
  all_goals
    go_enter Tryz.func59, Tryz.ntmps59
    go_wp2
    go_ret2
    exact ⟨by rw [h1, h2]; rfl, rfl⟩
end Go.Proofs.YtfkedobofamkiaaGreatDoor.Val
end

section
/- THE WALK OF event.Same. -/
namespace Go.Proofs.YtfkedobofamkiaaGreatDoor.Val
open Go.RowKit Flt
attribute [local go_sem] run_store_flt
def NumOk (l : List A) : Prop := ∀ a ∈ l, a.val.num < 18446744073709551616
def sameA (x y : A) : Bool := x.name == y.name && sameB x.val y.val
def sameN (l m : List A) : Nat → Bool
  | 0 => true
  | k + 1 => sameN l m k && sameA l[k]! m[k]!
def sameL (l m : List A) : Bool := l.length == m.length && sameN l m l.length
theorem sameN_no (l m : List A) (k n : Nat) (h : k < n) (hk : sameA l[k]! m[k]! = false) : sameN l m n = false := by
  induction n with
  | zero => omega
  | succ n ih =>
    unfold sameN
    by_cases e : k = n
    · subst e; rw [hk]; simp
    · rw [ih (by omega)]; rfl
theorem sameA_self (x : A) : sameA x x = true := by
  unfold sameA sameB
  simp [Ord.same]
theorem sameN_self (l : List A) : ∀ k, sameN l l k = true
  | 0 => rfl
  | k + 1 => by unfold sameN; rw [sameN_self l k, sameA_self]; rfl
theorem sameL_self (l : List A) : sameL l l = true := by unfold sameL; rw [sameN_self]; simp
end Go.Proofs.YtfkedobofamkiaaGreatDoor.Val
end

section
/- WHAT New LEAVES of attributes that may be read: names, bounds. No walk. -/
namespace Go.Proofs.YtfkedobofamkiaaGreatDoor.Val
open Flt
theorem lastV_some {t : List UInt8} {v : V} : ∀ {l : List A} {o : Option V}, l.foldl (fun o a => if a.name = t then some (canonV a.val) else o) o = some v → o = some v ∨ ∃ x ∈ l, x.name = t ∧ v = canonV x.val
  | [], o, h => Or.inl h
  | a :: l, o, h => by
    rw [List.foldl_cons] at h
    rcases lastV_some h with h1 | ⟨x, hx, h1, h2⟩
    · by_cases e : a.name = t
      · rw [if_pos e] at h1; exact Or.inr ⟨a, by simp, e, (Option.some.inj h1).symm⟩
      · rw [if_neg e] at h1; exact Or.inl h1
    · exact Or.inr ⟨x, by simp [hx], h1, h2⟩
theorem mem_newB {l : List A} {a : A} (h : a ∈ newB l) : ∃ x ∈ l, x.name = a.name ∧ a.val = canonV x.val := by
  have h1 := getL_mem (newB_rising l) h
  rw [newB_get] at h1
  rcases lastV_some (show l.foldl _ none = _ from h1) with h2 | h2
  · cases h2
  · exact h2
theorem canonV_num {v : V} (h : v.num < 18446744073709551616) : (canonV v).num < 18446744073709551616 := by
  unfold canonV
  rcases kind_ways v.kind with h0 | ⟨h0, h1⟩ | ⟨h0, h1, h2⟩ | ⟨h0, h1, h2, h3⟩ | ⟨h0, h1, h2, h3⟩ <;> simp [*, Ord.canon_lt]
theorem newB_num {l : List A} (h : ∀ x ∈ l, Open.AOk x) : NumOk (newB l) := fun a ha => by
  obtain ⟨x, hx, _, h2⟩ := mem_newB ha
  rw [h2]; exact canonV_num (h x hx).2.2.2.1
theorem keepB_num {zs : List ByteArray} {l : List A} (h : NumOk l) : NumOk (keepB zs l) := fun a ha => h a (List.mem_filter.1 ha).1
/-- what Get answers of an event that New made -/
theorem get_new (l : List A) (t : List UInt8) : (if foundB (newB l) t then some (newB l)[bs (newB l) t 0 (newB l).length]!.val else none) = lastV l t := by
  rw [← newB_get]; exact (found_get (newB_rising l) t).symm
end Go.Proofs.YtfkedobofamkiaaGreatDoor.Val
end

section
/- THE WALK OF cond.Match. -/
namespace Go.Proofs.YtfkedobofamkiaaGreatDoor.Val
open Go.RowKit Flt
attribute [local go_sem] run_store_flt
/-- does an event of these attributes do? -/
def matchB (c : C) (l : List A) : Bool := foundB l c.name && holdsB c (l[bs l c.name 0 l.length]!).val
set_option maxHeartbeats 1000000 in
theorem match_any (c : C) (sc : List UInt8) (a0 : Option Addr) (cap : Nat) (l : List A) (w : World) (hl : Attrs w a0 l) (hlm : l.length ≤ 1000000) :
    Calls Tryz.prog 32 #[cc c, ev sc a0 l.length cap] w fun e w' => e = .returned (.bool (matchB c l)) ∧ Below w.heap.size w w' := by
  have hg (w : World) (h : Attrs w a0 l) := get_any sc a0 cap l c.name w h hlm
  have hm : matchB c l = (foundB l c.name && holdsB c (l[bs l c.name 0 l.length]!).val) := rfl
  obtain ⟨nm, op, k, n, x, t, y⟩ := c
  generalize foundB l nm = F at *
  generalize (l[bs l nm 0 l.length]!).val = v at *
  obtain ⟨k2, n2, x2, t2, y2⟩ := v
  have hh (w : World) := holds_any nm op k n x t y k2 n2 x2 t2 y2 w
  have HL := Lib.hid hl; have HG := Lib.hid hg; have HM := Lib.hid hm; have HH := Lib.hid hh; clear hl hg hm hh
  cases F
  all_goals
    go_enter Tryz.func32, Tryz.ntmps32
    go_wp2_with (first | (go_at_call 43; refine (HG.out _ (HL.out.below (by repeat (first | assumption | (with_reducible exact Below.refl _ _) | exact balloc _ _ | exact balloc2 _ _ _ | refine btrans ?_ (by assumption) | refine btrans ?_ (balloc _ _))))).mono ?_; rintro e w2 ⟨rfl, hb1⟩; obtain ⟨hc1, hf1⟩ := bcell hb1; have hsz := size2 hb1; have hsz0 : w.heap.size < w2.heap.size := by omega) | (go_at_call 44; refine (HH.out _).mono ?_; rintro e w3 ⟨rfl, hb3⟩) | fail)
    go_ret
    exact ⟨ret_bool (by rw [HM.out]; rfl), by repeat (first | assumption | (with_reducible exact Below.refl _ _) | exact balloc _ _ | exact balloc2 _ _ _ | refine btrans ?_ (by assumption) | refine btrans ?_ (balloc _ _))⟩
end Go.Proofs.YtfkedobofamkiaaGreatDoor.Val
end

section
/- PLAIN LAW OF Match: by the value of the attribute of that name alone; the kept form of a condition holds for the same values. No walk. -/
namespace Go.Proofs.YtfkedobofamkiaaGreatDoor.Val
open Flt
def wantB (c : C) (l : List A) : Bool := l.any fun a => a.name == c.name && holdsB c a.val
theorem want_succ (c : C) (l : List A) (k : Nat) (h : k < l.length) : wantB c (l.take (k + 1)) = (wantB c (l.take k) || (l[k].name == c.name && holdsB c l[k].val)) := by
  unfold wantB
  rw [List.take_succ_eq_append_getElem h]; simp only [List.any_append, List.any_cons, List.any_nil, Bool.or_false]
theorem want_match (c : C) {l : List A} (hr : Rising l) : wantB c l = matchB c l := by
  have hg := found_get hr c.name
  unfold matchB wantB
  rw [Bool.eq_iff_iff, List.any_eq_true]
  constructor
  · rintro ⟨a, ha, h⟩
    simp only [Bool.and_eq_true, beq_iff_eq] at h
    have hf := found_of hr ha h.1
    have hm := getL_mem hr ha
    rw [h.1, hg, hf, if_pos rfl] at hm
    rw [hf, Option.some.inj hm, h.2]; rfl
  · intro h
    simp only [Bool.and_eq_true] at h
    obtain ⟨hR, hn⟩ := found_at h.1
    refine ⟨_, List.getElem_mem hR, ?_⟩
    rw [getElem!_pos l _ hR] at h
    simp only [Bool.and_eq_true, beq_iff_eq]
    exact ⟨hn, h.2⟩
theorem match_none (c : C) {l : List A} (hr : Rising l) (h : ∀ a ∈ l, a.name ≠ c.name) : matchB c l = false := by
  rw [← want_match c hr]
  unfold wantB
  rw [List.any_eq_false]
  intro a ha
  have : (a.name == c.name) = false := by simpa using h a ha
  rw [this]; simp
theorem keep_gone {t : List UInt8} (l : List A) : ∀ a ∈ keepB [⟨t.toArray⟩] l, a.name ≠ t := by
  intro a ha e
  have h := (List.mem_filter.1 ha).2
  rw [e] at h
  rw [(Lib.containsS_iff _ _).2 (by simp)] at h
  cases h
theorem sk_canon {y : Nat} (h : nan y = false) : sk (Ord.canon y) = sk y := by
  unfold Ord.canon
  rw [h]
  cases hz : Ord.zero y
  · rfl
  · have h0 : rung y = 0 := by rw [Ord.zero_iff] at hz; simpa using hz
    simp only [Bool.false_eq_true, if_false, if_true]
    unfold sk
    rw [h0]
    cases neg y <;> decide
theorem lt_canon_r (x y : Nat) : Flt.lt x (Ord.canon y) = Flt.lt x y := by
  unfold Flt.lt
  rw [Ord.canon_nan]
  cases hy : nan y
  · rw [sk_canon hy]
  · simp
theorem lt_canon_l (x y : Nat) : Flt.lt (Ord.canon x) y = Flt.lt x y := by
  unfold Flt.lt
  rw [Ord.canon_nan]
  cases hy : nan x
  · rw [sk_canon hy]
  · simp
theorem cmp_canon (v u : V) (hk : v.kind = u.kind) (h0 : 0 ≤ u.kind) (h3 : u.kind ≤ 3) : cmp v (canonV u) = cmp v u := by
  unfold cmp
  rw [hk]
  unfold canonV
  rcases kind_ways u.kind with h | ⟨h, h1⟩ | ⟨h, h1, h2⟩ | ⟨h, h1, h2, h3'⟩ | ⟨h, h1, h2, h3'⟩
  · simp [h]
  · simp [h, h1, lt_canon_r, lt_canon_l]
  · simp [h, h1, h2]
  · simp [h, h1, h2, h3']
  · simp at h h1 h2 h3'; omega
theorem holds_canon (c : C) (v : V) (h0 : 0 ≤ c.val.kind) (h3 : c.val.kind ≤ 3) : holdsB (canonC c) v = holdsB c v := by
  unfold canonC
  cases h7 : (c.op == 7)
  · simp only [Bool.false_eq_true, if_false]
    have e1 : cmpOk v (canonV c.val) = cmpOk v c.val := by unfold cmpOk; rw [canonV_kind _ h0 h3, canonV_void]
    have e2 : cmp1 v (canonV c.val) = cmp1 v c.val := by
      unfold cmp1
      rw [e1]
      cases hc : cmpOk v c.val
      · rfl
      · simp only [if_true]
        refine cmp_canon v c.val ?_ h0 h3
        unfold cmpOk at hc
        simp only [Bool.and_eq_true, beq_iff_eq] at hc
        exact hc.1.1
    unfold holdsB
    simp only [h7, e1, e2, Bool.false_eq_true, if_false]
    by_cases h6 : c.op = 6
    · simp only [h6, beq_self_eq_true, if_true]
      cases hk : (cmpOk v c.val && v.kind == 2)
      · simp
      · simp only [Bool.true_and]
        simp only [Bool.and_eq_true, beq_iff_eq] at hk
        have hk2 : c.val.kind = 2 := by
          have := hk.1
          unfold cmpOk at this
          simp only [Bool.and_eq_true, beq_iff_eq] at this
          rw [← this.1.1]; exact hk.2
        have : (canonV c.val).text = c.val.text := by unfold canonV; rw [hk2]; rfl
        rw [this]
    · have : (c.op == 6) = false := by simpa using h6
      simp only [this, Bool.false_eq_true, if_false]
  · simp only [if_true]
    unfold holdsB
    simp [h7]
theorem match_canon (c : C) (l : List A) (h0 : 0 ≤ c.val.kind) (h3 : c.val.kind ≤ 3) : matchB (canonC c) l = matchB c l := by
  have hn : (canonC c).name = c.name := by unfold canonC; split <;> rfl
  unfold matchB
  rw [hn, holds_canon c _ h0 h3]
end Go.Proofs.YtfkedobofamkiaaGreatDoor.Val
end

section
/- THE WALKS OF event.kept and event.Right. -/
namespace Go.Proofs.YtfkedobofamkiaaGreatDoor.Val
open Go.RowKit Flt
attribute [local go_sem] run_store_flt Ord.ford_eq
theorem run_equalIn_flt {P : Program} (w : World) (d : Nat) (t : TypeId) (a b : Nat) (h : P.underlying t = some (.float .f64)) : (Op.equalIn (d + 1) t (.float .f64 a) (.float .f64 b)).run P w = .ok (Flt.eq a b) w := by
  simp [Op.equalIn, run_underlying h, Op.floatEq, Ord.ford_eq]
theorem eqF (a b : Nat) (w : World) : (Op.equalIn 9999 55 (.float .f64 a) (.float .f64 b)).run Tryz.prog w = .ok (Flt.eq a b) w := run_equalIn_flt w 9998 _ a b Tryz.underlying55
def eqV (a b : V) : Bool := a.kind == b.kind && a.int == b.int && Flt.eq a.num b.num && a.text == b.text && a.yes == b.yes
set_option maxRecDepth 20000 in
theorem eq_val (k n : Int) (x : Nat) (t : List UInt8) (y : Bool) (k2 n2 : Int) (x2 : Nat) (t2 : List UInt8) (y2 : Bool) (w : World) :
    (Op.equalIn 10000 57 (val k n x t y) (val k2 n2 x2 t2 y2)).run Tryz.prog w = .ok (eqV ⟨k, n, x, t, y⟩ ⟨k2, n2, x2, t2, y2⟩) w := by
  have hS : Tryz.prog.underlying 57 = some (.struct (Tryz.prog.fieldsOf 57)) := by kernel_rfl
  have hp : Tryz.prog.stoodInHeld 57 = false := by kernel_rfl
  have hf := eqF x x2
  rw [show (10000 : Nat) = 9999 + 1 from rfl, run_equalIn_agg w 9999 57 _ _ hS hp]
  simp only [Program.fieldsOf, Tryz.underlying57]
  unfold eqV
  cases h1 : (k == k2)
  · go_simp
  cases h2 : (n == n2)
  · go_simp
  cases h3 : Flt.eq x x2
  · rw [h3] at hf; go_simp
  rw [h3] at hf
  cases h4 : (t == t2)
  · go_simp
  cases h5 : (y == y2)
  · go_simp
  · go_simp
def keptB (v : V) : Bool := if voidB v then eqV ⟨(canonV v).kind, (canonV v).int, 0, (canonV v).text, (canonV v).yes⟩ ⟨v.kind, v.int, 0, v.text, v.yes⟩ else eqV (canonV v) v
attribute [local go_sem] eqF
end Go.Proofs.YtfkedobofamkiaaGreatDoor.Val
end

section
/- THE WALK OF event.Right. -/
namespace Go.Proofs.YtfkedobofamkiaaGreatDoor.Val
open Go.RowKit Flt
attribute [local go_sem] run_store_flt
theorem less_cmp : ∀ (a b : List UInt8), Op.bytesLess a b = decide (Lib.compareBytes a b < 0)
  | [], [] => by simp [Op.bytesLess, Lib.compareBytes]
  | _ :: _, [] => by simp [Op.bytesLess, Lib.compareBytes]
  | [], _ :: _ => by simp [Op.bytesLess, Lib.compareBytes]
  | a :: x, b :: y => by
    have ih := less_cmp x y
    unfold Op.bytesLess Lib.compareBytes
    by_cases h : a < b
    · simp [h]
    · by_cases h2 : b < a
      · have hne : (a == b) = false := by
          rw [beq_eq_false_iff_ne]; intro e; subst e; exact absurd h2 (UInt8.lt_irrefl _)
        simp [h, h2, hne]
      · have e : a = b := by
          rw [UInt8.lt_iff_toNat_lt] at h h2
          exact UInt8.toNat_inj.1 (by omega)
        subst e
        simp [h, ih]
def rOk (l : List A) (k : Nat) : Bool := Sc.nameB l[k]!.name && vRight l[k]!.val && (k == 0 || Op.bytesLess l[k - 1]!.name l[k]!.name) && keptB l[k]!.val
def rightN (l : List A) : Nat → Bool
  | 0 => true
  | k + 1 => rightN l k && rOk l k
def rightL (l : List A) : Bool := rightN l l.length && decide (l.length ≤ 8)
theorem rightN_no (l : List A) (k n : Nat) (h : k < n) (hk : rOk l k = false) : rightN l n = false := by
  induction n with
  | zero => omega
  | succ n ih =>
    unfold rightN
    by_cases e : k = n
    · subst e; rw [hk]; simp
    · rw [ih (by omega)]; rfl
theorem rOk_zero (l : List A) (h : 0 < l.length) : rOk l 0 = (Sc.nameB l[0].name && vRight l[0].val && keptB l[0].val) := by
  unfold rOk; rw [getElem!_pos l 0 h]; simp
theorem rOk_succ (l : List A) (j : Nat) (h : j + 1 < l.length) : rOk l (j + 1) = (Sc.nameB l[j + 1].name && vRight l[j + 1].val && Op.bytesLess (l[j]'(by omega)).name l[j + 1].name && keptB l[j + 1].val) := by
  unfold rOk; rw [getElem!_pos l (j + 1) h, show j + 1 - 1 = j from rfl, getElem!_pos l j (by omega)]; simp
theorem rS_below {be ba : Nat} {pk : Addr} {e0 e1 p0 p1 p2 p3 p4 p5 q0 : Value} {w w1 w2 : World} (hb : Below w1.heap.size w1 w2) (h : (fun w' => w'.cell? ⟨be, 0, none⟩ = some e0 ∧ w'.cell? ⟨be, 1, none⟩ = some e1 ∧ w'.cell? ⟨ba, 0, none⟩ = some p0 ∧ w'.cell? ⟨ba, 1, none⟩ = some p1 ∧ w'.cell? ⟨ba, 2, none⟩ = some p2 ∧ w'.cell? ⟨ba, 3, none⟩ = some p3 ∧ w'.cell? ⟨ba, 4, none⟩ = some p4 ∧ w'.cell? ⟨ba, 5, none⟩ = some p5 ∧ w'.cell? pk = some q0 ∧ Below w.heap.size w w' ∧ be < w'.heap.size ∧ ba < w'.heap.size ∧ pk.block < w'.heap.size) w1) : (fun w' => w'.cell? ⟨be, 0, none⟩ = some e0 ∧ w'.cell? ⟨be, 1, none⟩ = some e1 ∧ w'.cell? ⟨ba, 0, none⟩ = some p0 ∧ w'.cell? ⟨ba, 1, none⟩ = some p1 ∧ w'.cell? ⟨ba, 2, none⟩ = some p2 ∧ w'.cell? ⟨ba, 3, none⟩ = some p3 ∧ w'.cell? ⟨ba, 4, none⟩ = some p4 ∧ w'.cell? ⟨ba, 5, none⟩ = some p5 ∧ w'.cell? pk = some q0 ∧ Below w.heap.size w w' ∧ be < w'.heap.size ∧ ba < w'.heap.size ∧ pk.block < w'.heap.size) w2 := by
  obtain ⟨a0, a1, h0, h1, h2, h3, h4, h5, y0, hB, hl0, hl1, hl2⟩ := h
  have c : ∀ o, w2.cell? ⟨be, o, none⟩ = w1.cell? ⟨be, o, none⟩ := fun o => hb.cell (p := ⟨be, o, none⟩) hl0
  have d : ∀ o, w2.cell? ⟨ba, o, none⟩ = w1.cell? ⟨ba, o, none⟩ := fun o => hb.cell (p := ⟨ba, o, none⟩) hl1
  exact ⟨by rw [c]; exact a0, by rw [c]; exact a1, by rw [d]; exact h0, by rw [d]; exact h1, by rw [d]; exact h2, by rw [d]; exact h3, by rw [d]; exact h4, by rw [d]; exact h5, (hb.cell (p := pk) hl2).trans y0, btrans hB hb, Nat.lt_of_lt_of_le hl0 hb.size, Nat.lt_of_lt_of_le hl1 hb.size, Nat.lt_of_lt_of_le hl2 hb.size⟩
theorem rS_own {be ba : Nat} {pk : Addr} {e0 e1 p0 p1 p2 p3 p4 p5 q0 : Value} {w w1 : World} (h : (fun w' => w'.cell? ⟨be, 0, none⟩ = some e0 ∧ w'.cell? ⟨be, 1, none⟩ = some e1 ∧ w'.cell? ⟨ba, 0, none⟩ = some p0 ∧ w'.cell? ⟨ba, 1, none⟩ = some p1 ∧ w'.cell? ⟨ba, 2, none⟩ = some p2 ∧ w'.cell? ⟨ba, 3, none⟩ = some p3 ∧ w'.cell? ⟨ba, 4, none⟩ = some p4 ∧ w'.cell? ⟨ba, 5, none⟩ = some p5 ∧ w'.cell? pk = some q0 ∧ Below w.heap.size w w' ∧ be < w'.heap.size ∧ ba < w'.heap.size ∧ pk.block < w'.heap.size) w1) : Below w.heap.size w w1 := h.2.2.2.2.2.2.2.2.2.1
theorem box_attr (w : World) (a : A) (T : TypeId) : BoxA (w.alloc (.cells #[.string ⟨a.name.toArray⟩, .int .i64 a.val.kind, .int .i64 a.val.int, .float .f64 a.val.num, .string ⟨a.val.text.toArray⟩, .bool a.val.yes] T)) w.heap.size a := by
  have c : ∀ o, (w.alloc (.cells #[.string ⟨a.name.toArray⟩, .int .i64 a.val.kind, .int .i64 a.val.int, .float .f64 a.val.num, .string ⟨a.val.text.toArray⟩, .bool a.val.yes] T)).cell? ⟨w.heap.size, o, none⟩ = #[.string ⟨a.name.toArray⟩, .int .i64 a.val.kind, .int .i64 a.val.int, .float .f64 a.val.num, .string ⟨a.val.text.toArray⟩, .bool a.val.yes][o]? := fun o => World.cell?_alloc_at _ _ _ _ rfl
  exact ⟨c 0, c 1, c 2, c 3, c 4, c 5⟩
end Go.Proofs.YtfkedobofamkiaaGreatDoor.Val
end

section
/- CONDITIONS IN MEMORY: seven cells each. -/
namespace Go.Proofs.YtfkedobofamkiaaGreatDoor.Val
open Go.RowKit Flt
instance : Inhabited C := ⟨⟨[], 0, 0, 0, 0, [], false⟩⟩
def CAt (w : World) (p : Addr) (c : C) : Prop :=
  w.cell? p = some (.string ⟨c.name.toArray⟩) ∧ w.cell? ⟨p.block, p.off + 1, none⟩ = some (.int .i64 c.op) ∧ w.cell? ⟨p.block, p.off + 2, none⟩ = some (.int .i64 c.val.kind) ∧ w.cell? ⟨p.block, p.off + 3, none⟩ = some (.int .i64 c.val.int) ∧ w.cell? ⟨p.block, p.off + 4, none⟩ = some (.float .f64 c.val.num) ∧ w.cell? ⟨p.block, p.off + 5, none⟩ = some (.string ⟨c.val.text.toArray⟩) ∧ w.cell? ⟨p.block, p.off + 6, none⟩ = some (.bool c.val.yes)
def Conds (w : World) (a0 : Option Addr) (l : List C) : Prop := ∀ i (h : i < l.length), ∃ a, a0 = some a ∧ CAt w (a.add (i * 7)) l[i]
theorem CAt.below {w w2 : World} {p : Addr} {c : C} (h : CAt w p c) (hb : Below w.heap.size w w2) : CAt w2 p c := by
  obtain ⟨h0, h1, h2, h3, h4, h5, h6⟩ := h
  exact ⟨(hb.cell (World.block_lt_of_cell? _ _ h0)).trans h0, (hb.cell (World.block_lt_of_cell? _ _ h1)).trans h1, (hb.cell (World.block_lt_of_cell? _ _ h2)).trans h2, (hb.cell (World.block_lt_of_cell? _ _ h3)).trans h3, (hb.cell (World.block_lt_of_cell? _ _ h4)).trans h4, (hb.cell (World.block_lt_of_cell? _ _ h5)).trans h5, (hb.cell (World.block_lt_of_cell? _ _ h6)).trans h6⟩
theorem Conds.below {w w2 : World} {a0 : Option Addr} {l : List C} (h : Conds w a0 l) (hb : Below w.heap.size w w2) : Conds w2 a0 l := fun i hi => by
  obtain ⟨a, e, h1⟩ := h i hi
  exact ⟨a, e, h1.below hb⟩
theorem conds_nil (w : World) (a0 : Option Addr) : Conds w a0 [] := fun _ hi => absurd hi (Nat.not_lt_zero _)
theorem conds_one (w : World) (c : C) (e : TypeId) : Conds (w.alloc (.cells #[.string ⟨c.name.toArray⟩, .int .i64 c.op, .int .i64 c.val.kind, .int .i64 c.val.int, .float .f64 c.val.num, .string ⟨c.val.text.toArray⟩, .bool c.val.yes] e)) (some ⟨w.heap.size, 0, none⟩) [c] := by
  intro i hi
  have hi0 : i = 0 := by simpa using hi
  subst hi0
  have hc : ∀ o, (w.alloc (.cells #[.string ⟨c.name.toArray⟩, .int .i64 c.op, .int .i64 c.val.kind, .int .i64 c.val.int, .float .f64 c.val.num, .string ⟨c.val.text.toArray⟩, .bool c.val.yes] e)).cell? ⟨w.heap.size, o, none⟩ = #[.string ⟨c.name.toArray⟩, .int .i64 c.op, .int .i64 c.val.kind, .int .i64 c.val.int, .float .f64 c.val.num, .string ⟨c.val.text.toArray⟩, .bool c.val.yes][o]? := fun o => World.cell?_alloc_at _ _ _ _ rfl
  exact ⟨_, rfl, hc 0, hc 1, hc 2, hc 3, hc 4, hc 5, hc 6⟩
theorem cat_new (w : World) (c : C) (e : TypeId) : CAt (w.alloc (.cells #[.string ⟨c.name.toArray⟩, .int .i64 c.op, .int .i64 c.val.kind, .int .i64 c.val.int, .float .f64 c.val.num, .string ⟨c.val.text.toArray⟩, .bool c.val.yes] e)) ⟨w.heap.size, 0, none⟩ c := by
  have hc : ∀ o, (w.alloc (.cells #[.string ⟨c.name.toArray⟩, .int .i64 c.op, .int .i64 c.val.kind, .int .i64 c.val.int, .float .f64 c.val.num, .string ⟨c.val.text.toArray⟩, .bool c.val.yes] e)).cell? ⟨w.heap.size, o, none⟩ = #[.string ⟨c.name.toArray⟩, .int .i64 c.op, .int .i64 c.val.kind, .int .i64 c.val.int, .float .f64 c.val.num, .string ⟨c.val.text.toArray⟩, .bool c.val.yes][o]? := fun o => World.cell?_alloc_at _ _ _ _ rfl
  exact ⟨hc 0, hc 1, hc 2, hc 3, hc 4, hc 5, hc 6⟩
end Go.Proofs.YtfkedobofamkiaaGreatDoor.Val
end

section
/- PLAIN FUNCTIONS ON TEXTS: names, what stands between the /, scopes, what is below a scope. No program in sight. -/
namespace Go.Proofs.YtfkedobofamkiaaGreatDoor.Sc

/-- what stands between the / -/
def parts : List UInt8 → List (List UInt8)
  | [] => [[]]
  | b :: r => if b = 47 then [] :: parts r else
    match parts r with
    | [] => [[b]]
    | p :: q => (b :: p) :: q
theorem parts_ne (l : List UInt8) : parts l ≠ [] := by
  cases l with
  | nil => simp [parts]
  | cons b r =>
    unfold parts; split
    · simp
    · split <;> simp
theorem parts_cons {c : UInt8} {r p : List UInt8} {q : List (List UInt8)} (hc : ¬ c = 47) (h : parts r = p :: q) : parts (c :: r) = (c :: p) :: q := by
  rw [parts, if_neg hc, h]
theorem parts_slash (a b : List UInt8) (h : 47 ∉ a) : parts (a ++ 47 :: b) = a :: parts b := by
  induction a with
  | nil => simp [parts]
  | cons c a ih =>
    have hc : ¬ c = 47 := fun e => h (by simp [e])
    have ih := ih (fun m => h (by simp [m]))
    rw [List.cons_append]; exact parts_cons hc ih
theorem parts_none (a : List UInt8) (h : 47 ∉ a) : parts a = [a] := by
  induction a with
  | nil => simp [parts]
  | cons c a ih =>
    have hc : ¬ c = 47 := fun e => h (by simp [e])
    have ih := ih (fun m => h (by simp [m]))
    exact parts_cons hc ih
theorem parts_length (l : List UInt8) : (parts l).length ≤ l.length + 1 := by
  induction l with
  | nil => simp [parts]
  | cons b r ih =>
    unfold parts; split
    · simp; omega
    · split <;> simp_all; omega

/-- the first / -/
theorem slash_cases (l : List UInt8) : (Lib.indexByte l 47 = -1 ∧ 47 ∉ l) ∨
    (∃ a b, l = a ++ 47 :: b ∧ 47 ∉ a ∧ Lib.indexByte l 47 = a.length) := by
  induction l with
  | nil => left; simp [Lib.indexByte]
  | cons c r ih =>
    by_cases hc : c = 47
    · right; exact ⟨[], r, by simp [hc], by simp, by simp [Lib.indexByte, hc]⟩
    · have h1 : (c == (47 : UInt8)) = false := by simp [hc]
      rcases ih with ⟨e, hn⟩ | ⟨a, b, e, hn, hi⟩
      · left; refine ⟨?_, by simp [hn]; exact fun h => hc h.symm⟩
        unfold Lib.indexByte; rw [h1, e]; rfl
      · right
        refine ⟨c :: a, b, by simp [e], by simp [hn]; exact fun h => hc h.symm, ?_⟩
        have h2 : ((a.length : Int) == -1) = false := by rw [beq_eq_false_iff_ne]; omega
        unfold Lib.indexByte; rw [h1, hi, h2]; simp

/-- may it be a scope? -/
def rightB (l : List UInt8) : Bool := l.isEmpty || ((parts l).all nameB && decide ((parts l).length ≤ 4))
/-- is it the other one, or below it? -/
def underB (s t : List UInt8) : Bool := t.isEmpty || s == t || (t.isPrefixOf s && (s.drop t.length).head? == some 47)
theorem under_cases (a b : List UInt8) : (b.isEmpty = true) ∨ (b.isEmpty = false ∧ a = b) ∨
    (b.isEmpty = false ∧ (a == b) = false ∧ Lib.hasPrefix a b = false ∧ underB a b = false) ∨
    (∃ x r, b.isEmpty = false ∧ a = b ++ x :: r ∧ (a == b) = false ∧ Lib.hasPrefix a b = true ∧ underB a b = (x == 47)) := by
  cases h0 : b.isEmpty
  · by_cases h1 : a = b
    · exact Or.inr (Or.inl ⟨rfl, h1⟩)
    · have h1' : (a == b) = false := by simpa using h1
      cases h2 : Lib.hasPrefix a b
      · refine Or.inr (Or.inr (Or.inl ⟨rfl, h1', rfl, ?_⟩))
        unfold underB; rw [h0, h1']; unfold Lib.hasPrefix at h2; rw [h2]; rfl
      · have h3 : b <+: a := by unfold Lib.hasPrefix at h2; exact List.isPrefixOf_iff_prefix.1 h2
        obtain ⟨t, rfl⟩ := h3
        cases t with
        | nil => simp at h1
        | cons x r =>
          refine Or.inr (Or.inr (Or.inr ⟨x, r, rfl, rfl, h1', rfl, ?_⟩))
          unfold underB; unfold Lib.hasPrefix at h2
          rw [h0, h1', h2]
          simp
  · exact Or.inl rfl
theorem under_iff (a b : List UInt8) : underB a b = true ↔ b = [] ∨ a = b ∨ ∃ r, a = b ++ 47 :: r := by
  rcases under_cases a b with h | ⟨h0, rfl⟩ | ⟨h0, h1, h2, h3⟩ | ⟨x, r, h0, rfl, h1, h2, h3⟩
  · have e : b = [] := by cases b <;> simp_all
    subst e; simp [underB]
  · simp [underB]
  · rw [h3]; simp only [Bool.false_eq_true, false_iff]
    have h0' : ¬ b = [] := by cases b <;> simp_all
    have h1' : ¬ a = b := by simpa using h1
    rintro (h | h | ⟨r, rfl⟩)
    · exact h0' h
    · exact h1' h
    · unfold Lib.hasPrefix at h2
      have : b.isPrefixOf (b ++ 47 :: r) = true := List.isPrefixOf_iff_prefix.2 ⟨_, rfl⟩
      rw [this] at h2; cases h2
  · rw [h3]
    have h0' : ¬ b = [] := by cases b <;> simp_all
    have e1 : (b ++ x :: r = b) = False := by simp
    simp [h0', e1]
theorem under_anti {a b : List UInt8} (h1 : underB a b = true) (h2 : underB b a = true) : a = b := by
  rw [under_iff] at h1 h2
  rcases h1 with rfl | rfl | ⟨r, rfl⟩
  · rcases h2 with rfl | h2 | ⟨t, h⟩
    · rfl
    · exact h2.symm
    · cases a <;> simp at h
  · rfl
  · rcases h2 with h | h | ⟨t, h⟩
    · simp at h
    · exact h.symm
    · have := congrArg List.length h; simp at this
theorem under_trans {a b c : List UInt8} (h1 : underB a b = true) (h2 : underB b c = true) : underB a c = true := by
  rw [under_iff] at h1 h2 ⊢
  rcases h2 with rfl | rfl | ⟨t, rfl⟩
  · exact Or.inl rfl
  · exact h1
  · rcases h1 with h | rfl | ⟨r, rfl⟩
    · simp at h
    · exact Or.inr (Or.inr ⟨t, rfl⟩)
    · exact Or.inr (Or.inr ⟨t ++ 47 :: r, by simp⟩)
/-- all that may be of the three -/
theorem chain_ways (a b c : List UInt8) :
    (underB a b = false ∧ underB b a = underB b a) ∨ (underB a b = true ∧ underB b a = false ∧ underB b c = false) ∨ (underB a b = true ∧ underB b a = false ∧ underB b c = true ∧ underB a c = true) ∨
    (underB a b = true ∧ underB b a = true ∧ a = b ∧ underB b c = false) ∨ (underB a b = true ∧ underB b a = true ∧ a = b ∧ underB b c = true ∧ underB a c = true) := by
  cases h1 : underB a b
  · simp
  · cases h2 : underB b a
    · cases h3 : underB b c
      · simp
      · simp [under_trans h1 h3]
    · have e := under_anti h1 h2
      cases h3 : underB b c
      · simp [e]
      · simp [e, h3]
theorem parts_bound (l : List UInt8) : ∀ p ∈ parts l, p.length ≤ l.length := by
  induction l with
  | nil => simp [parts]
  | cons c r ih =>
    by_cases hc : c = 47
    · subst hc
      intro p hp
      rw [parts, if_pos rfl] at hp
      rcases List.mem_cons.1 hp with rfl | h
      · simp
      · have := ih p h; simp; omega
    · cases hr : parts r with
      | nil => exact absurd hr (parts_ne r)
      | cons q t =>
        rw [parts_cons hc hr]
        intro p hp
        rcases List.mem_cons.1 hp with rfl | h
        · have := ih q (by rw [hr]; simp); simp; omega
        · have := ih p (by rw [hr]; simp [h]); simp; omega
theorem parts_append (a b : List UInt8) : parts (a ++ 47 :: b) = parts a ++ parts b := by
  induction a with
  | nil => simp [parts]
  | cons c r ih =>
    by_cases hc : c = 47
    · subst hc
      rw [List.cons_append, parts, if_pos rfl, ih, parts, if_pos rfl]; rfl
    · cases hr : parts r with
      | nil => exact absurd hr (parts_ne r)
      | cons q t =>
        rw [hr] at ih
        rw [List.cons_append, parts_cons hc ih, parts_cons hc hr]; rfl
def join : List (List UInt8) → List UInt8
  | [] => []
  | [p] => p
  | p :: q :: t => p ++ 47 :: join (q :: t)
theorem join_cons (p : List UInt8) (q : List (List UInt8)) (h : q ≠ []) : join (p :: q) = p ++ 47 :: join q := by
  cases q with
  | nil => exact absurd rfl h
  | cons a t => rfl
theorem join_parts (l : List UInt8) : join (parts l) = l := by
  induction l with
  | nil => rfl
  | cons c r ih =>
    by_cases hc : c = 47
    · subst hc
      rw [parts, if_pos rfl, join_cons _ _ (parts_ne r), ih]; rfl
    · cases hr : parts r with
      | nil => exact absurd hr (parts_ne r)
      | cons q t =>
        rw [hr] at ih
        rw [parts_cons hc hr]
        cases t with
        | nil => simp only [join] at ih ⊢; rw [ih]
        | cons x y => simp only [join] at ih ⊢; rw [List.cons_append, ih]
theorem join_append (p q : List (List UInt8)) (hp : p ≠ []) (hq : q ≠ []) : join (p ++ q) = join p ++ 47 :: join q := by
  induction p with
  | nil => exact absurd rfl hp
  | cons a t ih =>
    cases t with
    | nil => rw [List.cons_append, List.nil_append, join_cons _ _ hq]; rfl
    | cons b u =>
      rw [List.cons_append, join_cons a (b :: u ++ q) (by simp), ih (by simp), join_cons a (b :: u) (by simp), List.append_assoc]; rfl
theorem under_parts (s t : List UInt8) (ht : t.isEmpty = false) : underB s t = (decide ((parts t).length ≤ (parts s).length) && ((parts s).take (parts t).length == parts t)) := by
  have ht' : ¬ t = [] := by cases t <;> simp_all
  rw [Bool.eq_iff_iff, under_iff, Bool.and_eq_true, decide_eq_true_iff, beq_iff_eq]
  constructor
  · rintro (h | rfl | ⟨r, rfl⟩)
    · exact absurd h ht'
    · exact ⟨Nat.le_refl _, List.take_length⟩
    · rw [parts_append]
      exact ⟨by simp, by simp⟩
  · rintro ⟨_, h⟩
    have e : parts s = parts t ++ (parts s).drop (parts t).length := by
      have := (List.take_append_drop (parts t).length (parts s)).symm
      rw [h] at this; exact this
    by_cases hq : (parts s).drop (parts t).length = []
    · rw [hq, List.append_nil] at e
      have := congrArg join e
      rw [join_parts, join_parts] at this
      exact Or.inr (Or.inl this)
    · have := congrArg join e
      rw [join_parts, join_append _ _ (parts_ne t) hq, join_parts] at this
      exact Or.inr (Or.inr ⟨_, this⟩)
end Go.Proofs.YtfkedobofamkiaaGreatDoor.Sc
end

section
/- PLAIN LAW OF FILTERS: what covers what, what does; the attributes of the laws' events. No walk. -/
namespace Go.Proofs.YtfkedobofamkiaaGreatDoor.Val
open Flt
def fRight (sc : List UInt8) (l : List C) : Bool := l.all cRight && (Sc.rightB sc && decide (l.length ≤ 6))
def fVoid (l : List C) : Bool := l.any cvoidB
def fMatch (sc : List UInt8) (l : List C) (es : List UInt8) (al : List A) : Bool := l.all (fun c => matchB c al) && Sc.underB es sc
def fSome (c : C) (m : List C) : Bool := m.any (fun d => impliesB d c)
def fCovers (sc : List UInt8) (l : List C) (sd : List UInt8) (m : List C) : Bool := fVoid m || (l.all (fun c => fSome c m) && Sc.underB sd sc)
theorem cright_op7 {c : C} (h : cRight c = true) : 0 ≤ c.op ∧ c.op ≤ 7 := by
  unfold cRight at h; simp at h; exact ⟨h.1.1.2, h.1.2⟩
theorem fright_op {sc : List UInt8} {l : List C} (h : fRight sc l = true) : ∀ c ∈ l, 0 ≤ c.op ∧ c.op ≤ 7 := by
  unfold fRight at h
  simp only [Bool.and_eq_true, List.all_eq_true] at h
  exact fun c hc => cright_op7 (h.1 c hc)
theorem implies_name {d c : C} (h : impliesB d c = true) : d.name = c.name := by
  unfold impliesB at h
  by_cases e : d.name = c.name
  · exact e
  · have : (d.name != c.name) = true := by simpa using e
    rw [this] at h; simp at h
theorem implies_void {d c : C} (h : impliesB d c = true) (hc : cvoidB c = true) : cvoidB d = true := by
  have hn := implies_name h
  have h7 : (c.op == 7) = false := by
    by_cases e : c.op = 7
    · unfold cvoidB at hc; rw [e] at hc; simp at hc
    · simpa using e
  cases hd : cvoidB d
  · unfold impliesB at h
    rw [hn, hd, h7, hc] at h
    simp at h
  · rfl
theorem match_sound {d c : C} {l : List A} (d0 : 0 ≤ d.op ∧ d.op ≤ 7) (c0 : 0 ≤ c.op ∧ c.op ≤ 7) (h : impliesB d c = true) (hm : matchB d l = true) : matchB c l = true := by
  have hn := implies_name h
  unfold matchB at hm ⊢
  rw [← hn]
  simp only [Bool.and_eq_true] at hm ⊢
  exact ⟨hm.1, implies_sound d c _ d0.1 d0.2 c0.1 c0.2 h hm.2⟩
theorem void_match {c : C} {l : List A} (h : cvoidB c = true) : matchB c l = false := by
  unfold matchB
  rw [void_holds c _ h, Bool.and_false]
theorem void_not {sc es : List UInt8} {l : List C} {al : List A} (h : fVoid l = true) : fMatch sc l es al = false := by
  unfold fVoid at h
  obtain ⟨c, hc, hv⟩ := List.any_eq_true.1 h
  unfold fMatch
  have : l.all (fun c => matchB c al) = false := by
    rw [Bool.eq_false_iff]; intro ha
    have := List.all_eq_true.1 ha c hc
    rw [void_match hv] at this; cases this
  rw [this]; rfl
theorem covers_match {sf sg es : List UInt8} {f g : List C} {al : List A} (hf : ∀ c ∈ f, 0 ≤ c.op ∧ c.op ≤ 7) (hg : ∀ c ∈ g, 0 ≤ c.op ∧ c.op ≤ 7)
    (h : fCovers sf f sg g = true) (hm : fMatch sg g es al = true) : fMatch sf f es al = true := by
  cases hv : fVoid g
  · unfold fCovers at h
    rw [hv, Bool.false_or] at h
    unfold fMatch at hm ⊢
    simp only [Bool.and_eq_true, List.all_eq_true] at h hm ⊢
    refine ⟨fun c hc => ?_, Sc.under_trans hm.2 h.2⟩
    have := h.1 c hc
    unfold fSome at this
    obtain ⟨d, hd, hi⟩ := List.any_eq_true.1 this
    exact match_sound (hg d hd) (hf c hc) hi (hm.1 d hd)
  · rw [void_not hv] at hm; cases hm
theorem covers_trans {sa sb sc : List UInt8} {a b c : List C} (ha : ∀ x ∈ a, 0 ≤ x.op ∧ x.op ≤ 7) (hb : ∀ x ∈ b, 0 ≤ x.op ∧ x.op ≤ 7) (hc : ∀ x ∈ c, 0 ≤ x.op ∧ x.op ≤ 7)
    (h1 : fCovers sa a sb b = true) (h2 : fCovers sb b sc c = true) : fCovers sa a sc c = true := by
  cases hv : fVoid c
  rotate_left
  · unfold fCovers; rw [hv, Bool.true_or]
  unfold fCovers at h2
  rw [hv, Bool.false_or] at h2
  simp only [Bool.and_eq_true, List.all_eq_true] at h2
  have hvb : fVoid b = false := by
    rw [Bool.eq_false_iff]; intro h
    obtain ⟨x, hx, hxv⟩ := List.any_eq_true.1 h
    have := h2.1 x hx
    unfold fSome at this
    obtain ⟨d, hd, hi⟩ := List.any_eq_true.1 this
    have hdv := implies_void hi hxv
    have : fVoid c = true := List.any_eq_true.2 ⟨d, hd, hdv⟩
    rw [this] at hv; cases hv
  unfold fCovers at h1 ⊢
  rw [hvb, Bool.false_or] at h1
  rw [hv, Bool.false_or]
  simp only [Bool.and_eq_true, List.all_eq_true] at h1 ⊢
  refine ⟨fun x hx => ?_, Sc.under_trans h2.2 h1.2⟩
  have hs := h1.1 x hx
  unfold fSome at hs ⊢
  obtain ⟨d, hd, hi⟩ := List.any_eq_true.1 hs
  have hs2 := h2.1 d hd
  unfold fSome at hs2
  obtain ⟨e, he, hj⟩ := List.any_eq_true.1 hs2
  exact List.any_eq_true.2 ⟨e, he, implies_trans e d x (hc e he).1 (hc e he).2 (hb d hd).1 (hb d hd).2 (ha x hx).1 (ha x hx).2 hj hi⟩
theorem keep_match {c : C} {zs : List ByteArray} {l : List A} (hr : Rising l) (h : matchB c (keepB zs l) = true) : matchB c l = true := by
  rw [← want_match c (keepB_rising hr)] at h
  rw [← want_match c hr]
  unfold wantB at h ⊢
  obtain ⟨a, ha, hp⟩ := List.any_eq_true.1 h
  exact List.any_eq_true.2 ⟨a, (List.mem_filter.1 ha).1, hp⟩
theorem hides {sc es : List UInt8} {l : List C} {zs : List ByteArray} {al : List A} (hr : Rising al) (h : fMatch sc l es (keepB zs al) = true) : fMatch sc l es al = true := by
  unfold fMatch at h ⊢
  simp only [Bool.and_eq_true, List.all_eq_true] at h ⊢
  exact ⟨fun c hc => keep_match hr (h.1 c hc), h.2⟩
def rMatch (sc : List UInt8) (l : List C) (es : List UInt8) (al : List A) : Bool := Sc.underB es sc && l.all (fun c => wantB c al)
theorem rmatch_match {sc es : List UInt8} {l : List C} {al : List A} (hr : Rising al) : rMatch sc l es al = fMatch sc l es al := by
  unfold rMatch fMatch
  rw [Bool.and_comm]
  congr 1
  refine congrArg (fun f => l.all f) ?_
  funext c
  exact want_match c hr
/-- the attributes that the laws' events have -/
def okA (a : A) : Bool := rightL [a]
def evL (l : List A) : List A := ((newB l).filter okA).take 8
def evS (s : List UInt8) : List UInt8 := if Sc.rightB s then s else []
def evK (nb : List A) (k : Nat) : List A := ((nb.take k).filter okA).take 8
theorem evK_end (l : List A) : evK (newB l) (newB l).length = evL l := by unfold evK evL; rw [List.take_length]
theorem evK_len (nb : List A) (k : Nat) : (evK nb k).length ≤ 8 := by unfold evK; rw [List.length_take]; omega
theorem evK_full (nb : List A) (k : Nat) (h : k < nb.length) (h8 : ¬ (evK nb k).length < 8) : evK nb (k + 1) = evK nb k := by
  unfold evK at h8 ⊢
  rw [List.length_take] at h8
  rw [List.take_succ_eq_append_getElem h, List.filter_append, List.take_append_of_le_length (by omega)]
theorem evK_no (nb : List A) (k : Nat) (h : k < nb.length) (hk : okA nb[k] = false) : evK nb (k + 1) = evK nb k := by
  unfold evK
  rw [List.take_succ_eq_append_getElem h, List.filter_append]
  simp [hk]
theorem evK_yes (nb : List A) (k : Nat) (h : k < nb.length) (h8 : (evK nb k).length < 8) (hk : okA nb[k] = true) : evK nb (k + 1) = evK nb k ++ [nb[k]] := by
  unfold evK at h8 ⊢
  rw [List.length_take] at h8
  have hl : ((nb.take k).filter okA).length < 8 := by omega
  have hf : List.filter okA [nb[k]] = [nb[k]] := by simp [hk]
  rw [List.take_succ_eq_append_getElem h, List.filter_append, hf]
  generalize (nb.take k).filter okA = X at *
  have e1 : X.take 8 = X := List.take_of_length_le (by omega)
  rw [e1, List.take_of_length_le (by rw [List.length_append]; simp; omega)]
theorem evL_sub (l : List A) : (evL l).Sublist (newB l) := (List.take_sublist _ _).trans List.filter_sublist
theorem evL_rising (l : List A) : Rising (evL l) := (newB_rising l).sublist (evL_sub l)
theorem evL_num {l : List A} (h : ∀ x ∈ l, Open.AOk x) : NumOk (evL l) := fun a ha => newB_num h a ((evL_sub l).subset ha)
end Go.Proofs.YtfkedobofamkiaaGreatDoor.Val
end

section
/- PLAIN LAW OF A POLICY'S LOG: what may come next, what counts by a version. No program in sight. -/
namespace Go.Proofs.YtfkedobofamkiaaGreatDoor.Pol
open Go.Proofs.YtfkedobofamkiaaGreatDoor.Val
/-- what of a rule plays a part in a log -/
structure K where
  kind : Int
  tenant : Int
  who : List UInt8
  pl : Int
instance : Inhabited K := ⟨⟨0, 0, [], 0⟩⟩
def isHome (t : Int) (who : List UInt8) (k : K) : Bool := k.kind == 0 && k.tenant == t && k.who == who
def homeB (L : List K) (t : Int) (who : List UInt8) : Bool := L.any (isHome t who)
def peopleN (L : List K) : Nat := L.countP (fun k => k.kind == 0)
def hitB (i : Int) (k : K) : Bool := k.kind == 4 && k.pl == i
def goneB (L : List K) (i : Int) : Bool := L.any (hitB i)
/-- may what a rule revokes be revoked? -/
def oldB (L : List K) (p : Int) : Bool := decide (0 ≤ p) && decide (p < L.length) && (L[p.toNat]!.kind != 4 && L[p.toNat]!.kind != 0 && !goneB L p)
/-- the error of a rule behind others -/
def checkE (L : List K) (ok : Bool) (k : K) : Int :=
  if !ok then 1 else if L.length = 40 then 6
  else if k.kind == 4 then (if oldB L k.pl then 0 else 3)
  else if k.kind == 0 && homeB L k.tenant k.who then 4
  else if k.kind == 0 && peopleN L == 12 then 6
  else if k.kind != 0 && !homeB L k.tenant k.who then 3 else 0
def countB (L : List K) (v : Nat) (i : Nat) : Bool := L[i]!.kind != 4 && !goneB (L.take v) i
/-- the places of the first k rules that count by a version -/
def atP (L : List K) (v : Nat) (k : Nat) : List Nat := (List.range k).filter (countB L v)
theorem atP_succ (L : List K) (v k : Nat) : atP L v (k + 1) = atP L v k ++ (if countB L v k then [k] else []) := by
  unfold atP
  rw [List.range_succ, List.filter_append]
  congr 1
  cases h : countB L v k <;> simp [h]
theorem goneB_app (L M : List K) (i : Int) : goneB (L ++ M) i = (goneB L i || goneB M i) := by unfold goneB; rw [List.any_append]
theorem getI_app (L M : List K) (i : Nat) (h : i < L.length) : (L ++ M)[i]! = L[i]! := by
  rw [getElem!_pos (L ++ M) i (by rw [List.length_append]; omega), getElem!_pos L i h, List.getElem_append_left h]
/-- WHAT COMES LATER CHANGES NOTHING -/
theorem at_app (L M : List K) (v k : Nat) (hv : v ≤ L.length) (hk : k ≤ L.length) : atP (L ++ M) v k = atP L v k := by
  unfold atP
  refine List.filter_congr fun i hi => ?_
  have hi2 := List.mem_range.1 hi
  unfold countB
  rw [getI_app L M i (by omega), List.take_append_of_le_length hv]
/-- what a revocation takes away -/
theorem at_revoke (L : List K) (p : Nat) (r : K) (hr : r.kind = 4) (hpl : r.pl = (p : Int)) (hp : p < L.length) (hk : L[p]!.kind ≠ 4) (hg : goneB L p = false) :
    (atP (L ++ [r]) (L.length + 1) (L.length + 1)).length + 1 = (atP L L.length L.length).length := by
  have hlast : countB (L ++ [r]) (L.length + 1) L.length = false := by
    unfold countB
    rw [getElem!_pos (L ++ [r]) L.length (by simp)]
    simp [hr]
  rw [atP_succ, hlast]
  simp only [Bool.false_eq_true, if_false, List.append_nil]
  have key : ∀ k, k ≤ L.length → (atP (L ++ [r]) (L.length + 1) k).length + (if p < k then 1 else 0) = (atP L L.length k).length := by
    intro k
    induction k with
    | zero => intro _; simp [atP]
    | succ k ih =>
      intro hk1
      have h1 := ih (by omega)
      have hc : countB (L ++ [r]) (L.length + 1) k = (countB L L.length k && !decide (p = k)) := by
        unfold countB
        rw [getI_app L [r] k (by omega), List.take_of_length_le (by simp), List.take_length, goneB_app]
        have : goneB [r] (k : Int) = decide (p = k) := by
          unfold goneB hitB
          simp only [List.any_cons, List.any_nil, Bool.or_false, hr, hpl]
          rw [Bool.eq_iff_iff]
          simp
          omega
        rw [this]
        cases (L[k]!.kind != 4) <;> cases goneB L (k : Int) <;> cases decide (p = k) <;> rfl
      rw [atP_succ, atP_succ, List.length_append, List.length_append, hc]
      by_cases e : p = k
      · subst e
        have hc2 : countB L L.length p = true := by
          unfold countB
          rw [List.take_length, hg]
          simpa using hk
        simp only [hc2, decide_true, Bool.not_true, Bool.and_false, Bool.false_eq_true, if_false, if_true, List.length_nil, List.length_cons]
        rw [if_pos (show p < p + 1 by omega)]
        rw [if_neg (show ¬ p < p by omega)] at h1
        omega
      · simp only [e, decide_false, Bool.not_false, Bool.and_true]
        by_cases hlt : p < k
        · rw [if_pos hlt] at h1
          rw [if_pos (show p < k + 1 by omega)]
          omega
        · rw [if_neg hlt] at h1
          rw [if_neg (show ¬ p < k + 1 by omega)]
          omega
  have := key L.length (Nat.le_refl _)
  rw [if_pos hp] at this
  exact this
theorem check_revoke {L : List K} {k : K} (hk : k.kind = 4) (h : checkE L true k = 0) : L.length ≠ 40 ∧ oldB L k.pl = true := by
  unfold checkE at h
  simp only [Bool.not_true, Bool.false_eq_true, if_false, hk] at h
  by_cases h40 : L.length = 40
  · rw [if_pos h40] at h; omega
  · rw [if_neg h40] at h
    refine ⟨h40, ?_⟩
    cases ho : oldB L k.pl
    · rw [ho] at h; simp at h
    · rfl
theorem old_parts {L : List K} {p : Int} (h : oldB L p = true) : ∃ i : Nat, p = (i : Int) ∧ i < L.length ∧ L[i]!.kind ≠ 4 ∧ L[i]!.kind ≠ 0 ∧ goneB L i = false := by
  unfold oldB at h
  simp only [Bool.and_eq_true, decide_eq_true_eq, bne_iff_ne, Bool.not_eq_true'] at h
  obtain ⟨⟨h0, h1⟩, ⟨h2, h3⟩, h4⟩ := h
  obtain ⟨i, rfl⟩ := Int.eq_ofNat_of_zero_le h0
  exact ⟨i, rfl, by omega, by simpa using h2, by simpa using h3, h4⟩
/-- what is revoked isn't revoked again -/
theorem revoke_once (L : List K) (k r : K) (hk : k.kind = 4) (hr : r.kind = 4) (hp : r.pl = k.pl) : checkE (L ++ [r]) true k ≠ 0 := by
  intro h
  obtain ⟨_, ho⟩ := check_revoke hk h
  obtain ⟨i, e, _, _, _, hg⟩ := old_parts ho
  rw [goneB_app] at hg
  simp only [Bool.or_eq_false_iff] at hg
  have := hg.2
  unfold goneB hitB at this
  simp [hr, hp, e] at this
/-- two logs: of all tenants, of one -/
structure Twin (A O : List K) : Prop where
  own : O = A.filter (fun k => k.tenant == 0)
  none : ∀ k ∈ A, k.kind ≠ 4
  room : A.length ≤ 40
  people : peopleN A ≤ 12
theorem twin_nil : Twin [] [] := ⟨rfl, (fun _ h => by cases h), (by simp), (by simp [peopleN])⟩
theorem Twin.le {A O : List K} (h : Twin A O) : O.length ≤ A.length ∧ peopleN O ≤ peopleN A := by
  rw [h.own]
  exact ⟨List.length_filter_le _ _, by unfold peopleN; exact List.Sublist.countP_le List.filter_sublist⟩
theorem Twin.home {A O : List K} (h : Twin A O) (who : List UInt8) : homeB O 0 who = homeB A 0 who := by
  rw [h.own]
  unfold homeB
  rw [List.any_filter]
  congr 1
  funext k
  unfold isHome
  cases (k.tenant == 0) <;> simp
/-- RULES OF OTHER TENANTS PLAY NO PART -/
theorem twin_check {A O : List K} (h : Twin A O) (ok : Bool) (k : K) (h4 : k.kind ≠ 4) (h0 : k.tenant = 0) (h6 : checkE A ok k ≠ 6) : checkE O ok k = checkE A ok k := by
  obtain ⟨l1, l2⟩ := h.le
  have hr := h.room
  have hp := h.people
  have e4 : (k.kind == 4) = false := by simpa using h4
  unfold checkE at h6 ⊢
  rw [h0, e4] at h6 ⊢
  rw [h.home]
  cases ok
  · rfl
  · simp only [Bool.not_true, Bool.false_eq_true, if_false] at h6 ⊢
    by_cases h40 : A.length = 40
    · rw [if_pos h40] at h6; omega
    · rw [if_neg h40] at h6 ⊢
      rw [if_neg (by omega)]
      cases hk : (k.kind == 0) <;> cases hh : homeB A 0 k.who
      · rfl
      · rfl
      · rw [hk, hh] at h6
        simp only [Bool.and_false, Bool.false_eq_true, if_false, Bool.true_and] at h6 ⊢
        by_cases h12 : peopleN A = 12
        · exact absurd (by simp [h12]) h6
        · have hO : ¬ peopleN O = 12 := fun e => h12 (by omega)
          rw [if_neg (show ¬ (peopleN A == 12) = true by simpa using h12), if_neg (show ¬ (peopleN O == 12) = true by simpa using hO)]
      · rfl
theorem twin_add {A O : List K} (h : Twin A O) (ok : Bool) (k : K) (h4 : k.kind ≠ 4) (he : checkE A ok k = 0) : Twin (A ++ [k]) (if k.tenant = 0 then O ++ [k] else O) := by
  have e4 : (k.kind == 4) = false := by simpa using h4
  have hr := h.room
  have hp := h.people
  unfold checkE at he
  cases ok
  · simp at he
  simp only [Bool.not_true, Bool.false_eq_true, if_false, e4] at he
  by_cases h40 : A.length = 40
  · rw [if_pos h40] at he; omega
  rw [if_neg h40] at he
  refine ⟨?_, ?_, by rw [List.length_append]; simp; omega, ?_⟩
  · rw [List.filter_append, h.own]
    by_cases h0 : k.tenant = 0
    · rw [if_pos h0]; simp [h0]
    · rw [if_neg h0]; simp [h0]
  · intro x hx
    rcases List.mem_append.1 hx with hx | hx
    · exact h.none x hx
    · rw [List.mem_singleton] at hx; rw [hx]; exact h4
  · unfold peopleN at *
    rw [List.countP_append]
    cases hk : (k.kind == 0)
    · simp [hk]; exact hp
    · rw [hk] at he
      cases hh : homeB A k.tenant k.who
      · rw [hh] at he
        simp only [Bool.true_and, Bool.false_eq_true, if_false, Bool.and_false] at he
        by_cases h12 : List.countP (fun k => k.kind == 0) A = 12
        · rw [if_pos (by simpa using h12)] at he; omega
        · simp [hk]; omega
      · rw [hh] at he; simp at he
theorem gone_none {A : List K} (h : ∀ k ∈ A, k.kind ≠ 4) (i : Int) : goneB A i = false := by
  unfold goneB
  rw [List.any_eq_false]
  intro x hx
  unfold hitB
  have := h x hx
  simp [this]
/-- where nothing is revoked all counts -/
theorem at_all {A : List K} (h : ∀ k ∈ A, k.kind ≠ 4) : atP A A.length A.length = List.range A.length := by
  unfold atP
  rw [List.filter_eq_self]
  intro i hi
  have hi2 := List.mem_range.1 hi
  unfold countB
  rw [List.take_length, gone_none h, getElem!_pos A i hi2]
  have := h A[i] (List.getElem_mem hi2)
  simpa using this
/-- who joins: the first letters -/
def nameP (i : Nat) : List UInt8 := [112, UInt8.ofNat (97 + i)]
def joins (n : Nat) : List K := (List.range n).map (fun i => ⟨0, 0, nameP i, 0⟩)
theorem joins_succ (n : Nat) : joins (n + 1) = joins n ++ [⟨0, 0, nameP n, 0⟩] := by
  unfold joins; rw [List.range_succ, List.map_append]; rfl
theorem joins_len (n : Nat) : (joins n).length = n := by unfold joins; simp
theorem joins_people (n : Nat) : peopleN (joins n) = n := by
  unfold peopleN joins
  rw [List.countP_map]
  have : (List.countP ((fun k => k.kind == 0) ∘ fun i : Nat => (⟨0, 0, nameP i, 0⟩ : K)) (List.range n)) = (List.range n).length := List.countP_eq_length.2 (fun _ _ => rfl)
  rw [this, List.length_range]
theorem nameP_inj : ∀ i, i < 16 → ∀ j, j < 16 → nameP i = nameP j → i = j := by decide
theorem joins_home (n i : Nat) (hn : n ≤ 16) (hi : i < 16) : homeB (joins n) 0 (nameP i) = decide (i < n) := by
  rw [Bool.eq_iff_iff]
  unfold homeB joins
  rw [List.any_map, List.any_eq_true, decide_eq_true_eq]
  constructor
  · rintro ⟨j, hj, h⟩
    have hj2 := List.mem_range.1 hj
    unfold isHome at h
    simp only [Function.comp_apply, Bool.and_eq_true, beq_iff_eq] at h
    have := nameP_inj j (by omega) i hi h.2
    omega
  · intro h
    exact ⟨i, List.mem_range.2 h, by unfold isHome; simp⟩
theorem join_check (n : Nat) (hn : n ≤ 12) (i : Nat) (hi : i < 16) (hni : n ≤ i) : checkE (joins n) true ⟨0, 0, nameP i, 0⟩ = if n = 12 then 6 else 0 := by
  unfold checkE
  rw [joins_len, joins_home n i (by omega) hi, joins_people]
  simp only [Bool.not_true, Bool.false_eq_true, if_false]
  rw [if_neg (by omega)]
  have : decide (i < n) = false := by rw [decide_eq_false_iff_not]; omega
  rw [this]
  by_cases h : n = 12 <;> simp [h]
def pubs (j : Nat) : List K := List.replicate j ⟨1, 0, nameP 0, 0⟩
theorem pubs_succ (j : Nat) : pubs (j + 1) = pubs j ++ [⟨1, 0, nameP 0, 0⟩] := List.replicate_succ'
theorem pub_check (n j : Nat) (h0 : 0 < n) (hn : n ≤ 12) : checkE (joins n ++ pubs j) true ⟨1, 0, nameP 0, 0⟩ = if n + j = 40 then 6 else 0 := by
  unfold checkE
  have hl : (joins n ++ pubs j).length = n + j := by rw [List.length_append, joins_len]; unfold pubs; rw [List.length_replicate]
  have hh : homeB (joins n ++ pubs j) 0 (nameP 0) = true := by
    unfold homeB
    rw [List.any_append, Bool.or_eq_true]
    refine .inl ?_
    have := joins_home n 0 (by omega) (by omega)
    unfold homeB at this
    rw [this]; simpa using h0
  rw [hl, hh]
  simp only [Bool.not_true, Bool.false_eq_true, if_false]
  by_cases h : n + j = 40 <;> simp [h]
end Go.Proofs.YtfkedobofamkiaaGreatDoor.Pol
end

section
/- THE WALKS OF event.Name, strings.Cut at a /, scope.Right, scope.Under: each gives its plain function; the world stays as it was, but for draws. -/
namespace Go.Proofs.YtfkedobofamkiaaGreatDoor.Sc
open Go.RowKit

/-- nothing but draws -/
def Drawn (w w' : World) : Prop := ∃ n, w' = w.drewN n
theorem Drawn.refl (w : World) : Drawn w w := ⟨0, rfl⟩
theorem Drawn.trans {a b c : World} (h : Drawn a b) (k : Drawn b c) : Drawn a c := by
  obtain ⟨n, rfl⟩ := h; obtain ⟨m, rfl⟩ := k; exact ⟨n + m, by simp [World.drewN, Nat.add_assoc]⟩
theorem Drawn.drew {a b : World} (h : Drawn a b) : Drawn a b.drew := h.trans ⟨1, rfl⟩
theorem Drawn.below {a b : World} (h : Drawn a b) (B : Nat) : Below B a b := by
  obtain ⟨n, rfl⟩ := h; exact ⟨rfl, rfl, rfl, Nat.le_refl _, fun _ _ => rfl⟩
/-- a text by its letters -/
theorem of_data {s : ByteArray} {l : List UInt8} (h : s.data.toList = l) : s = ⟨l.toArray⟩ := by
  subst h; rfl
theorem cutAt_hit (a b : List UInt8) : (⟨(a ++ 47 :: b).toArray⟩ : ByteArray).extract 0 a.length = ⟨a.toArray⟩ ∧ (⟨(a ++ 47 :: b).toArray⟩ : ByteArray).extract (a.length + 1) (⟨(a ++ 47 :: b).toArray⟩ : ByteArray).size = ⟨b.toArray⟩ := by
  constructor
  · apply of_data; rw [Lib.Pa.extract_upto_list]; simp
  · apply of_data; rw [Lib.extract_to_end]; simp
set_option maxHeartbeats 400000 in
theorem lcut_miss (s : ByteArray) (w : World) (hi : Lib.indexByte s.data.toList 47 = -1) :
    Calls Tryz.prog 46 #[.string s, .string ⟨#[47]⟩] w fun e w' => e = .returned (.tuple #[.string s, .string ⟨#[]⟩, .bool false]) ∧ w = w' := by
  go_enter Tryz.func46, Tryz.ntmps46
  go_wp2_with (go_at_call 62; refine (Tryz.stringslite_Index_one _ _ _).mono ?_; rintro e w' ⟨rfl, rfl⟩)
  go_ret3
  exact ⟨rfl, rfl⟩
set_option maxHeartbeats 400000 in
theorem lcut_hit (s : ByteArray) (i : Nat) (w : World) (hs : s.size ≤ maxLen) (hi : Lib.indexByte s.data.toList 47 = i) (hlt : i < s.size) :
    Calls Tryz.prog 46 #[.string s, .string ⟨#[47]⟩] w fun e w' => e = .returned (.tuple #[.string (s.extract 0 i), .string (s.extract (i + 1) s.size), .bool true]) ∧ Drawn w w' := by
  unfold maxLen at hs
  have c1 : (0 : Int) ≤ ↑i := by omega
  have c2 : (↑i : Int) ≤ ↑s.size := by omega
  have c3 : (0 : Int) ≤ ↑i + 1 := by omega
  have c4 : (↑i + 1 : Int) ≤ ↑s.size := by omega
  go_enter Tryz.func46, Tryz.ntmps46
  go_wp2_with (go_at_call 62; refine (Tryz.stringslite_Index_one _ _ _).mono ?_; rintro e w' ⟨rfl, rfl⟩)
  go_region
  all_goals
    go_wp2
    go_ret3
    exact ⟨rfl, 1, rfl⟩

set_option maxHeartbeats 400000 in
theorem cut_none (l : List UInt8) (w : World) (h : 47 ∉ l) :
    Calls Tryz.prog 36 #[.string ⟨l.toArray⟩, .string ⟨#[47]⟩] w fun e w' => e = .returned (.tuple #[.string ⟨l.toArray⟩, .string ⟨#[]⟩, .bool false]) ∧ Drawn w w' := by
  have hi : Lib.indexByte (⟨l.toArray⟩ : ByteArray).data.toList 47 = -1 := by
    rcases slash_cases l with ⟨h1, _⟩ | ⟨a, b, e, _, _⟩
    · exact h1
    · exact absurd (by rw [e]; simp) h
  have HI := Lib.hid hi; clear hi h
  go_enter Tryz.func36, Tryz.ntmps36
  go_wp2_with (go_at_call 46; refine (lcut_miss _ _ HI.out).mono ?_; rintro e w' ⟨rfl, rfl⟩)
  go_ret3
  exact ⟨rfl, Drawn.refl _⟩
set_option maxHeartbeats 400000 in
theorem cut_some (a b : List UInt8) (w : World) (h : 47 ∉ a) (hs : a.length + b.length + 1 ≤ maxLen) :
    Calls Tryz.prog 36 #[.string ⟨(a ++ 47 :: b).toArray⟩, .string ⟨#[47]⟩] w fun e w' => e = .returned (.tuple #[.string ⟨a.toArray⟩, .string ⟨b.toArray⟩, .bool true]) ∧ Drawn w w' := by
  have hz : (⟨(a ++ 47 :: b).toArray⟩ : ByteArray).size = a.length + b.length + 1 := by
    show (a ++ 47 :: b).toArray.size = _
    simp; omega
  have hi : Lib.indexByte (⟨(a ++ 47 :: b).toArray⟩ : ByteArray).data.toList 47 = a.length := by
    rcases slash_cases (a ++ 47 :: b) with ⟨_, h1⟩ | ⟨a', b', e, h2, h3⟩
    · exact absurd (by simp) h1
    · have : a = a' := by
        have e1 := parts_slash a b h
        rw [e, parts_slash a' b' h2] at e1
        exact (List.cons.inj e1).1.symm
      subst this; exact h3
  have hc := lcut_hit ⟨(a ++ 47 :: b).toArray⟩ a.length w (by rw [hz]; exact hs) hi (by rw [hz]; omega)
  rw [(cutAt_hit a b).1, (cutAt_hit a b).2] at hc
  have HC := Lib.hid hc; clear hc hi hz h hs
  go_enter Tryz.func36, Tryz.ntmps36
  go_wp2_with fail
  refine HC.out.mono ?_
  rintro e w' ⟨rfl, hq⟩
  go_wp2
  go_ret3
  exact ⟨rfl, hq⟩

def RightRel (l : List UInt8) (w : World) (n r m : Value) (wr : World) : Prop :=
  ∃ (done : List (List UInt8)) (rest : List UInt8) (more : Bool), n = .int .i64 done.length ∧ r = .string ⟨rest.toArray⟩ ∧ m = .bool more ∧ Drawn w wr ∧
    done.all nameB = true ∧ parts l = done ++ (if more then parts rest else []) ∧ rest.length ≤ l.length
def rightMeas (r m : Value) : Nat := match r, m with
  | .string s, .bool true => s.size + 1
  | _, _ => 0
set_option maxHeartbeats 1000000 in
theorem right_any (s : ByteArray) (w : World) (hs : s.size ≤ maxLen) (hs2 : s.size < 4611686018427387904) :
    Calls Tryz.prog 25 #[.string s] w fun e w' => e = .returned (.bool (rightB s.data.toList)) ∧ Drawn w w' := by
  unfold maxLen at hs
  obtain ⟨l, rfl⟩ : ∃ l : List UInt8, s = ⟨l.toArray⟩ := ⟨s.data.toList, rfl⟩
  by_cases h0 : l = []
  · subst h0
    go_enter Tryz.func25, Tryz.ntmps25
    go_wp2
    go_ret
    exact ⟨rfl, Drawn.refl _⟩
  · have h0' : l.isEmpty = false := by cases l <;> simp_all
    go_enter Tryz.func25, Tryz.ntmps25
    go_wp2
    go_loopw [3, 4, 5] (fun n r m wr => RightRel l w n r m wr) (fun _ r m _ => rightMeas r m)
    case atStart => exact ⟨[], l, true, rfl, rfl, rfl, Drawn.refl _, rfl, rfl, Nat.le_refl _⟩
    case round =>
      obtain ⟨done, rest, more, rfl, rfl, rfl, hq, hall, hp, hlen⟩ := hrel
      have HP := Lib.hid hp; have HA := Lib.hid hall; clear hp hall
      have hlz : (⟨l.toArray⟩ : ByteArray).size = l.length := rfl
      have hdl : (done.length : Int) ≤ 4611686018427387905 := by
        have h1 := parts_length l
        rw [HP.out, List.length_append] at h1
        omega
      have HLZ := Lib.hid hlz; clear hlz
      cases more
      · have hp : parts l = done := by rw [HP.out]; simp
        have hr : rightB l = decide (done.length ≤ 4) := by
          unfold rightB; rw [h0', hp, HA.out]; simp
        have HR := Lib.hid hr; clear hr hp HP
        go_wp2
        go_ret
        exact ⟨ret_bool (by rw [HR.out, Bool.eq_iff_iff]; simp; omega), hq⟩
      · rcases slash_cases rest with ⟨_, hn⟩ | ⟨a, b, rfl, hn, _⟩
        · have hb : (⟨rest.toArray⟩ : ByteArray).size ≤ maxLen := by
            unfold maxLen; rw [HLZ.out] at hs; show rest.length ≤ _; omega
          have HB := Lib.hid hb; clear hb
          have hp : parts l = done ++ [rest] := by rw [HP.out]; simp [parts_none rest hn]
          have HP2 := Lib.hid hp; clear hp HP
          cases hnm : nameB rest
          all_goals
            go_wp2_with (first | (go_at_call 36; refine (cut_none _ _ hn).mono ?_; rintro e w' ⟨rfl, hq1⟩) | (go_at_call 34; refine (name_any _ _ HB.out).mono ?_; rintro e w' ⟨rfl, rfl⟩))
          · go_ret
            exact ⟨ret_bool (by unfold rightB; rw [HP2.out, h0']; simp [hnm]), hq.trans hq1⟩
          · exact ⟨⟨done ++ [rest], [], false, by simp, rfl, rfl, hq.trans hq1, by simp [HA.out, hnm], by simp [HP2.out], Nat.zero_le _⟩, by show 0 < _; simp [rightMeas]⟩
        · have hlen' : a.length + (b.length + 1) ≤ l.length := by simpa using hlen
          have hb : (⟨a.toArray⟩ : ByteArray).size ≤ maxLen := by
            unfold maxLen; rw [HLZ.out] at hs; show a.length ≤ _; omega
          have hb2 : a.length + b.length + 1 ≤ maxLen := by
            unfold maxLen; rw [HLZ.out] at hs; omega
          have HB := Lib.hid hb; have HB2 := Lib.hid hb2; clear hb hb2
          have hp : parts l = done ++ a :: parts b := by rw [HP.out]; simp [parts_slash a b hn]
          have HP2 := Lib.hid hp; clear hp HP
          cases hnm : nameB a
          all_goals
            go_wp2_with (first | (go_at_call 36; refine (cut_some _ _ _ hn HB2.out).mono ?_; rintro e w' ⟨rfl, hq1⟩) | (go_at_call 34; refine (name_any _ _ HB.out).mono ?_; rintro e w' ⟨rfl, rfl⟩))
          · go_ret
            exact ⟨ret_bool (by unfold rightB; rw [HP2.out, h0']; simp [hnm]), hq.trans hq1⟩
          · exact ⟨⟨done ++ [a], b, true, by simp, rfl, rfl, hq.trans hq1, by simp [HA.out, hnm], by simp [HP2.out], by omega⟩, by show b.length + 1 < (a ++ 47 :: b).length + 1; simp; omega⟩

theorem beq47 (x : UInt8) : ((x.toNat : Int) == 47) = (x == 47) := by
  rw [Bool.eq_iff_iff, beq_iff_eq, beq_iff_eq]
  constructor
  · intro h; apply UInt8.toNat_inj.1; show x.toNat = 47; omega
  · intro h; subst h; rfl
set_option maxHeartbeats 400000 in
theorem under_any (a b : List UInt8) (w : World) (hs : a.length ≤ maxLen) (ht : b.length ≤ maxLen) :
    Calls Tryz.prog 33 #[.string ⟨a.toArray⟩, .string ⟨b.toArray⟩] w fun e w' => e = .returned (.bool (underB a b)) ∧ w = w' := by
  unfold maxLen at hs ht
  rcases under_cases a b with h0 | ⟨h0, rfl⟩ | ⟨h0, h1, h2, h3⟩ | ⟨x, r, h0, rfl, h1, h2, h3⟩
  · go_enter Tryz.func33, Tryz.ntmps33
    go_wp2
    go_ret
    exact ⟨ret_bool (by unfold underB; rw [h0]; rfl), rfl⟩
  · go_enter Tryz.func33, Tryz.ntmps33
    go_wp2
    go_ret
    exact ⟨ret_bool (by unfold underB; simp), rfl⟩
  · have h1' : ¬ a = b := by simpa using h1
    rw [h3]; clear h3
    go_enter Tryz.func33, Tryz.ntmps33
    go_wp2_with (go_at_call 45; refine (Tryz.strings_HasPrefix _ _ _).mono ?_; rintro e w' ⟨rfl, rfl⟩)
    go_ret
    exact ⟨rfl, rfl⟩
  · have h1' : ¬ b ++ x :: r = b := by simp
    have hl : b.length < (b ++ x :: r).length := by simp
    have hx : ((⟨(b ++ x :: r).toArray⟩ : ByteArray)[b.length]'hl) = x := by
      show (b ++ x :: r).toArray[b.length] = x
      simp
    rw [h3]; clear h3
    have HX := Lib.hid hx; clear hx
    go_enter Tryz.func33, Tryz.ntmps33
    go_wp2_with (go_at_call 45; refine (Tryz.strings_HasPrefix _ _ _).mono ?_; rintro e w' ⟨rfl, rfl⟩)
    go_ret
    exact ⟨ret_bool (by rw [HX.out, beq47]), rfl⟩
end Go.Proofs.YtfkedobofamkiaaGreatDoor.Sc
end

section
/- THE CONTRACTS OF scope.Right and scope.Under, at lists. -/
namespace Go.Proofs.YtfkedobofamkiaaGreatDoor.Sc
open Go.RowKit
theorem right_l (x : List UInt8) (w : World) (h : x.length ≤ 140737488351232) :
    Calls Tryz.prog 25 #[.string ⟨x.toArray⟩] w fun e w' => e = .returned (.bool (rightB x)) ∧ Drawn w w' :=
  right_any ⟨x.toArray⟩ w (by show x.length ≤ _; unfold maxLen; omega) (by show x.length < _; omega)
theorem under_l (a b : List UInt8) (w : World) (h : a.length ≤ 140737488351232) (h2 : b.length ≤ 140737488351232) :
    Calls Tryz.prog 33 #[.string ⟨a.toArray⟩, .string ⟨b.toArray⟩] w fun e w' => e = .returned (.bool (underB a b)) ∧ w = w' :=
  under_any a b w (by unfold maxLen; omega) (by unfold maxLen; omega)
end Go.Proofs.YtfkedobofamkiaaGreatDoor.Sc
end

section
/- THE WALK OF cond.Implies. -/
namespace Go.Proofs.YtfkedobofamkiaaGreatDoor.Val
open Go.RowKit Flt
theorem low_ways (o p q : Int) (h : p ≠ q) (hp : p ≠ 1) (hq : q ≠ 1) : ((o == p) = true ∧ (o == q) = false ∧ (o == 1) = false) ∨ ((o == p) = false ∧ (o == q) = true ∧ (o == 1) = false) ∨ ((o == p) = false ∧ (o == q) = false ∧ (o == 1) = true) ∨ ((o == p) = false ∧ (o == q) = false ∧ (o == 1) = false) := by
  cases h1 : (o == p) <;> cases h2 : (o == q) <;> cases h3 : (o == 1) <;> simp_all
theorem cmp3_ways (c : Int) : (decide (c < 0) = true ∧ (c == 0) = false ∧ decide (0 < c) = false) ∨ (decide (c < 0) = false ∧ (c == 0) = true ∧ decide (0 < c) = false) ∨ (decide (c < 0) = false ∧ (c == 0) = false ∧ decide (0 < c) = true) := by
  rcases Int.lt_trichotomy c 0 with h | h | h
  · left; simp [h]; omega
  · right; left; simp [h]
  · right; right; simp [h]; omega
set_option maxRecDepth 20000 in
set_option maxHeartbeats 4000000 in
theorem implies_any (nm1 : List UInt8) (op1 k1 n1 : Int) (x1 : Nat) (t1 : List UInt8) (y1 : Bool) (nm2 : List UInt8) (op2 k2 n2 : Int) (x2 : Nat) (t2 : List UInt8) (y2 : Bool) (w : World)
    (a0 : 0 ≤ op1) (a7 : op1 ≤ 7) (hx1 : x1 < 18446744073709551616) (hx2 : x2 < 18446744073709551616) :
    Calls Tryz.prog 42 #[cond nm1 op1 k1 n1 x1 t1 y1, cond nm2 op2 k2 n2 x2 t2 y2] w fun e w' => e = .returned (.bool (impliesB ⟨nm1, op1, k1, n1, x1, t1, y1⟩ ⟨nm2, op2, k2, n2, x2, t2, y2⟩)) ∧ Below w.heap.size w w' := by
  have hr : impliesB ⟨nm1, op1, k1, n1, x1, t1, y1⟩ ⟨nm2, op2, k2, n2, x2, t2, y2⟩ = (if !(nm1 == nm2) then false else if cvoidB ⟨nm1, op1, k1, n1, x1, t1, y1⟩ || op2 == 7 then true else if op1 == 7 || cvoidB ⟨nm2, op2, k2, n2, x2, t2, y2⟩ || k1 != k2 then false
    else if op1 == 0 then holdsB ⟨nm2, op2, k2, n2, x2, t2, y2⟩ ⟨k1, n1, x1, t1, y1⟩ else if op1 == 1 then op2 == 1 && cmp1 ⟨k1, n1, x1, t1, y1⟩ ⟨k2, n2, x2, t2, y2⟩ == 0
    else if op1 == 6 then (op2 == 6 && pre t1 t2) || (op2 == 1 && !pre t2 t1)
    else if op1 == 2 || op1 == 3 then lowB (cmp1 ⟨k1, n1, x1, t1, y1⟩ ⟨k2, n2, x2, t2, y2⟩) op1 op2 else uppB (cmp1 ⟨k1, n1, x1, t1, y1⟩ ⟨k2, n2, x2, t2, y2⟩) op1 op2) := rfl
  have hsc : cvoidB ⟨nm1, op1, k1, n1, x1, t1, y1⟩ = false → cvoidB ⟨nm2, op2, k2, n2, x2, t2, y2⟩ = false → op1 ≠ 7 → op2 ≠ 7 → k1 = k2 → sameB ⟨k1, n1, x1, t1, y1⟩ ⟨k2, n2, x2, t2, y2⟩ = (cmp1 ⟨k1, n1, x1, t1, y1⟩ ⟨k2, n2, x2, t2, y2⟩ == 0) :=
    fun h1 h2 h3 h4 h5 => same_cmp _ _ h5 (cvoid_at h1 h3) (cvoid_at h2 h4) hx1 hx2
  have hho (w : World) := holds_any nm2 op2 k2 n2 x2 t2 y2 k1 n1 x1 t1 y1 w
  have hsm (w : World) := same_any k1 n1 x1 t1 y1 k2 n2 x2 t2 y2 w hx1 hx2
  have hcm (w : World) := compare_any k1 n1 x1 t1 y1 k2 n2 x2 t2 y2 w
  clear hx1 hx2
  have ep : Lib.hasPrefix t1 t2 = pre t1 t2 := rfl
  have eq : Lib.hasPrefix t2 t1 = pre t2 t1 := rfl
  have ea : cvoidB ⟨nm1, op1, k1, n1, x1, t1, y1⟩ = cvoidB ⟨nm1, op1, k1, n1, x1, t1, y1⟩ := rfl
  have eb : cvoidB ⟨nm2, op2, k2, n2, x2, t2, y2⟩ = cvoidB ⟨nm2, op2, k2, n2, x2, t2, y2⟩ := rfl
  generalize impliesB ⟨nm1, op1, k1, n1, x1, t1, y1⟩ ⟨nm2, op2, k2, n2, x2, t2, y2⟩ = R at *
  generalize holdsB ⟨nm2, op2, k2, n2, x2, t2, y2⟩ ⟨k1, n1, x1, t1, y1⟩ = hv at *
  generalize sameB ⟨k1, n1, x1, t1, y1⟩ ⟨k2, n2, x2, t2, y2⟩ = sm at *
  generalize cmpOk ⟨k1, n1, x1, t1, y1⟩ ⟨k2, n2, x2, t2, y2⟩ = ok at *
  generalize cmp1 ⟨k1, n1, x1, t1, y1⟩ ⟨k2, n2, x2, t2, y2⟩ = c at *
  generalize pre t1 t2 = p1 at *
  generalize pre t2 t1 = p2 at *
  generalize hva : cvoidB ⟨nm1, op1, k1, n1, x1, t1, y1⟩ = va at hr hsc
  generalize hvb : cvoidB ⟨nm2, op2, k2, n2, x2, t2, y2⟩ = vb at hr hsc
  clear ea eb
  have EA := Lib.hid hva; have EB := Lib.hid hvb; have EP := Lib.hid ep; have EQ := Lib.hid eq
  have HHO := Lib.hid hho; have HSM := Lib.hid hsm; have HCM := Lib.hid hcm; have HR := Lib.hid hr; have HSC := Lib.hid hsc
  clear hva hvb ep eq hho hsm hcm hr hsc
  cases hn : (nm1 == nm2)
  · go_enter Tryz.func42, Tryz.ntmps42
    go_wp2
    go_ret
    exact ⟨ret_bool (by rw [HR.out, hn]; rfl), by repeat (first | assumption | (with_reducible exact Below.refl _ _) | exact balloc _ _ | exact balloc2 _ _ _ | refine btrans ?_ (by assumption) | refine btrans ?_ (balloc _ _))⟩
  cases va
  rotate_left
  · go_enter Tryz.func42, Tryz.ntmps42
    go_wp2_with (first | (go_at_call 55; refine (cvoid_any _ _ _ _ _ _ _ _).mono ?_; rintro e w2 ⟨rfl, hb2⟩; (first | rw [EA.out] | rw [EB.out]); (first | (replace hb1 := btrans hb1 hb2; clear hb2 hc1 hf1; obtain ⟨hc1, hf1⟩ := bcell hb1) | (have hb1 := hb2; clear hb2; obtain ⟨hc1, hf1⟩ := bcell hb1))) | fail)
    go_ret
    exact ⟨ret_bool (by rw [HR.out, hn]; rfl), by repeat (first | assumption | (with_reducible exact Below.refl _ _) | exact balloc _ _ | exact balloc2 _ _ _ | refine btrans ?_ (by assumption) | refine btrans ?_ (balloc _ _))⟩
  cases b7 : (op2 == 7)
  rotate_left
  · go_enter Tryz.func42, Tryz.ntmps42
    go_wp2_with (first | (go_at_call 55; refine (cvoid_any _ _ _ _ _ _ _ _).mono ?_; rintro e w2 ⟨rfl, hb2⟩; (first | rw [EA.out] | rw [EB.out]); (first | (replace hb1 := btrans hb1 hb2; clear hb2 hc1 hf1; obtain ⟨hc1, hf1⟩ := bcell hb1) | (have hb1 := hb2; clear hb2; obtain ⟨hc1, hf1⟩ := bcell hb1))) | fail)
    go_ret
    exact ⟨ret_bool (by rw [HR.out, hn, b7]; rfl), by repeat (first | assumption | (with_reducible exact Below.refl _ _) | exact balloc _ _ | exact balloc2 _ _ _ | refine btrans ?_ (by assumption) | refine btrans ?_ (balloc _ _))⟩
  by_cases h7 : op1 = 7
  · subst h7
    go_enter Tryz.func42, Tryz.ntmps42
    go_wp2_with (first | (go_at_call 55; refine (cvoid_any _ _ _ _ _ _ _ _).mono ?_; rintro e w2 ⟨rfl, hb2⟩; (first | rw [EA.out] | rw [EB.out]); (first | (replace hb1 := btrans hb1 hb2; clear hb2 hc1 hf1; obtain ⟨hc1, hf1⟩ := bcell hb1) | (have hb1 := hb2; clear hb2; obtain ⟨hc1, hf1⟩ := bcell hb1))) | fail)
    go_ret
    exact ⟨ret_bool (by rw [HR.out, hn, b7]; rfl), by repeat (first | assumption | (with_reducible exact Below.refl _ _) | exact balloc _ _ | exact balloc2 _ _ _ | refine btrans ?_ (by assumption) | refine btrans ?_ (balloc _ _))⟩
  have g7 : (op1 == 7) = false := by simpa using h7
  cases vb
  rotate_left
  · go_enter Tryz.func42, Tryz.ntmps42
    go_wp2_with (first | (go_at_call 55; refine (cvoid_any _ _ _ _ _ _ _ _).mono ?_; rintro e w2 ⟨rfl, hb2⟩; (first | rw [EA.out] | rw [EB.out]); (first | (replace hb1 := btrans hb1 hb2; clear hb2 hc1 hf1; obtain ⟨hc1, hf1⟩ := bcell hb1) | (have hb1 := hb2; clear hb2; obtain ⟨hc1, hf1⟩ := bcell hb1))) | fail)
    go_ret
    exact ⟨ret_bool (by rw [HR.out, hn, b7, g7]; rfl), by repeat (first | assumption | (with_reducible exact Below.refl _ _) | exact balloc _ _ | exact balloc2 _ _ _ | refine btrans ?_ (by assumption) | refine btrans ?_ (balloc _ _))⟩
  cases hk : (k1 != k2)
  rotate_left
  · go_enter Tryz.func42, Tryz.ntmps42
    go_wp2_with (first | (go_at_call 55; refine (cvoid_any _ _ _ _ _ _ _ _).mono ?_; rintro e w2 ⟨rfl, hb2⟩; (first | rw [EA.out] | rw [EB.out]); (first | (replace hb1 := btrans hb1 hb2; clear hb2 hc1 hf1; obtain ⟨hc1, hf1⟩ := bcell hb1) | (have hb1 := hb2; clear hb2; obtain ⟨hc1, hf1⟩ := bcell hb1))) | fail)
    go_ret
    exact ⟨ret_bool (by rw [HR.out, hn, b7, g7, hk]; rfl), by repeat (first | assumption | (with_reducible exact Below.refl _ _) | exact balloc _ _ | exact balloc2 _ _ _ | refine btrans ?_ (by assumption) | refine btrans ?_ (balloc _ _))⟩
  have HS : Hid (sm = (c == 0)) := Lib.hid (HSC.out rfl rfl h7 (by simpa using b7) (by simpa using hk))
  have hr1 := HR.out
  rw [hn, b7, g7, hk] at hr1
  simp only [Bool.false_eq_true, if_false, Bool.or_self] at hr1
  clear HR HSC
  rcases eight a0 a7 h7 with rfl | rfl | rfl | rfl | rfl | rfl | rfl
  all_goals clear g7 h7 a0 a7
  · have HR : Hid (R = hv) := Lib.hid hr1
    clear hr1
    go_enter Tryz.func42, Tryz.ntmps42
    go_wp2_with (first | (go_at_call 55; refine (cvoid_any _ _ _ _ _ _ _ _).mono ?_; rintro e w2 ⟨rfl, hb2⟩; (first | rw [EA.out] | rw [EB.out]); (first | (replace hb1 := btrans hb1 hb2; clear hb2 hc1 hf1; obtain ⟨hc1, hf1⟩ := bcell hb1) | (have hb1 := hb2; clear hb2; obtain ⟨hc1, hf1⟩ := bcell hb1))) | (go_at_call 44; refine (HHO.out _).mono ?_; rintro e w2 ⟨rfl, hb2⟩; (first | (replace hb1 := btrans hb1 hb2; clear hb2 hc1 hf1; obtain ⟨hc1, hf1⟩ := bcell hb1) | (have hb1 := hb2; clear hb2; obtain ⟨hc1, hf1⟩ := bcell hb1))) | fail)
    go_ret
    exact ⟨ret_bool HR.out.symm, by repeat (first | assumption | (with_reducible exact Below.refl _ _) | exact balloc _ _ | exact balloc2 _ _ _ | refine btrans ?_ (by assumption) | refine btrans ?_ (balloc _ _))⟩
  · have HR : Hid (R = (op2 == 1 && c == 0)) := Lib.hid hr1
    clear hr1
    cases o1 : (op2 == 1)
    all_goals
      go_enter Tryz.func42, Tryz.ntmps42
      go_wp2_with (first | (go_at_call 55; refine (cvoid_any _ _ _ _ _ _ _ _).mono ?_; rintro e w2 ⟨rfl, hb2⟩; (first | rw [EA.out] | rw [EB.out]); (first | (replace hb1 := btrans hb1 hb2; clear hb2 hc1 hf1; obtain ⟨hc1, hf1⟩ := bcell hb1) | (have hb1 := hb2; clear hb2; obtain ⟨hc1, hf1⟩ := bcell hb1))) | (go_at_call 56; refine (HSM.out _).mono ?_; rintro e w2 ⟨rfl, hb2⟩; (first | (replace hb1 := btrans hb1 hb2; clear hb2 hc1 hf1; obtain ⟨hc1, hf1⟩ := bcell hb1) | (have hb1 := hb2; clear hb2; obtain ⟨hc1, hf1⟩ := bcell hb1))) | fail)
      go_ret
      exact ⟨ret_bool (by rw [HR.out, o1]; first | rfl | exact HS.out), by repeat (first | assumption | (with_reducible exact Below.refl _ _) | exact balloc _ _ | exact balloc2 _ _ _ | refine btrans ?_ (by assumption) | refine btrans ?_ (balloc _ _))⟩
  · have HR : Hid (R = lowB c 2 op2) := Lib.hid hr1
    clear hr1
    go_enter Tryz.func42, Tryz.ntmps42
    go_wp2_with (first | (go_at_call 55; refine (cvoid_any _ _ _ _ _ _ _ _).mono ?_; rintro e w2 ⟨rfl, hb2⟩; (first | rw [EA.out] | rw [EB.out]); (first | (replace hb1 := btrans hb1 hb2; clear hb2 hc1 hf1; obtain ⟨hc1, hf1⟩ := bcell hb1) | (have hb1 := hb2; clear hb2; obtain ⟨hc1, hf1⟩ := bcell hb1))) | fail)
    refine (HCM.out _).mono ?_; rintro e w2 ⟨rfl, hb2⟩; (first | (replace hb1 := btrans hb1 hb2; clear hb2 hc1 hf1; obtain ⟨hc1, hf1⟩ := bcell hb1) | (have hb1 := hb2; clear hb2; obtain ⟨hc1, hf1⟩ := bcell hb1))
    rcases low_ways op2 2 3 (by decide) (by decide) (by decide) with ⟨o1, o2, o3⟩ | ⟨o1, o2, o3⟩ | ⟨o1, o2, o3⟩ | ⟨o1, o2, o3⟩ <;> rcases cmp3_ways c with ⟨q1, q2, q3⟩ | ⟨q1, q2, q3⟩ | ⟨q1, q2, q3⟩
    all_goals
      go_wp2_with (first | (go_at_call 58; refine (below_any _ _).mono ?_; rintro e w' ⟨rfl, rfl⟩) | fail)
      go_ret
      exact ⟨ret_bool (by rw [HR.out]; unfold lowB; rw [o1, o2, o3, q1, q2]; rfl), by repeat (first | assumption | (with_reducible exact Below.refl _ _) | exact balloc _ _ | exact balloc2 _ _ _ | refine btrans ?_ (by assumption) | refine btrans ?_ (balloc _ _))⟩
  · have HR : Hid (R = lowB c 3 op2) := Lib.hid hr1
    clear hr1
    go_enter Tryz.func42, Tryz.ntmps42
    go_wp2_with (first | (go_at_call 55; refine (cvoid_any _ _ _ _ _ _ _ _).mono ?_; rintro e w2 ⟨rfl, hb2⟩; (first | rw [EA.out] | rw [EB.out]); (first | (replace hb1 := btrans hb1 hb2; clear hb2 hc1 hf1; obtain ⟨hc1, hf1⟩ := bcell hb1) | (have hb1 := hb2; clear hb2; obtain ⟨hc1, hf1⟩ := bcell hb1))) | fail)
    refine (HCM.out _).mono ?_; rintro e w2 ⟨rfl, hb2⟩; (first | (replace hb1 := btrans hb1 hb2; clear hb2 hc1 hf1; obtain ⟨hc1, hf1⟩ := bcell hb1) | (have hb1 := hb2; clear hb2; obtain ⟨hc1, hf1⟩ := bcell hb1))
    rcases low_ways op2 2 3 (by decide) (by decide) (by decide) with ⟨o1, o2, o3⟩ | ⟨o1, o2, o3⟩ | ⟨o1, o2, o3⟩ | ⟨o1, o2, o3⟩ <;> rcases cmp3_ways c with ⟨q1, q2, q3⟩ | ⟨q1, q2, q3⟩ | ⟨q1, q2, q3⟩
    all_goals
      go_wp2_with (first | (go_at_call 58; refine (below_any _ _).mono ?_; rintro e w' ⟨rfl, rfl⟩) | fail)
      go_ret
      exact ⟨ret_bool (by rw [HR.out]; unfold lowB; rw [o1, o2, o3, q1, q2]; rfl), by repeat (first | assumption | (with_reducible exact Below.refl _ _) | exact balloc _ _ | exact balloc2 _ _ _ | refine btrans ?_ (by assumption) | refine btrans ?_ (balloc _ _))⟩
  · have HR : Hid (R = uppB c 4 op2) := Lib.hid hr1
    clear hr1
    go_enter Tryz.func42, Tryz.ntmps42
    go_wp2_with (first | (go_at_call 55; refine (cvoid_any _ _ _ _ _ _ _ _).mono ?_; rintro e w2 ⟨rfl, hb2⟩; (first | rw [EA.out] | rw [EB.out]); (first | (replace hb1 := btrans hb1 hb2; clear hb2 hc1 hf1; obtain ⟨hc1, hf1⟩ := bcell hb1) | (have hb1 := hb2; clear hb2; obtain ⟨hc1, hf1⟩ := bcell hb1))) | fail)
    refine (HCM.out _).mono ?_; rintro e w2 ⟨rfl, hb2⟩; (first | (replace hb1 := btrans hb1 hb2; clear hb2 hc1 hf1; obtain ⟨hc1, hf1⟩ := bcell hb1) | (have hb1 := hb2; clear hb2; obtain ⟨hc1, hf1⟩ := bcell hb1))
    rcases low_ways op2 4 5 (by decide) (by decide) (by decide) with ⟨o1, o2, o3⟩ | ⟨o1, o2, o3⟩ | ⟨o1, o2, o3⟩ | ⟨o1, o2, o3⟩ <;> rcases cmp3_ways c with ⟨q1, q2, q3⟩ | ⟨q1, q2, q3⟩ | ⟨q1, q2, q3⟩
    all_goals
      go_wp2_with (first | (go_at_call 58; refine (below_any _ _).mono ?_; rintro e w' ⟨rfl, rfl⟩) | (go_at_call 59; refine (above_any _ _).mono ?_; rintro e w' ⟨rfl, rfl⟩) | fail)
      go_ret
      exact ⟨ret_bool (by rw [HR.out]; unfold uppB; rw [o1, o2, o3, q2, q3]; rfl), by repeat (first | assumption | (with_reducible exact Below.refl _ _) | exact balloc _ _ | exact balloc2 _ _ _ | refine btrans ?_ (by assumption) | refine btrans ?_ (balloc _ _))⟩
  · have HR : Hid (R = uppB c 5 op2) := Lib.hid hr1
    clear hr1
    go_enter Tryz.func42, Tryz.ntmps42
    go_wp2_with (first | (go_at_call 55; refine (cvoid_any _ _ _ _ _ _ _ _).mono ?_; rintro e w2 ⟨rfl, hb2⟩; (first | rw [EA.out] | rw [EB.out]); (first | (replace hb1 := btrans hb1 hb2; clear hb2 hc1 hf1; obtain ⟨hc1, hf1⟩ := bcell hb1) | (have hb1 := hb2; clear hb2; obtain ⟨hc1, hf1⟩ := bcell hb1))) | fail)
    refine (HCM.out _).mono ?_; rintro e w2 ⟨rfl, hb2⟩; (first | (replace hb1 := btrans hb1 hb2; clear hb2 hc1 hf1; obtain ⟨hc1, hf1⟩ := bcell hb1) | (have hb1 := hb2; clear hb2; obtain ⟨hc1, hf1⟩ := bcell hb1))
    rcases low_ways op2 4 5 (by decide) (by decide) (by decide) with ⟨o1, o2, o3⟩ | ⟨o1, o2, o3⟩ | ⟨o1, o2, o3⟩ | ⟨o1, o2, o3⟩ <;> rcases cmp3_ways c with ⟨q1, q2, q3⟩ | ⟨q1, q2, q3⟩ | ⟨q1, q2, q3⟩
    all_goals
      go_wp2_with (first | (go_at_call 58; refine (below_any _ _).mono ?_; rintro e w' ⟨rfl, rfl⟩) | (go_at_call 59; refine (above_any _ _).mono ?_; rintro e w' ⟨rfl, rfl⟩) | fail)
      go_ret
      exact ⟨ret_bool (by rw [HR.out]; unfold uppB; rw [o1, o2, o3, q2, q3]; rfl), by repeat (first | assumption | (with_reducible exact Below.refl _ _) | exact balloc _ _ | exact balloc2 _ _ _ | refine btrans ?_ (by assumption) | refine btrans ?_ (balloc _ _))⟩
  · have HR : Hid (R = ((op2 == 6 && p1) || (op2 == 1 && !p2))) := Lib.hid hr1
    clear hr1
    have o61 : ((op2 == 6) = true ∧ (op2 == 1) = false) ∨ ((op2 == 6) = false ∧ (op2 == 1) = true) ∨ ((op2 == 6) = false ∧ (op2 == 1) = false) := by
      cases h1 : (op2 == 6) <;> cases h2 : (op2 == 1) <;> simp_all
    rcases o61 with ⟨o1, o2⟩ | ⟨o1, o2⟩ | ⟨o1, o2⟩
    all_goals
      cases p1
      all_goals
        go_enter Tryz.func42, Tryz.ntmps42
        go_wp2_with (first | (go_at_call 55; refine (cvoid_any _ _ _ _ _ _ _ _).mono ?_; rintro e w2 ⟨rfl, hb2⟩; (first | rw [EA.out] | rw [EB.out]); (first | (replace hb1 := btrans hb1 hb2; clear hb2 hc1 hf1; obtain ⟨hc1, hf1⟩ := bcell hb1) | (have hb1 := hb2; clear hb2; obtain ⟨hc1, hf1⟩ := bcell hb1))) | (go_at_call 45; refine (Tryz.strings_HasPrefix _ _ _).mono ?_; rintro e w' ⟨rfl, rfl⟩; (first | rw [EP.out] | rw [EQ.out])) | fail)
        go_ret
        exact ⟨ret_bool (by rw [HR.out, o1, o2]; simp), by repeat (first | assumption | (with_reducible exact Below.refl _ _) | exact balloc _ _ | exact balloc2 _ _ _ | refine btrans ?_ (by assumption) | refine btrans ?_ (balloc _ _))⟩
end Go.Proofs.YtfkedobofamkiaaGreatDoor.Val
end

section
/- THE WALKS OF package filter: ContainsFunc at conditions, Void, Match, Right, Covers. -/
namespace Go.Proofs.YtfkedobofamkiaaGreatDoor.Val
open Go.RowKit Flt
attribute [local go_sem] run_store_flt
theorem any_take_succ (p : C → Bool) (l : List C) (k : Nat) (h : k < l.length) : (l.take (k + 1)).any p = ((l.take k).any p || p l[k]) := by
  rw [List.take_succ_eq_append_getElem h]; simp only [List.any_append, List.any_cons, List.any_nil, Bool.or_false]
theorem any_hit (p : C → Bool) (l : List C) (k : Nat) (h : k < l.length) (hk : p l[k] = true) : l.any p = true := List.any_eq_true.2 ⟨_, List.getElem_mem h, hk⟩
theorem all_take_succ' (p : C → Bool) (l : List C) (k : Nat) (h : k < l.length) : (l.take (k + 1)).all p = ((l.take k).all p && p l[k]) := by
  rw [List.take_succ_eq_append_getElem h]; simp only [List.all_append, List.all_cons, List.all_nil, Bool.and_true]
theorem all_miss (p : C → Bool) (l : List C) (k : Nat) (h : k < l.length) (hk : p l[k] = false) : l.all p = false := by
  rw [Bool.eq_false_iff]; intro ha
  have := List.all_eq_true.1 ha l[k] (List.getElem_mem h)
  rw [hk] at this; cases this
theorem enters_void (args : Array Value) (w : World) : (callFunc 55 args).run Tryz.prog w = .ok (.enter 55 args) w := enters_of Tryz.func55 (by kernel_rfl) rfl args w
def CBox (W : World) (b : Nat) (c : C) : Prop := CAt W ⟨b, 0, none⟩ c
/-- two boxes of two cells each, laid one behind the other -/
def Box2 (w : World) (b : Nat) (s : List UInt8) (a0 : Option Addr) (n cap : Nat) : Prop := w.cell? ⟨b, 0, none⟩ = some (.string ⟨s.toArray⟩) ∧ w.cell? ⟨b, 1, none⟩ = some (.slice a0 n cap)
theorem Box2.below {w w2 : World} {b : Nat} {s : List UInt8} {a0 : Option Addr} {n cap : Nat} (h : Box2 w b s a0 n cap) (hb : Below w.heap.size w w2) : Box2 w2 b s a0 n cap :=
  ⟨(hb.cell (World.block_lt_of_cell? _ _ h.1)).trans h.1, (hb.cell (World.block_lt_of_cell? _ _ h.2)).trans h.2⟩
theorem box2_new (w : World) (s : List UInt8) (a0 : Option Addr) (n cap : Nat) (T : TypeId) : Box2 (w.alloc (.cells #[.string ⟨s.toArray⟩, .slice a0 n cap] T)) w.heap.size s a0 n cap := by
  have c : ∀ o, (w.alloc (.cells #[.string ⟨s.toArray⟩, .slice a0 n cap] T)).cell? ⟨w.heap.size, o, none⟩ = #[.string ⟨s.toArray⟩, .slice a0 n cap][o]? := fun o => World.cell?_alloc_at _ _ _ _ rfl
  exact ⟨c 0, c 1⟩
theorem Box2.lt {w : World} {b : Nat} {s : List UInt8} {a0 : Option Addr} {n cap : Nat} (h : Box2 w b s a0 n cap) : b < w.heap.size := World.block_lt_of_cell? _ _ h.1
end Go.Proofs.YtfkedobofamkiaaGreatDoor.Val
end

section
/- THE WALKS OF filter.Match, filter.Right, filter.Covers. -/
namespace Go.Proofs.YtfkedobofamkiaaGreatDoor.Val
open Go.RowKit Flt
attribute [local go_sem] run_store_flt
set_option maxHeartbeats 2000000 in
theorem fmatch_any (sf : List UInt8) (a0 : Option Addr) (cap : Nat) (l : List C) (se : List UInt8) (b0 : Option Addr) (cp : Nat) (al : List A) (w : World) (hl : Conds w a0 l) (ha : Attrs w b0 al) (hlm : l.length ≤ 1000000) (ham : al.length ≤ 1000000)
    (hsf : sf.length ≤ 140737488351232) (hse : se.length ≤ 140737488351232) :
    Calls Tryz.prog 21 #[ev sf a0 l.length cap, ev se b0 al.length cp] w fun e w' => e = .returned (.bool (fMatch sf l se al)) ∧ Below w.heap.size w w' := by
  have hmt (W : World) (h : Attrs W b0 al) (c : C) := match_any c se b0 cp al W h ham
  have hun (W : World) := Sc.under_l se sf W hse hsf
  have hr : fMatch sf l se al = (l.all (fun c => matchB c al) && Sc.underB se sf) := rfl
  have HL := Lib.hid hl; have HA := Lib.hid ha; have HMT := Lib.hid hmt; have HUN := Lib.hid hun; have HR := Lib.hid hr
  clear hl ha hmt hun hr ham hsf hse
  generalize Sc.underB se sf = U at *
  generalize fMatch sf l se al = R at *
  go_enter Tryz.func21, Tryz.ntmps21
  go_wp2_with fail
  have hx1 := (box2_new w sf a0 l.length cap 31).below (balloc _ (.cells #[.string ⟨se.toArray⟩, .slice b0 al.length cp] 47))
  have hx2 := box2_new (w.alloc (.cells #[.string ⟨sf.toArray⟩, .slice a0 l.length cap] 31)) se b0 al.length cp 47
  rw [World.size_alloc] at hx2
  have hbw := balloc2 w (.cells #[.string ⟨sf.toArray⟩, .slice a0 l.length cap] 31) (.cells #[.string ⟨se.toArray⟩, .slice b0 al.length cp] 47)
  have HX1 := Lib.hid hx1; have HX2 := Lib.hid hx2; have HBW := Lib.hid hbw
  clear hx1 hx2 hbw
  generalize (w.alloc _).alloc _ = W0 at *
  go_loopw [10] (fun vi wr => ∃ k : Nat, k ≤ l.length ∧ vi = .int .i64 k ∧ Hid ((l.take k).all (fun c => matchB c al) = true) ∧ Below W0.heap.size W0 wr) (fun vi _ => l.length - (intOf vi).toNat)
  case atStart => exact ⟨0, Nat.zero_le _, rfl, Lib.hid rfl, Below.refl _ _⟩
  case round =>
    obtain ⟨k, hk, rfl, HP, hbr⟩ := hrel
    have hbz := btrans HBW.out hbr
    have hy1 := HX1.out.below hbr
    have hy2 := HX2.out.below hbr
    have hs1 := hy1.lt
    have hs2 := hy2.lt
    obtain ⟨f0, f1⟩ := hy1
    obtain ⟨e0, e1⟩ := hy2
    have HBZ := Lib.hid hbz; have HBR := Lib.hid hbr
    clear hbz hbr
    by_cases hlt : k < l.length
    · have i1 : (k : Int) < (l.length : Int) := by omega
      have i0 : (0 : Int) ≤ (k : Int) := by omega
      have hts := all_take_succ' (fun c => matchB c al) l k hlt
      have hno := all_miss (fun c => matchB c al) l k hlt
      rw [HP.out, Bool.true_and] at hts
      obtain ⟨a, rfl, v0, v1, v2, v3, v4, v5, v6⟩ := (HL.out.below HBZ.out) k hlt
      have hmc (W : World) (h : Attrs W b0 al) := HMT.out W h l[k]
      (try dsimp only at hts); (try dsimp only at hno)
      generalize matchB l[k] al = M at *
      have HTS := Lib.hid hts; have HNO := Lib.hid hno; have HMC := Lib.hid hmc
      clear hts hno hmc HP
      cases M
      · go_wp2_with (go_at_call 32; refine (HMC.out _ (HA.out.below (btrans HBZ.out (balloc _ _)))).mono ?_; rintro e w5 ⟨rfl, hb5⟩)
        go_ret
        exact ⟨ret_bool (by rw [HR.out, HNO.out (by trivial)]; rfl), btrans (btrans HBZ.out (balloc _ _)) hb5⟩
      · go_wp2_with (go_at_call 32; refine (HMC.out _ (HA.out.below (btrans HBZ.out (balloc _ _)))).mono ?_; rintro e w5 ⟨rfl, hb5⟩)
        exact ⟨⟨k + 1, by omega, by go_num, Lib.hid HTS.out, btrans (btrans HBR.out (balloc _ _)) hb5⟩, by simp [intOf]; go_num⟩
    · obtain rfl : k = l.length := by omega
      have hP := HP.out
      rw [List.take_length] at hP
      have HQ := Lib.hid hP; clear hP
      go_wp2_with (go_at_call 33; refine (HUN.out _).mono ?_; rintro e w5 ⟨rfl, rfl⟩)
      go_ret
      exact ⟨ret_bool (by rw [HR.out, HQ.out]; rfl), HBZ.out⟩
set_option maxHeartbeats 2000000 in
theorem fright_any (sf : List UInt8) (a0 : Option Addr) (cap : Nat) (l : List C) (w : World) (hl : Conds w a0 l) (hlm : l.length ≤ 1000000)
    (hsf : sf.length ≤ 140737488351232) (hok : ∀ c ∈ l, c.name.length ≤ 140737488351232 ∧ c.val.text.length ≤ 140737488351232) :
    Calls Tryz.prog 15 #[ev sf a0 l.length cap] w fun e w' => e = .returned (.bool (fRight sf l)) ∧ Below w.heap.size w w' := by
  have hrt (W : World) := Sc.right_l sf W hsf
  have hr : fRight sf l = (l.all cRight && (Sc.rightB sf && decide (l.length ≤ 6))) := rfl
  have HL := Lib.hid hl; have HRT := Lib.hid hrt; have HR := Lib.hid hr; have HOK := Lib.hid hok
  clear hl hrt hr hsf hok
  generalize Sc.rightB sf = U at *
  generalize fRight sf l = R at *
  go_enter Tryz.func15, Tryz.ntmps15
  go_wp2_with fail
  have hx1 := box2_new w sf a0 l.length cap 31
  have hbw := balloc w (.cells #[.string ⟨sf.toArray⟩, .slice a0 l.length cap] 31)
  have HX1 := Lib.hid hx1; have HBW := Lib.hid hbw
  clear hx1 hbw
  generalize w.alloc _ = W0 at *
  go_loopw [8] (fun vi wr => ∃ k : Nat, k ≤ l.length ∧ vi = .int .i64 k ∧ Hid ((l.take k).all cRight = true) ∧ Below W0.heap.size W0 wr) (fun vi _ => l.length - (intOf vi).toNat)
  case atStart => exact ⟨0, Nat.zero_le _, rfl, Lib.hid rfl, Below.refl _ _⟩
  case round =>
    obtain ⟨k, hk, rfl, HP, hbr⟩ := hrel
    have hbz := btrans HBW.out hbr
    have hy1 := HX1.out.below hbr
    have hs1 := hy1.lt
    obtain ⟨f0, f1⟩ := hy1
    have HBZ := Lib.hid hbz; have HBR := Lib.hid hbr
    clear hbz hbr
    by_cases hlt : k < l.length
    · have i1 : (k : Int) < (l.length : Int) := by omega
      have i0 : (0 : Int) ≤ (k : Int) := by omega
      have hts := all_take_succ' cRight l k hlt
      have hno := all_miss cRight l k hlt
      rw [HP.out, Bool.true_and] at hts
      have hx := HOK.out _ (List.getElem_mem hlt)
      obtain ⟨a, rfl, v0, v1, v2, v3, v4, v5, v6⟩ := (HL.out.below HBZ.out) k hlt
      have hmc (W : World) : Calls Tryz.prog 24 #[cc l[k]] W fun e w' => e = .returned (.bool (cRight l[k])) ∧ Below W.heap.size W w' := cright_any _ _ _ _ _ _ _ W hx.1 hx.2
      clear hx
      generalize cRight l[k] = M at *
      have HTS := Lib.hid hts; have HNO := Lib.hid hno; have HMC := Lib.hid hmc
      clear hts hno hmc HP
      cases M
      · go_wp2_with (go_at_call 24; refine (HMC.out _).mono ?_; rintro e w5 ⟨rfl, hb5⟩)
        go_ret
        exact ⟨ret_bool (by rw [HR.out, HNO.out (by trivial)]; rfl), btrans (btrans HBZ.out (balloc _ _)) hb5⟩
      · go_wp2_with (go_at_call 24; refine (HMC.out _).mono ?_; rintro e w5 ⟨rfl, hb5⟩)
        exact ⟨⟨k + 1, by omega, by go_num, Lib.hid HTS.out, btrans (btrans HBR.out (balloc _ _)) hb5⟩, by simp [intOf]; go_num⟩
    · obtain rfl : k = l.length := by omega
      have hP := HP.out
      rw [List.take_length] at hP
      have HQ := Lib.hid hP; clear hP
      cases U
      · go_wp2_with (go_at_call 25; refine (HRT.out _).mono ?_; rintro e w5 ⟨rfl, ⟨nd, rfl⟩⟩)
        go_ret
        exact ⟨ret_bool (by rw [HR.out, HQ.out]; rfl), bdrewN HBZ.out _⟩
      · go_wp2_with (go_at_call 25; refine (HRT.out _).mono ?_; rintro e w5 ⟨rfl, ⟨nd, rfl⟩⟩)
        go_ret
        exact ⟨ret_bool (by rw [HR.out, HQ.out, Bool.true_and, Bool.true_and, Bool.eq_iff_iff]; simp; omega), bdrewN HBZ.out _⟩
end Go.Proofs.YtfkedobofamkiaaGreatDoor.Val
end
