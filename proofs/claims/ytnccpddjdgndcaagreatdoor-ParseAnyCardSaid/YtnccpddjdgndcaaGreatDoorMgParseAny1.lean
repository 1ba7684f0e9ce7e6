/- MERGED BY A PROGRAM OF MINE (pmg.py) out of my own texts, pruned, in their order: Frame, Open, OpenG, OpenV, NameFn, Name, CondFit, CondVoid, Canon, Attr, Match, Conds, Shaped, Pf1, NtA, NtB, NtC, NtD, NtE, NtF, NtG, NtH, DcFn, DcM. -/
import Derived.Test.YtnccpddjdgndcaaGreatDoorCards
import Derived.Test.YtnccpddjdgndcaaGreatDoorTie
import Derived.LaidMore
import Derived.Lay
import Derived.SevenTiedAt
import Derived.Stop.Joined
import Derived.Test.YtnccpddjdgndcaaGreatDoorValFn
import Derived.Laws.AppendOwn
import Derived.Lib.SlicesS
import Derived.Laws.CopyRow
import Derived.Laws.CopyOwn
import Derived.Lib.AppendZerosOnto
import Derived.Lib.Overlaps
import Derived.Laws.OwnMore
import Derived.Deep.RegionLaw
import Derived.Shelf.Spec.SlicesInsert
import Derived.Test.YtnccpddjdgndcaaGreatDoorRows
import Derived.WalkKit
import Derived.ProofKit
import Derived.OpenShut
import Derived.OpenVars
import Derived.SizedLaws
import Derived.Deep.Slices
import Derived.WalkSpells
import Derived.WalkLawsBesides
import Derived.Lib.Hide
import Derived.Lib.IndexBytes
import Derived.Test.YtnccpddjdgndcaaGreatDoorCond
import Derived.RegionCalls
import Derived.Deep.RegionWith
import Derived.Deep.RegionHeld3
import Derived.Handy
import Derived.Laws.IdiomCopy
import Derived.Handed
import Derived.Test.YtnccpddjdgndcaaGreatDoorFmt2
import Derived.Test.YtnccpddjdgndcaaGreatDoorFmtD
import Derived.Test.YtnccpddjdgndcaaGreatDoorFmtK
import Derived.Test.YtnccpddjdgndcaaGreatDoorFlt
import Derived.Lib.ItoaNum
import Derived.Test.YtnccpddjdgndcaaGreatDoorUok
import Derived.WalkMore
import Derived.Deep.DeepCutAuto
import Derived.Deep.CutBlock
import Derived.Deep.CutRange
import Derived.Deep.LoopGhost
import Derived.Deep.QuietTactic
import Derived.BigQuiet
import Derived.IntWalk

section
/- THE FRAME OF EVERY LAW OF THIS SEAT: a law that returns true and leaves all that was there as it was meets its given post. -/
namespace Go.Proofs.YtnccpddjdgndcaaGreatDoor.Frame
open Go.ChangeShapes Go.WideShapes Go.ChangeAt Go.RowKit

theorem own : ownKnob Tryz.prog.godebug = none := by kernel_rfl
theorem laidOut : laidOutB Tryz.prog = true := by kernel_rfl

section
variable {H : Type} {enc : TypeId × Value → H} {P : Program}
def rowed (P : Program) (ts : List TypeId) : Bool := ts.all fun t => P.readableRec t && decide (t < P.types.size)

theorem trodAll_below (hl : laidOutB P = true) {W W' : World} (hb : Below W.heap.size W W') :
  ∀ {ts : List TypeId} {vs : List Value} {ds : List (DataW H)} {ps : List MemPlace}, rowed P ts = true →
   DataW.TrodAll enc P W 0 (fun _ => true) true ts vs ds ps → DataW.TrodAll enc P W' 0 (fun b => decide (b < W.heap.size)) true ts vs ds ps
 | [], [], [], _, _, h => h
 | [], [], _ :: _, _, _, h => h.elim
 | [], _ :: _, _, _, _, h => by cases ‹List (DataW H)› <;> exact h.elim
 | _ :: _, [], _, _, _, h => h.elim
 | _ :: _, _ :: _, [], _, _, h => h.elim
 | t :: ts, v :: vs, d :: ds, ps, hv, h => by
  have hlt := h.lt
  obtain ⟨p, q, h1, h2, e⟩ := h
  simp only [rowed, List.all_cons, Bool.and_eq_true, decide_eq_true_eq] at hv
  exact ⟨p, q, Below.trod hl hv.1.1 hv.1.2 h1 hb (fun x hx => hlt x (by rw [e]; simp [hx])), trodAll_below hl hb (by simpa [rowed] using hv.2) h2, e⟩

theorem law_post {f : Func} {s : ChangeSpec} {W W' : World} {args : Array Value} {ds gs : List (DataW H)} {before : List MemPlace} {tb : TypeId}
  (hl : laidOutB P = true) (hp : rowed P f.params.toList = true) (hv : varsRowed P s.vars = true)
  (hr : f.resultTypes = #[tb]) (hu : P.underlying tb = some .bool)
  (hs : (s.fn H (ds ++ gs)).results = [.lit (.bool true)]) (ha : (s.fn H (ds ++ gs)).args = ds) (hg : (s.fn H (ds ++ gs)).vars = gs)
  (hW : DataW.Whole enc P f.params.toList s.vars false W args.toList ds gs before) (hb : Below W.heap.size W W') :
  s.post enc P f false true false false W args (.bool true) W' := by
 have hW' := hW
 obtain ⟨p, q, hA, hV, rfl, hfz, hnd⟩ := hW
 refine ⟨ds, gs, p ++ q, [], p, q, hW', ?_, ?_, ?_, hb.frame _, fun h => by cases h⟩
 ·rw [hr, hs]
  exact trodAll_mk1 (shut_bool hu true)
 ·rw [ha]; exact trodAll_below hl hb hp hA
 ·rw [hg]; exact hb.trodVars hl hv hV
end
end Go.Proofs.YtnccpddjdgndcaaGreatDoor.Frame
end

section
/- OPENING AN ARGUMENT OF STRUCTS WITHIN STRUCTS TO ITS CELLS, cell by cell, each with its own reading and its weights. Over any program. -/
namespace Go.Proofs.YtnccpddjdgndcaaGreatDoor.Open
open Go.ChangeShapes Go.WideShapes Go.ChangeAt Go.RowKit Go.Deep

section
variable {H : Type} {enc : TypeId × Value → H} {P : Program} {w : World} {base : Nat} {spare : Nat → Bool} {held : Bool}
def leaves (P : Program) : Nat → TypeId → List TypeId
 | 0, t => [t]
 | n + 1, t => match P.underlying t with
  | some (.struct fs) => fs.toList.flatMap fun f => leaves P n f.type
  | _ => [t]
def Cells (enc : TypeId × Value → H) (P : Program) (w : World) (base : Nat) (spare : Nat → Bool) (held : Bool) (W : List Nat) : List TypeId → List Value → Prop
 | [], [] => True
 | t :: ts, v :: vs => (∃ m y, DataW.trod enc P w base spare held m t [v] = some y ∧ ∀ k ∈ DataW.weights P t y.1, k ∈ W) ∧ Cells enc P w base spare held W ts vs
 | _, _ => False
theorem Cells.append {W : List Nat} : ∀ {ts ts' : List TypeId} {vs vs' : List Value}, Cells enc P w base spare held W ts vs → Cells enc P w base spare held W ts' vs' → Cells enc P w base spare held W (ts ++ ts') (vs ++ vs')
 | [], _, [], _, _, h => h
 | [], _, _ :: _, _, h, _ => h.elim
 | _ :: _, _, [], _, h, _ => h.elim
 | _ :: _, _, _ :: _, _, h, k => ⟨h.1, Cells.append h.2 k⟩
def Leaf (enc : TypeId × Value → H) (P : Program) (w : World) (base : Nat) (spare : Nat → Bool) (held : Bool) (W : List Nat) (t : TypeId) (v : Value) : Prop :=
 ∃ m y, DataW.trod enc P w base spare held m t [v] = some y ∧ ∀ k ∈ DataW.weights P t y.1, k ∈ W
theorem Cells.cons {W : List Nat} {t : TypeId} {ts : List TypeId} {vs : List Value} (h : Cells enc P w base spare held W (t :: ts) vs) : ∃ v us, vs = v :: us ∧ Leaf enc P w base spare held W t v ∧ Cells enc P w base spare held W ts us := by
 cases vs with
 | nil => exact h.elim
 | cons v us => exact ⟨v, us, rfl, h.1, h.2⟩
theorem Cells.nil {W : List Nat} {vs : List Value} (h : Cells enc P w base spare held W [] vs) : vs = [] := by
 cases vs with
 | nil => rfl
 | cons v us => exact h.elim
theorem Leaf.int {W : List Nat} {t : TypeId} {v : Value} {k : IntKind} (ht : P.underlying t = some (.int k)) (h : Leaf enc P w base spare held W t v) : ∃ n, v = .int k n ∧ (Lit.int k n).wf = true := by
 obtain ⟨m, y, h1, _⟩ := h
 obtain ⟨n, e, _, hw⟩ := DataW.trod_int ht h1
 exact ⟨n, by simpa using e, hw⟩
theorem Leaf.bool {W : List Nat} {t : TypeId} {v : Value} (ht : P.underlying t = some .bool) (h : Leaf enc P w base spare held W t v) : ∃ b, v = .bool b := by
 obtain ⟨m, y, h1, _⟩ := h
 obtain ⟨n, e, _⟩ := DataW.trod_bool ht h1
 exact ⟨n, by simpa using e⟩
theorem Leaf.float {W : List Nat} {t : TypeId} {v : Value} {k : FloatKind} (ht : P.underlying t = some (.float k)) (h : Leaf enc P w base spare held W t v) : ∃ b, v = .float k b ∧ (Lit.float k b).wf = true := by
 obtain ⟨m, y, h1, _⟩ := h
 cases m with
 | zero => simp [DataW.trod] at h1
 | succ m =>
  unfold DataW.trod at h1
  rw [ht] at h1
  split at h1 <;> simp_all
theorem Leaf.string {W : List Nat} {t : TypeId} {v : Value} (ht : P.underlying t = some .string) (h : Leaf enc P w base spare held W t v) : ∃ l : List UInt8, v = .string ⟨l.toArray⟩ ∧ l.length ∈ W := by
 obtain ⟨m, y, h1, h2⟩ := h
 obtain ⟨s, e, rfl, hm⟩ := DataW.trod_string ht h1
 refine ⟨s.data.toList, by simpa using e, h2 _ (by simp [DataW.weights])⟩
end
end Go.Proofs.YtnccpddjdgndcaaGreatDoor.Open
end

section
/- OPENING THE ARGUMENTS OF THE PROGRAM's OWN TYPES: values, conditions. -/
namespace Go.Proofs.YtnccpddjdgndcaaGreatDoor.Open
open Go.ChangeShapes Go.WideShapes Go.ChangeAt Go.RowKit Go.Deep
def ValOk (k n : Int) (x : Nat) (t : List UInt8) : Prop := (-9223372036854775808 ≤ k ∧ k ≤ 9223372036854775807) ∧ (-9223372036854775808 ≤ n ∧ n ≤ 9223372036854775807) ∧ x < 18446744073709551616 ∧ t.length ≤ 140737488351232
section
variable {H : Type} {enc : TypeId × Value → H} {w : World} {base : Nat} {spare : Nat → Bool} {held : Bool}
end
end Go.Proofs.YtnccpddjdgndcaaGreatDoor.Open
end

section
/- WHAT THE OPENINGS OF SLICES SHARE. -/
namespace Go.Proofs.YtnccpddjdgndcaaGreatDoor.Open
open Go.ChangeShapes Go.WideShapes Go.ChangeAt Go.RowKit Go.Deep
def VOk (v : Val.V) : Prop := ValOk v.kind v.int v.num v.text
instance : Inhabited Val.V := ⟨⟨0, 0, 0, [], false⟩⟩
section
variable {H : Type}
end
end Go.Proofs.YtnccpddjdgndcaaGreatDoor.Open
end

section
/- PLAIN FUNCTIONS ON NAMES. No program in sight. -/
namespace Go.Proofs.YtnccpddjdgndcaaGreatDoor.Sc
def chOk (i : Nat) (c : UInt8) : Bool := (decide (97 ≤ c.toNat) && decide (c.toNat ≤ 122)) || (decide (0 < i) && decide (48 ≤ c.toNat) && decide (c.toNat ≤ 57))
def chsOk : Nat → List UInt8 → Bool
 | _, [] => true
 | i, c :: l => chOk i c && chsOk (i + 1) l
def nameB (l : List UInt8) : Bool := chsOk 0 l && !l.isEmpty && decide (l.length ≤ 12)

theorem chsOk_append (i : Nat) (a b : List UInt8) : chsOk i (a ++ b) = (chsOk i a && chsOk (i + a.length) b) := by
 induction a generalizing i with
 | nil => simp [chsOk]
 | cons c a ih =>
  simp only [List.cons_append, chsOk, ih, List.length_cons, Bool.and_assoc]
  rw [show i + 1 + a.length = i + (a.length + 1) by omega]
theorem chsOk_snoc (l : List UInt8) (k : Nat) (h : k < l.length) : chsOk 0 (l.take (k + 1)) = (chsOk 0 (l.take k) && chOk k l[k]) := by
 rw [List.take_succ_eq_append_getElem h, chsOk_append]
 simp [chsOk, List.length_take, Nat.min_eq_left (Nat.le_of_lt h)]
theorem chsOk_bad (l : List UInt8) (k : Nat) (h : k < l.length) (hc : chOk k l[k] = false) : chsOk 0 l = false := by
 have e : l = l.take (k + 1) ++ l.drop (k + 1) := (List.take_append_drop _ _).symm
 rw [e, chsOk_append, chsOk_snoc l k h, hc]; simp

end Go.Proofs.YtnccpddjdgndcaaGreatDoor.Sc
end

section
/- THE WALK OF event.Name. -/
namespace Go.Proofs.YtnccpddjdgndcaaGreatDoor.Sc
open Go.RowKit
theorem ret_bool {a b : Bool} (h : a = b) : Ending.returned (.bool a) = .returned (.bool b) := by rw [h]
def NameRel (l : List UInt8) (i : Value) : Prop := ∃ k : Nat, k ≤ l.length ∧ i = .int .i64 k ∧ chsOk 0 (l.take k) = true
theorem byte_ways (c k : Int) (h0 : 0 ≤ k) : (97 ≤ c ∧ c ≤ 122) ∨ (¬ 97 ≤ c ∧ ¬ 0 < k) ∨ (¬ 97 ≤ c ∧ 0 < k ∧ ¬ 48 ≤ c) ∨ (¬ 97 ≤ c ∧ 0 < k ∧ 48 ≤ c ∧ c ≤ 57) ∨ (¬ 97 ≤ c ∧ 0 < k ∧ 48 ≤ c ∧ ¬ c ≤ 57) ∨ (97 ≤ c ∧ ¬ c ≤ 122 ∧ ¬ 0 < k) ∨ (97 ≤ c ∧ ¬ c ≤ 122 ∧ 0 < k ∧ 48 ≤ c ∧ ¬ c ≤ 57) := by omega
theorem chOk_yes {k : Nat} {c : UInt8} (h : (97 ≤ (c.toNat : Int) ∧ (c.toNat : Int) ≤ 122) ∨ (0 < (k : Int) ∧ 48 ≤ (c.toNat : Int) ∧ (c.toNat : Int) ≤ 57)) : chOk k c = true := by
 unfold chOk; simp; omega
theorem chOk_no {k : Nat} {c : UInt8} (h : ¬ ((97 ≤ (c.toNat : Int) ∧ (c.toNat : Int) ≤ 122) ∨ (0 < (k : Int) ∧ 48 ≤ (c.toNat : Int) ∧ (c.toNat : Int) ≤ 57))) : chOk k c = false := by
 have : ¬ chOk k c = true := by unfold chOk; simp; omega
 simpa using this
set_option maxHeartbeats 1000000 in
theorem name_any (s : ByteArray) (w : World) (hs : s.size ≤ maxLen) :
  Calls Tryz.prog 65 #[.string s] w fun e w' => e = .returned (.bool (nameB s.data.toList)) ∧ w = w' := by
 unfold maxLen at hs
 have hsz : s.data.toList.length = s.size := by rw [Array.length_toList]; rfl
 go_enter Tryz.func65, Tryz.ntmps65
 go_wp2
 go_loop [6] (fun i => NameRel s.data.toList i) (fun i => s.size - (intOf i).toNat)
 case atStart => exact ⟨0, Nat.zero_le _, rfl, by simp [chsOk]⟩
 case round =>
  obtain ⟨k, hk, rfl, hok⟩ := hrel
  have HOK := Lib.hid hok; have HSZ := Lib.hid hsz; clear hok hsz
  rw [HSZ.out] at hk
  by_cases hlt : k < s.size
  ·have hg : s.data.toList[k]'(by rw [HSZ.out]; exact hlt) = s[k] := by rw [Array.getElem_toList]; rfl
   have HG := Lib.hid hg; clear hg
   rcases byte_ways (s[k].toNat : Int) (k : Int) (by omega) with ⟨a1, a2⟩ | ⟨a1, a2⟩ | ⟨a1, a2, a3⟩ | ⟨a1, a2, a3, a4⟩ | ⟨a1, a2, a3, a4⟩ | ⟨a1, a2, a3⟩ | ⟨a1, a2, a3, a4, a5⟩
   all_goals go_wp2
   all_goals try first
    | exact ⟨⟨k + 1, by rw [HSZ.out]; omega, by go_num, by rw [chsOk_snoc _ k (by rw [HSZ.out]; exact hlt), HOK.out, HG.out]; exact chOk_yes (by omega)⟩, by simp [intOf]; omega⟩
   all_goals
    go_ret
    exact ⟨ret_bool (by unfold nameB; rw [chsOk_bad _ k (by rw [HSZ.out]; exact hlt) (by rw [HG.out]; exact chOk_no (by omega))]; rfl), rfl⟩
  ·obtain rfl : k = s.size := by omega
   rw [List.take_of_length_le (by rw [HSZ.out]; exact Nat.le_refl _)] at HOK
   clear hlt hk
   have he : s.toList.isEmpty = decide (s.size = 0) := by
    rw [Lib.toList_data, Bool.eq_iff_iff, List.isEmpty_iff, decide_eq_true_iff, ← HSZ.out, List.length_eq_zero_iff]
   have hr : nameB s.data.toList = (!decide (s.size = 0) && decide (s.size ≤ 12)) := by
    unfold nameB; rw [HOK.out, ← he, Lib.toList_data, HSZ.out]; rfl
   by_cases h0 : s.size = 0
   ·rw [decide_eq_true h0] at he hr
    have h1 : s.toList = [] := List.isEmpty_iff.1 he
    have HR := Lib.hid hr; clear hr h0
    go_wp2
    go_ret
    exact ⟨ret_bool (by rw [HR.out]; rfl), rfl⟩
   ·rw [decide_eq_false h0] at he hr
    have h1 : ¬ s.toList = [] := fun h => by rw [h] at he; cases he
    have HR := Lib.hid hr; clear hr
    by_cases h12 : s.size ≤ 12
    all_goals
     go_wp2
     go_ret
     exact ⟨ret_bool (by rw [HR.out]; simp [h12]; omega), rfl⟩

theorem name_l (x : List UInt8) (w : World) (h : x.length ≤ 140737488351232) :
  Calls Tryz.prog 65 #[.string ⟨x.toArray⟩] w fun e w' => e = .returned (.bool (nameB x)) ∧ w = w' :=
 name_any ⟨x.toArray⟩ w (by show x.length ≤ _; unfold maxLen; omega)
end Go.Proofs.YtnccpddjdgndcaaGreatDoor.Sc
end

section
/- THE WALK OF the laws' fit of package cond: it prints 'a < 3'. -/
namespace Go.Proofs.YtnccpddjdgndcaaGreatDoor.Val
open Go.RowKit Flt
theorem held_below {b : Nat} {v0 v1 v2 v3 v4 v5 v6 : Value} {w w1 w2 : World} (hb : Below w1.heap.size w1 w2)
  (h : w1.cell? ⟨b, 0, none⟩ = some v0 ∧ w1.cell? ⟨b, 1, none⟩ = some v1 ∧ w1.cell? ⟨b, 2, none⟩ = some v2 ∧ w1.cell? ⟨b, 3, none⟩ = some v3 ∧ w1.cell? ⟨b, 4, none⟩ = some v4 ∧ w1.cell? ⟨b, 5, none⟩ = some v5 ∧ w1.cell? ⟨b, 6, none⟩ = some v6 ∧ Words w1 ∧ Below w.heap.size w w1 ∧ b < w1.heap.size) :
  w2.cell? ⟨b, 0, none⟩ = some v0 ∧ w2.cell? ⟨b, 1, none⟩ = some v1 ∧ w2.cell? ⟨b, 2, none⟩ = some v2 ∧ w2.cell? ⟨b, 3, none⟩ = some v3 ∧ w2.cell? ⟨b, 4, none⟩ = some v4 ∧ w2.cell? ⟨b, 5, none⟩ = some v5 ∧ w2.cell? ⟨b, 6, none⟩ = some v6 ∧ Words w2 ∧ Below w.heap.size w w2 ∧ b < w2.heap.size := by
 obtain ⟨h0, h1, h2, h3, h4, h5, h6, hw, hB, hl⟩ := h
 have c : ∀ o, w2.cell? ⟨b, o, none⟩ = w1.cell? ⟨b, o, none⟩ := fun o => hb.cell (p := ⟨b, o, none⟩) hl
 exact ⟨by rw [c]; exact h0, by rw [c]; exact h1, by rw [c]; exact h2, by rw [c]; exact h3, by rw [c]; exact h4, by rw [c]; exact h5, by rw [c]; exact h6, hw.below hb, btrans hB hb, Nat.lt_of_lt_of_le hl hb.size⟩
theorem held_start {v0 v1 v2 v3 v4 v5 v6 : Value} {T : TypeId} {w : World} (hw : Words w) :
  (w.alloc (.cells #[v0, v1, v2, v3, v4, v5, v6] T)).drew.cell? ⟨w.heap.size, 0, none⟩ = some v0 ∧ (w.alloc (.cells #[v0, v1, v2, v3, v4, v5, v6] T)).drew.cell? ⟨w.heap.size, 1, none⟩ = some v1 ∧ (w.alloc (.cells #[v0, v1, v2, v3, v4, v5, v6] T)).drew.cell? ⟨w.heap.size, 2, none⟩ = some v2 ∧ (w.alloc (.cells #[v0, v1, v2, v3, v4, v5, v6] T)).drew.cell? ⟨w.heap.size, 3, none⟩ = some v3 ∧ (w.alloc (.cells #[v0, v1, v2, v3, v4, v5, v6] T)).drew.cell? ⟨w.heap.size, 4, none⟩ = some v4 ∧ (w.alloc (.cells #[v0, v1, v2, v3, v4, v5, v6] T)).drew.cell? ⟨w.heap.size, 5, none⟩ = some v5 ∧ (w.alloc (.cells #[v0, v1, v2, v3, v4, v5, v6] T)).drew.cell? ⟨w.heap.size, 6, none⟩ = some v6 ∧
  Words (w.alloc (.cells #[v0, v1, v2, v3, v4, v5, v6] T)).drew ∧ Below w.heap.size w (w.alloc (.cells #[v0, v1, v2, v3, v4, v5, v6] T)).drew ∧ w.heap.size < (w.alloc (.cells #[v0, v1, v2, v3, v4, v5, v6] T)).drew.heap.size := by
 have c : ∀ o, (w.alloc (.cells #[v0, v1, v2, v3, v4, v5, v6] T)).cell? ⟨w.heap.size, o, none⟩ = #[v0, v1, v2, v3, v4, v5, v6][o]? := fun o => World.cell?_alloc_at _ _ _ _ rfl
 exact ⟨c 0, c 1, c 2, c 3, c 4, c 5, c 6, (hw.below (balloc _ _)).drew, bdrewN (balloc _ _) 1, by show w.heap.size < (w.alloc _).heap.size; simp⟩
theorem held_words {b : Nat} {v0 v1 v2 v3 v4 v5 v6 : Value} {w w1 : World}
  (h : w1.cell? ⟨b, 0, none⟩ = some v0 ∧ w1.cell? ⟨b, 1, none⟩ = some v1 ∧ w1.cell? ⟨b, 2, none⟩ = some v2 ∧ w1.cell? ⟨b, 3, none⟩ = some v3 ∧ w1.cell? ⟨b, 4, none⟩ = some v4 ∧ w1.cell? ⟨b, 5, none⟩ = some v5 ∧ w1.cell? ⟨b, 6, none⟩ = some v6 ∧ Words w1 ∧ Below w.heap.size w w1 ∧ b < w1.heap.size) : Words w1 := h.2.2.2.2.2.2.2.1
theorem held_own {b : Nat} {v0 v1 v2 v3 v4 v5 v6 : Value} {w w1 : World}
  (h : w1.cell? ⟨b, 0, none⟩ = some v0 ∧ w1.cell? ⟨b, 1, none⟩ = some v1 ∧ w1.cell? ⟨b, 2, none⟩ = some v2 ∧ w1.cell? ⟨b, 3, none⟩ = some v3 ∧ w1.cell? ⟨b, 4, none⟩ = some v4 ∧ w1.cell? ⟨b, 5, none⟩ = some v5 ∧ w1.cell? ⟨b, 6, none⟩ = some v6 ∧ Words w1 ∧ Below w.heap.size w w1 ∧ b < w1.heap.size) : Below w.heap.size w w1 := h.2.2.2.2.2.2.2.2.1
theorem wordB_len (op : Int) : (wordB op).length ≤ 3 := by
 unfold wordB
 split
 ·simp
 ·have : op.toNat ≤ 7 := by omega
  revert this
  generalize op.toNat = n
  intro h
  match n, h with
  | 0, _ => decide
  | 1, _ => decide
  | 2, _ => decide
  | 3, _ => decide
  | 4, _ => decide
  | 5, _ => decide
  | 6, _ => decide
  | 7, _ => decide
theorem run_store_flt (P : Program) (w : World) (a : Addr) (m : Mode) (k : FloatKind) (b : Nat) : (store a (.float k b) m).run P w = stored P w a (.float k b) m := run_store P w a _ m rfl
attribute [local go_sem] run_store_flt
end Go.Proofs.YtnccpddjdgndcaaGreatDoor.Val
end

section
/- THE WALKS OF cond.Void and cond.Right, the laws' light. -/
namespace Go.Proofs.YtnccpddjdgndcaaGreatDoor.Val
open Go.RowKit Flt
def cRight (c : C) : Bool := Sc.nameB c.name && decide (0 ≤ c.op) && decide (c.op ≤ 7) && vRight c.val
theorem right_ways3 (op : Int) (n : Bool) : n = false ∨ (n = true ∧ decide (0 ≤ op) = false) ∨ (n = true ∧ decide (0 ≤ op) = true ∧ decide (op ≤ 7) = false) ∨ (n = true ∧ decide (0 ≤ op) = true ∧ decide (op ≤ 7) = true) := by
 cases n <;> cases decide (0 ≤ op) <;> cases decide (op ≤ 7) <;> simp
set_option maxHeartbeats 400000 in
theorem cright_any (nm : List UInt8) (op k n : Int) (x : Nat) (t : List UInt8) (y : Bool) (w : World) (hn : nm.length ≤ 140737488351232) (ht : t.length ≤ 140737488351232) :
  Calls Tryz.prog 43 #[cond nm op k n x t y] w fun e w' => e = .returned (.bool (cRight ⟨nm, op, k, n, x, t, y⟩)) ∧ Below w.heap.size w w' := by
 have hr : cRight ⟨nm, op, k, n, x, t, y⟩ = (Sc.nameB nm && decide (0 ≤ op) && decide (op ≤ 7) && vRight ⟨k, n, x, t, y⟩) := rfl
 have hv (w : World) := vright_any k n x t y w ht
 have hm (w : World) := Sc.name_l nm w hn
 generalize vRight ⟨k, n, x, t, y⟩ = vb at *
 generalize Sc.nameB nm = nb at *
 have HR := Lib.hid hr; have HV := Lib.hid hv; have HM := Lib.hid hm; clear hr hv hm
 rcases right_ways3 op nb with rfl | ⟨rfl, h1⟩ | ⟨rfl, h1, h2⟩ | ⟨rfl, h1, h2⟩
 ·have HQ : Hid (cRight ⟨nm, op, k, n, x, t, y⟩ = false) := Lib.hid (by rw [HR.out]; rfl)
  go_enter Tryz.func43, Tryz.ntmps43
  go_wp2_with (first | (go_at_call 65; refine (HM.out _).mono ?_; rintro e w' ⟨rfl, rfl⟩) | (go_at_call 12; refine (HV.out _).mono ?_; rintro e w1 ⟨rfl, hb⟩; obtain ⟨hc, hf⟩ := bcell hb))
  go_ret
  exact ⟨ret_bool HQ.out.symm, by repeat (first | assumption | (with_reducible exact Below.refl _ _) | exact balloc _ _ | exact balloc2 _ _ _ | refine btrans ?_ (by assumption) | refine btrans ?_ (balloc _ _))⟩
 ·have HQ : Hid (cRight ⟨nm, op, k, n, x, t, y⟩ = false) := Lib.hid (by rw [HR.out, h1]; rfl)
  go_enter Tryz.func43, Tryz.ntmps43
  go_wp2_with (first | (go_at_call 65; refine (HM.out _).mono ?_; rintro e w' ⟨rfl, rfl⟩) | (go_at_call 12; refine (HV.out _).mono ?_; rintro e w1 ⟨rfl, hb⟩; obtain ⟨hc, hf⟩ := bcell hb))
  go_ret
  exact ⟨ret_bool HQ.out.symm, by repeat (first | assumption | (with_reducible exact Below.refl _ _) | exact balloc _ _ | exact balloc2 _ _ _ | refine btrans ?_ (by assumption) | refine btrans ?_ (balloc _ _))⟩
 ·have HQ : Hid (cRight ⟨nm, op, k, n, x, t, y⟩ = false) := Lib.hid (by rw [HR.out, h1, h2]; rfl)
  go_enter Tryz.func43, Tryz.ntmps43
  go_wp2_with (first | (go_at_call 65; refine (HM.out _).mono ?_; rintro e w' ⟨rfl, rfl⟩) | (go_at_call 12; refine (HV.out _).mono ?_; rintro e w1 ⟨rfl, hb⟩; obtain ⟨hc, hf⟩ := bcell hb))
  go_ret
  exact ⟨ret_bool HQ.out.symm, by repeat (first | assumption | (with_reducible exact Below.refl _ _) | exact balloc _ _ | exact balloc2 _ _ _ | refine btrans ?_ (by assumption) | refine btrans ?_ (balloc _ _))⟩
 ·have HQ : Hid (cRight ⟨nm, op, k, n, x, t, y⟩ = vb) := Lib.hid (by rw [HR.out, h1, h2]; rfl)
  go_enter Tryz.func43, Tryz.ntmps43
  go_wp2_with (first | (go_at_call 65; refine (HM.out _).mono ?_; rintro e w' ⟨rfl, rfl⟩) | (go_at_call 12; refine (HV.out _).mono ?_; rintro e w1 ⟨rfl, hb⟩; obtain ⟨hc, hf⟩ := bcell hb))
  go_ret
  exact ⟨ret_bool HQ.out.symm, by repeat (first | assumption | (with_reducible exact Below.refl _ _) | exact balloc _ _ | exact balloc2 _ _ _ | refine btrans ?_ (by assumption) | refine btrans ?_ (balloc _ _))⟩
end Go.Proofs.YtnccpddjdgndcaaGreatDoor.Val
end

section
/- THE WALKS OF value.Canon and cond.Canon. -/
namespace Go.Proofs.YtnccpddjdgndcaaGreatDoor.Val
open Go.RowKit Flt
attribute [local go_sem] run_store_flt
def canonV (v : V) : V := if v.kind == 0 then ⟨0, v.int, 0, [], false⟩ else if v.kind == 1 then ⟨1, 0, Ord.canon v.num, [], false⟩ else if v.kind == 2 then ⟨2, 0, 0, v.text, false⟩ else if v.kind == 3 then ⟨3, 0, 0, [], v.yes⟩ else ⟨0, 0, 0, [], false⟩
abbrev vv (v : V) : Value := val v.kind v.int v.num v.text v.yes
abbrev cc (c : C) : Value := cond c.name c.op c.val.kind c.val.int c.val.num c.val.text c.val.yes
def canonC (c : C) : C := if c.op == 7 then ⟨c.name, 7, 0, 0, 0, [], false⟩ else ⟨c.name, c.op, canonV c.val⟩
theorem kind_ways (k : Int) : (k == 0) = true ∨ ((k == 0) = false ∧ (k == 1) = true) ∨ ((k == 0) = false ∧ (k == 1) = false ∧ (k == 2) = true) ∨ ((k == 0) = false ∧ (k == 1) = false ∧ (k == 2) = false ∧ (k == 3) = true) ∨ ((k == 0) = false ∧ (k == 1) = false ∧ (k == 2) = false ∧ (k == 3) = false) := by
 cases h0 : (k == 0) <;> cases h1 : (k == 1) <;> cases h2 : (k == 2) <;> cases h3 : (k == 3) <;> simp
theorem set7_at (w : World) (b : Nat) (v0 v1 v2 v3 v4 v5 v6 : Value) (h : ∀ j, j < 7 → (w.cell? ⟨b, j, none⟩).isSome = true) :
  (((((((w.setCell ⟨b, 0, none⟩ v0).setCell ⟨b, 1, none⟩ v1).setCell ⟨b, 2, none⟩ v2).setCell ⟨b, 3, none⟩ v3).setCell ⟨b, 4, none⟩ v4).setCell ⟨b, 5, none⟩ v5).setCell ⟨b, 6, none⟩ v6).cell? ⟨b, 0, none⟩ = some v0 ∧
  (((((((w.setCell ⟨b, 0, none⟩ v0).setCell ⟨b, 1, none⟩ v1).setCell ⟨b, 2, none⟩ v2).setCell ⟨b, 3, none⟩ v3).setCell ⟨b, 4, none⟩ v4).setCell ⟨b, 5, none⟩ v5).setCell ⟨b, 6, none⟩ v6).cell? ⟨b, 1, none⟩ = some v1 ∧
  (((((((w.setCell ⟨b, 0, none⟩ v0).setCell ⟨b, 1, none⟩ v1).setCell ⟨b, 2, none⟩ v2).setCell ⟨b, 3, none⟩ v3).setCell ⟨b, 4, none⟩ v4).setCell ⟨b, 5, none⟩ v5).setCell ⟨b, 6, none⟩ v6).cell? ⟨b, 2, none⟩ = some v2 ∧
  (((((((w.setCell ⟨b, 0, none⟩ v0).setCell ⟨b, 1, none⟩ v1).setCell ⟨b, 2, none⟩ v2).setCell ⟨b, 3, none⟩ v3).setCell ⟨b, 4, none⟩ v4).setCell ⟨b, 5, none⟩ v5).setCell ⟨b, 6, none⟩ v6).cell? ⟨b, 3, none⟩ = some v3 ∧
  (((((((w.setCell ⟨b, 0, none⟩ v0).setCell ⟨b, 1, none⟩ v1).setCell ⟨b, 2, none⟩ v2).setCell ⟨b, 3, none⟩ v3).setCell ⟨b, 4, none⟩ v4).setCell ⟨b, 5, none⟩ v5).setCell ⟨b, 6, none⟩ v6).cell? ⟨b, 4, none⟩ = some v4 ∧
  (((((((w.setCell ⟨b, 0, none⟩ v0).setCell ⟨b, 1, none⟩ v1).setCell ⟨b, 2, none⟩ v2).setCell ⟨b, 3, none⟩ v3).setCell ⟨b, 4, none⟩ v4).setCell ⟨b, 5, none⟩ v5).setCell ⟨b, 6, none⟩ v6).cell? ⟨b, 5, none⟩ = some v5 ∧
  (((((((w.setCell ⟨b, 0, none⟩ v0).setCell ⟨b, 1, none⟩ v1).setCell ⟨b, 2, none⟩ v2).setCell ⟨b, 3, none⟩ v3).setCell ⟨b, 4, none⟩ v4).setCell ⟨b, 5, none⟩ v5).setCell ⟨b, 6, none⟩ v6).cell? ⟨b, 6, none⟩ = some v6 ∧
  Below b w (((((((w.setCell ⟨b, 0, none⟩ v0).setCell ⟨b, 1, none⟩ v1).setCell ⟨b, 2, none⟩ v2).setCell ⟨b, 3, none⟩ v3).setCell ⟨b, 4, none⟩ v4).setCell ⟨b, 5, none⟩ v5).setCell ⟨b, 6, none⟩ v6) := by
 have e := World.cell?_setCells_in b [v0, v1, v2, v3, v4, v5, v6] 0 w (fun j hj => by rw [Nat.zero_add]; exact h j hj)
 exact ⟨e 0 (by simp), e 1 (by simp), e 2 (by simp), e 3 (by simp), e 4 (by simp), e 5 (by simp), e 6 (by simp),
  (((((((Below.refl b w).setCell (Nat.le_refl _) _).setCell (Nat.le_refl _) _).setCell (Nat.le_refl _) _).setCell (Nat.le_refl _) _).setCell (Nat.le_refl _) _).setCell (Nat.le_refl _) _).setCell (Nat.le_refl _) _⟩
theorem canonV_kind (v : V) (h0 : 0 ≤ v.kind) (h3 : v.kind ≤ 3) : (canonV v).kind = v.kind := by
 unfold canonV
 rcases kind_ways v.kind with h | ⟨h, h1⟩ | ⟨h, h1, h2⟩ | ⟨h, h1, h2, h3⟩ | ⟨h, h1, h2, h3⟩
 ·simp only [h, if_true]; exact (beq_iff_eq.1 h).symm
 ·simp only [h, h1, Bool.false_eq_true, if_false, if_true]; exact (beq_iff_eq.1 h1).symm
 ·simp only [h, h1, h2, Bool.false_eq_true, if_false, if_true]; exact (beq_iff_eq.1 h2).symm
 ·simp only [h, h1, h2, h3, Bool.false_eq_true, if_false, if_true]; exact (beq_iff_eq.1 h3).symm
 ·simp at h h1 h2 h3; omega
end Go.Proofs.YtnccpddjdgndcaaGreatDoor.Val
end

section
/- ATTRIBUTES: six cells each; the walks of event.find and event.Get, and of the library's search as event.find calls it. -/
namespace Go.Proofs.YtnccpddjdgndcaaGreatDoor.Val
open Go.RowKit Flt
structure A where
 name : List UInt8
 val : V
instance : Inhabited A := ⟨⟨[], ⟨0, 0, 0, [], false⟩⟩⟩
abbrev aa (a : A) : Value := .agg #[.string ⟨a.name.toArray⟩, .int .i64 a.val.kind, .int .i64 a.val.int, .float .f64 a.val.num, .string ⟨a.val.text.toArray⟩, .bool a.val.yes]
def AAt (w : World) (p : Addr) (a : A) : Prop :=
 w.cell? p = some (.string ⟨a.name.toArray⟩) ∧ w.cell? ⟨p.block, p.off + 1, none⟩ = some (.int .i64 a.val.kind) ∧ w.cell? ⟨p.block, p.off + 2, none⟩ = some (.int .i64 a.val.int) ∧ w.cell? ⟨p.block, p.off + 3, none⟩ = some (.float .f64 a.val.num) ∧ w.cell? ⟨p.block, p.off + 4, none⟩ = some (.string ⟨a.val.text.toArray⟩) ∧ w.cell? ⟨p.block, p.off + 5, none⟩ = some (.bool a.val.yes)
def Attrs (w : World) (a0 : Option Addr) (l : List A) : Prop := ∀ i (h : i < l.length), ∃ a, a0 = some a ∧ AAt w (a.add (i * 6)) l[i]
theorem AAt.below {w w2 : World} {p : Addr} {a : A} (h : AAt w p a) (hb : Below w.heap.size w w2) : AAt w2 p a := by
 obtain ⟨h0, h1, h2, h3, h4, h5⟩ := h
 exact ⟨(hb.cell (World.block_lt_of_cell? _ _ h0)).trans h0, (hb.cell (World.block_lt_of_cell? _ _ h1)).trans h1, (hb.cell (World.block_lt_of_cell? _ _ h2)).trans h2, (hb.cell (World.block_lt_of_cell? _ _ h3)).trans h3, (hb.cell (World.block_lt_of_cell? _ _ h4)).trans h4, (hb.cell (World.block_lt_of_cell? _ _ h5)).trans h5⟩
theorem Attrs.below {w w2 : World} {a0 : Option Addr} {l : List A} (h : Attrs w a0 l) (hb : Below w.heap.size w w2) : Attrs w2 a0 l := fun i hi => by
 obtain ⟨a, e, h1⟩ := h i hi
 exact ⟨a, e, h1.below hb⟩
def bs (l : List A) (t : List UInt8) (i j : Nat) : Nat :=
 if h : i < j then (if Lib.compareBytes (l[(i + j) / 2]!).name t < 0 then bs l t ((i + j) / 2 + 1) j else bs l t i ((i + j) / 2)) else i
termination_by j - i
attribute [local go_sem] run_store_flt
abbrev ev (sc : List UInt8) (a0 : Option Addr) (n cap : Nat) : Value := .agg #[.string ⟨sc.toArray⟩, .slice a0 n cap]
theorem set5_at (w : World) (b : Nat) (v0 v1 v2 v3 v4 : Value) (h : ∀ j, j < 5 → (w.cell? ⟨b, j, none⟩).isSome = true) :
  (((((w.setCell ⟨b, 0, none⟩ v0).setCell ⟨b, 1, none⟩ v1).setCell ⟨b, 2, none⟩ v2).setCell ⟨b, 3, none⟩ v3).setCell ⟨b, 4, none⟩ v4).cell? ⟨b, 0, none⟩ = some v0 ∧
  (((((w.setCell ⟨b, 0, none⟩ v0).setCell ⟨b, 1, none⟩ v1).setCell ⟨b, 2, none⟩ v2).setCell ⟨b, 3, none⟩ v3).setCell ⟨b, 4, none⟩ v4).cell? ⟨b, 1, none⟩ = some v1 ∧
  (((((w.setCell ⟨b, 0, none⟩ v0).setCell ⟨b, 1, none⟩ v1).setCell ⟨b, 2, none⟩ v2).setCell ⟨b, 3, none⟩ v3).setCell ⟨b, 4, none⟩ v4).cell? ⟨b, 2, none⟩ = some v2 ∧
  (((((w.setCell ⟨b, 0, none⟩ v0).setCell ⟨b, 1, none⟩ v1).setCell ⟨b, 2, none⟩ v2).setCell ⟨b, 3, none⟩ v3).setCell ⟨b, 4, none⟩ v4).cell? ⟨b, 3, none⟩ = some v3 ∧
  (((((w.setCell ⟨b, 0, none⟩ v0).setCell ⟨b, 1, none⟩ v1).setCell ⟨b, 2, none⟩ v2).setCell ⟨b, 3, none⟩ v3).setCell ⟨b, 4, none⟩ v4).cell? ⟨b, 4, none⟩ = some v4 ∧
  Below b w (((((w.setCell ⟨b, 0, none⟩ v0).setCell ⟨b, 1, none⟩ v1).setCell ⟨b, 2, none⟩ v2).setCell ⟨b, 3, none⟩ v3).setCell ⟨b, 4, none⟩ v4) := by
 have e := World.cell?_setCells_in b [v0, v1, v2, v3, v4] 0 w (fun j hj => by rw [Nat.zero_add]; exact h j hj)
 exact ⟨e 0 (by simp), e 1 (by simp), e 2 (by simp), e 3 (by simp), e 4 (by simp),
  (((((Below.refl b w).setCell (Nat.le_refl _) _).setCell (Nat.le_refl _) _).setCell (Nat.le_refl _) _).setCell (Nat.le_refl _) _).setCell (Nat.le_refl _) _⟩
end Go.Proofs.YtnccpddjdgndcaaGreatDoor.Val
end

section
/- THE WALK OF cond.Match. -/
namespace Go.Proofs.YtnccpddjdgndcaaGreatDoor.Val
open Go.RowKit Flt
attribute [local go_sem] run_store_flt
end Go.Proofs.YtnccpddjdgndcaaGreatDoor.Val
end

section
/- CONDITIONS IN MEMORY: seven cells each. -/
namespace Go.Proofs.YtnccpddjdgndcaaGreatDoor.Val
open Go.RowKit Flt
instance : Inhabited C := ⟨⟨[], 0, 0, 0, 0, [], false⟩⟩
def CAt (w : World) (p : Addr) (c : C) : Prop :=
 w.cell? p = some (.string ⟨c.name.toArray⟩) ∧ w.cell? ⟨p.block, p.off + 1, none⟩ = some (.int .i64 c.op) ∧ w.cell? ⟨p.block, p.off + 2, none⟩ = some (.int .i64 c.val.kind) ∧ w.cell? ⟨p.block, p.off + 3, none⟩ = some (.int .i64 c.val.int) ∧ w.cell? ⟨p.block, p.off + 4, none⟩ = some (.float .f64 c.val.num) ∧ w.cell? ⟨p.block, p.off + 5, none⟩ = some (.string ⟨c.val.text.toArray⟩) ∧ w.cell? ⟨p.block, p.off + 6, none⟩ = some (.bool c.val.yes)
def Conds (w : World) (a0 : Option Addr) (l : List C) : Prop := ∀ i (h : i < l.length), ∃ a, a0 = some a ∧ CAt w (a.add (i * 7)) l[i]
theorem CAt.below {w w2 : World} {p : Addr} {c : C} (h : CAt w p c) (hb : Below w.heap.size w w2) : CAt w2 p c := by
 obtain ⟨h0, h1, h2, h3, h4, h5, h6⟩ := h
 exact ⟨(hb.cell (World.block_lt_of_cell? _ _ h0)).trans h0, (hb.cell (World.block_lt_of_cell? _ _ h1)).trans h1, (hb.cell (World.block_lt_of_cell? _ _ h2)).trans h2, (hb.cell (World.block_lt_of_cell? _ _ h3)).trans h3, (hb.cell (World.block_lt_of_cell? _ _ h4)).trans h4, (hb.cell (World.block_lt_of_cell? _ _ h5)).trans h5, (hb.cell (World.block_lt_of_cell? _ _ h6)).trans h6⟩
theorem Conds.below {w w2 : World} {a0 : Option Addr} {l : List C} (h : Conds w a0 l) (hb : Below w.heap.size w w2) : Conds w2 a0 l := fun i hi => by
 obtain ⟨a, e, h1⟩ := h i hi
 exact ⟨a, e, h1.below hb⟩
end Go.Proofs.YtnccpddjdgndcaaGreatDoor.Val
end

section
/- The wrap of a tied law whose walk needs a fact of the program's variables' places. -/
namespace Go.Proofs.YtnccpddjdgndcaaGreatDoor.Shp
open Go
section
variable {H : Type} {enc : TypeId × Value → H}
theorem returns_shaped {a : Assume} {C : Checked} {os : Os} {f : FuncId} {fn : Func} {s : ChangeSpec} {conds : List PathCond} {apart fresh handsOn again : Bool} {X : World → Array Value → Prop} {S : World → Prop}
  (hS : ∀ W : World, W.ShapedOpen C.prog → S W) (hX : ∀ (w w' : World) (args : Array Value), w.heap = w'.heap → X w args → X w' args)
  (own : ownKnob C.prog.godebug = none) (started : os.Started) (noInit : C.prog.inits.idxOf? f = none) (hfn : C.prog.funcs[f]? = some fn)
  (witness : ∃ (w : World) (tape : Tape) (i : Input), w.os = os ∧ (w.forCall tape i).Shaped C.prog ∧ i.vars = [] ∧ Input.okWide C.prog (w.forCall tape i) .any w.heap.size f i ∧
   ((s.pre enc C.prog fn conds apart (w.forCall tape i).memory i.args ∧ X (w.forCall tape i).memory i.args) ∧ sizedMet enc C.prog fn (OpenSpec.ofChange s) apart (w.forCall tape i).memory i.args) ∧ a.holds C.prog (lone (Frame.enter C.prog f i.args .normal) [] (w.forCall tape i)))
  (contract : ∀ (W : World) (base : Nat) (args : Array Value) (ds gs : List (DataW H)) (before : List MemPlace), S W →
   (∀ (j : Nat) t v, fn.params[j]? = some t → args[j]? = some v → Value.okWide C.prog W .any base t v) →
   DataW.Whole enc C.prog fn.params.toList s.vars apart W args.toList ds gs before →
   conds.all (PathCond.test C.prog ⟨fn.params.toList, ds, s.plain.varTypes C.prog, gs⟩) = true →
   (DataW.weightsEach C.prog (fn.params.toList ++ s.plain.varTypes C.prog) (ds ++ gs)).all (· ≤ reachBytes) = true → X W args →
   a.holds C.prog (lone (Frame.enter C.prog f args .normal) [] W) →
   Calls C.prog f args W fun e W' => ∃ v, e = .returned v ∧ s.post enc C.prog fn apart fresh handsOn again W args v W') :
  ReturnsInHanded a C os f .any (fun w args => (s.pre enc C.prog fn conds apart w args ∧ X w args) ∧ sizedMet enc C.prog fn (OpenSpec.ofChange s) apart w args) (s.post enc C.prog fn apart fresh handsOn again) := by
 refine returnsInHanded_of_calls own started noInit witness ?_
 intro w tape i _ hsh _ hok hpre hholds
 obtain ⟨_, _, _, fn2, hfn2, _, _, _, _, hval⟩ := hok
 obtain rfl : fn2 = fn := Option.some.inj (hfn2.symm.trans hfn)
 obtain ⟨⟨⟨ds, gs, before, hw, hc⟩, hx⟩, hz⟩ := hpre
 have hw2 := DataW.Whole.of_heap (w' := w.forCall tape i) (by rfl) hw
 refine (contract (w.forCall tape i) w.heap.size i.args ds gs before (hS _ hsh) hval hw2 hc (hz.weights hw) (hX _ _ _ (by rfl) hx) hholds).mono fun e W2 ⟨v, he, hp⟩ => ?_
 subst he
 exact ChangeSpec.post_blind hp
end
end Go.Proofs.YtnccpddjdgndcaaGreatDoor.Shp
end

section
/- THE WALK OF strconv.parseFloat64: digits and a power of ten, scaled and rounded. -/
namespace Go.Proofs.YtnccpddjdgndcaaGreatDoor.Pf
open Go.RowKit Go.Proofs.YtnccpddjdgndcaaGreatDoor.Fmt
theorem sfrom_call (n : Int) (w : World) : (callFunc 157 #[.int .u64 n]).run Tryz.prog w = .ok (.value (.float .f64 n.toNat)) w :=
 run_callFunc_extern (e := Extern.MathFloatBits.float64frombits) Tryz.func157 (by kernel_rfl) (by kernel_rfl) (by kernel_rfl) (by kernel_rfl) _ w
theorem unmin_53 (w : World) : Calls Tryz.prog 173 #[.int .u64 9007199254740992] w fun e w' => e = .returned (.int .u64 36028797018963966) ∧ w = w' := by
 go_enter Tryz.func173, Tryz.ntmps173
 go_wp2
 go_ret
 exact ⟨rfl, rfl⟩
theorem bool2i_any (b : Bool) (w : World) : Calls Tryz.prog 119 #[.bool b] w fun e w' => e = .returned (.int .i64 (if b then 1 else 0)) ∧ w = w' := by
 cases b
 all_goals
  go_enter Tryz.func119, Tryz.ntmps119
  go_wp2
  go_ret
  exact ⟨rfl, rfl⟩
def packB (m : Int) (e : Int) : Int × Bool :=
 if bits .and .u64 m 4503599627370496 = 0 then (m, false)
 else if 972 ≤ e then (bits .or .u64 (bits .and .u64 m 9223372036854775808) 9218868437227405312, true)
 else (bits .or .u64 (bits .andNot .u64 m 4503599627370496) (IntKind.u64.wrap (IntKind.u64.wrap (1075 + e) * 4503599627370496)), false)
def errV (b : Bool) : Value := if b then .iface 106 (.int .i64 1) else .nilIface
set_option maxRecDepth 20000 in
theorem pack_any (m e : Int) (he0 : -5000 ≤ e) (he1 : e ≤ 5000) (w : World) : Calls Tryz.prog 192 #[.int .u64 m, .int .i64 e] w fun e' w' => e' = .returned (.tuple #[.float .f64 (packB m e).1.toNat, errV (packB m e).2]) ∧ w = w' := by
 have hp : packB m e = packB m e := rfl
 conv at hp => rhs; unfold packB
 generalize packB m e = R at *
 by_cases h1 : bits .and .u64 m 4503599627370496 = 0
 ·rw [if_pos h1] at hp
  subst hp
  have h2 : (bits .and .u64 m 4503599627370496 == 0) = true := by simpa using h1
  go_enter Tryz.func192, Tryz.ntmps192
  go_wp2_with (first | (simp only [sfrom_call]) | fail)
  go_returns
  exact ⟨rfl, rfl⟩
 ·rw [if_neg h1] at hp
  have h2 : (bits .and .u64 m 4503599627370496 == 0) = false := by simpa using h1
  by_cases h3 : 972 ≤ e
  ·rw [if_pos h3] at hp
   subst hp
   go_enter Tryz.func192, Tryz.ntmps192
   go_wp2_with (first | (simp only [sfrom_call]) | fail)
   go_returns
   exact ⟨rfl, rfl⟩
  ·rw [if_neg h3] at hp
   subst hp
   go_enter Tryz.func192, Tryz.ntmps192
   go_wp2_with (first | (simp only [sfrom_call]) | fail)
   go_returns
   exact ⟨rfl, rfl⟩
end Go.Proofs.YtnccpddjdgndcaaGreatDoor.Pf
end

section
/- THE TABLE OF TENS AND FRACTIONS: a scaled number is near a whole one only where it is one. No walk. -/
namespace Go.Proofs.YtnccpddjdgndcaaGreatDoor.Nt
open Go.Proofs.YtnccpddjdgndcaaGreatDoor.Fmt
def certs : List (Nat × Nat) := [
 (49862782167533620, 136731968122592083), (79780451468053792, 116786855255578635), (132262837463289352, 23357371051115727), (113634299718216631, 46714742102231454), (64139616728179234, 90649543316656965), (129649106269397185, 18129908663331393), (25929821253879437, 124379277161084446), (122355210375296202, 79813530547426555), (138241307092507966, 15962706109485311), (128724970940635617, 31925412218970622), (19359911744332999, 139243827285766982), (54952641899219595, 142370920619546384), (43962113519375676, 131380392239702465), (35372070142870366, 122790348863197155), (141488280571481464, 24558069772639431), (82325409614103041, 98232279090557724), (56316206005409623, 88129944958318989), (40152471393827647, 136107418522810331), (37022470525562169, 123587415049748419), (88961437240073919, 138503911238698000), (122521309984668638, 116662219487813519), (28019716295046799, 116662219487813519), (10291215656493455, 141828005108426752), (2058243131298691, 143313935386176662), (4116486262597382, 140066948032678043), (107071208869278754, 37069659384249849), (14000309897005781, 134278327639993615), (82856905116021847, 109712570644020570), (104799419244825961, 87770056515216456), (13623490183687604, 131263769933448199), (50775036317327327, 97831148217231565), (89907495604219953, 78264918573785252), (135184555470255695, 44630435738184211), (108147644376204556, 98704257926286489), (66777263915706347, 98704257926286489), (112644365888336971, 84764149964236007), (56209832724975174, 140973982689211181), (16773069642137903, 140973982689211181), (136261483650362009, 102715344366086203), (67923049173855126, 102715344366086203), (95424577085518582, 102715344366086203), (135052561375839539, 46918751570888578), (88133809804950961, 90415287139681439), (126125106528607919, 109410935501509918), (73849882049380369, 80843079990368734), (143503845334167719, 2797279176395346), (117040899608450452, 32057504078507959), (4173677474585315, 143770740814260167), (3338941979668252, 143770740814260167), (116273675167865302, 51458953624596147), (141806740175153787, 89954962940538463), (95454399552015337, 89954962940538463), (132536272050526097, 15791217943516943), (142576676329367206, 15791217943516943), (37990066031983607, 139145003838034986), (70945170915550381, 81015093212384047), (46595071468063695, 137680086977281408), (74552114348901912, 109723044096443191), (97338774138954421, 103530909117698806), (97338774138954421, 102292482121949929), (97338774138954421, 124732461739538118), (97338774138954421, 60850459736048726), (7297662880581139, 141234558616058958), (29190651522324556, 116334659067188923), (34943192422367607, 127839740867275025), (95454333018190219, 51135896346910010), (44318436671280209, 126135870826336225), (94772785001814699, 100908696661068980), (94772785001814699, 80726957328855184), (100391116070998505, 77917791794263281), (118074238222662683, 37761345365863879), (8510309498186985, 142535071965268531), (1702061899637397, 142872302534633606), (6808247598549588, 139889308743212485), (96060337734138377, 68827347339940025), (123591276670114387, 110123755743904040), (79541774372552771, 88099004595123232), (102295913425119694, 125050052477686617), (36367537559534493, 127384093769802185), (72735075119068986, 87321175067455367), (133840355204001451, 110580765135728409), (36071907068109507, 138570443066801227), (128715428404066865, 113143228535695702), (25743085680813373, 143655885973022332), (17606377030859605, 135519177323068564), (3521275406171921, 140651312988675262), (14085101624687684, 135881290026595835), (137869180514708237, 27176258005319167), (122756160004384178, 27176258005319167), (141501741219838839, 54352516010638334), (17429845041840101, 130260838833352831), (97421932642125395, 125124485116890386), (38968773056850158, 113858264534805219), (117515930097699525, 38359162129701107), (94012744078159620, 53215138239862309), (75210195262527696, 109622784686758081), (143537872640209315, 13765035769692154), (14942538758349709, 140005363674236650),
 (42943611493197039, 112004290939389320), (85887222986394078, 87745327868952767), (131473621154042720, 18292307526814029), (141763511976862234, 18292307526814029), (67680789306833311, 104265404360461369), (133166202293497500, 35486926893543497), (115386648269641997, 124240334704485994), (94080055902682397, 102933742337526394), (94080055902682397, 51797920656823354), (94080055902682397, 79070358886531642), (94080055902682397, 82072298289761793), (58849585064193559, 105295011515330027), (58849585064193559, 119545760250780157), (70250184052553663, 94897972151666910), (51270589622220281, 100566165820446775), (91497055950398991, 80452932656357420), (91497055950398991, 64362346125085936), (10853883930125222, 134151634215234483), (130418846607716711, 58002207258143882), (89851749416258803, 107286859482944777), (129279471196099519, 28431415923263345), (106534338457488843, 45490265477221352), (121619683147768156, 136705027838047469), (139909481901210062, 33375143443721219), (131952671587200781, 66750286887442438), (131952671587200781, 132571832462274419), (131952671587200781, 79666931652379379), (89628750939284749, 69705112365474009), (85644023224522601, 69705112365474009), (54574196106523279, 124279308471997288), (97043659205885974, 60626562610103571), (63068088726395818, 89719080857009233), (142126772731159685, 10660396852245366), (74615666786450445, 78171502796954606), (29846266714580178, 141419872236619123), (119385066858320712, 52160987818987967), (107558526462932392, 52160987818987967), (11079507728788885, 142166904903218558), (2215901545757777, 143214522827381048), (4431803091515554, 140719256501846607), (17727212366062216, 131848043641833285), (96836038551162187, 105478434913466628), (15910249165310661, 132780167559678172), (31820498330621322, 119935113518176045), (55807521034256531, 95948090814540836), (134920830620400653, 16056227912113722), (62307867530730319, 126532779179185207), (124615735061460638, 38151538165528019), (134278266807541558, 47814069911608939), (111088190616947350, 135712184337962081), (88870552493557880, 135712184337962081), (71096441994846304, 100163963340538929), (53655929187430729, 100163963340538929), (125915072036104738, 81560749679295649), (118473786571607426, 74119464214798337), (135863446998121322, 20776921214557517), (108365373957098073, 41553842429115034), (98262298317550871, 88159222678003669), (98262298317550871, 101749836957785522), (117217250253014115, 41397442511161139), (93773800202411292, 88284342612366785), (134576994837402513, 70627474089893428), (12789904149501817, 141820950715053725), (105103615040021647, 53943998442014379), (31252646327605783, 122018054785240167), (123813573100349946, 123215066995313353), (99290260922294594, 98691754817258001), (119986221653804743, 79192806295821038), (103668855510611261, 71034123224224297), (125555558343023587, 71034123224224297), (136459845366783445, 49225549176704581), (109167876293426756, 103809487323417959), (133144807140115626, 18618541876680073), (56981631231382265, 131455798738102557), (11396326246276453, 138348102579010826), (45585304985105812, 125678026233779661), (138971492699624991, 43369727240798257), (45142189436244301, 121246870745164551), (90284378872488602, 75584061959812401), (51230563940957921, 99937559978666881), (41489164733416129, 119420358393750465), (41489164733416129, 137025451448416501), (82978329466832258, 112895011206149181), (93590659012335325, 102282681660646114), (18718131802467065, 128358749605578481), (3743626360493413, 142815988733466037), (29949010883947304, 137877087473100867), (99453043616093703, 79110043696398190), (67809026137534427, 131097061094652979), (69617422609700777, 132001259330736154), (66723988254234617, 127661107797536914), (133447976508469234, 64409240769861689), (110461977181772072, 64409240769861689), (31302942718736491, 128818481539723378), (31302942718736491, 121836550863020597), (143808343983906221, 11846133085109523), (143477394591387832, 11846133085109523),
 (54756971705518517, 102141504045956609), (2948975746032170, 143829005298253733), (2359180596825736, 142649414999840865), (42684966580922589, 118618177355464823), (29385668903474731, 141354197420215625), (117542675613898924, 28270839484043125), (142228964440695446, 5654167896808625), (141098130861333721, 4523334317446900), (139288797134354961, 7237334907915040), (142183731097520977, 5789867926332032), (143076131160878429, 23159471705328128), (143076131160878429, 8439928496349319), (133028747620671245, 141468676117020564), (106422998096536996, 61651427544617817), (60477827459382470, 93063941359544399), (48382261967505976, 105159506851420893), (88767068124792545, 72772156504353731), (142027308999668072, 72772156504353731), (70661954098930097, 73475557306161609), (70661954098930097, 87045227484501326), (137847915177618811, 20685700174014511), (44118143174735371, 126860943870793415), (125728195150624118, 25372188774158683), (105656993875331031, 50744377548317366), (134436324892842931, 112471278362037465), (89447813548027945, 89977022689629972), (71558250838422356, 126285357250443177), (136384043906284098, 61459564182581435), (124092131069767811, 49167651346065148), (74924479723702663, 108638034043185302), (73425005506755186, 107138559826237825), (143706038270287789, 21427711965247565), (137418092783842623, 17142169572198052), (99480730760000343, 68568678288792208), (6182410494241627, 138261682281853038), (12364820988483254, 134102505703600613), (142667713398519674, 46604214722293329), (123455013663274405, 46604214722293329), (24691002732654881, 137034853423863554), (24691002732654881, 135306356187155091), (49382005465309762, 118319149579764727), (142378306569675076, 13787428822890993), (114858523684012201, 55149715291563972), (139653865661168344, 79945057268720115), (135406628238640481, 31978022907488046), (84641766881206579, 86540649497491210), (50025507082210095, 119258026680203063), (20010202832884038, 128459937779543917), (110377391707702675, 49704230955369629), (93855187638450699, 99408461910739258), (76194804965218271, 81748079237506830), (141593268355223735, 130796926780010928), (28318653671044747, 126726555725417254), (113274614684178988, 98973810689799793), (11440643195503356, 137884244603206967), (57322521228950119, 126204990904836933), (121581011526062255, 126204990904836933), (116957032147287577, 77572586294412031), (124594660235594874, 77572586294412031), (3294312317590731, 141967923318461138), (66011243816638502, 85839616454594829), (122785913397540569, 104312764926067699), (126480543091835143, 111702024314656847), (126480543091835143, 128131021666716898), (126480543091835143, 127800925951740547), (24767955474404867, 129121308811645951), (96230843378587141, 142925775808364548), (119454381980949827, 37924141647628391), (8721219737138609, 142975346853374955), (120670087060579409, 28595069370674991), (118154163229427631, 115638239398275853), (118154163229427631, 45248926226849630), (127203948474797557, 36199140981479704), (7442610212143378, 141075258819847127), (74292368037082958, 96553331631337681), (10406280888565647, 141075258819847127), (57352638251953237, 88807667647334535), (132466810033373381, 35523067058933814), (134391901673845756, 136316993314318131), (143652846716987137, 1540073312377900), (143960861379462717, 1232058649902320), (143960861379462717, 985646919921856), (50082145746204633, 108049466851784114), (116488860929150071, 66406715182945438), (113223947041801910, 63141801295597277), (131076169520678423, 80994023774473790), (98678560010888907, 64795219019579032), (6776668198261975, 143977516707862553), (10842669117219160, 135845514869948183), (8674135293775328, 142351116340279679), (75310553854442707, 115924566533784102), (42819343710969591, 107801763997915823), (77376180567942002, 107801763997915823), (114411769481113567, 33730586171572693), (142679123100482873, 4102115041035441), (46585130800652515, 109578721765446794), (18634052320261006, 135304208089719061), (74536209281044024, 116504292755196641),
 (76416200814496266, 122144267355553367), (94829081378559765, 70278573959808433), (108210206511232339, 140557147919616866), (134320000727910310, 32346941408384527), (139802941990712775, 32346941408384527), (27960588398142555, 129387765633538108), (11184235359257022, 142879177999042195), (44736941437028088, 106865483114607593), (121785115975568363, 57162649772543989), (2983926572192154, 143608691782699567), (47818868418569699, 131520898966940481), (11950914941467663, 143471813908408144), (90851287399472714, 88473271333338419), (951206426453718, 143178714527569849), (108926424236721885, 71349340922542966), (81147653008867673, 93134625769887343), (90737231217683409, 100326809426499145), (50606507447083751, 130867954988283067), (38744531409437525, 124936966969459954), (132685873251347459, 101690248123797439), (132685873251347459, 107889373149307443), (125985898682709980, 44896423807952453), (100788718946167984, 95290783281036445), (136340682597769890, 19058156656207289), (128130702734423201, 38116313312414578), (86612241846747965, 65853011402910347), (17322448369349593, 142154907026194237), (69289793477398372, 118507712925856731), (142978668010141416, 51417459976130695), (132695176014915277, 41133967980904556), (133487351953334901, 31048519970283323), (0, 0), (0, 0), (0, 0), (0, 0), (0, 0), (0, 0), (0, 0), (0, 0), (0, 0), (0, 0), (0, 0), (0, 0), (0, 0), (0, 0), (0, 0), (0, 0), (0, 0), (0, 0), (0, 0), (0, 0), (0, 0), (0, 0), (0, 0), (0, 0), (0, 0), (0, 0), (0, 0), (0, 0), (0, 0), (0, 0), (0, 0), (0, 0), (0, 0), (0, 0), (0, 0), (0, 0), (0, 0), (0, 0), (0, 0), (0, 0), (0, 0), (0, 0), (0, 0), (0, 0), (0, 0), (0, 0), (0, 0), (0, 0), (0, 0), (0, 0), (0, 0), (0, 0), (127303464845611401, 19878221219133763), (124934648107946413, 54897030182071313), (110927124522771393, 54897030182071313), (77309067918351345, 109794060364142626), (15461813583670269, 136185430896968096), (30923627167340538, 137967965710606691), (123694508669362152, 77071396609866199), (89630984523590531, 86015744928189156), (91077080361751081, 88184888685429981), (89341765355958421, 87028012014901541), (89804516024169797, 86102510678478789), (37402608547944322, 123505119226423111), (79324134528924702, 123505119226423111), (45786913744140398, 111255426267067017), (122982295490522279, 62816936004482966), (99976782303484015, 51314179410963834), (79981425842787212, 122623715282624471), (46928224898294866, 136498739236426991), (64842327765921291, 136498739236426991), (107836174648224711, 114650258352809120), (39046019636539239, 130766226318786535), (130030833282399649, 26153245263757307), (124358948407816056, 26153245263757307), (96819420837889575, 52306490527514614), (19363884167577915, 131770425439746796), (15491107334062332, 135739215373479353), (107701601211819997, 45737171875570669), (107701601211819997, 79670377985184534), (134848166099511089, 52523813097493442), (140808274080415930, 58483921078398283), (112646619264332744, 58483921078398283), (125207648058505165, 58483921078398283), (100166118446804132, 91926312545095533), (138584604645184065, 15089340148335667), (27716920929036813, 143508123380453107), (97811507850424910, 61961929790934797), (101086532931104761, 123923859581869594), (67166830354424909, 90004157005189742), (112034393897232821, 134871720547997654), (98762445778092190, 121599772428857023), (79009956622473752, 141352261584475461), (131480781600006997, 21603391652706275), (131480781600006997, 17282713322165020), (141850409593306009, 13826170657732016), (121058289466086847, 117575314731343274), (96150036625920763, 92667061891177190), (77616624247685325, 74133649512941752), (124186598796296520, 120703624061552947), (99349279037037216, 95866304302293643), (58912972475273615, 132819636129313671), (94260755960437784, 132819636129313671), (143105433502925277, 90832156835900582), (143105433502925277, 101286812169305521), (77499535835031215, 95149105337097224), (61999628668024972, 110649012504103467), (104539503801618546, 71729505435240671),
 (111101503474894121, 58605506088689521), (111101503474894121, 69104705565930441), (94302784311308649, 60705345984137705), (94302784311308649, 97128553574620328), (112598187320908043, 39416575282510467), (121611810082734808, 39416575282510467), (132184792527399627, 32205677073049055), (106420250868960383, 51529083316878488), (114036400144173355, 92079933123340597), (91229120115338684, 137694493181009939), (63349896275935931, 137694493181009939), (103558774167325105, 57276737398231591), (20711754833465021, 125548175425601259), (115730297782441891, 49963740885278277), (43131555910599689, 113591851719913730), (106676297387816321, 65849926254582435), (80336326885983347, 105359882007331896), (133542834041843065, 79283194581595807), (106834267233474452, 79283194581595807), (112344481763850181, 68262765520844349), (3980133393033463, 140505664434722161), (56998292452495557, 106036318118924188), (113996584904991114, 73429396004640239), (138336898245201639, 105883147124920939), (125355397797089359, 99392396900864799), (120162797617844447, 78621996183885151), (120162797617844447, 134995275517814789), (120162797617844447, 35898541843545163), (26525993941010681, 143594167374180652), (26525993941010681, 125485731475748794), (136506320847394619, 30402345083351895), (138633859272663083, 12160938033340758), (98260212447909013, 48643752133363032), (29380792916254409, 135813422700943310), (58761585832508818, 142467747829140551), (140824281293648066, 4988915232824583), (137150139289217471, 9977830465649166), (35412292230362827, 110735906323322318), (35412292230362827, 127600240994807751), (35412292230362827, 123327568134063897), (123819931871828695, 105990694822206082), (134714419596708182, 31698735699108865), (141054166736529955, 25358988559287092), (53569821906593083, 101435954237148368), (78419964414852995, 116712870279297223), (31367985765941198, 123637790377800253), (112557918220195405, 99643893376626018), (22511583644039081, 121803637691835714), (45023167288078162, 125260839466467161), (133107769384681021, 86122869617049394), (46984899767631627, 128399611433752705), (136579754497025426, 25679922286750541), (124899655589057141, 102719689147002164), (33851917694633419, 127227527715260955), (135407670778533676, 93149340932319029), (45711402342170541, 144040352018423411), (117468417091261049, 130754384554842230), (117468417091261049, 104603507643873784), (2572981889477453, 143104968401407665), (90372559027740405, 69788703911920781), (18074511805548081, 134558721203298476), (18074511805548081, 129336391129296478), (18074511805548081, 138255080945791657), (18074511805548081, 135908381284400639), (18074511805548081, 141260826277507057), (36149023611096162, 132417280094304763), (79605335832240255, 69862284352176347), (133546553017968551, 69862284352176347), (54654224344464249, 115486464375312641), (88682362088419627, 94860377774803770), (139420573066917746, 107654437643380381), (6353227084707473, 138369304676977766), (25412908338829892, 132857092304222277), (123140470148398045, 21488836793078477), (70745024852437695, 113722698438594649), (28298009940975078, 129463679433165199), (113192039763900312, 93807959744973227), (109315223760114895, 93807959744973227), (87452179008091916, 122026785233877517), (21151029112922526, 143177814346800043), (74191949029058038, 143177814346800043), (138228881135367071, 13797173063548401), (140936885648100139, 13797173063548401), (130879488802401421, 27594346127096802), (56452216379763411, 92402328465512609), (119083635876220816, 62631419496457405), (138124878224013277, 12526283899291481), (97772165480834949, 100210271194331848), (116838977434302559, 40571729620432119), (116838977434302559, 55825179183206207), (59976074437518323, 111650358366412414), (13655572989228511, 130659713836245204), (141211464052198273, 28863057365094743), (118741782714777567, 28863057365094743), (30178878666854181, 115452229460378972), (134612213701899031, 104433335035044850), (134612213701899031, 83546668028035880),
 (117902880096291855, 133674668844857408), (23580576019258371, 133828883052037325), (94322304077033484, 73926928648924207), (83615993432870498, 84633239293087193), (144035548698916688, 203449172043339), (67177623587157073, 135169043862487502), (93885913684385231, 67991420275330429), (93885913684385231, 129501867167772528), (60862349554153266, 96478303037540563), (34443498249967694, 122897154341726135), (59022929118312921, 98317723473380908), (114067936249692479, 55045007131379558), (142450614281337683, 44831590102490319), (100220667020252047, 79105693389709229), (24267128130158973, 133944258649259485), (48534256260317946, 131422535049566561), (127826402009872892, 16577655757849723), (119797746176333015, 62036123069243969), (47919098470533206, 128346746100642861), (143419805304067031, 16085529526021931), (41552384681630951, 105894502785718675), (102672837055092599, 42357801114287470), (119615957500807587, 33886240891429976), (98878567213628533, 78141176926449479), (110359324541482618, 78141176926449479), (32218147615033139, 137913142128332422), (113157922558392619, 48721627328326341), (129503639909375168, 16345717350982549), (126486916218875703, 32691434701965098), (37518192606764242, 121660158314076559), (140748015806947353, 9324754620109615), (143154989496025403, 1864950924021923), (140438807009787927, 3729901848043846), (112383543167748505, 127303150559923889), (22476708633549701, 141833567770952773), (89906834534198804, 82310814274709837), (127388772399776119, 104849793337242978), (67417671814852415, 97203956734567259), (53934137451881932, 124171025460508225), (136968207263544151, 78768342543983577), (136968207263544151, 98635706617664893), (50393141840236385, 98635706617664893), (20157256736094554, 126721014658998847), (73721619098426699, 133628422504950364), (49758897735817233, 97684340461036165), (119054663563841699, 39073736184414466), (31625679949651233, 122835809777408330), (63251359899302466, 144011363759917031), (142654720570727845, 32304001544245826), (117896833886682533, 125442948746883047), (138457754719938834, 28107035693456815), (144079161858630197, 22485628554765452), (144079161858630197, 93608670431076802), (123890965287608839, 83514572145566123), (131413886743721244, 58184021915748217), (64202359080638141, 116368043831496434), (20062476413995537, 124393845915712123), (77845005345878601, 115565057863766128), (125032988615426471, 30657022076330731), (68407408691969027, 122628088305322924), (136814817383938054, 62732717060522975), (135617657234725563, 25093086824209190), (110524570410516373, 40148938918734704), (6045338514609393, 142459740131110637), (142985416975013596, 65447369972897405), (77538047002116191, 104715791956635848), (25579669809942545, 131094499338866949), (5115933961988509, 140682950206329621), (40927471695908072, 116130654187468279), (95565227710076998, 61492898173299353), (88750761802721469, 61492898173299353), (84694623259728070, 118929657803605307), (67755698607782456, 85051808499714079), (74388394372566298, 98317200029281763), (143991027613789503, 19143044525372372), (130507257711329500, 117023487808869497), (104405806169063600, 117023487808869497), (133550446996883143, 33498842873618617), (133639431896401408, 33498842873618617), (33427654954004005, 133995371494474468), (13371061981601602, 141535157520650613), (53484247926406408, 97836553808458453), (142973302294342360, 8870461176410409), (140990025364705115, 8870461176410409), (130532942644584910, 83007393675113273), (104426354115667928, 83007393675113273), (108710146203778859, 91574977851335135), (72080155063244805, 74439809498891411), (28832062025297922, 134463587985133861), (115328248101191688, 38425542407145941), (115317923925240915, 76851084814291882), (92254339140192732, 53787500029243699), (26144235650228353, 133719235708715751), (137149248364217030, 101146929945412133), (109719398691373624, 128576779618255539), (140930976120760239, 3771476185376383), (143271380952011233, 3771476185376383), (137272790329242077, 15085904741505532),
 (88398036094147459, 79046563718105682), (60519999557321897, 116276072630973021), (121039999114643794, 34406429140924829), (120793000266081037, 86139572276593451), (128316483100529171, 20594457714842346), (21544405077137365, 125466641013644114), (138393284059926533, 121157759998216641), (137884192493679136, 13890237562617393), (143643924145225052, 13890237562617393), (122300972149940253, 59287307466803275), (114169867872913301, 47429845973442620), (133141806262290349, 37943876778754096), (34217136608208889, 117558370506807495), (91945947317779277, 94046696405445996), (36358229109578367, 113276185504068539), (80828403676139095, 97052294590103817), (64662722940911276, 97052294590103817), (6454630258343747, 142933228543352882), (91842022240439297, 66023501207064309), (23532108654762857, 132047002414128618), (15948395095747419, 140411683950860599), (90626368408815327, 99570631084090544), (139635631848939393, 74289947262107305), (109919652944096471, 118863915619371688), (109919652944096471, 51123271317858762), (134972827656267344, 42433239115962799), (103374395939986507, 132717121047729378), (65093881687343483, 94436606795086354), (130187763374686966, 24755866380565845), (105431896994121121, 39609386208905352), (36930133882386365, 121507410953235043), (29544107105909092, 136279464506189589), (143723356494027050, 15438250058874281), (103804092774233663, 134680592891982225), (49931855617440773, 107744474313585780), (93029645342875085, 79361513558862163), (37211858137150034, 140117098049149309), (53842668291900213, 95004764256699923), (107685336583800426, 86772345063739981), (95137541671764159, 78407148455715803), (123154322410840809, 78407148455715803), (78327473228318169, 111987447728908966), (76125968382890854, 109785942883481651), (77887172259232706, 113308350636165355), (55225502131999635, 90646680508932284), (101691780935332211, 115022758459465006), (142813768763499503, 2666195504826559), (141979448260995816, 2666195504826559), (121846949622166366, 71588256830389419), (38687041290511157, 131604862159513048), (120689784472039787, 34058380690004841), (21029209236812042, 125718918141613343), (100757669424994238, 109078085663867273), (102421752672768845, 109078085663867273), (13828017543455341, 136218769189519470), (68315525219263129, 108975015351615576), (68315525219263129, 141832432456702964), (38908762324287195, 117627051579903736), (31127009859429756, 125408804044761175), (56208770668381991, 100327043235808940), (116404996609867355, 44118272567426949), (23280999321973471, 129911091625760854), (23280999321973471, 122553672758187460), (91894262058229863, 94353732517557905), (129635755065253025, 75482986014046324), (103708604052202420, 49555835000995719), (12669327430325733, 140595111622872406), (35720618782769921, 127925784192546673), (35720618782769921, 123772998623699291)]
def pm (i : Nat) : Nat := hiT i * 18446744073709551616 - loT i
def pw2 (e : Int) : Nat := 2 ^ (e + 2000).toNat
def pw10 (p : Int) : Nat := 10 ^ (p + 400).toNat
def gT (i : Nat) : Nat := pw2 0 * pw10 ((i : Int) - 348)
def kT (i : Nat) : Nat := pw2 (lg2 ((i : Int) - 348) - 127) * pw10 0
def chk (i : Nat) : Bool :=
 if 324 ≤ i ∧ i ≤ 375 then decide (288230376151711744 * kT i ≤ Nat.gcd (gT i) (85070591730234615865843651857942052864 * kT i))
 else
  let y := certs.getD i (0, 0)
  let p := pm i
  let n1 := y.1 * p / 85070591730234615865843651857942052864
  let n2 := y.2 * p / 85070591730234615865843651857942052864 + 1
  decide (n2 * y.1 = n1 * y.2 + 1) && (decide (144115188075855872 ≤ y.1 + y.2) && (decide (n1 * 85070591730234615865843651857942052864 + 144115188075855872 < y.1 * p) && decide (y.2 * p + 144115188075855872 ≤ n2 * 85070591730234615865843651857942052864)))
theorem chk_all : ∀ i, i < 696 → chk i = true := by decide +kernel
theorem pm_near : ∀ i, i < 696 → gT i ≤ pm i * kT i ∧ pm i * kT i < gT i + kT i := by decide +kernel
theorem lo_lt : ∀ i, i < 696 → loT i < 18446744073709551616 := by decide +kernel
end Go.Proofs.YtnccpddjdgndcaaGreatDoor.Nt
end

section
/- A SCALED NUMBER TELLS ON WHICH SIDE OF A QUARTER THE EXACT ONE STANDS. No walk. -/
namespace Go.Proofs.YtnccpddjdgndcaaGreatDoor.Nt
open Go.Proofs.YtnccpddjdgndcaaGreatDoor.Fmt
theorem apart_int (P T W Y n1 y1 n2 y2 y n : Int) (hdet : n2 * y1 = n1 * y2 + 1) (hY : Y ≤ y1 + y2) (h1 : n1 * T + W < y1 * P) (h2 : y2 * P + W ≤ n2 * T) (_hW : 0 ≤ W)
  (hp1 : 0 ≤ y1) (hp2 : 0 ≤ y2) (hy0 : 1 ≤ y) (hy : y < Y) (ha : n * T < y * P + W) (hb : y * P ≤ n * T + W) : False := by
 obtain ⟨α, hα⟩ : ∃ α, α = y * n2 - n * y2 := ⟨_, rfl⟩
 obtain ⟨β, hβ⟩ : ∃ β, β = n * y1 - y * n1 := ⟨_, rfl⟩
 have e1 : α * y1 + β * y2 = y := by subst hα hβ; grind
 have e2 : α * (y1 * P - n1 * T) - β * (n2 * T - y2 * P) = y * P - n * T := by subst hα hβ; grind
 have g1 : W < y1 * P - n1 * T := by omega
 have g2 : W ≤ n2 * T - y2 * P := by omega
 clear hα hβ h1 h2 hdet
 generalize y1 * P - n1 * T = E1 at *
 generalize n2 * T - y2 * P = E2 at *
 rcases Int.lt_or_le 0 α with a | a <;> rcases Int.lt_or_le 0 β with b | b
 ·have := Int.mul_le_mul_of_nonneg_right (show 1 ≤ α by omega) hp1
  have := Int.mul_le_mul_of_nonneg_right (show 1 ≤ β by omega) hp2
  omega
 ·have i1 := Int.mul_le_mul_of_nonneg_right (show 1 ≤ α by omega) (show 0 ≤ E1 by omega)
  have i2 := Int.mul_le_mul_of_nonneg_right b (show 0 ≤ E2 by omega)
  omega
 ·have i1 := Int.mul_le_mul_of_nonneg_right (show 1 ≤ β by omega) (show 0 ≤ E2 by omega)
  have i2 := Int.mul_le_mul_of_nonneg_right a (show 0 ≤ E1 by omega)
  omega
 ·have i1 := Int.mul_le_mul_of_nonneg_right a hp1
  have i2 := Int.mul_le_mul_of_nonneg_right b hp2
  omega
theorem apart (P T W Y n1 y1 n2 y2 y n : Nat) (hdet : n2 * y1 = n1 * y2 + 1) (hY : Y ≤ y1 + y2) (h1 : n1 * T + W < y1 * P) (h2 : y2 * P + W ≤ n2 * T)
  (hy0 : 1 ≤ y) (hy : y < Y) (ha : n * T < y * P + W) (hb : y * P ≤ n * T + W) : False :=
 apart_int P T W Y n1 y1 n2 y2 y n (by exact_mod_cast hdet) (by exact_mod_cast hY) (by exact_mod_cast h1) (by exact_mod_cast h2) (by omega) (by omega) (by omega) (by omega) (by omega) (by exact_mod_cast ha) (by exact_mod_cast hb)
theorem mult_eq (c a b x y : Nat) (hx : x = c * a) (hy : y = c * b) (h1 : x < y + c) (h2 : y < x + c) : x = y := by
 have a1 : a < b + 1 := Nat.lt_of_mul_lt_mul_left (a := c) (by rw [Nat.mul_add]; omega)
 have a2 : b < a + 1 := Nat.lt_of_mul_lt_mul_left (a := c) (by rw [Nat.mul_add]; omega)
 have : a = b := by omega
 rw [hx, hy, this]
theorem near (i : Nat) (hi : i < 696) (y n : Nat) (hy0 : 1 ≤ y) (hy : y < 144115188075855872)
  (ha : n * 85070591730234615865843651857942052864 < y * pm i + 144115188075855872) (hb : y * pm i ≤ n * 85070591730234615865843651857942052864 + 144115188075855872) :
  y * gT i = n * 85070591730234615865843651857942052864 * kT i := by
 have hc := chk_all i hi
 obtain ⟨p1, p2⟩ := pm_near i hi
 unfold chk at hc
 split at hc
 ·have hg := of_decide_eq_true hc
  have hk : 0 < kT i := by omega
  obtain ⟨a0, ea⟩ := Nat.gcd_dvd_left (gT i) (85070591730234615865843651857942052864 * kT i)
  obtain ⟨b0, eb⟩ := Nat.gcd_dvd_right (gT i) (85070591730234615865843651857942052864 * kT i)
  generalize Nat.gcd (gT i) (85070591730234615865843651857942052864 * kT i) = c at *
  generalize pm i = P at *
  generalize gT i = G at *
  generalize kT i = K at *
  have ha' := Nat.mul_lt_mul_of_pos_right ha hk
  have hb' := Nat.mul_le_mul_right K hb
  have e3 := Nat.mul_le_mul_left y (Nat.le_of_lt p2)
  have e4 := Nat.mul_le_mul_left y p1
  have e5 : y * K ≤ 144115188075855872 * K := Nat.mul_le_mul_right K (Nat.le_of_lt hy)
  have e6 : y * K < 144115188075855872 * K := Nat.mul_lt_mul_of_pos_right hy hk
  refine mult_eq c (y * a0) (n * b0) _ _ ?_ ?_ ?_ ?_
  ·rw [ea]; grind
  ·rw [Nat.mul_assoc, eb]; grind
  ·grind
  ·grind
 ·exfalso
  simp only [Bool.and_eq_true, decide_eq_true_eq] at hc
  obtain ⟨c1, c2, c3, c4⟩ := hc
  exact apart _ _ _ _ _ _ _ _ y n c1 c2 c3 c4 hy0 hy ha hb
end Go.Proofs.YtnccpddjdgndcaaGreatDoor.Nt
end

section
/- usc GIVES THE EXACT NUMBER, UNROUNDED. No walk. -/
namespace Go.Proofs.YtnccpddjdgndcaaGreatDoor.Nt
open Go.Proofs.YtnccpddjdgndcaaGreatDoor.Fmt
def Unr (U N D : Nat) : Prop := (U % 2 = 0 → N = U * D) ∧ (U % 2 = 1 → (U - 1) * D < N ∧ N < (U + 1) * D)
theorem or1 (a : Nat) : a ||| 1 = 2 * (a / 2) + 1 := by
 have h1 : (a ||| 1) / 2 = a / 2 := by rw [Nat.or_div_two]; exact Nat.or_zero _
 have h2 : (a ||| 1) % 2 = 1 := Nat.or_mod_two_eq_one.2 (Or.inr rfl)
 omega
theorem unr_or (h N D : Nat) (h1 : h * D < N) (h2 : N < (h + 1) * D) : Unr (h ||| 1) N D := by
 rw [or1]
 refine ⟨fun e => by omega, fun _ => ?_⟩
 have a1 : (2 * (h / 2) + 1 - 1) * D ≤ h * D := Nat.mul_le_mul_right D (by omega)
 have a2 : (h + 1) * D ≤ (2 * (h / 2) + 1 + 1) * D := Nat.mul_le_mul_right D (by omega)
 exact ⟨Nat.lt_of_le_of_lt a1 h1, Nat.lt_of_lt_of_le h2 a2⟩
theorem unr_eq (h N D : Nat) (h0 : 0 < D) (h1 : N = h * D) : Unr h N D := by
 refine ⟨fun _ => h1, fun e => ?_⟩
 rw [h1]
 exact ⟨Nat.mul_lt_mul_of_pos_right (by omega) h0, Nat.mul_lt_mul_of_pos_right (by omega) h0⟩
theorem lower (L A x G K : Nat) (h1 : L + 18446744073709551616 ≤ A) (h2 : A * K < x * G + x * K) (hx : x < 18446744073709551616) : L * K < x * G := by
 have a := Nat.mul_le_mul_right K h1
 have b := Nat.mul_le_mul_right K (Nat.le_of_lt hx)
 rw [Nat.add_mul] at a
 omega
theorem upper (B A x G K : Nat) (h1 : A < B) (h2 : x * G ≤ A * K) (hK : 0 < K) : x * G < B * K :=
 Nat.lt_of_le_of_lt h2 (Nat.mul_lt_mul_of_pos_right h1 hK)
theorem usc_unr (i : Nat) (hi : i < 696) (x y S : Nat) (hxy : x = 128 * y) (hx0 : 4611686018427387904 ≤ x) (hx : x < 18446744073709551616) (hS : 5 ≤ S) :
  Unr (usc x (hiT i) (loT i) S) (x * gT i) (2 ^ S * 340282366920938463463374607431768211456 * kT i) := by
 obtain ⟨hh1, hh2⟩ := hiT_big i hi
 have hlo := lo_lt i hi
 obtain ⟨p1, p2⟩ := pm_near i hi
 have hnear := near i hi y
 have hK : 0 < kT i := by omega
 have hP : pm i = hiT i * 18446744073709551616 - loT i := rfl
 have hP2 : pm i + loT i = hiT i * 18446744073709551616 := by omega
 unfold usc
 generalize hiT i = hi at *
 generalize loT i = lo at *
 generalize gT i = G at *
 generalize kT i = K at *
 clear hP
 generalize pm i = P at *
 obtain ⟨H, hH⟩ : ∃ H, x * hi / 18446744073709551616 = H := ⟨_, rfl⟩
 obtain ⟨mid, hm⟩ : ∃ H, x * hi % 18446744073709551616 = H := ⟨_, rfl⟩
 obtain ⟨m2, hm2⟩ : ∃ H, x * lo / 18446744073709551616 = H := ⟨_, rfl⟩
 obtain ⟨r2, hr2⟩ : ∃ H, x * lo % 18446744073709551616 = H := ⟨_, rfl⟩
 have f1 : x * hi = H * 18446744073709551616 + mid := by omega
 have f2 : x * lo = m2 * 18446744073709551616 + r2 := by omega
 have f3 : x * P + x * lo = x * hi * 18446744073709551616 := by rw [← Nat.mul_add, hP2, Nat.mul_assoc]
 obtain ⟨A, hA⟩ : ∃ A, x * P = A := ⟨_, rfl⟩
 have g1 : x * G ≤ A * K := by rw [← hA, Nat.mul_assoc]; exact Nat.mul_le_mul_left x p1
 have g2 : A * K < x * G + x * K := by rw [← hA, Nat.mul_assoc, ← Nat.mul_add]; exact Nat.mul_lt_mul_of_pos_left p2 (by omega)
 have m2b : m2 < 18446744073709551615 := by
  have : x * lo < 18446744073709551615 * 18446744073709551616 := by
   have a1 : x * lo ≤ 18446744073709551615 * lo := Nat.mul_le_mul_right lo (by omega)
   have a2 : 18446744073709551615 * lo < 18446744073709551615 * 18446744073709551616 := by omega
   omega
  omega
 have hHb : 2305843009213693952 ≤ H := by
  have := Nat.mul_le_mul hx0 hh1
  omega
 have hHt : H < 18446744073709551616 := by
  have := Nat.mul_lt_mul'' hx hh2
  omega
 have midb : mid < 18446744073709551616 := by omega
 have r2b : r2 < 18446744073709551616 := by omega
 have f4 : A + m2 * 18446744073709551616 + r2 = H * 340282366920938463463374607431768211456 + mid * 18446744073709551616 := by omega
 rw [hH, hm, hm2]
 obtain ⟨q, hq⟩ : ∃ q, 2 ^ S = q := ⟨_, rfl⟩
 have hq0 : 0 < q := by rw [← hq]; exact Nat.two_pow_pos S
 rw [hq]
 obtain ⟨h, hh⟩ : ∃ h, H / q = h := ⟨_, rfl⟩
 obtain ⟨g, hg⟩ : ∃ g, H % q = g := ⟨_, rfl⟩
 have hdm : h * q + g = H := by rw [← hh, ← hg, Nat.mul_comm]; exact Nat.div_add_mod H q
 have hgq : g < q := by rw [← hg]; exact Nat.mod_lt _ hq0
 have hDp : 0 < q * 340282366920938463463374607431768211456 * K := Nat.mul_pos (Nat.mul_pos hq0 (by decide)) hK
 have hL : ∀ z, z * (q * 340282366920938463463374607431768211456 * K) = (z * q * 340282366920938463463374607431768211456) * K := by intro z; simp only [Nat.mul_assoc]
 rw [hh]
 by_cases c1 : h * q = H
 ·rw [if_neg (by omega)]
  have hg0 : g = 0 := by omega
  by_cases c2 : mid < m2
  ·-- one less
   rw [if_pos c2]
   have e1 : (mid + 18446744073709551616 - m2) % 18446744073709551616 = mid + 18446744073709551616 - m2 := Nat.mod_eq_of_lt (by omega)
   have e2 : (H + 18446744073709551616 - 1) % 18446744073709551616 = H - 1 := by omega
   rw [e1, if_pos (by omega), e2]
   have hh1 : 1 ≤ h := by
    rcases Nat.eq_zero_or_pos h with z | z
    ·rw [z] at c1; omega
    ·exact z
   obtain ⟨k, rfl⟩ : ∃ k, h = k + 1 := ⟨h - 1, by omega⟩
   have e3 : (H - 1) / q = k := by
    rw [Nat.div_eq_iff hq0]
    rw [Nat.add_mul] at c1
    omega
   rw [e3]
   rw [Nat.add_mul] at c1
   refine unr_or k _ _ ?_ ?_
   ·rw [hL]; exact lower _ A x G K (by omega) g2 hx
   ·rw [hL]; exact upper _ A x G K (by rw [Nat.add_mul]; omega) g1 hK
  ·rw [if_neg c2]
   have e2 : (H + 18446744073709551616 - 0) % 18446744073709551616 = H := by omega
   have e1 : (mid + 18446744073709551616 - m2) % 18446744073709551616 = mid - m2 := by omega
   rw [e2, e1, hh]
   by_cases c3 : 1 < mid - m2
   ·rw [if_pos c3]
    refine unr_or h _ _ ?_ ?_
    ·rw [hL]; exact lower _ A x G K (by omega) g2 hx
    ·rw [hL]; exact upper _ A x G K (by rw [Nat.add_mul]; omega) g1 hK
   ·rw [if_neg c3, Nat.or_zero]
    refine unr_eq h _ _ hDp ?_
    obtain ⟨T, rfl⟩ : ∃ T, S = T + 5 := ⟨S - 5, by omega⟩
    have hqT : q = 2 ^ T * 32 := by rw [← hq, Nat.pow_add]
    have hyp : x * P = 128 * (y * P) := by rw [hxy, Nat.mul_assoc]
    have hn : h * q = (h * 2 ^ T) * 32 := by rw [hqT, Nat.mul_assoc]
    have := hnear (h * 2 ^ T) (by omega) (by omega) (by omega) (by omega)
    rw [hL, hn, hxy, Nat.mul_assoc, this]
    generalize h * 2 ^ T = n
    grind
 ·rw [if_pos (by omega)]
  refine unr_or h _ _ ?_ ?_
  ·rw [hL]; exact lower _ A x G K (by omega) g2 hx
  ·rw [hL]; exact upper _ A x G K (by rw [Nat.add_mul]; omega) g1 hK
end Go.Proofs.YtnccpddjdgndcaaGreatDoor.Nt
end

section
/- THE SHORTEST DECIMAL LIES WHERE THE NUMBER IS THE NEAREST ONE. No walk. -/
namespace Go.Proofs.YtnccpddjdgndcaaGreatDoor.Nt
open Go.Proofs.YtnccpddjdgndcaaGreatDoor.Fmt
theorem pw2_pos (e : Int) : 0 < pw2 e := Nat.two_pow_pos _
theorem pw10_pos (e : Int) : 0 < pw10 e := Nat.pow_pos (by decide)
theorem pw2_add (a b c d : Int) (h : a + b = c + d) (ha : -2000 ≤ a) (hb : -2000 ≤ b) (hc : -2000 ≤ c) (hd : -2000 ≤ d) : pw2 a * pw2 b = pw2 c * pw2 d := by
 unfold pw2
 rw [← Nat.pow_add, ← Nat.pow_add]
 congr 1
 omega
theorem pw10_add (a b c d : Int) (h : a + b = c + d) (ha : -400 ≤ a) (hb : -400 ≤ b) (hc : -400 ≤ c) (hd : -400 ≤ d) : pw10 a * pw10 b = pw10 c * pw10 d := by
 unfold pw10
 rw [← Nat.pow_add, ← Nat.pow_add]
 congr 1
 omega
theorem pw2_step (e f : Int) (k : Nat) (h : f = e + k) (he : -2000 ≤ e) : pw2 f = pw2 e * 2 ^ k := by
 unfold pw2
 rw [← Nat.pow_add]
 congr 1
 omega
theorem pw10_step (e f : Int) (k : Nat) (h : f = e + k) (he : -400 ≤ e) : pw10 f = pw10 e * 10 ^ k := by
 unfold pw10
 rw [← Nat.pow_add]
 congr 1
 omega
theorem gT_eq (i : Nat) (p : Int) (h : p = (i : Int) - 348) : gT i = pw2 0 * pw10 p := by unfold gT; rw [h]
theorem kT_eq (i : Nat) (p : Int) (h : p = (i : Int) - 348) : kT i = pw2 (lg2 p - 127) * pw10 0 := by unfold kT; rw [h]
theorem Unr.le {U N D k : Nat} (h : Unr U N D) (h0 : 0 < D) (hk : k % 2 = 0) : k * D ≤ N ↔ k ≤ U := by
 obtain ⟨a, b⟩ := h
 rcases Nat.mod_two_eq_zero_or_one U with e | e
 ·rw [a e]; exact Nat.mul_le_mul_right_iff h0
 ·obtain ⟨b1, b2⟩ := b e
  constructor
  ·intro h
   have := Nat.lt_of_mul_lt_mul_right (Nat.lt_of_le_of_lt h b2)
   omega
  ·intro h
   have := Nat.mul_le_mul_right D (show k ≤ U - 1 by omega)
   omega
theorem Unr.ge {U N D k : Nat} (h : Unr U N D) (h0 : 0 < D) (hk : k % 2 = 0) : N ≤ k * D ↔ U ≤ k := by
 obtain ⟨a, b⟩ := h
 rcases Nat.mod_two_eq_zero_or_one U with e | e
 ·rw [a e]; exact Nat.mul_le_mul_right_iff h0
 ·obtain ⟨b1, b2⟩ := b e
  constructor
  ·intro h
   have := Nat.lt_of_mul_lt_mul_right (Nat.lt_of_lt_of_le b1 h)
   omega
  ·intro h
   have := Nat.mul_le_mul_right D (show U + 1 ≤ k by omega)
   omega
theorem Unr.lt {U N D k : Nat} (h : Unr U N D) (h0 : 0 < D) (hk : k % 2 = 0) : k * D < N ↔ k < U := by
 have := h.ge h0 hk
 omega
theorem Unr.gt {U N D k : Nat} (h : Unr U N D) (h0 : 0 < D) (hk : k % 2 = 0) : N < k * D ↔ U < k := by
 have := h.le h0 hk
 omega
theorem le_turn {L R L' R' X Z : Nat} (hX : 0 < X) (hZ : 0 < Z) (h1 : L * X = L' * Z) (h2 : R * X = R' * Z) : (L ≤ R ↔ L' ≤ R') ∧ (L < R ↔ L' < R') := by
 have a1 : L * X ≤ R * X ↔ L ≤ R := Nat.mul_le_mul_right_iff hX
 have a2 : L' * Z ≤ R' * Z ↔ L' ≤ R' := Nat.mul_le_mul_right_iff hZ
 have a3 : L * X < R * X ↔ L < R := Nat.mul_lt_mul_right hX
 have a4 : L' * Z < R' * Z ↔ L' < R' := Nat.mul_lt_mul_right hZ
 rw [h1, h2] at a1 a3
 exact ⟨a1.symm.trans a2, a3.symm.trans a4⟩
def dT (i S : Nat) : Nat := 2 ^ S * 340282366920938463463374607431768211456 * kT i
theorem dT_pos (i S : Nat) (hi : i < 696) : 0 < dT i S := by
 have := pm_near i hi
 have hk : 0 < kT i := by omega
 exact Nat.mul_pos (Nat.mul_pos (Nat.two_pow_pos _) (by decide)) hk
theorem dT_eq (i S : Nat) (p E : Int) (hp : p = (i : Int) - 348) (hS : (S : Int) = -(E + lg2 p + 3)) (hl : -1800 ≤ lg2 p) : dT i S * 4 = pw2 (-E) * pw10 0 := by
 unfold dT
 rw [kT_eq i p hp, show (340282366920938463463374607431768211456 : Nat) = 2 ^ 128 by decide]
 rw [show 2 ^ S * 2 ^ 128 * (pw2 (lg2 p - 127) * pw10 0) * 4 = (pw2 (lg2 p - 127) * (2 ^ S * 2 ^ 128 * 2 ^ 2)) * pw10 0 by grind]
 rw [← Nat.pow_add, ← Nat.pow_add, ← pw2_step (lg2 p - 127) (-E) (S + 128 + 2) (by omega) (by omega)]
theorem turn (i S : Nat) (x c : Nat) (p E : Int) (hp : p = (i : Int) - 348) (hi : i < 696) (hS : (S : Int) = -(E + lg2 p + 3)) (hE : E ≤ 1500) (hE2 : -1500 ≤ E) (hl : -1800 ≤ lg2 p) :
  (x * gT i ≤ 4 * c * dT i S ↔ x * pw2 E * pw10 0 ≤ c * pw2 0 * pw10 (-p)) ∧ (x * gT i < 4 * c * dT i S ↔ x * pw2 E * pw10 0 < c * pw2 0 * pw10 (-p)) ∧
  (4 * c * dT i S ≤ x * gT i ↔ c * pw2 0 * pw10 (-p) ≤ x * pw2 E * pw10 0) ∧ (4 * c * dT i S < x * gT i ↔ c * pw2 0 * pw10 (-p) < x * pw2 E * pw10 0) := by
 have e1 : 4 * c * dT i S = c * (dT i S * 4) := by grind
 rw [e1, dT_eq i S p E hp hS hl, gT_eq i p hp]
 have q1 := pw2_add (-E) E 0 0 (by omega) (by omega) (by omega) (by omega) (by omega)
 have q2 := pw10_add (-p) p 0 0 (by omega) (by omega) (by omega) (by omega) (by omega)
 have X := Nat.mul_pos (pw2_pos E) (pw10_pos (-p))
 have Z := Nat.mul_pos (pw2_pos 0) (pw10_pos 0)
 have h1 : x * (pw2 0 * pw10 p) * (pw2 E * pw10 (-p)) = x * pw2 E * pw10 0 * (pw2 0 * pw10 0) := by
  rw [show x * (pw2 0 * pw10 p) * (pw2 E * pw10 (-p)) = x * pw2 0 * pw2 E * (pw10 (-p) * pw10 p) by grind, q2]; grind
 have h2 : c * (pw2 (-E) * pw10 0) * (pw2 E * pw10 (-p)) = c * pw2 0 * pw10 (-p) * (pw2 0 * pw10 0) := by
  rw [show c * (pw2 (-E) * pw10 0) * (pw2 E * pw10 (-p)) = c * pw10 0 * pw10 (-p) * (pw2 (-E) * pw2 E) by grind, q1]; grind
 have t1 := le_turn X Z h1 h2
 have t2 := le_turn X Z h2 h1
 exact ⟨t1.1, t1.2, t2.1, t2.2⟩
end Go.Proofs.YtnccpddjdgndcaaGreatDoor.Nt
end

section
/- THE SHORTEST DECIMAL LIES WHERE THE NUMBER IS THE NEAREST ONE (second part). No walk. -/
namespace Go.Proofs.YtnccpddjdgndcaaGreatDoor.Nt
open Go.Proofs.YtnccpddjdgndcaaGreatDoor.Fmt
def bM (b : Nat) : Nat := if bexp b = 0 then bman b else 4503599627370496 + bman b
def bE (b : Nat) : Int := if bexp b = 0 then -1074 else (bexp b : Int) - 1075
def lowQ (b : Nat) : Nat := if bman b = 0 ∧ 2 ≤ bexp b then 4 * bM b - 1 else 4 * bM b - 2
def InR (b T : Nat) : Prop := lowQ b * pw2 (bE b - 2) * pw10 0 ≤ T ∧ T ≤ (4 * bM b + 2) * pw2 (bE b - 2) * pw10 0 ∧
 (bM b % 2 = 1 → lowQ b * pw2 (bE b - 2) * pw10 0 < T ∧ T < (4 * bM b + 2) * pw2 (bE b - 2) * pw10 0)
theorem in_turn (b i S x1 x2 c u1 u2 odd : Nat) (p E : Int) (hp : p = (i : Int) - 348) (hi : i < 696) (hS : (S : Int) = -(E + lg2 p + 3)) (hE : E ≤ 1500) (hE2 : -1500 ≤ E) (hl : -1800 ≤ lg2 p)
  (h1 : Unr u1 (x1 * gT i) (dT i S)) (h2 : Unr u2 (x2 * gT i) (dT i S)) (ho : odd = bM b % 2) (hc1 : u1 + odd ≤ 4 * c) (hc2 : 4 * c + odd ≤ u2)
  (e1 : lowQ b * pw2 (bE b - 2) = x1 * pw2 E) (e2 : (4 * bM b + 2) * pw2 (bE b - 2) = x2 * pw2 E) : InR b (c * pw2 0 * pw10 (-p)) := by
 have hD := dT_pos i S hi
 obtain ⟨a1, a2, _, _⟩ := turn i S x1 c p E hp hi hS hE hE2 hl
 obtain ⟨_, _, a3, a4⟩ := turn i S x2 c p E hp hi hS hE hE2 hl
 have g1 := h1.ge (k := 4 * c) hD (by omega)
 have g2 := h1.gt (k := 4 * c) hD (by omega)
 have g3 := h2.le (k := 4 * c) hD (by omega)
 have g4 := h2.lt (k := 4 * c) hD (by omega)
 unfold InR
 rw [e1, e2]
 exact ⟨a1.1 (g1.2 (by omega)), a3.1 (g3.2 (by omega)), fun h => ⟨a2.1 (g2.2 (by omega)), a4.1 (g4.2 (by omega))⟩⟩
theorem plain_in (b : Nat) (h : Plain (fm b) (fE b)) (hz : fm b = bM b * 2 ^ sfZ (fE b)) (hE : bE b = fE b + sfZ (fE b)) (hz1 : 11 ≤ sfZ (fE b)) (hS5 : 5 ≤ sN (fE b)) (hlow : lowQ b = 4 * bM b - 2) (hE1 : fE b ≤ 1500) (hE2 : -1500 ≤ fE b)
  (hpp : -348 ≤ pN (fE b)) (hM : 1 ≤ bM b) : InR b (fkey b * pw2 0) := by
 obtain ⟨c, hv, c1, c2⟩ := h.key
 obtain ⟨f1, f2, f3, f4, f5, f6⟩ := h.facts
 obtain ⟨t1, t2⟩ := hiT_big _ f1
 have hmin : sfMin (fm b) (fE b) = fm b - 2 ^ (sfZ (fE b) - 1) := by unfold sfMin; rw [if_neg h.ns]
 have hmax : sfMax (fm b) (fE b) = fm b + 2 ^ (sfZ (fE b) - 1) := rfl
 have hlo : sfLo (fm b) (fE b) = cl (nudge (sfU (fm b) (fE b) (fm b - 2 ^ (sfZ (fE b) - 1))) (sfOdd (fm b) (fE b))) := by unfold sfLo; rw [hmin]
 have hhi : sfHi (fm b) (fE b) = flr (nudge (sfU (fm b) (fE b) (fm b + 2 ^ (sfZ (fE b) - 1))) (-(sfOdd (fm b) (fE b) : Int))) := by unfold sfHi; rw [hmax]
 have ho : sfOdd (fm b) (fE b) = bM b % 2 := by
  unfold sfOdd; rw [hz, Nat.mul_div_cancel _ (Nat.two_pow_pos _)]
 have ho2 : sfOdd (fm b) (fE b) < 2 := by omega
 have hl := h.low
 have hx := h.high
 obtain ⟨y, hy⟩ : ∃ y, sfZ (fE b) = y + 11 := ⟨sfZ (fE b) - 11, by omega⟩
 have hT : 2 ^ (sfZ (fE b) - 1) = 128 * (8 * 2 ^ y) := by rw [hy, show y + 11 - 1 = y + 10 by omega, Nat.pow_add]; omega
 have hT2 : 2 ^ sfZ (fE b) = 128 * (16 * 2 ^ y) := by rw [hy, Nat.pow_add]; omega
 have hTl : 2 ^ (sfZ (fE b) - 1) ≤ 2 ^ 62 := Nat.pow_le_pow_right (by decide) (by omega)
 rw [show (2 : Nat) ^ 62 = 4611686018427387904 by decide] at hTl
 have m1 : fm b - 2 ^ (sfZ (fE b) - 1) = 128 * (bM b * (16 * 2 ^ y) - 8 * 2 ^ y) := by
  rw [hz, hT, hT2, Nat.mul_sub]
  congr 1
  grind
 have m2 : fm b + 2 ^ (sfZ (fE b) - 1) = 128 * (bM b * (16 * 2 ^ y) + 8 * 2 ^ y) := by rw [hz, hT, hT2]; grind
 have U1 := usc_unr (iN (fE b)) f1 _ _ (sN (fE b)) m1 (by omega) (by omega) hS5
 have U2 := usc_unr (iN (fE b)) f1 _ _ (sN (fE b)) m2 (by omega) (by omega) hS5
 have g1 := usc_lt63 (fm b - 2 ^ (sfZ (fE b) - 1)) _ (loT (iN (fE b))) (sN (fE b)) (by omega) t2 f2
 have g3 := usc_lt63 (fm b + 2 ^ (sfZ (fE b) - 1)) _ (loT (iN (fE b))) (sN (fE b)) (by omega) t2 f2
 have k3 := usc_ge (fm b + 2 ^ (sfZ (fE b) - 1)) _ (loT (iN (fE b))) (sN (fE b)) (by omega) (by omega) t1 t2 f3
 rw [h.u, nudge_up _ _ g1 ho2] at hlo
 rw [h.u, nudge_dn _ _ g3 ho2 k3] at hhi
 have hp : pN (fE b) = (iN (fE b) : Int) - 348 := by unfold iN; omega
 have hSS : (sN (fE b) : Int) = -(fE b + lg2 (pN (fE b)) + 3) := by
  have : sN (fE b) = (-(fE b + lg2 (pN (fE b)) + 3)).toNat := rfl
  omega
 have hlg : -1800 ≤ lg2 (pN (fE b)) := by unfold lg2; omega
 have key := in_turn b (iN (fE b)) (sN (fE b)) _ _ c _ _ (sfOdd (fm b) (fE b)) (pN (fE b)) (fE b) hp f1 hSS hE1 hE2 hlg U1 U2 ho (by omega) (by omega) ?_ ?_
 ·have e : fkey b = c * pw10 (-pN (fE b)) := by
   unfold fkey
   rw [hv]
   unfold pw10
   rw [show (-pN (fE b) + 400).toNat = (400 - pN (fE b)).toNat by omega]
  rw [e, show c * pw10 (-pN (fE b)) * pw2 0 = c * pw2 0 * pw10 (-pN (fE b)) by grind]
  exact key
 ·rw [hlow, hz, pw2_step (fE b) (bE b - 2) (y + 9) (by omega) (by omega), show sfZ (fE b) - 1 = y + 10 by omega, hy, show y + 11 = (y + 9) + 2 by omega, show y + 10 = (y + 9) + 1 by omega, Nat.pow_add 2 (y + 9) 2, Nat.pow_add 2 (y + 9) 1]
  generalize 2 ^ (y + 9) = t
  obtain ⟨M, hM'⟩ : ∃ M, bM b = M + 1 := ⟨bM b - 1, by omega⟩
  rw [hM']
  have : (M + 1) * (t * 2 ^ 2) - t * 2 ^ 1 = (4 * (M + 1) - 2) * t := by
   rw [show 4 * (M + 1) - 2 = 4 * M + 2 by omega, show (M + 1) * (t * 2 ^ 2) = (4 * M + 2) * t + t * 2 ^ 1 by grind]
   omega
  rw [this]
  grind
 ·rw [hz, pw2_step (fE b) (bE b - 2) (y + 9) (by omega) (by omega), show sfZ (fE b) - 1 = y + 10 by omega, hy, show y + 11 = (y + 9) + 2 by omega, show y + 10 = (y + 9) + 1 by omega, Nat.pow_add 2 (y + 9) 2, Nat.pow_add 2 (y + 9) 1]
  generalize 2 ^ (y + 9) = t
  grind
def ftC (E : Int) : Nat :=
 if sfLo 9223372036854775808 E ≤ sfHi 9223372036854775808 E / 10 * 10 then sfHi 9223372036854775808 E / 10 * 10
 else if sfLo 9223372036854775808 E < sfHi 9223372036854775808 E then rnd (sfU 9223372036854775808 E 9223372036854775808) else sfLo 9223372036854775808 E
set_option maxRecDepth 100000 in
theorem foot_key : ∀ e : Nat, e < 2045 → (sfLo 9223372036854775808 ((e : Int) - 1084) ≤ ftC ((e : Int) - 1084) ∧ ftC ((e : Int) - 1084) ≤ sfHi 9223372036854775808 ((e : Int) - 1084) ∧
  sfI 9223372036854775808 ((e : Int) - 1084) < 696 ∧ 5 ≤ sfS 9223372036854775808 ((e : Int) - 1084) ∧ sfS 9223372036854775808 ((e : Int) - 1084) ≤ 58 ∧ -348 ≤ sfP 9223372036854775808 ((e : Int) - 1084) ∧
  vN (short 9223372036854775808 ((e : Int) - 1084)) = ftC ((e : Int) - 1084) * 10 ^ (400 - sfP 9223372036854775808 ((e : Int) - 1084)).toNat) := by decide +kernel
theorem foot_in (b : Nat) (h1 : bman b = 0) (h2 : 2 ≤ bexp b) (h3 : bexp b ≤ 2046) : InR b (fkey b * pw2 0) := by
 obtain ⟨c1, c2, f1, f2, f3, f4, hv⟩ := foot_key (bexp b - 2) (by omega)
 have hm : fm b = 9223372036854775808 := by unfold fm; rw [if_neg (by omega), h1]
 have hE : fE b = (bexp b : Int) - 1086 := by unfold fE; rw [if_neg (by omega)]
 have hEe : ((bexp b - 2 : Nat) : Int) - 1084 = fE b := by omega
 rw [hEe] at c1 c2 f1 f2 f3 f4 hv
 have hM : bM b = 4503599627370496 := by unfold bM; rw [if_neg (by omega), h1]
 have hbE : bE b = fE b + 11 := by unfold bE; rw [if_neg (by omega), hE]; omega
 have hlow : lowQ b = 18014398509481983 := by unfold lowQ; rw [if_pos ⟨h1, h2⟩, hM]
 obtain ⟨E, hEq⟩ : ∃ E, E = fE b := ⟨_, rfl⟩
 rw [← hEq] at c1 c2 f1 f2 f3 f4 hv hE hbE
 have hcond : (9223372036854775808 : Nat) = 9223372036854775808 ∧ -1085 < E := ⟨rfl, by omega⟩
 have hmin : sfMin 9223372036854775808 E = 9223372036854775296 := by unfold sfMin; rw [if_pos hcond]
 have hz : sfZ E = 11 := by unfold sfZ; rw [if_pos (by omega)]
 have hmax : sfMax 9223372036854775808 E = 9223372036854776832 := by unfold sfMax; rw [hz]
 have ho : sfOdd 9223372036854775808 E = 0 := by unfold sfOdd; rw [hz]
 obtain ⟨t1, t2⟩ := hiT_big _ f1
 have hlo : sfLo 9223372036854775808 E = cl (nudge (sfU 9223372036854775808 E 9223372036854775296) ((0 : Nat) : Int)) := by unfold sfLo; rw [hmin, ho]
 have hhi : sfHi 9223372036854775808 E = flr (nudge (sfU 9223372036854775808 E 9223372036854776832) (-((0 : Nat) : Int))) := by unfold sfHi; rw [hmax, ho]
 unfold sfU at hlo hhi
 have U1 := usc_unr (sfI 9223372036854775808 E) f1 9223372036854775296 72057594037927932 (sfS 9223372036854775808 E) (by decide) (by decide) (by decide) f2
 have U2 := usc_unr (sfI 9223372036854775808 E) f1 9223372036854776832 72057594037927944 (sfS 9223372036854775808 E) (by decide) (by decide) (by decide) f2
 have g1 := usc_lt63 9223372036854775296 _ (loT (sfI 9223372036854775808 E)) (sfS 9223372036854775808 E) (by decide) t2 (by omega)
 have g3 := usc_lt63 9223372036854776832 _ (loT (sfI 9223372036854775808 E)) (sfS 9223372036854775808 E) (by decide) t2 (by omega)
 have k3 := usc_ge 9223372036854776832 _ (loT (sfI 9223372036854775808 E)) (sfS 9223372036854775808 E) (by decide) (by decide) t1 t2 f3
 rw [nudge_up _ 0 g1 (by decide)] at hlo
 rw [nudge_dn _ 0 g3 (by decide) k3] at hhi
 have hp : sfP 9223372036854775808 E = (sfI 9223372036854775808 E : Int) - 348 := by unfold sfI; omega
 have hSS : (sfS 9223372036854775808 E : Int) = -(E + lg2 (sfP 9223372036854775808 E) + 3) := by
  have : sfS 9223372036854775808 E = (-(E + lg2 (sfP 9223372036854775808 E) + 3)).toNat := rfl
  omega
 have hlg : -1800 ≤ lg2 (sfP 9223372036854775808 E) := by unfold lg2; omega
 have key := in_turn b (sfI 9223372036854775808 E) (sfS 9223372036854775808 E) _ _ (ftC E) _ _ 0 (sfP 9223372036854775808 E) E hp f1 hSS (by omega) (by omega) hlg U1 U2 (by rw [hM]) (by omega) (by omega) ?_ ?_
 ·have e : fkey b = ftC E * pw10 (-sfP 9223372036854775808 E) := by
   unfold fkey
   rw [hm, ← hEq, hv]
   unfold pw10
   rw [show (-sfP 9223372036854775808 E + 400).toNat = (400 - sfP 9223372036854775808 E).toNat by omega]
  rw [e, show ftC E * pw10 (-sfP 9223372036854775808 E) * pw2 0 = ftC E * pw2 0 * pw10 (-sfP 9223372036854775808 E) by grind]
  exact key
 ·rw [hlow, hbE, pw2_step E (E + 11 - 2) 9 (by omega) (by omega)]
  generalize pw2 E = t
  omega
 ·rw [hM, hbE, pw2_step E (E + 11 - 2) 9 (by omega) (by omega)]
  generalize pw2 E = t
  omega
theorem short_in (b : Nat) (h1 : 1 ≤ b) (h2 : b < 9218868437227405312) : InR b (fkey b * pw2 0) := by
 have e0 : bexp b = b / 4503599627370496 := by unfold bexp; omega
 have f0 : bman b = b % 4503599627370496 := rfl
 by_cases hx : bexp b = 0
 ·have hb : bman b = b := by omega
  obtain ⟨z, _, z1, z2, _, hm, hE, hz, _, _⟩ := sub_facts b hx (by omega)
  have hM : bM b = bman b := by unfold bM; rw [if_pos hx]
  have hbE : bE b = -1074 := by unfold bE; rw [if_pos hx]
  have hp : pN (fE b) = 324 := by unfold pN; rw [if_neg (by omega)]; decide
  have hlg : lg2 324 = 1076 := by decide
  refine plain_in b (plain_sub b hx (by omega)) (by rw [hz, hM, hm]) (by rw [hz, hbE, hE]; omega) (by omega) ?_ ?_ (by omega) (by omega) (by rw [hp]; decide) (by omega)
  ·unfold sN
   rw [hp, hlg]
   omega
  ·unfold lowQ
   rw [if_neg (by omega)]
 ·have hM : bM b = 4503599627370496 + bman b := by unfold bM; rw [if_neg hx]
  have hbE : bE b = (bexp b : Int) - 1075 := by unfold bE; rw [if_neg hx]
  have hE : fE b = (bexp b : Int) - 1086 := by unfold fE; rw [if_neg hx]
  have hm : fm b = (4503599627370496 + bman b) * 2048 := by unfold fm; rw [if_neg hx]
  have hz : sfZ (fE b) = 11 := by unfold sfZ; rw [hE, if_pos (by omega)]
  by_cases hf : bman b = 0 ∧ 2 ≤ bexp b
  ·exact foot_in b hf.1 hf.2 (by omega)
  ·have hp : pN (fE b) = -lg10 (fE b + 11) := by unfold pN; rw [if_pos (by omega)]
   refine plain_in b (plain_norm b (by omega) (by omega) (by omega)) (by rw [hz, hM, hm]) (by rw [hz, hbE, hE]; omega) (by omega) ?_ ?_ (by omega) (by omega) (by rw [hp]; unfold lg10; omega) (by omega)
   ·unfold sN
    rw [hp]
    unfold lg2 lg10
    omega
   ·unfold lowQ
    rw [if_neg hf]
end Go.Proofs.YtnccpddjdgndcaaGreatDoor.Nt
end

section
/- DIGITS AND A POWER OF TEN ARE ROUNDED TO THE NEAREST NUMBER. No walk. -/
namespace Go.Proofs.YtnccpddjdgndcaaGreatDoor.Nt
open Go.Proofs.YtnccpddjdgndcaaGreatDoor.Fmt
theorem gT_bounds : ∀ i, i < 696 → 170141183460469231731687303715884105728 * kT i ≤ gT i ∧ gT i ≤ 340282366920938425684442744474606501888 * kT i := by decide +kernel
def pfE (d : Nat) (p : Int) : Int := min 1074 (53 - (Lib.bitLen d : Int) - lg2 p)
def pfS (d : Nat) (p : Int) : Int := -(pfE d p - (64 - (Lib.bitLen d : Int)) + lg2 p + 3)
def pfI (p : Int) : Nat := (p + 348).toNat
def pfU (d : Nat) (p : Int) : Nat := usc (d * 2 ^ (64 - Lib.bitLen d)) (hiT (pfI p)) (loT (pfI p)) (pfS d p).toNat
theorem pw2_mono {a b : Int} (h : a ≤ b) : pw2 a ≤ pw2 b := Nat.pow_le_pow_right (by decide) (by omega)
theorem pw2_lt {a b : Int} (_hb : -2000 ≤ a) (h : pw2 a < pw2 b) : a < b := by
 rcases Int.lt_or_le a b with g | g
 ·exact g
 ·have := pw2_mono g; omega
theorem pf_turn (d len k S : Nat) (p e : Int) (hp0 : -348 ≤ p) (hlen : len ≤ 64) (hS : (S : Int) = -(e - (64 - (len : Int)) + lg2 p + 3)) (he : -1500 ≤ -e) (hl : -1800 ≤ lg2 p) :
  k * dT (pfI p) S = (k * pw2 (-e - 2) * pw10 0) * 2 ^ (64 - len) ∧ (d * 2 ^ (64 - len)) * gT (pfI p) = (d * pw2 0 * pw10 p) * 2 ^ (64 - len) := by
 have hp : p = (pfI p : Int) - 348 := by unfold pfI; omega
 constructor
 ·have h := dT_eq (pfI p) S p (e - (64 - (len : Int))) hp hS hl
  rw [pw2_step (-e - 2) (-(e - (64 - (len : Int)))) (64 - len + 2) (by omega) (by omega), Nat.pow_add] at h
  have h4 : dT (pfI p) S = pw2 (-e - 2) * 2 ^ (64 - len) * pw10 0 := by
   have : pw2 (-e - 2) * (2 ^ (64 - len) * 2 ^ 2) * pw10 0 = pw2 (-e - 2) * 2 ^ (64 - len) * pw10 0 * 4 := by grind
   omega
  rw [h4]
  grind
 ·rw [gT_eq (pfI p) p hp]; grind
theorem len_bounds (d : Nat) (h : d < 18446744073709551616) (h0 : 1 ≤ d) : 1 ≤ Lib.bitLen d ∧ 2 ^ (Lib.bitLen d - 1) ≤ d ∧ d < 2 ^ Lib.bitLen d := bitLenAux_bounds 64 d (by omega) (by omega)
theorem bM_facts (b : Nat) (h1 : 1 ≤ b) (h2 : b < 9218868437227405312) : 1 ≤ bM b ∧ bM b ≤ 9007199254740991 ∧ -1074 ≤ bE b ∧ bE b ≤ 971 ∧ 4 * bM b - 2 ≤ lowQ b ∧
  (-1074 < bE b → 4503599627370496 ≤ bM b) ∧ (-1074 < bE b → bM b = 4503599627370496 → lowQ b = 18014398509481983) := by
 have e0 : bexp b = b / 4503599627370496 := by unfold bexp; omega
 have f0 : bman b = b % 4503599627370496 := rfl
 unfold lowQ bM bE
 by_cases hx : bexp b = 0
 ·simp only [if_pos hx]
  rw [if_neg (by omega)]
  omega
 ·simp only [if_neg hx]
  split <;> omega
theorem pf_M (b d : Nat) (p : Int) (h1 : 1 ≤ b) (h2 : b < 9218868437227405312) (hd0 : 1 ≤ d) (hd : d < 144115188075855872) (hp0 : -348 ≤ p) (hp1 : p ≤ 347) (hr : InR b (d * pw2 0 * pw10 p)) :
  8 ≤ pfS d p ∧ pfS d p ≤ 63 ∧ pfU d p < 9223372036854775808 ∧
  ((pfE d p = -bE b ∧ pfU d p < 36028797018963966 ∧ rnd (pfU d p) = bM b) ∨ (pfE d p = -bE b + 1 ∧ 36028797018963966 ≤ pfU d p ∧ rnd (pfU d p / 2 ||| pfU d p % 2) = bM b)) := by
 obtain ⟨l1, l2, l3⟩ := len_bounds d (by omega) hd0
 have l4 : Lib.bitLen d ≤ 57 := Lib.bitLen_le d 57 (by decide) hd
 have hS' : pfS d p = -(pfE d p - (64 - (Lib.bitLen d : Int)) + lg2 p + 3) := rfl
 have hE' : pfE d p = min 1074 (53 - (Lib.bitLen d : Int) - lg2 p) := rfl
 have hlp : -1200 ≤ lg2 p ∧ lg2 p ≤ 1200 := by unfold lg2; omega
 have hi : pfI p < 696 := by unfold pfI; omega
 have hp : p = (pfI p : Int) - 348 := by unfold pfI; omega
 obtain ⟨t1, t2⟩ := hiT_big _ hi
 obtain ⟨q1, q2⟩ := gT_bounds _ hi
 rw [gT_eq (pfI p) p hp, kT_eq (pfI p) p hp] at q1 q2
 obtain ⟨b1, b2, b3, b4, b5, b6, b7⟩ := bM_facts b h1 h2
 obtain ⟨r1, r2, r3⟩ := hr
 have hlo : pw2 (lg2 p + (Lib.bitLen d : Int) - 1) * pw10 0 ≤ d * pw2 0 * pw10 p := by
  have a1 : pw2 (lg2 p + (Lib.bitLen d : Int) - 1) = pw2 (lg2 p - 127) * 2 ^ 127 * 2 ^ (Lib.bitLen d - 1) := by
   rw [Nat.mul_assoc, ← Nat.pow_add]
   exact pw2_step _ _ _ (by omega) (by omega)
  have a2 := Nat.mul_le_mul l2 q1
  rw [a1]
  have a3 : 2 ^ (Lib.bitLen d - 1) * (170141183460469231731687303715884105728 * (pw2 (lg2 p - 127) * pw10 0)) = pw2 (lg2 p - 127) * 2 ^ 127 * 2 ^ (Lib.bitLen d - 1) * pw10 0 := by
   rw [show (2 : Nat) ^ 127 = 170141183460469231731687303715884105728 by decide]; grind
  have a4 : d * (pw2 0 * pw10 p) = d * pw2 0 * pw10 p := by grind
  omega
 have hup : d * pw2 0 * pw10 p < 9007199254740991 * pw2 (lg2 p + (Lib.bitLen d : Int) - 52) * pw10 0 := by
  have a1 : pw2 (lg2 p + (Lib.bitLen d : Int) - 52) = pw2 (lg2 p - 127) * 2 ^ 75 * 2 ^ Lib.bitLen d := by
   rw [Nat.mul_assoc, ← Nat.pow_add]
   exact pw2_step _ _ _ (by omega) (by omega)
  have a0 : 0 < pw2 0 * pw10 p := Nat.mul_pos (pw2_pos _) (pw10_pos _)
  have a2 := Nat.mul_lt_mul_of_pos_right l3 a0
  have a5 := Nat.mul_le_mul_left (2 ^ Lib.bitLen d) q2
  have a3 : 2 ^ Lib.bitLen d * (340282366920938425684442744474606501888 * (pw2 (lg2 p - 127) * pw10 0)) = 9007199254740991 * (pw2 (lg2 p - 127) * 2 ^ 75 * 2 ^ Lib.bitLen d) * pw10 0 := by
   rw [show (2 : Nat) ^ 75 = 37778931862957161709568 by decide]; grind
  have a4 : d * (pw2 0 * pw10 p) = d * pw2 0 * pw10 p := by grind
  rw [a1]
  omega
 have hP := pw10_pos 0
 have k1 : lg2 p + (Lib.bitLen d : Int) ≤ bE b + 53 := by
  have c1 : pw2 (lg2 p + (Lib.bitLen d : Int) - 1) ≤ (4 * bM b + 2) * pw2 (bE b - 2) := Nat.le_of_mul_le_mul_right (Nat.le_trans hlo r2) hP
  have c2 : pw2 (bE b + 53) = pw2 (bE b - 2) * 2 ^ 55 := pw2_step _ _ _ (by omega) (by omega)
  have c3 : (4 * bM b + 2) * pw2 (bE b - 2) < 36028797018963968 * pw2 (bE b - 2) := Nat.mul_lt_mul_of_pos_right (by omega) (pw2_pos _)
  rw [show (2 : Nat) ^ 55 = 36028797018963968 by decide] at c2
  have := pw2_lt (a := lg2 p + (Lib.bitLen d : Int) - 1) (b := bE b + 53) (by omega) (by omega)
  omega
 have k2 : -1074 < bE b → 53 - (Lib.bitLen d : Int) - lg2 p ≤ -bE b + 1 := by
  intro hb
  have hM := b6 hb
  rcases Int.lt_or_le (-bE b + 1) (53 - (Lib.bitLen d : Int) - lg2 p) with g | g
  ·exfalso
   have c1 : lowQ b * pw2 (bE b - 2) < 9007199254740991 * pw2 (lg2 p + (Lib.bitLen d : Int) - 52) := Nat.lt_of_mul_lt_mul_right (Nat.lt_of_le_of_lt r1 hup)
   have c2 := Nat.mul_le_mul_left 9007199254740991 (pw2_mono (a := lg2 p + (Lib.bitLen d : Int) - 52) (b := bE b - 1) (by omega))
   have c3 : pw2 (bE b - 1) = pw2 (bE b - 2) * 2 ^ 1 := pw2_step _ _ _ (by omega) (by omega)
   have c4 := Nat.mul_le_mul_right (pw2 (bE b - 2)) (show 18014398509481982 ≤ lowQ b by omega)
   omega
  ·exact g
 have k3 : -1075 ≤ lg2 p + (Lib.bitLen d : Int) := by
  have c1 : lowQ b * pw2 (bE b - 2) < 9007199254740991 * pw2 (lg2 p + (Lib.bitLen d : Int) - 52) := Nat.lt_of_mul_lt_mul_right (Nat.lt_of_le_of_lt r1 hup)
  have c2 : pw2 (lg2 p + (Lib.bitLen d : Int) + 1) = pw2 (lg2 p + (Lib.bitLen d : Int) - 52) * 2 ^ 53 := pw2_step _ _ _ (by omega) (by omega)
  have c3 := Nat.mul_le_mul_right (pw2 (bE b - 2)) (show 2 ≤ lowQ b by omega)
  have c4 : pw2 (bE b - 1) = pw2 (bE b - 2) * 2 ^ 1 := pw2_step _ _ _ (by omega) (by omega)
  rw [show (2 : Nat) ^ 53 = 9007199254740992 by decide] at c2
  have := pw2_lt (a := bE b - 1) (b := lg2 p + (Lib.bitLen d : Int) + 1) (by omega) (by omega)
  omega
 have hEe : pfE d p = -bE b ∨ (pfE d p = -bE b + 1 ∧ -1074 < bE b) := by
  rcases Int.lt_or_le (-1074) (bE b) with g | g
  ·have := k2 g; omega
  ·omega
 have hS0 : 8 ≤ pfS d p ∧ pfS d p ≤ 63 := by omega
 have hSn : ((pfS d p).toNat : Int) = -(pfE d p - (64 - (Lib.bitLen d : Int)) + lg2 p + 3) := by omega
 have hx : d * 2 ^ (64 - Lib.bitLen d) = 128 * (d * 2 ^ (57 - Lib.bitLen d)) := by
  rw [show 64 - Lib.bitLen d = 57 - Lib.bitLen d + 7 by omega, Nat.pow_add]; grind
 have hx0 : 9223372036854775808 ≤ d * 2 ^ (64 - Lib.bitLen d) := by
  have := Nat.mul_le_mul_right (2 ^ (64 - Lib.bitLen d)) l2
  rw [pow_join _ _ 63 (by omega)] at this
  omega
 have hx1 : d * 2 ^ (64 - Lib.bitLen d) < 18446744073709551616 := by
  have := Nat.mul_lt_mul_of_pos_right l3 (Nat.two_pow_pos (64 - Lib.bitLen d))
  rw [pow_join _ _ 64 (by omega)] at this
  omega
 have U := usc_unr (pfI p) hi _ _ (pfS d p).toNat hx (by omega) hx1 (by omega)
 have hUl : pfU d p < 9223372036854775808 := usc_lt63 _ _ _ _ hx1 t2 (by omega)
 have hD := dT_pos (pfI p) (pfS d p).toNat hi
 have hU : pfU d p = usc (d * 2 ^ (64 - Lib.bitLen d)) (hiT (pfI p)) (loT (pfI p)) (pfS d p).toNat := rfl
 rw [← hU] at U
 have tt := fun k => pf_turn d (Lib.bitLen d) k (pfS d p).toNat p (pfE d p) hp0 (by omega) hSn (by omega) (by omega)
 have h2p := Nat.two_pow_pos (64 - Lib.bitLen d)
 have T1 : ∀ k, k % 2 = 0 → (k * pw2 (-pfE d p - 2) * pw10 0 ≤ d * pw2 0 * pw10 p ↔ k ≤ pfU d p) := by
  intro k hk
  have := U.le (k := k) hD hk
  have e : k * (2 ^ (pfS d p).toNat * 340282366920938463463374607431768211456 * kT (pfI p)) = k * dT (pfI p) (pfS d p).toNat := rfl
  rw [e, (tt k).1, (tt k).2, Nat.mul_le_mul_right_iff h2p] at this
  exact this
 have T2 : ∀ k, k % 2 = 0 → (d * pw2 0 * pw10 p ≤ k * pw2 (-pfE d p - 2) * pw10 0 ↔ pfU d p ≤ k) := by
  intro k hk
  have := U.ge (k := k) hD hk
  have e : k * (2 ^ (pfS d p).toNat * 340282366920938463463374607431768211456 * kT (pfI p)) = k * dT (pfI p) (pfS d p).toNat := rfl
  rw [e, (tt k).1, (tt k).2, Nat.mul_le_mul_right_iff h2p] at this
  exact this
 refine ⟨hS0.1, hS0.2, hUl, ?_⟩
 clear tt U hU hup hlo k1 k2 k3 hx hx0 hx1 q1 q2
 generalize d * pw2 0 * pw10 p = T at *
 generalize pfU d p = u at *
 rcases hEe with g | ⟨g, g2⟩
 ·left
  have e : -pfE d p - 2 = bE b - 2 := by omega
  rw [e] at T1 T2
  have m1 : (4 * bM b - 2) * pw2 (bE b - 2) * pw10 0 ≤ lowQ b * pw2 (bE b - 2) * pw10 0 := Nat.mul_le_mul_right _ (Nat.mul_le_mul_right _ b5)
  have u1 := (T1 (4 * bM b - 2) (by omega)).1 (by omega)
  have u2 := (T2 (4 * bM b + 2) (by omega)).1 r2
  have u3 := (T2 (4 * bM b - 2) (by omega))
  have u4 := (T1 (4 * bM b + 2) (by omega))
  refine ⟨g, ?_, ?_⟩
  ·rcases Nat.mod_two_eq_zero_or_one (bM b) with o | o
   ·omega
   ·have := r3 o; omega
  ·have : rnd u = (u + 1 + u / 4 % 2) / 4 := by unfold rnd; omega
   rw [this]
   rcases Nat.mod_two_eq_zero_or_one (bM b) with o | o
   ·omega
   ·have := r3 o; omega
 ·right
  have e : -pfE d p - 2 = bE b - 3 := by omega
  have e2 : pw2 (bE b - 2) = pw2 (bE b - 3) * 2 ^ 1 := pw2_step _ _ _ (by omega) (by omega)
  have A : ∀ k, k * pw2 (bE b - 2) * pw10 0 = (2 * k) * pw2 (bE b - 3) * pw10 0 := by intro k; rw [e2]; grind
  rw [e] at T1 T2
  rw [A] at r1 r2
  rw [A, A] at r3
  have m1 : (8 * bM b - 4) * pw2 (bE b - 3) * pw10 0 ≤ (2 * lowQ b) * pw2 (bE b - 3) * pw10 0 := Nat.mul_le_mul_right _ (Nat.mul_le_mul_right _ (by omega))
  have u0 := (T1 (2 * lowQ b) (by omega)).1 r1
  have u2 := (T2 (2 * (4 * bM b + 2)) (by omega)).1 r2
  have u3 := (T2 (2 * lowQ b) (by omega))
  have u4 := (T1 (2 * (4 * bM b + 2)) (by omega))
  have hM := b6 g2
  have hM2 := b7 g2
  refine ⟨g, by omega, ?_⟩
  have hor : u / 2 ||| u % 2 = if u % 2 = 1 then 2 * (u / 4) + 1 else u / 2 := by
   rcases Nat.mod_two_eq_zero_or_one u with o | o
   ·rw [o, Nat.or_zero]; rfl
   ·rw [o, or1, Nat.div_div_eq_div_mul]; rfl
  rw [hor]
  have hrn : ∀ v, v < 9223372036854775808 → rnd v = (v + 1 + v / 4 % 2) / 4 := by intro v hv; unfold rnd; omega
  rcases Nat.mod_two_eq_zero_or_one (bM b) with o | o
  ·split
   ·rw [hrn _ (by omega)]; omega
   ·rw [hrn _ (by omega)]; omega
  ·have := r3 o
   split
   ·rw [hrn _ (by omega)]; omega
   ·rw [hrn _ (by omega)]; omega
end Go.Proofs.YtnccpddjdgndcaaGreatDoor.Nt
end

section
/- A NUMBER THAT LIES WHERE b IS THE NEAREST ONE IS ROUNDED TO b by a float's own operations. No walk. -/
namespace Go.Proofs.YtnccpddjdgndcaaGreatDoor.Nt
open Go.Proofs.YtnccpddjdgndcaaGreatDoor.Fmt Ieee
theorem cut_even (neg : Bool) (n drop K : Nat) (hK : 1 ≤ K) (h1 : (2 * K) * 2 ^ drop ≤ 2 * n + 2 ^ drop) (h2 : 2 * n ≤ (2 * K + 1) * 2 ^ drop)
  (h3 : K % 2 = 1 → (2 * K) * 2 ^ drop < 2 * n + 2 ^ drop ∧ 2 * n < (2 * K + 1) * 2 ^ drop) : Toward.even.cut neg n drop = K := by
 have hG : 0 < 2 ^ drop := Nat.two_pow_pos _
 have hn : n ≠ 0 := by
  intro h0
  subst h0
  have := Nat.mul_le_mul_right (2 ^ drop) (show 2 ≤ 2 * K by omega)
  omega
 have hd : drop ≤ n.log2 + 2 := by
  have q := Nat.lt_log2_self (n := n)
  have c := Nat.mul_le_mul_right (2 ^ drop) (show 2 ≤ 2 * K by omega)
  have p : 2 ^ drop < 2 ^ (n.log2 + 2) := by
   have : 2 ^ (n.log2 + 2) = 2 ^ (n.log2 + 1) * 2 := by rw [← Nat.pow_succ]
   omega
  exact Nat.le_of_lt ((Nat.pow_lt_pow_iff_right (by decide)).1 p)
 unfold Toward.cut
 simp only [Nat.min_eq_left hd, Nat.one_shiftLeft]
 have hdm := Nat.div_add_mod n (2 ^ drop)
 have hr := Nat.mod_lt n hG
 generalize n / 2 ^ drop = low at *
 generalize n % 2 ^ drop = r at *
 generalize 2 ^ drop = G at *
 have e1 : (2 * K) * G = 2 * (G * K) := by grind
 have e2 : (2 * K + 1) * G = 2 * (G * K) + G := by grind
 rw [e1] at h1
 rw [e2] at h2
 rw [e1, e2] at h3
 have k1 : low ≤ K := by
  rcases Nat.lt_or_ge K low with g | g
  ·have := Nat.mul_le_mul_left G (show K + 1 ≤ low by omega)
   have e3 : G * (K + 1) = G * K + G := by grind
   omega
  ·exact g
 have k2 : K ≤ low + 1 := by
  rcases Nat.lt_or_ge (low + 1) K with g | g
  ·have := Nat.mul_le_mul_left G (show low + 2 ≤ K by omega)
   have e3 : G * (low + 2) = G * low + 2 * G := by grind
   omega
  ·exact g
 rcases Nat.lt_or_ge low K with g | g
 ·obtain rfl : K = low + 1 := by omega
  have e3 : G * (low + 1) = G * low + G := by grind
  rw [e3] at h1 h2 h3
  have m : (decide (G < 2 * r) || (G == 2 * r && low % 2 == 1)) = true := by
   rcases Nat.lt_or_ge G (2 * r) with q | q
   ·simp [q]
   ·have q2 : G = 2 * r := by omega
    have : ¬ (low + 1) % 2 = 1 := fun h => by have := h3 h; omega
    have o : low % 2 = 1 := by omega
    simp [q2, o]
  simp only [m]
  rfl
 ·obtain rfl : K = low := by omega
  have m : (decide (G < 2 * r) || (G == 2 * r && K % 2 == 1)) = false := by
   have q1 : ¬ G < 2 * r := by omega
   rcases Nat.lt_or_ge (2 * r) G with q | q
   ·have q2 : (G == 2 * r) = false := by rw [beq_eq_false_iff_ne]; omega
    simp [q1, q2]
   ·have : ¬ K % 2 = 1 := fun h => by have := h3 h; omega
    have o : (K % 2 == 1) = false := by rw [beq_eq_false_iff_ne]; omega
    simp [q1, o]
  simp only [m]
  rfl
theorem cut_at (neg : Bool) (mag K : Nat) (place last : Int) (hp0 : -1900 ≤ place) (hl0 : -1900 ≤ last) (hK : 1 ≤ K)
  (h1 : (2 * K) * pw2 last ≤ 2 * (mag * pw2 place) + pw2 last) (h2 : 2 * (mag * pw2 place) ≤ (2 * K + 1) * pw2 last)
  (h3 : K % 2 = 1 → (2 * K) * pw2 last < 2 * (mag * pw2 place) + pw2 last ∧ 2 * (mag * pw2 place) < (2 * K + 1) * pw2 last) :
  Toward.even.cut neg (mag <<< (place - last).toNat) (last - place).toNat = K := by
 rw [Nat.shiftLeft_eq]
 rcases Int.lt_or_le place last with g | g
 ·have z : (place - last).toNat = 0 := by omega
  rw [z, Nat.pow_zero, Nat.mul_one]
  have e := pw2_step place last (last - place).toNat (by omega) (by omega)
  have P := pw2_pos place
  rw [e] at h1 h2 h3
  generalize pw2 place = u at *
  generalize (last - place).toNat = dr at *
  have a1 : (2 * K) * (u * 2 ^ dr) = ((2 * K) * 2 ^ dr) * u := by grind
  have a2 : 2 * (mag * u) + u * 2 ^ dr = (2 * mag + 2 ^ dr) * u := by grind
  have a3 : 2 * (mag * u) = (2 * mag) * u := by grind
  have a4 : (2 * K + 1) * (u * 2 ^ dr) = ((2 * K + 1) * 2 ^ dr) * u := by grind
  rw [a1, a2] at h1
  rw [a3, a4] at h2
  rw [a1, a2, a3, a4] at h3
  exact cut_even neg mag dr K hK (Nat.le_of_mul_le_mul_right h1 P) (Nat.le_of_mul_le_mul_right h2 P) (fun h => ⟨Nat.lt_of_mul_lt_mul_right (h3 h).1, Nat.lt_of_mul_lt_mul_right (h3 h).2⟩)
 ·have z : (last - place).toNat = 0 := by omega
  have e := pw2_step last place (place - last).toNat (by omega) (by omega)
  have P := pw2_pos last
  rw [e] at h1 h2 h3
  rw [z]
  generalize pw2 last = u at *
  generalize (place - last).toNat = dr at *
  have a2 : 2 * (mag * (u * 2 ^ dr)) + u = (2 * (mag * 2 ^ dr) + 1) * u := by grind
  have a3 : 2 * (mag * (u * 2 ^ dr)) = (2 * (mag * 2 ^ dr)) * u := by grind
  rw [a2] at h1
  rw [a3] at h2
  rw [a2, a3] at h3
  have b1 := Nat.le_of_mul_le_mul_right h1 P
  have b2 := Nat.le_of_mul_le_mul_right h2 P
  refine cut_even neg _ 0 K hK ?_ ?_ (fun h => ⟨?_, ?_⟩)
  ·rw [Nat.pow_zero, Nat.mul_one]; exact b1
  ·rw [Nat.pow_zero, Nat.mul_one]; exact b2
  ·rw [Nat.pow_zero, Nat.mul_one]; exact Nat.lt_of_mul_lt_mul_right (h3 h).1
  ·rw [Nat.pow_zero, Nat.mul_one]; exact Nat.lt_of_mul_lt_mul_right (h3 h).2
theorem least_eq : double.leastPlace = -1074 := by decide
theorem binade_eq : double.binade = 4503599627370496 := by decide
theorem inf_eq : double.infRung = 9218868437227405312 := by decide
theorem frac_eq : double.fractionBits = 52 := rfl
theorem rung_eq (b : Nat) (h : b < 9223372036854775808) : (bE b - -1074).toNat * 4503599627370496 + bM b = b := by
 have e0 : bexp b = b / 4503599627370496 := by unfold bexp; omega
 have e1 : bman b = b % 4503599627370496 := rfl
 unfold bM bE
 split <;> omega
theorem rung_low (b : Nat) (h : b < 9223372036854775808) (h1 : -1074 < bE b) (h2 : bM b = 4503599627370496) : (bE b - 1 - -1074).toNat * 4503599627370496 + 9007199254740992 = b := by
 have q := rung_eq b h
 have e : (bE b - -1074).toNat = (bE b - 1 - -1074).toNat + 1 := by omega
 rw [e, h2] at q
 generalize (bE b - 1 - -1074).toNat = k at *
 rw [Nat.add_mul, Nat.add_assoc] at q
 exact q
theorem rung_j (j X : Nat) (h : j ≤ 52) (hX : X < 9007199254740992) : min ((-(j : Int) - -1074).toNat * 4503599627370496 + X) 9218868437227405312 = (1074 - j) * 4503599627370496 + X := by
 have : (-(j : Int) - -1074).toNat = 1074 - j := by omega
 rw [this]
 have h2 : (1074 - j) * 4503599627370496 + X ≤ 9218868437227405312 := by omega
 exact Nat.min_eq_left h2
theorem nearest_of (neg : Bool) (b mag : Nat) (place : Int) (h1 : 1 ≤ b) (h2 : b < 9218868437227405312) (hm : mag ≠ 0) (hp0 : -1900 ≤ place) (hp1 : place ≤ 1900)
  (r1 : lowQ b * pw2 (bE b - 2) ≤ mag * pw2 place) (r2 : mag * pw2 place ≤ (4 * bM b + 2) * pw2 (bE b - 2))
  (r3 : bM b % 2 = 1 → lowQ b * pw2 (bE b - 2) < mag * pw2 place ∧ mag * pw2 place < (4 * bM b + 2) * pw2 (bE b - 2)) : double.nearest neg mag place = double.word neg b := by
 obtain ⟨f1, f2, f3, f4, f5, f6, f7⟩ := bM_facts b h1 h2
 have hL1 := Nat.log2_self_le hm
 have hL2 := Nat.lt_log2_self (n := mag)
 have t0 := pw2_pos (bE b - 2)
 have k1 : place + (mag.log2 : Int) ≤ bE b + 52 := by
  have c1 : pw2 (place + mag.log2) = pw2 place * 2 ^ mag.log2 := pw2_step _ _ _ (by omega) (by omega)
  have c2 : pw2 (bE b + 53) = pw2 (bE b - 2) * 2 ^ 55 := pw2_step _ _ _ (by omega) (by omega)
  have c3 := Nat.mul_le_mul_right (pw2 place) hL1
  have c4 : (4 * bM b + 2) * pw2 (bE b - 2) < 36028797018963968 * pw2 (bE b - 2) := Nat.mul_lt_mul_of_pos_right (by omega) t0
  rw [show (2 : Nat) ^ 55 = 36028797018963968 by decide] at c2
  have := pw2_lt (a := place + (mag.log2 : Int)) (b := bE b + 53) (by omega) (by rw [c1, c2, Nat.mul_comm (pw2 place)]; omega)
  omega
 have k2 : -1074 < bE b → bE b + 51 ≤ place + (mag.log2 : Int) := by
  intro hb
  have := f6 hb
  have c1 : pw2 (place + mag.log2 + 1) = pw2 place * 2 ^ (mag.log2 + 1) := pw2_step _ _ _ (by omega) (by omega)
  have c2 : pw2 (bE b + 51) = pw2 (bE b - 2) * 2 ^ 53 := pw2_step _ _ _ (by omega) (by omega)
  have c3 : mag * pw2 place < 2 ^ (mag.log2 + 1) * pw2 place := Nat.mul_lt_mul_of_pos_right hL2 (pw2_pos _)
  have c4 := Nat.mul_le_mul_right (pw2 (bE b - 2)) (show 9007199254740992 ≤ lowQ b by omega)
  rw [show (2 : Nat) ^ 53 = 9007199254740992 by decide] at c2
  have := pw2_lt (a := bE b + 51) (b := place + (mag.log2 : Int) + 1) (by omega) (by rw [c1, c2, Nat.mul_comm (pw2 place)]; omega)
  omega
 have e0 : bexp b = b / 4503599627370496 := by unfold bexp; omega
 have e1 : bman b = b % 4503599627370496 := rfl
 unfold Format.nearest
 rw [if_neg hm]
 simp only [least_eq, binade_eq, inf_eq, frac_eq]
 obtain ⟨last, hlast⟩ : ∃ last : Int, max (place + (mag.log2 : Int) - (52 : Nat)) (-1074) = last := ⟨_, rfl⟩
 rw [hlast]
 have hcase : last = bE b ∨ (last = bE b - 1 ∧ -1074 < bE b ∧ place + (mag.log2 : Int) = bE b + 51) := by omega
 rcases hcase with g | ⟨g, g2, g3⟩
 ·have q : pw2 last = pw2 (bE b - 2) * 2 ^ 2 := by rw [g]; exact pw2_step _ _ _ (by omega) (by omega)
  have hc := cut_at neg mag (bM b) place last hp0 (by omega) f1
  rw [q] at hc
  have low := Nat.mul_le_mul_right (pw2 (bE b - 2)) f5
  generalize pw2 (bE b - 2) = t at *
  generalize mag * pw2 place = V at *
  have d1 : (4 * bM b - 2) * t + 2 * t = 4 * (bM b * t) := by
   rw [← Nat.add_mul, show 4 * bM b - 2 + 2 = 4 * bM b by omega]; grind
  have d2 : (4 * bM b + 2) * t = 4 * (bM b * t) + 2 * t := by grind
  have d3 : 2 * bM b * (t * 2 ^ 2) = 8 * (bM b * t) := by grind
  have d4 : (2 * bM b + 1) * (t * 2 ^ 2) = 8 * (bM b * t) + 4 * t := by grind
  have d5 : t * 2 ^ 2 = 4 * t := by grind
  rw [d3, d4, d5] at hc
  have hc2 := hc (by omega) (by omega) (fun h => by have := r3 h; omega)
  clear hc
  rw [hc2, g, rung_eq b (Nat.lt_trans h2 (by decide)), Nat.min_eq_left (Nat.le_of_lt h2)]
 ·have hM := f6 g2
  have v1 : mag * pw2 place < 18014398509481984 * pw2 (bE b - 2) := by
   have c1 : pw2 (bE b + 52) = pw2 place * 2 ^ (mag.log2 + 1) := by
    rw [show bE b + 52 = place + (mag.log2 : Int) + 1 by omega]
    exact pw2_step _ _ _ (by omega) (by omega)
   have c2 : pw2 (bE b + 52) = pw2 (bE b - 2) * 2 ^ 54 := pw2_step _ _ _ (by omega) (by omega)
   have c3 : mag * pw2 place < 2 ^ (mag.log2 + 1) * pw2 place := Nat.mul_lt_mul_of_pos_right hL2 (pw2_pos _)
   rw [show (2 : Nat) ^ 54 = 18014398509481984 by decide] at c2
   rw [Nat.mul_comm (2 ^ (mag.log2 + 1)), ← c1, c2] at c3
   omega
  have hM2 : bM b = 4503599627370496 := by
   have : lowQ b < 18014398509481984 := Nat.lt_of_mul_lt_mul_right (Nat.lt_of_le_of_lt r1 v1)
   omega
  have hq := f7 g2 hM2
  have q : pw2 last = pw2 (bE b - 2) * 2 ^ 1 := by rw [g]; exact pw2_step _ _ _ (by omega) (by omega)
  have hc := cut_at neg mag 9007199254740992 place last hp0 (by omega) (by decide)
  rw [q] at hc
  rw [hq] at r1
  generalize pw2 (bE b - 2) = t at *
  generalize mag * pw2 place = V at *
  have hc2 := hc (by omega) (by omega) (fun h => by omega)
  clear hc
  have re := rung_low b (Nat.lt_trans h2 (by decide)) g2 hM2
  rw [hc2, g, re, Nat.min_eq_left (Nat.le_of_lt h2)]
theorem read_word (neg : Bool) (b : Nat) (h : b < 9218868437227405312) : double.read (double.word neg b) = .number neg (bM b) (bE b) := by
 have hw : double.signWeight = 9223372036854775808 := by decide
 have e0 : bexp b = b / 4503599627370496 := by unfold bexp; omega
 have e1 : bman b = b % 4503599627370496 := rfl
 unfold Format.read Format.word
 simp only [hw, binade_eq, inf_eq, least_eq]
 have r1 : (if neg = true then 9223372036854775808 + b else b) % 9223372036854775808 = b := by split <;> omega
 have r2 : ((if neg = true then 9223372036854775808 + b else b) / 9223372036854775808 % 2 == 1) = neg := by
  cases neg
  ·rw [if_neg (by decide), Nat.div_eq_of_lt (by omega)]; rfl
  ·rw [if_pos rfl, show (9223372036854775808 + b) / 9223372036854775808 = 1 by omega]; rfl
 rw [r1, r2]
 unfold bM bE
 by_cases hx : bexp b = 0
 ·rw [if_pos (by omega), if_pos hx, if_pos hx]
  congr 1
  omega
 ·rw [if_neg (by omega), if_pos h, if_neg hx, if_neg hx, e0, e1]
  congr 1
  omega
theorem exact_word (neg : Bool) (d : Nat) (h1 : 1 ≤ d) (h2 : d ≤ 9007199254740992) : ∃ b, 1 ≤ b ∧ b < 9218868437227405312 ∧ double.nearest neg d 0 = double.word neg b ∧ bM b * pw2 (bE b) = d * pw2 0 := by
 have hm : d ≠ 0 := by omega
 have hL1 := Nat.log2_self_le hm
 have hL2 := Nat.lt_log2_self (n := d)
 have hL : d.log2 ≤ 53 := by
  have : 2 ^ d.log2 < 2 ^ 54 := Nat.lt_of_le_of_lt hL1 (by omega)
  have := (Nat.pow_lt_pow_iff_right (by decide : 1 < 2)).1 this
  omega
 by_cases h53 : d = 9007199254740992
 ·subst h53
  refine ⟨4845873199050653696, by decide, by decide, ?_, ?_⟩
  ·cases neg <;> decide +kernel
  ·have e : bM 4845873199050653696 = 4503599627370496 ∧ bE 4845873199050653696 = 1 := by decide +kernel
   rw [e.1, e.2]
   have q : pw2 1 = pw2 0 * 2 ^ 1 := pw2_step _ _ _ (by omega) (by omega)
   rw [q]
   generalize pw2 0 = t
   omega
 have hL3 : d.log2 ≤ 52 := by
  have : 2 ^ d.log2 < 2 ^ 53 := Nat.lt_of_le_of_lt hL1 (by omega)
  have := (Nat.pow_lt_pow_iff_right (by decide : 1 < 2)).1 this
  omega
 obtain ⟨j, hj⟩ : ∃ j, j + d.log2 = 52 := ⟨52 - d.log2, by omega⟩
 have n1 : 4503599627370496 ≤ d * 2 ^ j := by
  have := Nat.mul_le_mul_right (2 ^ j) hL1
  rw [← Nat.pow_add, show d.log2 + j = 52 by omega] at this
  omega
 have n2 : d * 2 ^ j < 9007199254740992 := by
  have := Nat.mul_lt_mul_of_pos_right hL2 (Nat.two_pow_pos j)
  rw [← Nat.pow_add, show d.log2 + 1 + j = 53 by omega] at this
  omega
 refine ⟨(1074 - j) * 4503599627370496 + d * 2 ^ j, by omega, by omega, ?_, ?_⟩
 ·unfold Format.nearest
  rw [if_neg hm]
  simp only [least_eq, binade_eq, inf_eq, frac_eq]
  have hlast : max (0 + (d.log2 : Int) - (52 : Nat)) (-1074) = -(j : Int) := by omega
  rw [hlast]
  have hc := cut_at neg d (d * 2 ^ j) 0 (-(j : Int)) (by omega) (by omega) (by omega)
  have q : pw2 0 = pw2 (-(j : Int)) * 2 ^ j := pw2_step _ _ _ (by omega) (by omega)
  rw [q] at hc
  have t0 := pw2_pos (-(j : Int))
  generalize pw2 (-(j : Int)) = t at *
  generalize hX : d * 2 ^ j = X at *
  have d1 : 2 * (d * (t * 2 ^ j)) = 2 * (X * t) := by rw [← hX]; grind
  have d2 : 2 * X * t = 2 * (X * t) := by grind
  have d3 : (2 * X + 1) * t = 2 * (X * t) + t := by grind
  rw [d1, d2, d3] at hc
  have hc2 := hc (by omega) (by omega) (fun _ => by omega)
  clear hc
  rw [hc2, rung_j j X (by omega) n2]
 ·have hx : bexp ((1074 - j) * 4503599627370496 + d * 2 ^ j) = 1075 - j := by unfold bexp; omega
  have hy : bman ((1074 - j) * 4503599627370496 + d * 2 ^ j) = d * 2 ^ j - 4503599627370496 := by unfold bman; omega
  unfold bM bE
  rw [hx, hy, if_neg (by omega), if_neg (by omega), show 4503599627370496 + (d * 2 ^ j - 4503599627370496) = d * 2 ^ j by omega]
  have q : pw2 0 = pw2 (((1075 - j : Nat) : Int) - 1075) * 2 ^ j := pw2_step _ _ _ (by omega) (by omega)
  rw [q]; grind
end Go.Proofs.YtnccpddjdgndcaaGreatDoor.Nt
end

section
/- PRODUCTS AND QUOTIENTS OF WORDS are the number that is the nearest one. No walk. -/
namespace Go.Proofs.YtnccpddjdgndcaaGreatDoor.Nt
open Go.Proofs.YtnccpddjdgndcaaGreatDoor.Fmt Ieee
theorem pw2_split (a b c : Int) (h : a + b = c) (ha : -900 ≤ a) (hb : -900 ≤ b) : pw2 a * pw2 b = pw2 c * pw2 0 :=
 pw2_add a b c 0 (by omega) (by omega) (by omega) (by omega) (by omega)
theorem inr_up (b d k : Nat) (h : InR b (d * pw2 0 * pw10 k)) :
  lowQ b * pw2 (bE b - 2) ≤ d * 10 ^ k * pw2 0 ∧ d * 10 ^ k * pw2 0 ≤ (4 * bM b + 2) * pw2 (bE b - 2) ∧
  (bM b % 2 = 1 → lowQ b * pw2 (bE b - 2) < d * 10 ^ k * pw2 0 ∧ d * 10 ^ k * pw2 0 < (4 * bM b + 2) * pw2 (bE b - 2)) := by
 obtain ⟨h1, h2, h3⟩ := h
 have P := pw10_pos 0
 have e : d * pw2 0 * pw10 k = d * 10 ^ k * pw2 0 * pw10 0 := by
  rw [pw10_step 0 k k (by omega) (by omega)]; grind
 rw [e] at h1 h2 h3
 exact ⟨Nat.le_of_mul_le_mul_right h1 P, Nat.le_of_mul_le_mul_right h2 P, fun h => ⟨Nat.lt_of_mul_lt_mul_right (h3 h).1, Nat.lt_of_mul_lt_mul_right (h3 h).2⟩⟩
theorem inr_down (b d k : Nat) (hk : k ≤ 300) (h : InR b (d * pw2 0 * pw10 (-(k : Int)))) :
  lowQ b * pw2 (bE b - 2) * 10 ^ k ≤ d * pw2 0 ∧ d * pw2 0 ≤ (4 * bM b + 2) * pw2 (bE b - 2) * 10 ^ k ∧
  (bM b % 2 = 1 → lowQ b * pw2 (bE b - 2) * 10 ^ k < d * pw2 0 ∧ d * pw2 0 < (4 * bM b + 2) * pw2 (bE b - 2) * 10 ^ k) := by
 obtain ⟨h1, h2, h3⟩ := h
 have P := pw10_pos (-(k : Int))
 have e := pw10_step (-(k : Int)) 0 k (by omega) (by omega)
 rw [e] at h1 h2 h3
 have a1 : ∀ x, x * (pw10 (-(k : Int)) * 10 ^ k) = x * 10 ^ k * pw10 (-(k : Int)) := by intro x; grind
 simp only [a1] at h1 h2 h3
 exact ⟨Nat.le_of_mul_le_mul_right h1 P, Nat.le_of_mul_le_mul_right h2 P, fun h => ⟨Nat.lt_of_mul_lt_mul_right (h3 h).1, Nat.lt_of_mul_lt_mul_right (h3 h).2⟩⟩
theorem mul_word (s t : Bool) (a c b d k : Nat) (h1 : 1 ≤ b) (h2 : b < 9218868437227405312) (ha : 1 ≤ a) (ha2 : a < 9218868437227405312) (hc : 1 ≤ c) (hc2 : c < 9218868437227405312)
  (ea : bM a * pw2 (bE a) = d * pw2 0) (ec : bM c * pw2 (bE c) = 10 ^ k * pw2 0) (hba : -900 ≤ bE a) (hba2 : bE a ≤ 900) (hbc : -900 ≤ bE c) (hbc2 : bE c ≤ 900)
  (h : InR b (d * pw2 0 * pw10 k)) : double.mul (double.word s a) (double.word t c) = some (double.word (s ^^ t) b) := by
 obtain ⟨r1, r2, r3⟩ := inr_up b d k h
 obtain ⟨f1, _⟩ := bM_facts a ha ha2
 obtain ⟨g1, _⟩ := bM_facts c hc hc2
 have e : bM a * bM c * pw2 (bE a + bE c) = d * 10 ^ k * pw2 0 := by
  have q := pw2_split (bE a) (bE c) _ rfl hba hbc
  have P := pw2_pos 0
  have : bM a * bM c * pw2 (bE a + bE c) * pw2 0 = d * 10 ^ k * pw2 0 * pw2 0 := by
   rw [Nat.mul_assoc (bM a * bM c), ← q, show bM a * bM c * (pw2 (bE a) * pw2 (bE c)) = (bM a * pw2 (bE a)) * (bM c * pw2 (bE c)) by grind, ea, ec]; grind
  exact Nat.eq_of_mul_eq_mul_right P this
 unfold Format.mul
 rw [read_word s a ha2, read_word t c hc2]
 show some (double.nearest _ _ _) = _
 refine congrArg some ?_
 rw [← e] at r1 r2 r3
 exact nearest_of _ b _ _ h1 h2 (Nat.ne_of_gt (Nat.mul_pos f1 g1)) (by omega) (by omega) r1 r2 r3
theorem div_side (d k m n c D q : Nat) (i j e P : Int) (more C : Nat) (hn : 1 ≤ n) (e1 : m * pw2 i = d * pw2 0) (e2 : n * pw2 j = 10 ^ k * pw2 0) (hP : P = i - j - more - 1) (hC : C = c * 2 ^ (e - P - 1).toNat) (he : P + 1 ≤ e)
  (hD : D = m * 2 ^ more) (hq : q = 2 * (D / n) + (D % n != 0).toNat) (hi : -600 ≤ i) (hi2 : i ≤ 600) (hj : -600 ≤ j) (hj2 : j ≤ 600) (hm : more ≤ 600) :
  (c * pw2 e * 10 ^ k ≤ d * pw2 0 → c * pw2 e ≤ q * pw2 P) ∧ (c * pw2 e * 10 ^ k < d * pw2 0 → c * pw2 e < q * pw2 P) ∧
  (d * pw2 0 ≤ c * pw2 e * 10 ^ k → q * pw2 P ≤ c * pw2 e) ∧ (d * pw2 0 < c * pw2 e * 10 ^ k → q * pw2 P < c * pw2 e) := by
 have X := pw2_pos 0
 have Z := Nat.mul_pos (pw2_pos (P + 1)) (pw2_pos j)
 have t1 : pw2 e = pw2 (P + 1) * 2 ^ (e - P - 1).toNat := pw2_step _ _ _ (by omega) (by omega)
 have t2 : pw2 i = pw2 (i - more) * 2 ^ more := pw2_step _ _ _ (by omega) (by omega)
 have t3 : pw2 (P + 1) * pw2 j = pw2 (i - more) * pw2 0 := pw2_add _ _ _ _ (by omega) (by omega) (by omega) (by omega) (by omega)
 have t4 : pw2 (P + 1) = pw2 P * 2 ^ 1 := pw2_step _ _ _ (by omega) (by omega)
 have h1 : c * pw2 e * 10 ^ k * pw2 0 = C * n * (pw2 (P + 1) * pw2 j) := by
  rw [show C * n * (pw2 (P + 1) * pw2 j) = C * pw2 (P + 1) * (n * pw2 j) by grind, e2, hC, t1]; grind
 have h2 : d * pw2 0 * pw2 0 = D * (pw2 (P + 1) * pw2 j) := by
  rw [← e1, hD, t3, t2]; grind
 have u1 := le_turn X Z h1 h2
 have u2 := le_turn X Z h2 h1
 have cp : c * pw2 e = 2 * C * pw2 P := by rw [t1, hC, t4]; grind
 rw [u1.1, u1.2, u2.1, u2.2, cp]
 have hdm := Nat.div_add_mod D n
 have hr := Nat.mod_lt D (show n > 0 by omega)
 have hq2 : q = 2 * (D / n) + (if D % n = 0 then 0 else 1) := by
  rw [hq]
  by_cases z : D % n = 0
  ·rw [z]; rfl
  ·rw [if_neg z, show (D % n != 0) = true by simp [z]]; rfl
 generalize D / n = Q at *
 generalize D % n = R at *
 have m1 : ∀ y, n * y + n * 1 = n * (y + 1) := by intro y; grind
 refine ⟨fun h => Nat.mul_le_mul_right _ ?_, fun h => Nat.mul_lt_mul_of_pos_right ?_ (pw2_pos P), fun h => Nat.mul_le_mul_right _ ?_, fun h => Nat.mul_lt_mul_of_pos_right ?_ (pw2_pos P)⟩
 ·have : C ≤ Q := by
   rcases Nat.lt_or_ge Q C with g | g
   ·have := Nat.mul_le_mul_left n (show Q + 1 ≤ C by omega)
    rw [← m1, Nat.mul_comm n C] at this; omega
   ·exact g
  split at hq2 <;> omega
 ·rcases Nat.lt_or_ge Q C with g | g
  ·have := Nat.mul_le_mul_left n (show Q + 1 ≤ C by omega)
   rw [← m1, Nat.mul_comm n C] at this; omega
  ·by_cases g2 : C = Q
   ·subst g2
    rw [Nat.mul_comm C n] at h
    split at hq2 <;> omega
   ·split at hq2 <;> omega
 ·rcases Nat.lt_or_ge Q C with g | g
  ·split at hq2 <;> omega
  ·have := Nat.mul_le_mul_left n g
   rw [Nat.mul_comm n C] at this
   have r0 : R = 0 := by omega
   have : n * Q = n * C := by rw [Nat.mul_comm n C]; omega
   have := Nat.eq_of_mul_eq_mul_left (show 0 < n by omega) this
   rw [if_pos r0] at hq2
   omega
 ·have : Q < C := by
   rcases Nat.lt_or_ge Q C with g | g
   ·exact g
   ·have := Nat.mul_le_mul_left n g
    rw [Nat.mul_comm n C] at this; omega
  split at hq2 <;> omega
theorem div_word (s t : Bool) (a c b d k : Nat) (h1 : 1 ≤ b) (h2 : b < 9218868437227405312) (ha : 1 ≤ a) (ha2 : a < 9218868437227405312) (hc : 1 ≤ c) (hc2 : c < 9218868437227405312) (hk : k ≤ 300)
  (ea : bM a * pw2 (bE a) = d * pw2 0) (ec : bM c * pw2 (bE c) = 10 ^ k * pw2 0) (hba : -600 ≤ bE a) (hba2 : bE a ≤ 600) (hbc : -600 ≤ bE c) (hbc2 : bE c ≤ 600)
  (h : InR b (d * pw2 0 * pw10 (-(k : Int)))) : double.div (double.word s a) (double.word t c) = some (double.word (s ^^ t) b) := by
 obtain ⟨r1, r2, r3⟩ := inr_down b d k hk h
 obtain ⟨f1, f2, _⟩ := bM_facts a ha ha2
 obtain ⟨g1, g2, _⟩ := bM_facts c hc hc2
 obtain ⟨b1, b2, b3, b4, b5, b6, b7⟩ := bM_facts b h1 h2
 unfold Format.div
 rw [read_word s a ha2, read_word t c hc2]
 show Option.map double.write (if bM c = 0 then (if bM a = 0 then none else some (Datum.infinity (s ^^ t))) else
  some (Datum.number (s ^^ t) (2 * ((bM a <<< (double.fractionBits + 2 + (bM c).log2 - (bM a).log2)) / bM c) + ((bM a <<< (double.fractionBits + 2 + (bM c).log2 - (bM a).log2)) % bM c != 0).toNat) (bE a - bE c - ((double.fractionBits + 2 + (bM c).log2 - (bM a).log2 : Nat) : Int) - 1))) = _
 rw [if_neg (show bM c ≠ 0 by omega)]
 show some (double.nearest _ _ _) = _
 refine congrArg some ?_
 generalize bM a = m at *
 generalize bM c = n at *
 generalize bE a = i at *
 generalize bE c = j at *
 rw [Nat.shiftLeft_eq]
 have hm0 : m ≠ 0 := by omega
 have hn0 : n ≠ 0 := by omega
 have m1 := Nat.log2_self_le hm0
 have m2 := Nat.lt_log2_self (n := m)
 have n1 := Nat.log2_self_le hn0
 have n2 := Nat.lt_log2_self (n := n)
 have ml : m.log2 ≤ 53 := by
  have : 2 ^ m.log2 < 2 ^ 54 := Nat.lt_of_le_of_lt m1 (by omega)
  have := (Nat.pow_lt_pow_iff_right (by decide : 1 < 2)).1 this
  omega
 have nl : n.log2 ≤ 53 := by
  have : 2 ^ n.log2 < 2 ^ 54 := Nat.lt_of_le_of_lt n1 (by omega)
  have := (Nat.pow_lt_pow_iff_right (by decide : 1 < 2)).1 this
  omega
 obtain ⟨more, hmore⟩ : ∃ more : Nat, double.fractionBits + 2 + n.log2 - m.log2 = more := ⟨_, rfl⟩
 rw [hmore]
 rw [frac_eq] at hmore
 have hq0 : 9007199254740992 ≤ m * 2 ^ more / n := by
  rw [Nat.le_div_iff_mul_le (by omega)]
  have c1 := Nat.mul_le_mul_right (2 ^ more) m1
  rw [← Nat.pow_add, show m.log2 + more = n.log2 + 1 + 53 by omega, Nat.pow_add, show (2 : Nat) ^ 53 = 9007199254740992 by decide] at c1
  omega
 obtain ⟨P, hP⟩ : ∃ P : Int, i - j - (more : Nat) - 1 = P := ⟨_, rfl⟩
 rw [hP]
 obtain ⟨q, hq⟩ : ∃ q, 2 * (m * 2 ^ more / n) + (m * 2 ^ more % n != 0).toNat = q := ⟨_, rfl⟩
 rw [hq]
 have side := fun (c' : Nat) (e : Int) (he : P + 1 ≤ e) => div_side d k m n c' (m * 2 ^ more) q i j e P more _ (by omega) ea ec hP.symm rfl he rfl hq.symm (by omega) (by omega) (by omega) (by omega) (by omega)
 have t4 : pw2 (P + 1) = pw2 P * 2 ^ 1 := pw2_step _ _ _ (by omega) (by omega)
 have hPe : P + 1 ≤ bE b - 1 := by
  have s1 := (side (m * 2 ^ more / n) (P + 1) (by omega))
  have w0 : q * pw2 P ≤ (4 * bM b + 2) * pw2 (bE b - 2) ∨ P + 1 ≤ bE b - 1 := by
   rcases Int.lt_or_le (bE b - 2) (P + 1) with g | g
   ·right
    rcases Int.lt_or_le (bE b - 1) (P + 1) with g2 | g2
    ·exfalso
     have s2 := (side 9007199254740992 (P + 1) (by omega))
     have z : pw2 (P + 1) = pw2 (bE b - 2) * 2 ^ (P + 1 - (bE b - 2)).toNat := pw2_step _ _ _ (by omega) (by omega)
     have z2 : 2 ^ 2 ≤ 2 ^ (P + 1 - (bE b - 2)).toNat := Nat.pow_le_pow_right (by decide) (by omega)
     have z3 : (4 * bM b + 2) * pw2 (bE b - 2) * 10 ^ k < 9007199254740992 * pw2 (P + 1) * 10 ^ k := by
      refine Nat.mul_lt_mul_of_pos_right ?_ (Nat.pow_pos (by decide))
      rw [z]
      have := Nat.mul_le_mul_left (pw2 (bE b - 2)) z2
      have c4 : (4 * bM b + 2) * pw2 (bE b - 2) < 36028797018963968 * pw2 (bE b - 2) := Nat.mul_lt_mul_of_pos_right (by omega) (pw2_pos _)
      omega
     have z4 := s2.2.2.2 (Nat.lt_of_le_of_lt r2 z3)
     rw [t4] at z4
     have z5 : 9007199254740992 * (pw2 P * 2 ^ 1) = 18014398509481984 * pw2 P := by grind
     rw [z5] at z4
     have := Nat.lt_of_mul_lt_mul_right z4
     omega
    ·exact g2
   ·exact Or.inr (by omega)
  rcases w0 with w0 | w0
  ·have c3 := Nat.mul_le_mul_right (pw2 P) (show 18014398509481984 ≤ q by omega)
   have c4 : (4 * bM b + 2) * pw2 (bE b - 2) < 36028797018963968 * pw2 (bE b - 2) := Nat.mul_lt_mul_of_pos_right (by omega) (pw2_pos _)
   have c5 : pw2 (P + 54) = pw2 P * 2 ^ 54 := pw2_step _ _ _ (by omega) (by omega)
   have c6 : pw2 (bE b + 53) = pw2 (bE b - 2) * 2 ^ 55 := pw2_step _ _ _ (by omega) (by omega)
   rw [show (2 : Nat) ^ 54 = 18014398509481984 by decide] at c5
   rw [show (2 : Nat) ^ 55 = 36028797018963968 by decide] at c6
   have := pw2_lt (a := P + 54) (b := bE b + 53) (by omega) (by omega)
   omega
  ·exact w0
 have t5 : pw2 (bE b - 1) = pw2 (bE b - 2) * 2 ^ 1 := pw2_step _ _ _ (by omega) (by omega)
 have up := side (2 * bM b + 1) (bE b - 1) hPe
 have u1 : (2 * bM b + 1) * pw2 (bE b - 1) = (4 * bM b + 2) * pw2 (bE b - 2) := by rw [t5]; grind
 rw [u1] at up
 have lo : (lowQ b * pw2 (bE b - 2) ≤ q * pw2 P) ∧ (bM b % 2 = 1 → lowQ b * pw2 (bE b - 2) < q * pw2 P) := by
  by_cases hz : bman b = 0 ∧ 2 ≤ bexp b
  ·have hM : bM b = 4503599627370496 := by unfold bM; rw [if_neg (by omega), hz.1]
   refine ⟨?_, fun h => by rw [hM] at h; omega⟩
   rcases Int.lt_or_le (bE b - 2) (P + 1) with g | g
   ·obtain rfl : P = bE b - 2 := by omega
    refine Nat.mul_le_mul_right _ ?_
    have : lowQ b = 18014398509481983 := by unfold lowQ; rw [if_pos hz, hM]
    omega
   ·exact (side (lowQ b) (bE b - 2) g).1 r1
  ·have hl : lowQ b = 2 * (2 * bM b - 1) := by unfold lowQ; rw [if_neg hz]; omega
   have l1 : (2 * bM b - 1) * pw2 (bE b - 1) = lowQ b * pw2 (bE b - 2) := by rw [t5, hl]; grind
   have sd := side (2 * bM b - 1) (bE b - 1) hPe
   rw [l1] at sd
   exact ⟨sd.1 r1, fun h => sd.2.1 (r3 h).1⟩
 exact nearest_of _ b q P h1 h2 (by omega) (by omega) (by omega) lo.1 (up.2.2.1 r2) (fun h => ⟨lo.2 h, up.2.2.2 (r3 h).2⟩)
end Go.Proofs.YtnccpddjdgndcaaGreatDoor.Nt
end

section
/- PLAIN: decimals of many digits and their shifts, as the slow road of reading a float makes them. No program in sight. -/
namespace Go.Proofs.YtnccpddjdgndcaaGreatDoor.Dc
def val (l : List Nat) : Nat := l.foldl (fun a d => a * 10 + d) 0
theorem val_from (l : List Nat) : ∀ a, l.foldl (fun a d => a * 10 + d) a = a * 10 ^ l.length + val l := by
 unfold val
 induction l with
 | nil => intro a; simp
 | cons d l ih =>
  intro a
  rw [List.foldl_cons, List.foldl_cons, ih, ih (0 * 10 + d), List.length_cons, Nat.pow_succ, Nat.add_mul, Nat.add_mul, Nat.mul_assoc, Nat.mul_comm 10]
  omega
theorem val_append (a b : List Nat) : val (a ++ b) = val a * 10 ^ b.length + val b := by
 conv => lhs; unfold val
 rw [List.foldl_append]
 exact val_from b _
theorem val_cons (d : Nat) (l : List Nat) : val (d :: l) = d * 10 ^ l.length + val l := by
 rw [show d :: l = [d] ++ l from rfl, val_append]
 simp [val]
theorem val_zeros (m : Nat) : val (List.replicate m 0) = 0 := by
 induction m with
 | zero => rfl
 | succ m ih => rw [List.replicate_succ, val_cons, ih]; simp
def Dg (l : List Nat) : Prop := ∀ d ∈ l, d ≤ 9
theorem val_lt : ∀ (l : List Nat), Dg l → val l < 10 ^ l.length
 | [], _ => by simp [val]
 | d :: l, h => by
  have h1 := h d List.mem_cons_self
  have h2 := val_lt l fun x hx => h x (List.mem_cons_of_mem _ hx)
  rw [val_cons, List.length_cons, Nat.pow_succ]
  have : d * 10 ^ l.length ≤ 9 * 10 ^ l.length := Nat.mul_le_mul_right _ h1
  omega
def Hd (l : List Nat) : Prop := ∃ d r, l = d :: r ∧ d ≠ 0
theorem val_ge {l : List Nat} (h : Hd l) : 10 ^ (l.length - 1) ≤ val l := by
 obtain ⟨d, r, rfl, h0⟩ := h
 rw [val_cons, List.length_cons, Nat.add_sub_cancel]
 have : 1 * 10 ^ r.length ≤ d * 10 ^ r.length := Nat.mul_le_mul_right _ (Nat.pos_of_ne_zero h0)
 omega
def trimZ (l : List Nat) : List Nat := (l.reverse.dropWhile (· == 0)).reverse
theorem trimZ_split (l : List Nat) : ∃ m, l = trimZ l ++ List.replicate m 0 := by
 unfold trimZ
 refine ⟨(l.reverse.takeWhile (· == 0)).length, ?_⟩
 have h : l.reverse.takeWhile (· == 0) = List.replicate (l.reverse.takeWhile (· == 0)).length 0 := by
  rw [List.eq_replicate_iff]
  refine ⟨rfl, fun x hx => ?_⟩
  have : ∀ (k : List Nat), ∀ y ∈ k.takeWhile (· == 0), y = 0 := by
   intro k
   induction k with
   | nil => intro y hy; simp at hy
   | cons z k ih =>
    intro y hy
    rw [List.takeWhile_cons] at hy
    split at hy
    ·rename_i hz
     rcases List.mem_cons.1 hy with rfl | hy
     ·simpa using hz
     ·exact ih y hy
    ·simp at hy
  exact this _ x hx
 have e := (List.takeWhile_append_dropWhile (p := (· == 0)) (l := l.reverse)).symm
 have e2 := congrArg List.reverse e
 rw [List.reverse_reverse, List.reverse_append] at e2
 rw [h, List.reverse_replicate] at e2
 exact e2
theorem trimZ_dg {l : List Nat} (h : Dg l) : Dg (trimZ l) := fun d hd => by
 obtain ⟨m, e⟩ := trimZ_split l
 exact h d (by rw [e]; exact List.mem_append_left _ hd)
theorem trimZ_hd {l : List Nat} (h : Hd l) : Hd (trimZ l) := by
 obtain ⟨m, e⟩ := trimZ_split l
 obtain ⟨d, r, e2, h0⟩ := h
 cases ht : trimZ l with
 | nil =>
  exfalso
  rw [ht, List.nil_append, e2] at e
  cases m with
  | zero => simp at e
  | succ m =>
   rw [List.replicate_succ] at e
   exact h0 (List.cons.inj e).1
 | cons a s =>
  rw [ht, e2, List.cons_append] at e
  exact ⟨a, s, rfl, by rw [← (List.cons.inj e).1]; exact h0⟩
theorem trimZ_len (l : List Nat) : (trimZ l).length ≤ l.length := by
 obtain ⟨m, e⟩ := trimZ_split l
 have := congrArg List.length e
 rw [List.length_append] at this
 omega
def fl (l : List Nat) (dp : Int) : Nat := val l * 10 ^ dp.toNat / 10 ^ l.length
theorem fl_trim (l : List Nat) (dp : Int) : fl (trimZ l) dp = fl l dp := by
 obtain ⟨m, e⟩ := trimZ_split l
 unfold fl
 conv => rhs; rw [e]
 rw [val_append, val_zeros, List.length_append, List.length_replicate, Nat.add_zero, Nat.pow_add, Nat.mul_right_comm]
 exact (Nat.mul_div_mul_right _ _ (Nat.pow_pos (by decide))).symm
theorem fl_take (l : List Nat) (m : Nat) (dp : Int) : fl (l.take m) dp ≤ fl l dp := by
 unfold fl
 have e := (List.take_append_drop m l).symm
 conv => rhs; rw [e]
 rw [val_append, List.length_append, Nat.pow_add]
 refine (Nat.le_div_iff_mul_le (Nat.mul_pos (Nat.pow_pos (by decide)) (Nat.pow_pos (by decide)))).2 ?_
 have h := Nat.div_mul_le_self (val (l.take m) * 10 ^ dp.toNat) (10 ^ (l.take m).length)
 calc val (l.take m) * 10 ^ dp.toNat / 10 ^ (l.take m).length * (10 ^ (l.take m).length * 10 ^ (l.drop m).length)
   = val (l.take m) * 10 ^ dp.toNat / 10 ^ (l.take m).length * 10 ^ (l.take m).length * 10 ^ (l.drop m).length := by rw [Nat.mul_assoc]
  _ ≤ val (l.take m) * 10 ^ dp.toNat * 10 ^ (l.drop m).length := Nat.mul_le_mul_right _ h
  _ = val (l.take m) * 10 ^ (l.drop m).length * 10 ^ dp.toNat := Nat.mul_right_comm _ _ _
  _ ≤ _ := Nat.mul_le_mul_right _ (Nat.le_add_right _ _)
def mul10 (k : Nat) : Nat → Nat → Nat → Nat × Nat
 | 0, n, r => (n, r)
 | f + 1, n, r => if n / 2 ^ k = 0 then mul10 k f (n * 10) (r + 1) else (n, r)
def pick (k : Nat) : Nat → Nat → List Nat → Nat × Nat × List Nat
 | n, r, [] => ((mul10 k k n r).1, (mul10 k k n r).2, [])
 | n, r, d :: ds => if n / 2 ^ k = 0 then pick k (n * 10 + d) (r + 1) ds else (n, r, d :: ds)
def divTail (k : Nat) : Nat → Nat → List Nat
 | 0, _ => []
 | f + 1, n => if n = 0 then [] else n / 2 ^ k :: divTail k f (n % 2 ^ k * 10)
def divGo (k : Nat) : Nat → List Nat → List Nat
 | n, [] => divTail k (k + 2) n
 | n, d :: ds => n / 2 ^ k :: divGo k (n % 2 ^ k * 10 + d) ds
theorem mul10_spec (k : Nat) : ∀ (f n r : Nat), 0 < n → 2 ^ k ≤ n * 2 ^ f → n < 2 ^ k * 10 → ∃ j, mul10 k f n r = (n * 10 ^ j, r + j) ∧ 2 ^ k ≤ n * 10 ^ j ∧ n * 10 ^ j < 2 ^ k * 10
 | 0, n, r, _, h, h2 => ⟨0, by simp [mul10], by simpa using h, by simpa using h2⟩
 | f + 1, n, r, h0, h, h2 => by
  unfold mul10
  by_cases hz : n / 2 ^ k = 0
  ·rw [if_pos hz]
   have hlt : n < 2 ^ k := by
    rcases Nat.lt_or_ge n (2 ^ k) with g | g
    ·exact g
    ·have := Nat.div_pos g (Nat.pow_pos (by decide)); omega
   obtain ⟨j, e1, e2, e3⟩ := mul10_spec k f (n * 10) (r + 1) (by omega) (by
    have : n * 2 ^ (f + 1) ≤ n * 10 * 2 ^ f := by
     rw [Nat.pow_succ, Nat.mul_assoc]
     rw [Nat.mul_comm (2 ^ f) 2]
     exact Nat.mul_le_mul_left _ (Nat.mul_le_mul_right _ (by decide))
    omega) (by omega)
   refine ⟨j + 1, ?_, ?_, ?_⟩
   ·rw [e1, Nat.pow_succ, Nat.mul_comm (10 ^ j) 10, Nat.mul_assoc, Nat.add_assoc, Nat.add_comm 1 j]
   ·rw [Nat.pow_succ, Nat.mul_comm (10 ^ j) 10, ← Nat.mul_assoc]; exact e2
   ·rw [Nat.pow_succ, Nat.mul_comm (10 ^ j) 10, ← Nat.mul_assoc]; exact e3
  ·rw [if_neg hz]
   refine ⟨0, by simp, ?_, by simpa using h2⟩
   rcases Nat.lt_or_ge n (2 ^ k) with g | g
   ·exact absurd (Nat.div_eq_of_lt g) hz
   ·simpa using g
theorem pick_spec (k : Nat) (D L : Nat) : ∀ (ds : List Nat) (n r : Nat), Dg ds → n < 2 ^ k * 10 → 0 < n + val ds → r + ds.length = L → n * 10 ^ ds.length + val ds = D →
  ∃ n2 r2 ds2, pick k n r ds = (n2, r2, ds2) ∧ 2 ^ k ≤ n2 ∧ n2 < 2 ^ k * 10 ∧ Dg ds2 ∧ L ≤ r2 + ds2.length ∧ n2 * 10 ^ ds2.length + val ds2 = D * 10 ^ (r2 + ds2.length - L) ∧ r ≤ r2
 | [], n, r, _, h2, h0, hL, hD => by
  have hv : val ([] : List Nat) = 0 := rfl
  rw [hv] at h0 hD
  simp only [List.length_nil, Nat.pow_zero, Nat.mul_one, Nat.add_zero] at hL hD h0
  obtain ⟨j, e1, e2, e3⟩ := mul10_spec k k n r h0 (Nat.le_mul_of_pos_left _ h0) h2
  refine ⟨n * 10 ^ j, r + j, [], by unfold pick; rw [e1], e2, e3, (fun d hd => by cases hd), by simp; omega, ?_, by omega⟩
  simp only [hv, List.length_nil, Nat.pow_zero, Nat.mul_one, Nat.add_zero]
  rw [hD, hL, Nat.add_sub_cancel_left]
 | d :: ds, n, r, hd, h2, h0, hL, hD => by
  unfold pick
  have hd1 := hd d List.mem_cons_self
  rw [List.length_cons] at hL
  rw [val_cons, List.length_cons] at hD
  rw [val_cons] at h0
  by_cases hz : n / 2 ^ k = 0
  ·rw [if_pos hz]
   have hlt : n < 2 ^ k := by
    rcases Nat.lt_or_ge n (2 ^ k) with g | g
    ·exact g
    ·have := Nat.div_pos g (Nat.pow_pos (by decide)); omega
   obtain ⟨n2, r2, ds2, e1, e2, e3, e4, e5, e6, e7⟩ := pick_spec k D L ds (n * 10 + d) (r + 1) (fun x hx => hd x (List.mem_cons_of_mem _ hx)) (by omega) (by
    rcases Nat.eq_zero_or_pos (n + val ds) with g | g
    ·have hn : n = 0 := by omega
     have hv : val ds = 0 := by omega
     rw [hn, hv] at h0
     have : d ≠ 0 := by rintro rfl; simp at h0
     omega
    ·omega) (by omega) (by
    rw [← hD, Nat.add_mul, Nat.pow_succ, Nat.mul_assoc, Nat.mul_comm 10]; omega)
   exact ⟨n2, r2, ds2, e1, e2, e3, e4, e5, e6, by omega⟩
  ·rw [if_neg hz]
   refine ⟨n, r, d :: ds, rfl, ?_, h2, hd, by simp; omega, ?_, Nat.le_refl _⟩
   ·rcases Nat.lt_or_ge n (2 ^ k) with g | g
    ·exact absurd (Nat.div_eq_of_lt g) hz
    ·exact g
   ·rw [val_cons, List.length_cons, hD, hL, Nat.sub_self, Nat.pow_zero, Nat.mul_one]
theorem lt_of_div {n q p : Nat} (h : n < p * q) : n / p < q := Nat.div_lt_of_lt_mul h
theorem divTail_spec (k : Nat) : ∀ (f n i : Nat), n < 2 ^ k * 10 → (i ≤ k → 2 ^ i ∣ n) → (k < i → n = 0) → i + f = k + 2 → Dg (divTail k f n) ∧ val (divTail k f n) * 2 ^ k * 10 = n * 10 ^ (divTail k f n).length
 | 0, n, i, h, _, hz, hi => by
  have : n = 0 := hz (by omega)
  subst this
  exact ⟨fun d hd => by simp [divTail] at hd, by simp [divTail, val]⟩
 | f + 1, n, i, h, hd, hz, hi => by
  unfold divTail
  by_cases h0 : n = 0
  ·rw [if_pos h0, h0]
   exact ⟨(fun d hd => by cases hd), by simp [val]⟩
  rw [if_neg h0]
  have hik : i ≤ k := by
   rcases Nat.lt_or_ge k i with g | g
   ·exact absurd (hz g) h0
   ·exact g
  have hp : 0 < 2 ^ k := Nat.pow_pos (by decide)
  have hq : n / 2 ^ k < 10 := lt_of_div h
  have hr : n % 2 ^ k < 2 ^ k := Nat.mod_lt _ hp
  have hdm := Nat.div_add_mod n (2 ^ k)
  have hdv : 2 ^ i ∣ n % 2 ^ k := (Nat.dvd_mod_iff (Nat.pow_dvd_pow 2 hik)).2 (hd hik)
  obtain ⟨e1, e2⟩ := divTail_spec k f (n % 2 ^ k * 10) (i + 1) (by omega) (fun _ => by
   obtain ⟨m, hm⟩ := hdv
   rw [hm]
   exact ⟨m * 5, by rw [Nat.pow_succ, Nat.mul_assoc, Nat.mul_assoc]; congr 1; omega⟩) (fun g => by
   have : i = k := by omega
   subst this
   rw [Nat.mod_eq_zero_of_dvd (hd hik)]) (by omega)
  generalize divTail k f (n % 2 ^ k * 10) = o at *
  generalize n / 2 ^ k = q at *
  generalize n % 2 ^ k = R at *
  refine ⟨fun d hd => ?_, ?_⟩
  ·rcases List.mem_cons.1 hd with rfl | hd
   ·omega
   ·exact e1 d hd
  ·rw [val_cons, List.length_cons, Nat.pow_succ, Nat.add_mul, Nat.add_mul, e2, ← hdm, Nat.add_mul]
   congr 1
   ·simp only [Nat.mul_comm, Nat.mul_left_comm, Nat.mul_assoc]
   ·simp only [Nat.mul_comm, Nat.mul_assoc]
theorem divGo_spec (k : Nat) : ∀ (ds : List Nat) (n : Nat), Dg ds → n < 2 ^ k * 10 → Dg (divGo k n ds) ∧ ds.length ≤ (divGo k n ds).length ∧ val (divGo k n ds) * 2 ^ k * 10 = (n * 10 ^ ds.length + val ds) * 10 ^ ((divGo k n ds).length - ds.length)
 | [], n, _, h => by
  obtain ⟨e1, e2⟩ := divTail_spec k (k + 2) n 0 h (fun _ => by simp) (fun g => by omega) (by omega)
  unfold divGo
  exact ⟨e1, Nat.zero_le _, by rw [e2]; simp [val]⟩
 | d :: ds, n, hg, h => by
  unfold divGo
  have hp : 0 < 2 ^ k := Nat.pow_pos (by decide)
  have hq : n / 2 ^ k < 10 := lt_of_div h
  have hr : n % 2 ^ k < 2 ^ k := Nat.mod_lt _ hp
  have hdm := Nat.div_add_mod n (2 ^ k)
  have hd9 := hg d List.mem_cons_self
  obtain ⟨e1, e2, e3⟩ := divGo_spec k ds (n % 2 ^ k * 10 + d) (fun x hx => hg x (List.mem_cons_of_mem _ hx)) (by omega)
  generalize divGo k (n % 2 ^ k * 10 + d) ds = o at *
  generalize n / 2 ^ k = q at *
  generalize n % 2 ^ k = R at *
  refine ⟨fun x hx => ?_, by simp; omega, ?_⟩
  ·rcases List.mem_cons.1 hx with rfl | hx
   ·omega
   ·exact e1 x hx
  ·obtain ⟨j, hj⟩ : ∃ j, o.length = ds.length + j := ⟨o.length - ds.length, by omega⟩
   rw [hj, Nat.add_sub_cancel_left] at e3
   rw [val_cons, val_cons, List.length_cons, List.length_cons, hj, show ds.length + j + 1 - (ds.length + 1) = j by omega, Nat.add_mul, Nat.add_mul, e3, ← hdm, Nat.pow_succ, Nat.pow_add]
   simp only [Nat.add_mul, Nat.mul_add, Nat.mul_comm, Nat.mul_left_comm, Nat.mul_assoc]
   omega
theorem divGo_hd (k n : Nat) (ds : List Nat) (h : 2 ^ k ≤ n) : Hd (divGo k n ds) := by
 have hp : 0 < 2 ^ k := Nat.pow_pos (by decide)
 have hq : n / 2 ^ k ≠ 0 := Nat.ne_of_gt (Nat.div_pos h hp)
 cases ds with
 | nil =>
  refine ⟨n / 2 ^ k, divTail k (k + 1) (n % 2 ^ k * 10), ?_, hq⟩
  unfold divGo
  rw [show k + 2 = (k + 1) + 1 from rfl, divTail, if_neg (by omega)]
 | cons d ds => exact ⟨_, _, rfl, hq⟩
structure DS where
 ds : List Nat
 dp : Int
 tr : Bool
def lost (l : List Nat) : Bool := (l.drop 800).any (· != 0)
def right (k : Nat) (s : DS) : DS :=
 let p := pick k 0 0 s.ds
 let o := divGo k p.1 p.2.2
 ⟨trimZ (o.take 800), s.dp - ((p.2.1 : Int) - 1), s.tr || lost o⟩
structure Ok (s : DS) : Prop where
 dg : Dg s.ds
 hd : Hd s.ds
 len : s.ds.length ≤ 800
theorem Ok.take {l : List Nat} (h : Dg l) (hd : Hd l) (dp : Int) (t : Bool) : Ok ⟨trimZ (l.take 800), dp, t⟩ := by
 have h1 : Hd (l.take 800) := by
  obtain ⟨d, r, rfl, h0⟩ := hd
  exact ⟨d, r.take 799, rfl, h0⟩
 refine ⟨trimZ_dg fun d hd => h d (List.mem_of_mem_take hd), trimZ_hd h1, ?_⟩
 have := trimZ_len (l.take 800)
 rw [List.length_take] at this
 show (trimZ (l.take 800)).length ≤ 800
 omega
theorem right_spec (k : Nat) (s : DS) (h : Ok s) : ∃ n r rest, pick k 0 0 s.ds = (n, r, rest) ∧ 2 ^ k ≤ n ∧ n < 2 ^ k * 10 ∧ Dg rest ∧ Dg (divGo k n rest) ∧ Hd (divGo k n rest) ∧ 1 ≤ (divGo k n rest).length ∧
  val (divGo k n rest) * 2 ^ k * 10 ^ s.ds.length * 10 = val s.ds * 10 ^ (r + (divGo k n rest).length) := by
 have hv := val_ge h.hd
 have hp10 : 0 < 10 ^ (s.ds.length - 1) := Nat.pow_pos (by decide)
 obtain ⟨n, r, rest, e1, e2, e3, e4, e5, e6, e7⟩ := pick_spec k (val s.ds) s.ds.length s.ds 0 0 h.dg (Nat.mul_pos (Nat.pow_pos (by decide)) (by decide)) (by omega) (by omega) (by simp)
 obtain ⟨f1, f2, f3⟩ := divGo_spec k rest n e4 e3
 have hh := divGo_hd k n rest e2
 have hl : 1 ≤ (divGo k n rest).length := by
  obtain ⟨d, t, ee, _⟩ := hh
  rw [ee]; simp
 refine ⟨n, r, rest, e1, e2, e3, e4, f1, hh, hl, ?_⟩
 rw [e6] at f3
 calc val (divGo k n rest) * 2 ^ k * 10 ^ s.ds.length * 10
   = val (divGo k n rest) * 2 ^ k * 10 * 10 ^ s.ds.length := Nat.mul_right_comm _ _ _
  _ = val s.ds * (10 ^ (r + rest.length - s.ds.length) * 10 ^ ((divGo k n rest).length - rest.length) * 10 ^ s.ds.length) := by rw [f3]; simp only [Nat.mul_assoc]
  _ = val s.ds * 10 ^ (r + (divGo k n rest).length) := by rw [← Nat.pow_add, ← Nat.pow_add]; congr 2; omega
theorem right_ok (k : Nat) (s : DS) (h : Ok s) : Ok (right k s) := by
 obtain ⟨n, r, rest, e1, _, _, _, f1, f2, _⟩ := right_spec k s h
 unfold right
 rw [e1]
 exact Ok.take f1 f2 _ _
theorem fl_pos {s : DS} (h : Ok s) (hp : 0 < s.dp) : 1 ≤ fl s.ds s.dp := by
 have hv := val_ge h.hd
 obtain ⟨m, hm⟩ : ∃ m : Nat, s.dp.toNat = m + 1 := ⟨s.dp.toNat - 1, by omega⟩
 obtain ⟨d, t, ee, _⟩ := h.hd
 have hl : s.ds.length = (s.ds.length - 1) + 1 := by rw [ee]; simp
 unfold fl
 rw [Nat.le_div_iff_mul_le (Nat.pow_pos (by decide)), hm]
 have he : 10 ^ s.ds.length = 10 ^ (s.ds.length - 1) * 10 := by
  conv => lhs; rw [hl, Nat.pow_succ]
 calc 1 * 10 ^ s.ds.length = 10 ^ (s.ds.length - 1) * 10 := by rw [Nat.one_mul, he]
  _ ≤ val s.ds * 10 := Nat.mul_le_mul_right _ hv
  _ ≤ val s.ds * 10 ^ (m + 1) := Nat.mul_le_mul_left _ (by rw [Nat.pow_succ]; have := Nat.pow_pos (n := m) (show 0 < 10 by decide); omega)
def mulTail : Nat → Nat → List Nat
 | 0, _ => []
 | f + 1, n => if n = 0 then [] else n % 10 :: mulTail f (n / 10)
def mulGo (k : Nat) : Nat → List Nat → List Nat
 | n, [] => mulTail 20 n
 | n, d :: ds => (n + d * 2 ^ k) % 10 :: mulGo k ((n + d * 2 ^ k) / 10) ds
def lv : List Nat → Nat
 | [] => 0
 | d :: l => d + 10 * lv l
theorem lv_val : ∀ l : List Nat, lv l = val l.reverse
 | [] => rfl
 | d :: l => by
  rw [lv, lv_val l, List.reverse_cons, val_append]
  simp [val]
  omega
theorem mulTail_spec : ∀ (f n : Nat), n < 10 ^ f → Dg (mulTail f n) ∧ lv (mulTail f n) = n ∧ (n = 0 → mulTail f n = []) ∧ (n ≠ 0 → 1 ≤ (mulTail f n).length ∧ 10 ^ ((mulTail f n).length - 1) ≤ n)
 | 0, n, h => by
  have : n = 0 := by simp at h; omega
  subst this
  exact ⟨fun d hd => by simp [mulTail] at hd, rfl, fun _ => rfl, fun g => absurd rfl g⟩
 | f + 1, n, h => by
  unfold mulTail
  by_cases h0 : n = 0
  ·rw [if_pos h0]
   exact ⟨(fun d hd => by cases hd), by rw [h0]; rfl, fun _ => rfl, fun g => absurd h0 g⟩
  rw [if_neg h0]
  obtain ⟨e1, e2, e3, e4⟩ := mulTail_spec f (n / 10) (by rw [Nat.pow_succ] at h; omega)
  refine ⟨fun d hd => ?_, ?_, fun g => absurd g h0, fun _ => ⟨by simp, ?_⟩⟩
  ·rcases List.mem_cons.1 hd with rfl | hd
   ·omega
   ·exact e1 d hd
  ·rw [lv, e2]; omega
  ·rw [List.length_cons, Nat.add_sub_cancel]
   by_cases g : n / 10 = 0
   ·rw [e3 g]; simp; omega
   ·obtain ⟨a, b⟩ := e4 g
    obtain ⟨m, hm⟩ : ∃ m, (mulTail f (n / 10)).length = m + 1 := ⟨(mulTail f (n / 10)).length - 1, by omega⟩
    rw [hm] at b ⊢
    rw [Nat.add_sub_cancel] at b
    rw [Nat.pow_succ]
    omega
theorem mulGo_spec (k : Nat) (hk : k ≤ 60) : ∀ (ds : List Nat) (n : Nat), Dg ds → n ≤ 2 ^ k → Dg (mulGo k n ds) ∧ lv (mulGo k n ds) = n + lv ds * 2 ^ k ∧ ds.length ≤ (mulGo k n ds).length ∧ (ds.length < (mulGo k n ds).length → 10 ^ ((mulGo k n ds).length - 1) ≤ n + lv ds * 2 ^ k)
 | [], n, _, h => by
  have h20 : n < 10 ^ 20 := by
   have : 2 ^ k ≤ 2 ^ 60 := Nat.pow_le_pow_right (by decide) hk
   have : (2 : Nat) ^ 60 < 10 ^ 20 := by decide
   omega
  obtain ⟨e1, e2, e3, e4⟩ := mulTail_spec 20 n h20
  unfold mulGo
  refine ⟨e1, by rw [e2]; simp [lv], Nat.zero_le _, fun hl => ?_⟩
  have h0 : n ≠ 0 := fun g => by rw [e3 g] at hl; simp at hl
  rw [lv]
  simpa using (e4 h0).2
 | d :: ds, n, hg, h => by
  unfold mulGo
  have hd9 := hg d List.mem_cons_self
  have h9 : d * 2 ^ k ≤ 9 * 2 ^ k := Nat.mul_le_mul_right _ hd9
  obtain ⟨e1, e2, e3, e4⟩ := mulGo_spec k hk ds ((n + d * 2 ^ k) / 10) (fun x hx => hg x (List.mem_cons_of_mem _ hx)) (by omega)
  generalize mulGo k ((n + d * 2 ^ k) / 10) ds = o at *
  refine ⟨fun x hx => ?_, ?_, by simp; omega, fun hl => ?_⟩
  ·rcases List.mem_cons.1 hx with rfl | hx
   ·omega
   ·exact e1 x hx
  ·rw [lv, e2, lv, Nat.add_mul, Nat.mul_add, ← Nat.mul_assoc]
   omega
  ·simp only [List.length_cons] at hl ⊢
   have := e4 (by omega)
   rw [Nat.add_sub_cancel]
   obtain ⟨m, hm⟩ : ∃ m, o.length = m + 1 := ⟨o.length - 1, by omega⟩
   rw [hm, Nat.add_sub_cancel] at this
   rw [hm, Nat.pow_succ, lv, Nat.add_mul, Nat.mul_assoc]
   omega
def preLess : List Nat → List Nat → Bool
 | _, [] => false
 | [], _ :: _ => true
 | b :: bs, s :: ss => if b = s then preLess bs ss else decide (b < s)
theorem preLess_spec : ∀ (b s : List Nat), Dg b → Dg s → (s = [] ∨ ∃ r d, s = r ++ [d] ∧ d ≠ 0) → (preLess b s = true ↔ val b * 10 ^ s.length < val s * 10 ^ b.length)
 | b, [], _, _, _ => by
  cases b <;> simp [preLess, val]
 | [], s :: ss, _, _, hl => by
  have hpos : 0 < val (s :: ss) := by
   rcases hl with h | ⟨r, d, e, h0⟩
   ·cases h
   ·rw [e, val_append]
    simp only [val, List.foldl_cons, List.foldl_nil]
    omega
  simp only [preLess, true_iff]
  show 0 * _ < _
  simpa using hpos
 | b :: bs, s :: ss, hb, hs, hl => by
  have vb := val_lt bs fun x hx => hb x (List.mem_cons_of_mem _ hx)
  have vs := val_lt ss fun x hx => hs x (List.mem_cons_of_mem _ hx)
  have pb : 0 < 10 ^ bs.length := Nat.pow_pos (by decide)
  have ps : 0 < 10 ^ ss.length := Nat.pow_pos (by decide)
  have hl2 : ss = [] ∨ ∃ r d, ss = r ++ [d] ∧ d ≠ 0 := by
   rcases hl with h | ⟨r, d, e, h0⟩
   ·cases h
   ·cases r with
    | nil => exact .inl (List.cons.inj e).2
    | cons x r => exact .inr ⟨r, d, (List.cons.inj e).2, h0⟩
  have ih := preLess_spec bs ss (fun x hx => hb x (List.mem_cons_of_mem _ hx)) (fun x hx => hs x (List.mem_cons_of_mem _ hx)) hl2
  rw [val_cons, val_cons, List.length_cons, List.length_cons, Nat.pow_succ, Nat.pow_succ]
  unfold preLess
  generalize val bs = B at *
  generalize val ss = S at *
  generalize 10 ^ bs.length = P at *
  generalize 10 ^ ss.length = Q at *
  have ring1 : ∀ x : Nat, (x * P + B) * (Q * 10) = x * (P * Q) * 10 + B * Q * 10 := fun x => by
   rw [Nat.add_mul]
   congr 1
   ·simp only [Nat.mul_assoc]
   ·simp only [Nat.mul_assoc]
  have ring2 : ∀ x : Nat, (x * Q + S) * (P * 10) = x * (P * Q) * 10 + S * P * 10 := fun x => by
   rw [Nat.add_mul]
   congr 1
   ·rw [Nat.mul_comm P Q]; simp only [Nat.mul_assoc]
   ·simp only [Nat.mul_assoc]
  rw [ring1, ring2]
  have hBQ : B * Q < P * Q := Nat.mul_lt_mul_of_pos_right vb ps
  have hSP : S * P < P * Q := by rw [Nat.mul_comm P Q]; exact Nat.mul_lt_mul_of_pos_right vs pb
  by_cases he : b = s
  ·subst he
   rw [if_pos rfl, ih]
   omega
  ·rw [if_neg he, decide_eq_true_eq]
   generalize P * Q = M at *
   constructor
   ·intro h
    have : (b + 1) * M ≤ s * M := Nat.mul_le_mul_right _ h
    rw [Nat.add_mul] at this
    omega
   ·intro h
    rcases Nat.lt_or_ge b s with g | g
    ·exact g
    ·exfalso
     have : (s + 1) * M ≤ b * M := Nat.mul_le_mul_right _ (by omega)
     rw [Nat.add_mul] at this
     omega
structure Row (k δ : Nat) (c : List Nat) : Prop where
 val : Dc.val c = 5 ^ k
 len : c.length + δ = k + 1
 dg : Dg c
 hd : Hd c
 last : ∃ r d, c = r ++ [d] ∧ d ≠ 0
theorem left_len {k δ : Nat} {c : List Nat} (hr : Row k δ c) (hk : k ≤ 60) (ds : List Nat) (hg : Dg ds) (hh : Hd ds) :
  (mulGo k 0 ds.reverse).length + (if preLess ds c = true then 1 else 0) = ds.length + δ ∧ (preLess ds c = true → 1 ≤ δ) := by
 have hgr : Dg ds.reverse := fun d hd => hg d (List.mem_reverse.1 hd)
 obtain ⟨e1, e2, e3, e4⟩ := mulGo_spec k hk ds.reverse 0 hgr (Nat.zero_le _)
 have hlr : lv ds.reverse = val ds := by rw [lv_val, List.reverse_reverse]
 rw [hlr, Nat.zero_add] at e2 e4
 rw [List.length_reverse] at e3 e4
 have vlt := val_lt ds hg
 have vge := val_ge hh
 have hpl := preLess_spec ds c hg hr.dg (.inr hr.last)
 rw [hr.val] at hpl
 have c5 := val_lt c hr.dg
 have c5g := val_ge hr.hd
 rw [hr.val] at c5 c5g
 have hlen := hr.len
 have hl1 : 1 ≤ ds.length := by obtain ⟨d, t, e, _⟩ := hh; rw [e]; simp
 have hc1 : 1 ≤ c.length := by obtain ⟨d, t, e, _⟩ := hr.hd; rw [e]; simp
 have up : val ds * 2 ^ k < 10 ^ (mulGo k 0 ds.reverse).length := by
  rw [← e2, lv_val]
  have := val_lt (mulGo k 0 ds.reverse).reverse (fun d hd => e1 d (List.mem_reverse.1 hd))
  rw [List.length_reverse] at this
  exact this
 have p2 : 1 ≤ 2 ^ k := Nat.pow_pos (by decide)
 have lo : 10 ^ ((mulGo k 0 ds.reverse).length - 1) ≤ val ds * 2 ^ k := by
  rcases Nat.lt_or_ge ds.length (mulGo k 0 ds.reverse).length with g | g
  ·exact e4 g
  ·have : (mulGo k 0 ds.reverse).length = ds.length := by omega
   rw [this]
   exact Nat.le_trans vge (Nat.le_mul_of_pos_right _ p2)
 generalize (mulGo k 0 ds.reverse).length = l at *
 have uniq : ∀ m, 10 ^ (m - 1) ≤ val ds * 2 ^ k → val ds * 2 ^ k < 10 ^ m → 1 ≤ m → l = m := fun m h1 h2 hm => by
  rcases Nat.lt_trichotomy l m with g | g | g
  ·exfalso
   have : 10 ^ l ≤ 10 ^ (m - 1) := Nat.pow_le_pow_right (by decide) (by omega)
   omega
  ·exact g
  ·exfalso
   have : 10 ^ m ≤ 10 ^ (l - 1) := Nat.pow_le_pow_right (by decide) (by omega)
   omega
 have h10 : ∀ x : Nat, 2 ^ k * 5 ^ k = 10 ^ k := fun _ => by rw [← Nat.mul_pow]
 have h25 := h10 0
 have p5 : 0 < 5 ^ k := Nat.pow_pos (by decide)
 cases hp : preLess ds c
 ·-- as many
  have hge : 5 ^ k * 10 ^ ds.length ≤ val ds * 10 ^ c.length := by
   rcases Nat.lt_or_ge (val ds * 10 ^ c.length) (5 ^ k * 10 ^ ds.length) with g | g
   ·rw [hpl.2 g] at hp; cases hp
   ·exact g
  have hm : l = ds.length + δ := by
   refine uniq _ ?_ ?_ (by omega)
   ·refine Nat.le_of_mul_le_mul_right (c := 10 ^ c.length) ?_ (Nat.pow_pos (by decide))
    rw [← Nat.pow_add, show ds.length + δ - 1 + c.length = k + ds.length by omega, Nat.pow_add, ← h25]
    calc 2 ^ k * 5 ^ k * 10 ^ ds.length = 5 ^ k * 10 ^ ds.length * 2 ^ k := by simp only [Nat.mul_comm, Nat.mul_assoc]
     _ ≤ val ds * 10 ^ c.length * 2 ^ k := Nat.mul_le_mul_right _ hge
     _ = val ds * 2 ^ k * 10 ^ c.length := Nat.mul_right_comm _ _ _
   ·have : 2 ^ k ≤ 10 ^ δ := by
     refine Nat.le_of_mul_le_mul_right (c := 5 ^ k) ?_ p5
     rw [h25, show k = δ + (c.length - 1) by omega, Nat.pow_add]
     rw [show δ + (c.length - 1) = k by omega]
     exact Nat.mul_le_mul_left _ c5g
    calc val ds * 2 ^ k < 10 ^ ds.length * 2 ^ k := Nat.mul_lt_mul_of_pos_right vlt p2
     _ ≤ 10 ^ ds.length * 10 ^ δ := Nat.mul_le_mul_left _ this
     _ = 10 ^ (ds.length + δ) := (Nat.pow_add _ _ _).symm
  exact ⟨by simp [hm], fun h => by cases h⟩
 ·-- one less
  have hlt := hpl.1 hp
  have hd1 : 1 ≤ δ := by
   rcases Nat.eq_zero_or_pos δ with g | g
   ·exfalso
    have hck : c.length = k + 1 := by omega
    rw [hck, Nat.add_sub_cancel] at c5g
    have : 5 ^ k ≤ 10 ^ k := by rw [← h25]; exact Nat.le_mul_of_pos_left _ p2
    have h2 : 2 ^ k = 1 := by
     have : 2 ^ k * 5 ^ k ≤ 1 * 5 ^ k := by rw [h25, Nat.one_mul]; exact c5g
     have := Nat.le_of_mul_le_mul_right this p5
     omega
    have hk0 : k = 0 := by
     rcases Nat.eq_zero_or_pos k with g2 | g2
     ·exact g2
     ·exfalso
      have : 2 ^ 1 ≤ 2 ^ k := Nat.pow_le_pow_right (by decide) g2
      omega
    subst hk0
    rw [hck] at hlt
    obtain ⟨m, hm⟩ : ∃ m, ds.length = m + 1 := ⟨ds.length - 1, by omega⟩
    rw [hm, Nat.add_sub_cancel] at vge
    rw [hm] at hlt
    simp only [Nat.pow_zero, Nat.pow_succ, Nat.one_mul] at hlt
    omega
   ·exact g
  have hm : l = ds.length + δ - 1 := by
   refine uniq _ ?_ ?_ (by omega)
   ·have : 10 ^ (δ - 1) ≤ 2 ^ k := by
     refine Nat.le_of_mul_le_mul_right (c := 10 ^ c.length) ?_ (Nat.pow_pos (by decide))
     rw [← Nat.pow_add, show δ - 1 + c.length = k by omega, ← h25]
     exact Nat.mul_le_mul_left _ (by omega)
    calc 10 ^ (ds.length + δ - 1 - 1) = 10 ^ (ds.length - 1) * 10 ^ (δ - 1) := by rw [← Nat.pow_add]; congr 1; omega
     _ ≤ val ds * 2 ^ k := Nat.mul_le_mul vge this
   ·refine Nat.lt_of_mul_lt_mul_right (a := 10 ^ c.length) ?_
    rw [← Nat.pow_add, show ds.length + δ - 1 + c.length = k + ds.length by omega, Nat.pow_add, ← h25]
    calc val ds * 2 ^ k * 10 ^ c.length = val ds * 10 ^ c.length * 2 ^ k := Nat.mul_right_comm _ _ _
     _ < 5 ^ k * 10 ^ ds.length * 2 ^ k := Nat.mul_lt_mul_of_pos_right hlt p2
     _ = 2 ^ k * 5 ^ k * 10 ^ ds.length := by simp only [Nat.mul_comm, Nat.mul_assoc]
  refine ⟨by simp; omega, fun _ => hd1⟩
def left (k : Nat) (s : DS) : DS :=
 let o := (mulGo k 0 s.ds.reverse).reverse
 ⟨trimZ (o.take 800), s.dp + ((o.length : Int) - (s.ds.length : Int)), s.tr || lost o⟩
theorem left_spec (k : Nat) (hk : k ≤ 60) (s : DS) (h : Ok s) : Dg (mulGo k 0 s.ds.reverse).reverse ∧ Hd (mulGo k 0 s.ds.reverse).reverse ∧ val (mulGo k 0 s.ds.reverse).reverse = val s.ds * 2 ^ k ∧ s.ds.length ≤ (mulGo k 0 s.ds.reverse).length := by
 have hgr : Dg s.ds.reverse := fun d hd => h.dg d (List.mem_reverse.1 hd)
 obtain ⟨e1, e2, e3, e4⟩ := mulGo_spec k hk s.ds.reverse 0 hgr (Nat.zero_le _)
 have hlr : lv s.ds.reverse = val s.ds := by rw [lv_val, List.reverse_reverse]
 rw [hlr, Nat.zero_add] at e2 e4
 rw [List.length_reverse] at e3 e4
 have hg : Dg (mulGo k 0 s.ds.reverse).reverse := fun d hd => e1 d (List.mem_reverse.1 hd)
 have hv : val (mulGo k 0 s.ds.reverse).reverse = val s.ds * 2 ^ k := by rw [← lv_val, e2]
 refine ⟨hg, ?_, hv, e3⟩
 have vge := val_ge h.hd
 have p2 : 1 ≤ 2 ^ k := Nat.pow_pos (by decide)
 have hl1 : 1 ≤ s.ds.length := by obtain ⟨d, t, e, _⟩ := h.hd; rw [e]; simp
 have lo : 10 ^ ((mulGo k 0 s.ds.reverse).length - 1) ≤ val s.ds * 2 ^ k := by
  rcases Nat.lt_or_ge s.ds.length (mulGo k 0 s.ds.reverse).length with g | g
  ·exact e4 g
  ·have : (mulGo k 0 s.ds.reverse).length = s.ds.length := by omega
   rw [this]
   exact Nat.le_trans vge (Nat.le_mul_of_pos_right _ p2)
 rw [← hv] at lo
 have hlen : ((mulGo k 0 s.ds.reverse).reverse).length = (mulGo k 0 s.ds.reverse).length := List.length_reverse
 rw [← hlen] at lo e3
 generalize (mulGo k 0 s.ds.reverse).reverse = o at *
 cases o with
 | nil => exact absurd (show s.ds.length ≤ 0 from e3) (by omega)
 | cons d r =>
  refine ⟨d, r, rfl, ?_⟩
  rintro rfl
  have := val_lt r fun x hx => hg x (List.mem_cons_of_mem _ hx)
  rw [val_cons, List.length_cons, Nat.add_sub_cancel] at lo
  omega
theorem left_ok (k : Nat) (hk : k ≤ 60) (s : DS) (h : Ok s) : Ok (left k s) := by
 obtain ⟨f1, f2, _⟩ := left_spec k hk s h
 exact Ok.take f1 f2 _ _
def iv (l : List Nat) (dp : Int) : Nat := if 0 < dp then 0 else 10 ^ (l.length + (-dp).toNat) / val l
theorem iv_trim (l : List Nat) (dp : Int) : iv (trimZ l) dp = iv l dp := by
 obtain ⟨m, e⟩ := trimZ_split l
 unfold iv
 split
 ·rfl
 ·conv => rhs; rw [e]
  rw [val_append, val_zeros, List.length_append, List.length_replicate, Nat.add_zero, Nat.add_right_comm, Nat.pow_add _ _ m]
  exact (Nat.mul_div_mul_right _ _ (Nat.pow_pos (by decide))).symm
def Half (s : DS) : Prop := s.dp < 0 ∨ (s.dp = 0 ∧ ∃ d r, s.ds = d :: r ∧ d < 5)
theorem iv_two {s : DS} (h : Ok s) (hh : Half s) : 2 ≤ iv s.ds s.dp := by
 have vge := val_ge h.hd
 have vpos : 0 < val s.ds := Nat.lt_of_lt_of_le (Nat.pow_pos (by decide)) vge
 unfold iv
 rcases hh with g | ⟨g, d, r, e, hd⟩
 ·rw [if_neg (by omega), Nat.le_div_iff_mul_le vpos]
  have := val_lt s.ds h.dg
  obtain ⟨m, hm⟩ : ∃ m : Nat, (-s.dp).toNat = m + 1 := ⟨(-s.dp).toNat - 1, by omega⟩
  rw [hm, Nat.pow_add]
  have h10 : 10 ≤ 10 ^ (m + 1) := by rw [Nat.pow_succ]; have := Nat.pow_pos (n := m) (show 0 < 10 by decide); omega
  calc 2 * val s.ds ≤ 10 ^ s.ds.length * 10 := by omega
   _ ≤ _ := Nat.mul_le_mul_left _ h10
 ·rw [if_neg (by omega), Nat.le_div_iff_mul_le vpos, g]
  have := val_lt r fun x hx => h.dg x (by rw [e]; exact List.mem_cons_of_mem _ hx)
  rw [e, val_cons, List.length_cons]
  show 2 * (d * 10 ^ r.length + val r) ≤ 10 ^ (r.length + 1)
  have : d * 10 ^ r.length ≤ 4 * 10 ^ r.length := Nat.mul_le_mul_right _ (by omega)
  rw [Nat.pow_succ]
  omega
theorem left_less (k : Nat) (hk1 : 1 ≤ k) (hk : k ≤ 60) (s : DS) (h : Ok s) (hh : Half s) : iv (left k s).ds (left k s).dp < iv s.ds s.dp := by
 have h2 := iv_two h hh
 have hdp : s.dp ≤ 0 := by rcases hh with g | ⟨g, _⟩ <;> omega
 obtain ⟨f1, f2, f3, f4⟩ := left_spec k hk s h
 unfold left
 simp only
 rw [iv_trim]
 have hlen : ((mulGo k 0 s.ds.reverse).reverse).length = (mulGo k 0 s.ds.reverse).length := List.length_reverse
 rw [← hlen] at f4
 generalize (mulGo k 0 s.ds.reverse).reverse = o at *
 have vpos : 0 < val s.ds := Nat.lt_of_lt_of_le (Nat.pow_pos (by decide)) (val_ge h.hd)
 unfold iv
 by_cases hp : 0 < s.dp + ((o.length : Int) - (s.ds.length : Int))
 ·rw [if_pos hp]
  unfold iv at h2
  omega
 rw [if_neg hp]
 unfold iv at h2
 rw [if_neg (by omega)] at h2 ⊢
 have hsplit := (List.take_append_drop 800 o).symm
 have hvo : val o = val (o.take 800) * 10 ^ (o.drop 800).length + val (o.drop 800) := by
  conv => lhs; rw [hsplit]
  exact val_append _ _
 have hgd : val (o.drop 800) < 10 ^ (o.drop 800).length := val_lt _ fun d hd => f1 d (List.mem_of_mem_drop hd)
 have hht : Hd (o.take 800) := by
  obtain ⟨d, r, e, h0⟩ := f2
  exact ⟨d, r.take 799, by rw [e]; rfl, h0⟩
 have vtg := val_ge hht
 have key : 10 * val o ≤ 11 * (val (o.take 800) * 10 ^ (o.drop 800).length) := by
  by_cases hm : (o.drop 800).length = 0
  ·rw [hm] at hvo hgd ⊢
   simp only [Nat.pow_zero, Nat.mul_one] at hvo hgd ⊢
   omega
  ·have hl8 : (o.take 800).length = 800 := by
    rw [List.length_take]; rw [List.length_drop] at hm; omega
   rw [hl8] at vtg
   have h10 : 10 ≤ val (o.take 800) := Nat.le_trans (by decide +kernel) vtg
   have : 10 * 10 ^ (o.drop 800).length ≤ val (o.take 800) * 10 ^ (o.drop 800).length := Nat.mul_le_mul_right _ h10
   omega
 have hexp : (o.take 800).length + (-(s.dp + ((o.length : Int) - (s.ds.length : Int)))).toNat + (o.drop 800).length = s.ds.length + (-s.dp).toNat := by
  have := congrArg List.length hsplit
  rw [List.length_append] at this
  omega
 have hpw : 10 ^ (s.ds.length + (-s.dp).toNat) = 10 ^ ((o.take 800).length + (-(s.dp + ((o.length : Int) - (s.ds.length : Int)))).toNat) * 10 ^ (o.drop 800).length := by rw [← hexp, Nat.pow_add]
 rw [hpw] at h2 ⊢
 generalize 10 ^ ((o.take 800).length + (-(s.dp + ((o.length : Int) - (s.ds.length : Int)))).toNat) = Y at *
 rw [f3] at key
 generalize val (o.take 800) = T at *
 generalize 10 ^ (o.drop 800).length = M at *
 generalize val s.ds = D at *
 have h2k : 2 ≤ 2 ^ k := by
  calc 2 = 2 ^ 1 := rfl
   _ ≤ 2 ^ k := Nat.pow_le_pow_right (by decide) hk1
 have hD : D * 2 ≤ D * 2 ^ k := Nat.mul_le_mul_left _ h2k
 have a1 := Nat.div_mul_le_self Y T
 have a2 : Y * M < (Y * M / D + 1) * D := by
  have := Nat.lt_mul_div_succ (Y * M) vpos
  rw [Nat.mul_comm D] at this
  exact this
 generalize Y / T = A at *
 generalize Y * M / D = B at *
 have b1 : A * T * M ≤ Y * M := Nat.mul_le_mul_right _ a1
 have b2 : A * (20 * D) ≤ A * (11 * (T * M)) := Nat.mul_le_mul_left _ (by omega)
 have b3 : A * (11 * (T * M)) = 11 * (A * T * M) := by rw [Nat.mul_left_comm, Nat.mul_assoc]
 have b4 : A * 20 * D < (11 * (B + 1)) * D := by
  calc A * 20 * D = A * (20 * D) := Nat.mul_assoc _ _ _
   _ ≤ 11 * (A * T * M) := by rw [← b3]; exact b2
   _ ≤ 11 * (Y * M) := Nat.mul_le_mul_left _ b1
   _ < 11 * ((B + 1) * D) := Nat.mul_lt_mul_of_pos_left a2 (by decide)
   _ = _ := (Nat.mul_assoc _ _ _).symm
 have b5 := Nat.lt_of_mul_lt_mul_right b4
 omega
end Go.Proofs.YtnccpddjdgndcaaGreatDoor.Dc
end

section
/- A DECIMAL IN MEMORY; THE WALKS OF strconv's trim AND prefixIsLessThan. -/
namespace Go.Proofs.YtnccpddjdgndcaaGreatDoor.Dc
open Go.RowKit
structure DK (b : Nat) (W W2 : World) : Prop where
 os : W2.os = W.os
 tape : W2.tape = W.tape
 output : W2.output = W.output
 size : W.heap.size ≤ W2.heap.size
 block : ∀ p, p < W.heap.size → p ≠ b → W2.heap[p]? = W.heap[p]?
theorem DK.refl (b : Nat) (W : World) : DK b W W := ⟨rfl, rfl, rfl, Nat.le_refl _, fun _ _ _ => rfl⟩
theorem DK.trans {b : Nat} {W W2 W3 : World} (h : DK b W W2) (k : DK b W2 W3) : DK b W W3 :=
 ⟨k.os.trans h.os, k.tape.trans h.tape, k.output.trans h.output, Nat.le_trans h.size k.size, fun p hp hne => (k.block p (Nat.lt_of_lt_of_le hp h.size) hne).trans (h.block p hp hne)⟩
theorem dk_below {b : Nat} {W W2 : World} {B : Nat} (h : Below B W W2) (hB : W.heap.size ≤ B) : DK b W W2 := ⟨h.os, h.tape, h.output, h.size, fun p hp _ => h.block p (by omega)⟩
theorem dk_set (b o : Nat) (W : World) (v : Value) : DK b W (W.setCell ⟨b, o, none⟩ v) := ⟨rfl, rfl, rfl, by simp, fun p _ hne => Below.heap_setCell _ _ _ _ hne⟩
theorem dk_drewN (b n : Nat) (W : World) : DK b W (W.drewN n) := ⟨rfl, rfl, rfl, Nat.le_refl _, fun _ _ _ => rfl⟩
theorem DK.low {b B : Nat} {W W2 : World} (h : DK b W W2) (hB : B ≤ b) (hs : B ≤ W.heap.size) : Below B W W2 := ⟨h.os, h.tape, h.output, h.size, fun p hp => h.block p (by omega) (by omega)⟩
theorem DK.cell {b : Nat} {W W2 : World} (h : DK b W W2) {p : Addr} (h1 : p.block < W.heap.size) (h2 : p.block ≠ b) : W2.cell? p = W.cell? p := World.cell?_of_block (w := W) (h.block _ h1 h2)
theorem DK.frozen {b : Nat} {W W2 : World} (h : DK b W W2) {p : Addr} (h1 : p.block < W.heap.size) (h2 : p.block ≠ b) : W2.frozen? p = W.frozen? p := World.frozen?_of_block (w := W) (h.block _ h1 h2)
structure DArr (W : World) (b : Nat) (arr : Nat → Nat) (nd dp : Int) : Prop where
 d : ∀ i, i < 800 → W.cell? ⟨b, i, none⟩ = some (.int .u8 ((arr i : Nat) : Int))
 nd : W.cell? ⟨b, 800, none⟩ = some (.int .i64 nd)
 dp : W.cell? ⟨b, 801, none⟩ = some (.int .i64 dp)
 ng : ∃ x : Bool, W.cell? ⟨b, 802, none⟩ = some (.bool x)
 tr : ∃ x : Bool, W.cell? ⟨b, 803, none⟩ = some (.bool x)
 fz : ∀ o, W.frozen? ⟨b, o, none⟩ = false
def upd (arr : Nat → Nat) (i n : Nat) : Nat → Nat := fun j => if j = i then n else arr j
theorem DArr.drewN {W : World} {b : Nat} {arr : Nat → Nat} {nd dp : Int} (h : DArr W b arr nd dp) (n : Nat) : DArr (W.drewN n) b arr nd dp :=
 ⟨fun i hi => by simpa using h.d i hi, by simpa using h.nd, by simpa using h.dp, by simpa using h.ng, by simpa using h.tr, fun o => by simpa using h.fz o⟩
theorem set_other (W : World) (b i j : Nat) (v : Value) (h : j ≠ i) : (W.setCell ⟨b, i, none⟩ v).cell? ⟨b, j, none⟩ = W.cell? ⟨b, j, none⟩ := World.cell?_setCell_other _ _ _ _ (fun e => h (congrArg Addr.off e).symm)
theorem DArr.setD {W : World} {b : Nat} {arr : Nat → Nat} {nd dp : Int} (h : DArr W b arr nd dp) (i n : Nat) (hi : i < 800) : DArr (W.setCell ⟨b, i, none⟩ (.int .u8 (n : Int))) b (upd arr i n) nd dp := by
 obtain ⟨x, hx⟩ := h.ng
 obtain ⟨y, hy⟩ := h.tr
 refine ⟨fun j hj => ?_, (set_other _ _ _ _ _ (by omega)).trans h.nd, (set_other _ _ _ _ _ (by omega)).trans h.dp, ⟨x, (set_other _ _ _ _ _ (by omega)).trans hx⟩, ⟨y, (set_other _ _ _ _ _ (by omega)).trans hy⟩, fun o => by rw [World.frozen?_setCell]; exact h.fz o⟩
 unfold upd
 by_cases e : j = i
 ·subst e
  rw [if_pos rfl]
  exact World.cell?_setCell_same _ _ _ (h.d j hj)
 ·rw [if_neg e]
  exact (set_other _ _ _ _ _ e).trans (h.d j hj)
theorem DArr.setNd {W : World} {b : Nat} {arr : Nat → Nat} {nd dp : Int} (h : DArr W b arr nd dp) (n : Int) : DArr (W.setCell ⟨b, 800, none⟩ (.int .i64 n)) b arr n dp := by
 obtain ⟨x, hx⟩ := h.ng
 obtain ⟨y, hy⟩ := h.tr
 exact ⟨fun j hj => (set_other _ _ _ _ _ (by omega)).trans (h.d j hj), World.cell?_setCell_same _ _ _ h.nd, (set_other _ _ _ _ _ (by omega)).trans h.dp, ⟨x, (set_other _ _ _ _ _ (by omega)).trans hx⟩, ⟨y, (set_other _ _ _ _ _ (by omega)).trans hy⟩, fun o => by rw [World.frozen?_setCell]; exact h.fz o⟩
theorem DArr.setDp {W : World} {b : Nat} {arr : Nat → Nat} {nd dp : Int} (h : DArr W b arr nd dp) (n : Int) : DArr (W.setCell ⟨b, 801, none⟩ (.int .i64 n)) b arr nd n := by
 obtain ⟨x, hx⟩ := h.ng
 obtain ⟨y, hy⟩ := h.tr
 exact ⟨fun j hj => (set_other _ _ _ _ _ (by omega)).trans (h.d j hj), (set_other _ _ _ _ _ (by omega)).trans h.nd, World.cell?_setCell_same _ _ _ h.dp, ⟨x, (set_other _ _ _ _ _ (by omega)).trans hx⟩, ⟨y, (set_other _ _ _ _ _ (by omega)).trans hy⟩, fun o => by rw [World.frozen?_setCell]; exact h.fz o⟩
theorem DArr.setNg {W : World} {b : Nat} {arr : Nat → Nat} {nd dp : Int} (h : DArr W b arr nd dp) (z : Bool) : DArr (W.setCell ⟨b, 802, none⟩ (.bool z)) b arr nd dp := by
 obtain ⟨x, hx⟩ := h.ng
 obtain ⟨y, hy⟩ := h.tr
 exact ⟨fun j hj => (set_other _ _ _ _ _ (by omega)).trans (h.d j hj), (set_other _ _ _ _ _ (by omega)).trans h.nd, (set_other _ _ _ _ _ (by omega)).trans h.dp, ⟨z, World.cell?_setCell_same _ _ _ hx⟩, ⟨y, (set_other _ _ _ _ _ (by omega)).trans hy⟩, fun o => by rw [World.frozen?_setCell]; exact h.fz o⟩
theorem DArr.setTr {W : World} {b : Nat} {arr : Nat → Nat} {nd dp : Int} (h : DArr W b arr nd dp) (z : Bool) : DArr (W.setCell ⟨b, 803, none⟩ (.bool z)) b arr nd dp := by
 obtain ⟨x, hx⟩ := h.ng
 obtain ⟨y, hy⟩ := h.tr
 exact ⟨fun j hj => (set_other _ _ _ _ _ (by omega)).trans (h.d j hj), (set_other _ _ _ _ _ (by omega)).trans h.nd, (set_other _ _ _ _ _ (by omega)).trans h.dp, ⟨x, (set_other _ _ _ _ _ (by omega)).trans hx⟩, ⟨z, World.cell?_setCell_same _ _ _ hy⟩, fun o => by rw [World.frozen?_setCell]; exact h.fz o⟩
def Lies (arr : Nat → Nat) (ds : List Nat) : Prop := ∀ i (h : i < ds.length), arr i = 48 + ds[i]
def DAt (W : World) (b : Nat) (ds : List Nat) (dp : Int) : Prop := ∃ arr, DArr W b arr (ds.length : Int) dp ∧ Lies arr ds ∧ ds.length ≤ 800
theorem trimZ_snoc0 (l : List Nat) : trimZ (l ++ [0]) = trimZ l := by
 unfold trimZ
 rw [List.reverse_append]
 rfl
theorem trimZ_snoc (l : List Nat) (d : Nat) (h : d ≠ 0) : trimZ (l ++ [d]) = l ++ [d] := by
 unfold trimZ
 rw [List.reverse_append, List.reverse_singleton, List.singleton_append, List.dropWhile_cons, if_neg (by simpa using h)]
 simp
def trimDp (ds : List Nat) (dp : Int) : Int := if trimZ ds = [] then 0 else dp
theorem trimDp_hd {ds : List Nat} (h : Hd ds) (dp : Int) : trimDp ds dp = dp := by
 obtain ⟨d, r, e, _⟩ := trimZ_hd h
 unfold trimDp
 rw [if_neg (by rw [e]; simp)]
def ndOf (W : World) (b : Nat) : Nat := match W.cell? ⟨b, 800, none⟩ with
 | some (.int _ n) => n.toNat
 | _ => 0
set_option maxRecDepth 20000 in
set_option maxHeartbeats 1000000 in
theorem trim_any (b : Nat) (arr : Nat → Nat) (ds : List Nat) (dp : Int) (w : World) (hd : DArr w b arr (ds.length : Int) dp) (hl : Lies arr ds) (h8 : ds.length ≤ 800) (hg : Dg ds) :
  Calls Tryz.prog 175 #[.pointer (some ⟨b, 0, none⟩)] w fun e w' => e = .returned (.tuple #[]) ∧ DAt w' b (trimZ ds) (trimDp ds dp) ∧ DK b w w' := by
 have HD := Lib.hid hd; have HL := Lib.hid hl; have HG := Lib.hid hg
 clear hd hl hg
 go_enter Tryz.func175, Tryz.ntmps175
 go_wp2_with fail
 go_loopw [] (fun wr => ∃ n : Nat, n ≤ ds.length ∧ DArr wr b arr (n : Int) dp ∧ trimZ (ds.take n) = trimZ ds ∧ DK b w wr) (fun wr => ndOf wr b)
 case atStart => exact ⟨ds.length, Nat.le_refl _, HD.out, by rw [List.take_length], DK.refl _ _⟩
 case round =>
  obtain ⟨n, hn, hd, ht, hk⟩ := hrel
  have HD2 := Lib.hid hd; have HT := Lib.hid ht; have HK := Lib.hid hk
  have y8 := hd.nd; have y9 := hd.dp; have yz := hd.fz
  have hm : ndOf wr b = n := by unfold ndOf; rw [hd.nd]; simp
  have HM := Lib.hid hm
  clear ht hk hm HD
  by_cases h0 : n = 0
  ·subst h0
   clear hd
   go_wp2_with fail
   go_quiet (fail)
   go_wp2_with fail
   go_end0
   have htz : trimZ ds = [] := by rw [← HT.out]; rfl
   have hdp : trimDp ds dp = 0 := by unfold trimDp; rw [if_pos htz]
   refine ⟨rfl, ?_, HK.out.trans ((dk_drewN _ _ _).trans (dk_set _ _ _ _))⟩
   rw [htz, hdp]
   exact ⟨arr, (HD2.out.drewN nq).setDp 0, fun i hi => absurd hi (by simp), by simp⟩
  ·obtain ⟨m, rfl⟩ : ∃ m, n = m + 1 := ⟨n - 1, by omega⟩
   have i0 : (0 : Int) < ((m + 1 : Nat) : Int) := by omega
   have i1 : IntKind.i64.wrap (((m + 1 : Nat) : Int) - 1) = (m : Int) := by rw [IntWalk.i64_in _ (by omega)]; omega
   have i2 : (0 : Int) ≤ (m : Int) := by omega
   have i3 : (m : Int) < 800 := by omega
   have ym := hd.d m (by omega)
   have hlm := HL.out m (by omega)
   rw [hlm] at ym
   have hg9 := HG.out ds[m] (List.getElem_mem _)
   have hst := List.take_succ_eq_append_getElem (l := ds) (i := m) (by omega)
   have HST := Lib.hid hst
   clear hd hlm hst
   obtain ⟨d, hdm⟩ : ∃ d, ds[m]'(by omega) = d := ⟨_, rfl⟩
   rw [hdm] at ym hg9
   have HDM := Lib.hid hdm
   clear hdm
   by_cases hz : d = 0
   ·subst hz
    go_wp2_with fail
    go_quiet (fail)
    go_wp2_with fail
    have hn2 := ((HD2.out.drewN nq).setNd (m : Int))
    refine ⟨⟨m, by omega, hn2, ?_, HK.out.trans ((dk_drewN _ _ _).trans (dk_set _ _ _ _))⟩, ?_⟩
    ·rw [← HT.out, HST.out, HDM.out, trimZ_snoc0]
    ·rw [HM.out]
     unfold ndOf
     rw [hn2.nd]
     simp
   ·have e0 : (((48 + d : Nat) : Int) == 48) = false := by rw [beq_eq_false_iff_ne]; omega
    go_wp2_with fail
    go_quiet (fail)
    go_wp2_with fail
    go_end0
    have htz : trimZ ds = ds.take (m + 1) := by rw [← HT.out, HST.out, HDM.out, trimZ_snoc _ _ hz]
    have hdp : trimDp ds dp = dp := by
     unfold trimDp
     rw [if_neg]
     rw [htz]
     intro e
     clear i1 HDM HST
     have h0 : (ds.take (m + 1)).length = 0 := by rw [e]; rfl
     rw [List.length_take] at h0
     omega
    have hle : (ds.take (m + 1)).length = m + 1 := by clear i1 HDM HST htz; rw [List.length_take]; omega
    refine ⟨rfl, ?_, HK.out.trans (dk_drewN _ _ _)⟩
    rw [htz, hdp]
    refine ⟨arr, ?_, fun i hi => ?_, by omega⟩
    ·rw [hle]; exact HD2.out.drewN nq
    ·rw [List.getElem_take]; exact HL.out i (by omega)
theorem drawn2 (w : World) (a b c : Nat) : ∃ n, ((w.drewN a).drewN b).drewN c = w.drewN n := ⟨a + b + c, by simp [Nat.add_assoc]⟩
def Shows (W : World) (b : Nat) (ds : List Nat) : Prop := ∀ i (h : i < ds.length), W.cell? ⟨b, i, none⟩ = some (.int .u8 ((48 + ds[i] : Nat) : Int))
set_option maxRecDepth 20000 in
set_option maxHeartbeats 1000000 in
theorem pless_any (b cap : Nat) (ds : List Nat) (s : List UInt8) (cs : List Nat) (w : World) (hd : Shows w b ds) (hg : Dg ds) (h8 : ds.length ≤ cap) (hs : s.length = cs.length) (hsl : s.length ≤ 100) (hsc : ∀ i (h : i < cs.length), (s[i]'(by omega)).toNat = 48 + cs[i]) (hcg : Dg cs) :
  Calls Tryz.prog 195 #[.slice (some ⟨b, 0, none⟩) ds.length cap, .string ⟨s.toArray⟩] w fun e w' => e = .returned (.bool (preLess ds cs)) ∧ ∃ n, w' = w.drewN n := by
 have hat : ∀ i, i < s.length → i < cs.length ∧ ∀ h : i < (⟨s.toArray⟩ : ByteArray).size, ((⟨s.toArray⟩ : ByteArray)[i].toNat) = 48 + cs[i]! := fun i hi => by
  refine ⟨by omega, fun h => ?_⟩
  rw [getElem!_pos cs i (by omega), ← hsc i (by omega)]
  show (s.toArray[i]).toNat = _
  simp
 have hgc : ∀ i (h : i < cs.length), cs[i]! ≤ 9 := fun i h => by rw [getElem!_pos cs i h]; exact hcg _ (List.getElem_mem h)
 have hdr : ∀ i, i < cs.length → cs.drop i = cs[i]! :: cs.drop (i + 1) := fun i h => by rw [getElem!_pos cs i h]; exact List.drop_eq_getElem_cons h
 have HD := Lib.hid hd; have HG := Lib.hid hg; have HAT := Lib.hid hat; have HGC := Lib.hid hgc; have HDR := Lib.hid hdr; have HS := Lib.hid hs
 have hlc : cs.length ≤ 100 := by omega
 clear hd hg hsc hcg hs hat hgc hdr
 go_enter Tryz.func195, Tryz.ntmps195
 go_wp2_with fail
 go_loopw [5] (fun vi wr => ∃ k n : Nat, k ≤ cs.length ∧ k ≤ ds.length ∧ vi = .int .i64 (k : Int) ∧ wr = w.drewN n ∧ preLess (ds.drop k) (cs.drop k) = preLess ds cs) (fun vi _ => 100 - (intOf vi).toNat)
 case atStart => exact ⟨0, 0, Nat.zero_le _, Nat.zero_le _, rfl, rfl, rfl⟩
 case round =>
  obtain ⟨k, n, hk, hk2, rfl, rfl, hp⟩ := hrel
  have HP := Lib.hid hp
  clear hp
  have hsz : (⟨s.toArray⟩ : ByteArray).size = s.length := by show s.toArray.size = _; simp
  have HSZ := Lib.hid hsz
  clear hsz
  have hs := HS.out
  by_cases hc : k < cs.length
  ·have i1 : (k : Int) < (s.length : Int) := by omega
   have i2 : (0 : Int) ≤ (k : Int) := by omega
   by_cases hd : k < ds.length
   ·have j1 : (k : Int) < (ds.length : Int) := by omega
    have j2 : (k : Int) < (cap : Int) := by omega
    have hks : k < (⟨s.toArray⟩ : ByteArray).size := by rw [HSZ.out]; omega
    have yk := HD.out k hd
    have hbk := (HAT.out k (by omega)).2 hks
    have hdd := List.drop_eq_getElem_cons hd
    have g1 := HG.out ds[k] (List.getElem_mem hd)
    have g2 := HGC.out k hc
    have hp := HP.out
    rw [hdd, HDR.out k hc] at hp
    obtain ⟨u, hu⟩ : ∃ u : Int, (((⟨s.toArray⟩ : ByteArray)[k]).toNat : Int) = u := ⟨_, rfl⟩
    have hix : u = 48 + (cs[k]! : Int) := by omega
    clear hs hdd hbk
    generalize cs[k]! = c at *
    generalize ds[k]'hd = d at *
    obtain ⟨v, hv⟩ : ∃ v : Int, ((48 + d : Nat) : Int) = v := ⟨_, rfl⟩
    rw [hv] at yk
    have HP2 := Lib.hid hp; have HU := Lib.hid hu
    clear hp
    have q0 : v ≠ (((⟨s.toArray⟩ : ByteArray)[k]).toNat : Int) ↔ d ≠ c := by rw [hu]; omega
    have q3 : decide (v < (((⟨s.toArray⟩ : ByteArray)[k]).toNat : Int)) = decide (d < c) := by
     rw [hu, Bool.eq_iff_iff, decide_eq_true_eq, decide_eq_true_eq]; omega
    by_cases he : d = c
    ·have q1 : (v != (((⟨s.toArray⟩ : ByteArray)[k]).toNat : Int)) = false := by
      rw [bne_eq_false_iff_eq]
      exact Classical.byContradiction fun h => q0.1 h he
     clear hix hu hv q0 q3
     go_wp2_with fail
     go_quiet (fail)
     go_wp2_with fail
     refine ⟨⟨k + 1, n + nq, by omega, by omega, by go_num, rfl, ?_⟩, by simp [intOf]; go_num⟩
     have := HP2.out
     rw [he, preLess, if_pos rfl] at this
     exact this
    ·have q1 : (v != (((⟨s.toArray⟩ : ByteArray)[k]).toNat : Int)) = true := by
      rw [bne_iff_ne]
      exact q0.2 he
     clear hix hu hv q0
     go_wp2_with fail
     go_quiet (fail)
     go_wp2_with fail
     go_quiet (fail)
     go_wp2_with fail
     go_ret
     have := HP2.out
     rw [preLess, if_neg he] at this
     refine ⟨?_, drawn2 _ _ _ _⟩
     rw [← this, ← q3]
     rfl
   ·have j1 : ¬ (k : Int) < (ds.length : Int) := by omega
    have j3 : (ds.length : Int) ≤ (k : Int) := by omega
    have hp := HP.out
    rw [List.drop_of_length_le (by omega : ds.length ≤ k), HDR.out k hc, preLess] at hp
    have HP2 := Lib.hid hp
    clear hs hp
    go_wp2_with fail
    go_ret
    exact ⟨by rw [← HP2.out]; rfl, _, rfl⟩
  ·have i1 : ¬ (k : Int) < (s.length : Int) := by omega
   have hp := HP.out
   rw [List.drop_of_length_le (by omega : cs.length ≤ k)] at hp
   have hp2 : preLess ds cs = false := by rw [← hp]; cases ds.drop k <;> rfl
   have HP2 := Lib.hid hp2
   clear hs hp hp2
   go_wp2_with fail
   go_ret
   exact ⟨by rw [HP2.out]; rfl, _, rfl⟩
end Go.Proofs.YtnccpddjdgndcaaGreatDoor.Dc
end
