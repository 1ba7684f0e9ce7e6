/- MERGED BY A PROGRAM OF MINE (pmg.py) out of my own texts, pruned, in their order: Sc, PaCut, OpenV, CondFit, CondVoid, Canon, Attr, Match, Conds, OwnC, PaPie, New, Fit03, Light03, OrdKey, ESame, ERight, RightA, FilFn, ScL, Fil, FilM, PaFil, ShelfV, Unq, ParseFl, Fit02, ReadT, PlainQ, PaOne, EvL, PaLight, PaFit, PaMany. -/
import Derived.Test.YthgjddbfjmgkhaaGreatDoorValFn
import Derived.Laws.AppendOwn
import Derived.Lib.SlicesS
import Derived.Laws.CopyRow
import Derived.Laws.CopyOwn
import Derived.Lib.AppendZerosOnto
import Derived.Lib.Overlaps
import Derived.Laws.OwnMore
import Derived.Deep.RegionLaw
import Derived.Shelf.Spec.SlicesInsert
import Derived.Test.YthgjddbfjmgkhaaGreatDoorRows
import Derived.Test.YthgjddbfjmgkhaaGreatDoorScFn
import Derived.Test.YthgjddbfjmgkhaaGreatDoorName
import Derived.Test.YthgjddbfjmgkhaaGreatDoorShelf
import Derived.WalkKit
import Derived.WalkSpells
import Derived.WalkLawsBesides
import Derived.Lib.Hide
import Derived.Lib.PathFns
import Derived.Deep.Draws
import Derived.Test.YthgjddbfjmgkhaaGreatDoorPaFn
import Derived.Test.YthgjddbfjmgkhaaGreatDoorOpenG
import Derived.Deep.Slices
import Derived.Test.YthgjddbfjmgkhaaGreatDoorCond
import Derived.RegionCalls
import Derived.Deep.RegionWith
import Derived.Deep.RegionHeld3
import Derived.Handy
import Derived.Laws.IdiomCopy
import Derived.Laws.AppendOwnNone
import Derived.Test.YthgjddbfjmgkhaaGreatDoorOrd
import Derived.Laws.StructEq
import Derived.Shelf.Unicode.ValidAny
import Derived.Test.YthgjddbfjmgkhaaGreatDoorProg
import Derived.Test.YthgjddbfjmgkhaaGreatDoorPrint
import Derived.BigQuiet
import Derived.Deep.QuietTactic
import Derived.Lib.ValidAsc
import Derived.BigGuardPart
import Derived.Test.YthgjddbfjmgkhaaGreatDoorTabs
import Derived.Laws.Cover2
import Derived.WalkMore

section
/- THE WALKS OF event.Name, strings.Cut at a /, scope.Right, scope.Under: each gives its plain function; the world stays as it was, but for draws. -/
namespace Go.Proofs.YthgjddbfjmgkhaaGreatDoor.Sc
open Go.RowKit

/-- nothing but draws -/
def Drawn (w w' : World) : Prop := ∃ n, w' = w.drewN n
theorem Drawn.refl (w : World) : Drawn w w := ⟨0, rfl⟩
theorem Drawn.trans {a b c : World} (h : Drawn a b) (k : Drawn b c) : Drawn a c := by
  obtain ⟨n, rfl⟩ := h; obtain ⟨m, rfl⟩ := k; exact ⟨n + m, by simp [World.drewN, Nat.add_assoc]⟩
theorem Drawn.drew {a b : World} (h : Drawn a b) : Drawn a b.drew := h.trans ⟨1, rfl⟩
theorem Drawn.below {a b : World} (h : Drawn a b) (B : Nat) : Below B a b := by
  obtain ⟨n, rfl⟩ := h; exact ⟨rfl, rfl, rfl, Nat.le_refl _, fun _ _ => rfl⟩
/-- a text by its letters -/
theorem of_data {s : ByteArray} {l : List UInt8} (h : s.data.toList = l) : s = ⟨l.toArray⟩ := by
  subst h; rfl
theorem cutAt_hit (a b : List UInt8) : (⟨(a ++ 47 :: b).toArray⟩ : ByteArray).extract 0 a.length = ⟨a.toArray⟩ ∧ (⟨(a ++ 47 :: b).toArray⟩ : ByteArray).extract (a.length + 1) (⟨(a ++ 47 :: b).toArray⟩ : ByteArray).size = ⟨b.toArray⟩ := by
  constructor
  · apply of_data; rw [Lib.Pa.extract_upto_list]; simp
  · apply of_data; rw [Lib.extract_to_end]; simp
set_option maxHeartbeats 400000 in
theorem lcut_miss (s : ByteArray) (w : World) (hi : Lib.indexByte s.data.toList 47 = -1) :
    Calls Tryz.prog 17 #[.string s, .string ⟨#[47]⟩] w fun e w' => e = .returned (.tuple #[.string s, .string ⟨#[]⟩, .bool false]) ∧ w = w' := by
  go_enter Tryz.func17, Tryz.ntmps17
  go_wp2_with (go_at_call 28; refine (Tryz.stringslite_Index_one _ _ _).mono ?_; rintro e w' ⟨rfl, rfl⟩)
  go_ret3
  exact ⟨rfl, rfl⟩
set_option maxHeartbeats 400000 in
theorem lcut_hit (s : ByteArray) (i : Nat) (w : World) (hs : s.size ≤ maxLen) (hi : Lib.indexByte s.data.toList 47 = i) (hlt : i < s.size) :
    Calls Tryz.prog 17 #[.string s, .string ⟨#[47]⟩] w fun e w' => e = .returned (.tuple #[.string (s.extract 0 i), .string (s.extract (i + 1) s.size), .bool true]) ∧ Drawn w w' := by
  unfold maxLen at hs
  have c1 : (0 : Int) ≤ ↑i := by omega
  have c2 : (↑i : Int) ≤ ↑s.size := by omega
  have c3 : (0 : Int) ≤ ↑i + 1 := by omega
  have c4 : (↑i + 1 : Int) ≤ ↑s.size := by omega
  go_enter Tryz.func17, Tryz.ntmps17
  go_wp2_with (go_at_call 28; refine (Tryz.stringslite_Index_one _ _ _).mono ?_; rintro e w' ⟨rfl, rfl⟩)
  go_region
  all_goals
    go_wp2
    go_ret3
    exact ⟨rfl, 1, rfl⟩

set_option maxHeartbeats 400000 in
theorem cut_none (l : List UInt8) (w : World) (h : 47 ∉ l) :
    Calls Tryz.prog 11 #[.string ⟨l.toArray⟩, .string ⟨#[47]⟩] w fun e w' => e = .returned (.tuple #[.string ⟨l.toArray⟩, .string ⟨#[]⟩, .bool false]) ∧ Drawn w w' := by
  have hi : Lib.indexByte (⟨l.toArray⟩ : ByteArray).data.toList 47 = -1 := by
    rcases slash_cases l with ⟨h1, _⟩ | ⟨a, b, e, _, _⟩
    · exact h1
    · exact absurd (by rw [e]; simp) h
  have HI := Lib.hid hi; clear hi h
  go_enter Tryz.func11, Tryz.ntmps11
  go_wp2_with (go_at_call 17; refine (lcut_miss _ _ HI.out).mono ?_; rintro e w' ⟨rfl, rfl⟩)
  go_ret3
  exact ⟨rfl, Drawn.refl _⟩
set_option maxHeartbeats 400000 in
theorem cut_some (a b : List UInt8) (w : World) (h : 47 ∉ a) (hs : a.length + b.length + 1 ≤ maxLen) :
    Calls Tryz.prog 11 #[.string ⟨(a ++ 47 :: b).toArray⟩, .string ⟨#[47]⟩] w fun e w' => e = .returned (.tuple #[.string ⟨a.toArray⟩, .string ⟨b.toArray⟩, .bool true]) ∧ Drawn w w' := by
  have hz : (⟨(a ++ 47 :: b).toArray⟩ : ByteArray).size = a.length + b.length + 1 := by
    show (a ++ 47 :: b).toArray.size = _
    simp; omega
  have hi : Lib.indexByte (⟨(a ++ 47 :: b).toArray⟩ : ByteArray).data.toList 47 = a.length := by
    rcases slash_cases (a ++ 47 :: b) with ⟨_, h1⟩ | ⟨a', b', e, h2, h3⟩
    · exact absurd (by simp) h1
    · have : a = a' := by
        have e1 := parts_slash a b h
        rw [e, parts_slash a' b' h2] at e1
        exact (List.cons.inj e1).1.symm
      subst this; exact h3
  have hc := lcut_hit ⟨(a ++ 47 :: b).toArray⟩ a.length w (by rw [hz]; exact hs) hi (by rw [hz]; omega)
  rw [(cutAt_hit a b).1, (cutAt_hit a b).2] at hc
  have HC := Lib.hid hc; clear hc hi hz h hs
  go_enter Tryz.func11, Tryz.ntmps11
  go_wp2_with fail
  refine HC.out.mono ?_
  rintro e w' ⟨rfl, hq⟩
  go_wp2
  go_ret3
  exact ⟨rfl, hq⟩

def RightRel (l : List UInt8) (w : World) (n r m : Value) (wr : World) : Prop :=
  ∃ (done : List (List UInt8)) (rest : List UInt8) (more : Bool), n = .int .i64 done.length ∧ r = .string ⟨rest.toArray⟩ ∧ m = .bool more ∧ Drawn w wr ∧
    done.all nameB = true ∧ parts l = done ++ (if more then parts rest else []) ∧ rest.length ≤ l.length
def rightMeas (r m : Value) : Nat := match r, m with
  | .string s, .bool true => s.size + 1
  | _, _ => 0
set_option maxHeartbeats 1000000 in
theorem right_any (s : ByteArray) (w : World) (hs : s.size ≤ maxLen) (hs2 : s.size < 4611686018427387904) :
    Calls Tryz.prog 16 #[.string s] w fun e w' => e = .returned (.bool (rightB s.data.toList)) ∧ Drawn w w' := by
  unfold maxLen at hs
  obtain ⟨l, rfl⟩ : ∃ l : List UInt8, s = ⟨l.toArray⟩ := ⟨s.data.toList, rfl⟩
  by_cases h0 : l = []
  · subst h0
    go_enter Tryz.func16, Tryz.ntmps16
    go_wp2
    go_ret
    exact ⟨rfl, Drawn.refl _⟩
  · have h0' : l.isEmpty = false := by cases l <;> simp_all
    go_enter Tryz.func16, Tryz.ntmps16
    go_wp2
    go_loopw [3, 4, 5] (fun n r m wr => RightRel l w n r m wr) (fun _ r m _ => rightMeas r m)
    case atStart => exact ⟨[], l, true, rfl, rfl, rfl, Drawn.refl _, rfl, rfl, Nat.le_refl _⟩
    case round =>
      obtain ⟨done, rest, more, rfl, rfl, rfl, hq, hall, hp, hlen⟩ := hrel
      have HP := Lib.hid hp; have HA := Lib.hid hall; clear hp hall
      have hlz : (⟨l.toArray⟩ : ByteArray).size = l.length := rfl
      have hdl : (done.length : Int) ≤ 4611686018427387905 := by
        have h1 := parts_length l
        rw [HP.out, List.length_append] at h1
        omega
      have HLZ := Lib.hid hlz; clear hlz
      cases more
      · have hp : parts l = done := by rw [HP.out]; simp
        have hr : rightB l = decide (done.length ≤ 4) := by
          unfold rightB; rw [h0', hp, HA.out]; simp
        have HR := Lib.hid hr; clear hr hp HP
        go_wp2
        go_ret
        exact ⟨ret_bool (by rw [HR.out, Bool.eq_iff_iff]; simp; omega), hq⟩
      · rcases slash_cases rest with ⟨_, hn⟩ | ⟨a, b, rfl, hn, _⟩
        · have hb : (⟨rest.toArray⟩ : ByteArray).size ≤ maxLen := by
            unfold maxLen; rw [HLZ.out] at hs; show rest.length ≤ _; omega
          have HB := Lib.hid hb; clear hb
          have hp : parts l = done ++ [rest] := by rw [HP.out]; simp [parts_none rest hn]
          have HP2 := Lib.hid hp; clear hp HP
          cases hnm : nameB rest
          all_goals
            go_wp2_with (first | (go_at_call 11; refine (cut_none _ _ hn).mono ?_; rintro e w' ⟨rfl, hq1⟩) | (go_at_call 27; refine (name_any _ _ HB.out).mono ?_; rintro e w' ⟨rfl, rfl⟩))
          · go_ret
            exact ⟨ret_bool (by unfold rightB; rw [HP2.out, h0']; simp [hnm]), hq.trans hq1⟩
          · exact ⟨⟨done ++ [rest], [], false, by simp, rfl, rfl, hq.trans hq1, by simp [HA.out, hnm], by simp [HP2.out], Nat.zero_le _⟩, by show 0 < _; simp [rightMeas]⟩
        · have hlen' : a.length + (b.length + 1) ≤ l.length := by simpa using hlen
          have hb : (⟨a.toArray⟩ : ByteArray).size ≤ maxLen := by
            unfold maxLen; rw [HLZ.out] at hs; show a.length ≤ _; omega
          have hb2 : a.length + b.length + 1 ≤ maxLen := by
            unfold maxLen; rw [HLZ.out] at hs; omega
          have HB := Lib.hid hb; have HB2 := Lib.hid hb2; clear hb hb2
          have hp : parts l = done ++ a :: parts b := by rw [HP.out]; simp [parts_slash a b hn]
          have HP2 := Lib.hid hp; clear hp HP
          cases hnm : nameB a
          all_goals
            go_wp2_with (first | (go_at_call 11; refine (cut_some _ _ _ hn HB2.out).mono ?_; rintro e w' ⟨rfl, hq1⟩) | (go_at_call 27; refine (name_any _ _ HB.out).mono ?_; rintro e w' ⟨rfl, rfl⟩))
          · go_ret
            exact ⟨ret_bool (by unfold rightB; rw [HP2.out, h0']; simp [hnm]), hq.trans hq1⟩
          · exact ⟨⟨done ++ [a], b, true, by simp, rfl, rfl, hq.trans hq1, by simp [HA.out, hnm], by simp [HP2.out], by omega⟩, by show b.length + 1 < (a ++ 47 :: b).length + 1; simp; omega⟩

end Go.Proofs.YthgjddbfjmgkhaaGreatDoor.Sc
end

section
/- THE WALKS OF strings.Cut at one byte, strings.Contains of one byte, strings.Trim of blanks: any byte, any text. -/
namespace Go.Proofs.YthgjddbfjmgkhaaGreatDoor.Pa
open Go.RowKit Go.Proofs.YthgjddbfjmgkhaaGreatDoor.Sc
theorem byte_cases (k : UInt8) (l : List UInt8) : (Lib.indexByte l k = -1 ∧ k ∉ l) ∨ (∃ a b, l = a ++ k :: b ∧ k ∉ a ∧ Lib.indexByte l k = a.length) := by
  induction l with
  | nil => left; simp [Lib.indexByte]
  | cons c r ih =>
    by_cases hc : c = k
    · right; exact ⟨[], r, by simp [hc], by simp, by simp [Lib.indexByte, hc]⟩
    · have h1 : (c == k) = false := by simp [hc]
      rcases ih with ⟨e, hn⟩ | ⟨a, b, e, hn, hi⟩
      · left; refine ⟨?_, by simp [hn]; exact fun h => hc h.symm⟩
        unfold Lib.indexByte; rw [h1, e]; rfl
      · right
        refine ⟨c :: a, b, by simp [e], by simp [hn]; exact fun h => hc h.symm, ?_⟩
        unfold Lib.indexByte; rw [h1, hi]
        simp
        try (split <;> omega)
theorem app_cut {k : UInt8} : ∀ {a a' b b' : List UInt8}, k ∉ a → k ∉ a' → a ++ k :: b = a' ++ k :: b' → a = a'
  | [], [], _, _, _, _, _ => rfl
  | [], c :: a', _, _, _, h2, h => by
    simp only [List.nil_append, List.cons_append, List.cons.injEq] at h
    exact absurd (by rw [h.1]; simp) h2
  | c :: a, [], _, _, h1, _, h => by
    simp only [List.nil_append, List.cons_append, List.cons.injEq] at h
    exact absurd (by rw [← h.1]; simp) h1
  | c :: a, c' :: a', _, _, h1, h2, h => by
    simp only [List.cons_append, List.cons.injEq] at h
    rw [h.1, app_cut (fun x => h1 (by simp [x])) (fun x => h2 (by simp [x])) h.2]
theorem pcut_hit (k : UInt8) (a b : List UInt8) : (⟨(a ++ k :: b).toArray⟩ : ByteArray).extract 0 a.length = ⟨a.toArray⟩ ∧ (⟨(a ++ k :: b).toArray⟩ : ByteArray).extract (a.length + 1) (⟨(a ++ k :: b).toArray⟩ : ByteArray).size = ⟨b.toArray⟩ := by
  constructor
  · apply of_data; rw [Lib.Pa.extract_upto_list]; simp
  · apply of_data; rw [Lib.extract_to_end]; simp
set_option maxHeartbeats 400000 in
theorem plcut_hit (k : UInt8) (s : ByteArray) (i : Nat) (w : World) (hs : s.size ≤ maxLen) (hi : Lib.indexByte s.data.toList k = i) (hlt : i < s.size) :
    Calls Tryz.prog 17 #[.string s, .string ⟨#[k]⟩] w fun e w' => e = .returned (.tuple #[.string (s.extract 0 i), .string (s.extract (i + 1) s.size), .bool true]) ∧ Drawn w w' := by
  unfold maxLen at hs
  have c1 : (0 : Int) ≤ ↑i := by omega
  have c2 : (↑i : Int) ≤ ↑s.size := by omega
  have c3 : (0 : Int) ≤ ↑i + 1 := by omega
  have c4 : (↑i + 1 : Int) ≤ ↑s.size := by omega
  go_enter Tryz.func17, Tryz.ntmps17
  go_wp2_with (go_at_call 28; refine (Tryz.stringslite_Index_one _ _ _).mono ?_; rintro e w' ⟨rfl, rfl⟩)
  go_region
  all_goals
    go_wp2
    go_ret3
    exact ⟨rfl, 1, rfl⟩
set_option maxHeartbeats 400000 in
theorem pcut_some (k : UInt8) (a b : List UInt8) (w : World) (h : k ∉ a) (hs : a.length + b.length + 1 ≤ maxLen) :
    Calls Tryz.prog 11 #[.string ⟨(a ++ k :: b).toArray⟩, .string ⟨#[k]⟩] w fun e w' => e = .returned (.tuple #[.string ⟨a.toArray⟩, .string ⟨b.toArray⟩, .bool true]) ∧ Drawn w w' := by
  have hz : (⟨(a ++ k :: b).toArray⟩ : ByteArray).size = a.length + b.length + 1 := by
    show (a ++ k :: b).toArray.size = _
    simp; omega
  have hi : Lib.indexByte (⟨(a ++ k :: b).toArray⟩ : ByteArray).data.toList k = a.length := by
    rcases byte_cases k (a ++ k :: b) with ⟨_, h1⟩ | ⟨a', b', e, h2, h3⟩
    · exact absurd (by simp) h1
    · have : a = a' := app_cut h h2 e
      subst this; exact h3
  have hc := plcut_hit k ⟨(a ++ k :: b).toArray⟩ a.length w (by rw [hz]; exact hs) hi (by rw [hz]; omega)
  rw [(pcut_hit k a b).1, (pcut_hit k a b).2] at hc
  have HC := Lib.hid hc; clear hc hi hz h hs
  go_enter Tryz.func11, Tryz.ntmps11
  go_wp2_with fail
  refine HC.out.mono ?_
  rintro e w' ⟨rfl, hq⟩
  go_wp2
  go_ret3
  exact ⟨rfl, hq⟩
theorem ptrim_any (l : List UInt8) (w : World) (hs : l.length ≤ maxLen) :
    Calls Tryz.prog 12 #[.string ⟨l.toArray⟩, .string ⟨#[32]⟩] w fun e w' => e = .returned (.string ⟨(trimP l).toArray⟩) ∧ Drawn w w' := by
  refine (Tryz.strings_Trim_one ⟨l.toArray⟩ 32 (by decide) w (by show l.toArray.size ≤ _; unfold maxLen at hs; simp; omega)).mono ?_
  rintro e w' ⟨rfl, h⟩
  refine ⟨rfl, ?_⟩
  rcases h with rfl | rfl
  · exact Drawn.refl _
  · exact ⟨1, rfl⟩
end Go.Proofs.YthgjddbfjmgkhaaGreatDoor.Pa
end

section
/- WHAT THE OPENINGS OF SLICES SHARE. -/
namespace Go.Proofs.YthgjddbfjmgkhaaGreatDoor.Open
open Go.ChangeShapes Go.WideShapes Go.ChangeAt Go.RowKit Go.Deep
instance : Inhabited Val.V := ⟨⟨0, 0, 0, [], false⟩⟩
section
variable {H : Type}
end
end Go.Proofs.YthgjddbfjmgkhaaGreatDoor.Open
end

section
/- THE WALK OF the laws' fit of package cond: it prints 'a < 3'. -/
namespace Go.Proofs.YthgjddbfjmgkhaaGreatDoor.Val
open Go.RowKit Flt
theorem run_store_flt (P : Program) (w : World) (a : Addr) (m : Mode) (k : FloatKind) (b : Nat) : (store a (.float k b) m).run P w = stored P w a (.float k b) m := run_store P w a _ m rfl
attribute [local go_sem] run_store_flt
end Go.Proofs.YthgjddbfjmgkhaaGreatDoor.Val
end

section
/- THE WALKS OF cond.Void and cond.Right, the laws' light. -/
namespace Go.Proofs.YthgjddbfjmgkhaaGreatDoor.Val
open Go.RowKit Flt
def cRight (c : C) : Bool := Sc.nameB c.name && decide (0 ≤ c.op) && decide (c.op ≤ 7) && vRight c.val
theorem right_ways3 (op : Int) (n : Bool) : n = false ∨ (n = true ∧ decide (0 ≤ op) = false) ∨ (n = true ∧ decide (0 ≤ op) = true ∧ decide (op ≤ 7) = false) ∨ (n = true ∧ decide (0 ≤ op) = true ∧ decide (op ≤ 7) = true) := by
  cases n <;> cases decide (0 ≤ op) <;> cases decide (op ≤ 7) <;> simp
set_option maxHeartbeats 400000 in
theorem cright_any (nm : List UInt8) (op k n : Int) (x : Nat) (t : List UInt8) (y : Bool) (w : World) (hn : nm.length ≤ 140737488351232) (ht : t.length ≤ 140737488351232) :
    Calls Tryz.prog 15 #[cond nm op k n x t y] w fun e w' => e = .returned (.bool (cRight ⟨nm, op, k, n, x, t, y⟩)) ∧ Below w.heap.size w w' := by
  have hr : cRight ⟨nm, op, k, n, x, t, y⟩ = (Sc.nameB nm && decide (0 ≤ op) && decide (op ≤ 7) && vRight ⟨k, n, x, t, y⟩) := rfl
  have hv (w : World) := vright_any k n x t y w ht
  have hm (w : World) := Sc.name_l nm w hn
  generalize vRight ⟨k, n, x, t, y⟩ = vb at *
  generalize Sc.nameB nm = nb at *
  have HR := Lib.hid hr; have HV := Lib.hid hv; have HM := Lib.hid hm; clear hr hv hm
  rcases right_ways3 op nb with rfl | ⟨rfl, h1⟩ | ⟨rfl, h1, h2⟩ | ⟨rfl, h1, h2⟩
  · have HQ : Hid (cRight ⟨nm, op, k, n, x, t, y⟩ = false) := Lib.hid (by rw [HR.out]; rfl)
    go_enter Tryz.func15, Tryz.ntmps15
    go_wp2_with (first | (go_at_call 27; refine (HM.out _).mono ?_; rintro e w' ⟨rfl, rfl⟩) | (go_at_call 9; refine (HV.out _).mono ?_; rintro e w1 ⟨rfl, hb⟩; obtain ⟨hc, hf⟩ := bcell hb))
    go_ret
    exact ⟨ret_bool HQ.out.symm, by repeat (first | assumption | (with_reducible exact Below.refl _ _) | exact balloc _ _ | exact balloc2 _ _ _ | refine btrans ?_ (by assumption) | refine btrans ?_ (balloc _ _))⟩
  · have HQ : Hid (cRight ⟨nm, op, k, n, x, t, y⟩ = false) := Lib.hid (by rw [HR.out, h1]; rfl)
    go_enter Tryz.func15, Tryz.ntmps15
    go_wp2_with (first | (go_at_call 27; refine (HM.out _).mono ?_; rintro e w' ⟨rfl, rfl⟩) | (go_at_call 9; refine (HV.out _).mono ?_; rintro e w1 ⟨rfl, hb⟩; obtain ⟨hc, hf⟩ := bcell hb))
    go_ret
    exact ⟨ret_bool HQ.out.symm, by repeat (first | assumption | (with_reducible exact Below.refl _ _) | exact balloc _ _ | exact balloc2 _ _ _ | refine btrans ?_ (by assumption) | refine btrans ?_ (balloc _ _))⟩
  · have HQ : Hid (cRight ⟨nm, op, k, n, x, t, y⟩ = false) := Lib.hid (by rw [HR.out, h1, h2]; rfl)
    go_enter Tryz.func15, Tryz.ntmps15
    go_wp2_with (first | (go_at_call 27; refine (HM.out _).mono ?_; rintro e w' ⟨rfl, rfl⟩) | (go_at_call 9; refine (HV.out _).mono ?_; rintro e w1 ⟨rfl, hb⟩; obtain ⟨hc, hf⟩ := bcell hb))
    go_ret
    exact ⟨ret_bool HQ.out.symm, by repeat (first | assumption | (with_reducible exact Below.refl _ _) | exact balloc _ _ | exact balloc2 _ _ _ | refine btrans ?_ (by assumption) | refine btrans ?_ (balloc _ _))⟩
  · have HQ : Hid (cRight ⟨nm, op, k, n, x, t, y⟩ = vb) := Lib.hid (by rw [HR.out, h1, h2]; rfl)
    go_enter Tryz.func15, Tryz.ntmps15
    go_wp2_with (first | (go_at_call 27; refine (HM.out _).mono ?_; rintro e w' ⟨rfl, rfl⟩) | (go_at_call 9; refine (HV.out _).mono ?_; rintro e w1 ⟨rfl, hb⟩; obtain ⟨hc, hf⟩ := bcell hb))
    go_ret
    exact ⟨ret_bool HQ.out.symm, by repeat (first | assumption | (with_reducible exact Below.refl _ _) | exact balloc _ _ | exact balloc2 _ _ _ | refine btrans ?_ (by assumption) | refine btrans ?_ (balloc _ _))⟩
end Go.Proofs.YthgjddbfjmgkhaaGreatDoor.Val
end

section
/- THE WALKS OF value.Canon and cond.Canon. -/
namespace Go.Proofs.YthgjddbfjmgkhaaGreatDoor.Val
open Go.RowKit Flt
attribute [local go_sem] run_store_flt
abbrev cc (c : C) : Value := cond c.name c.op c.val.kind c.val.int c.val.num c.val.text c.val.yes
theorem set7_at (w : World) (b : Nat) (v0 v1 v2 v3 v4 v5 v6 : Value) (h : ∀ j, j < 7 → (w.cell? ⟨b, j, none⟩).isSome = true) :
    (((((((w.setCell ⟨b, 0, none⟩ v0).setCell ⟨b, 1, none⟩ v1).setCell ⟨b, 2, none⟩ v2).setCell ⟨b, 3, none⟩ v3).setCell ⟨b, 4, none⟩ v4).setCell ⟨b, 5, none⟩ v5).setCell ⟨b, 6, none⟩ v6).cell? ⟨b, 0, none⟩ = some v0 ∧
    (((((((w.setCell ⟨b, 0, none⟩ v0).setCell ⟨b, 1, none⟩ v1).setCell ⟨b, 2, none⟩ v2).setCell ⟨b, 3, none⟩ v3).setCell ⟨b, 4, none⟩ v4).setCell ⟨b, 5, none⟩ v5).setCell ⟨b, 6, none⟩ v6).cell? ⟨b, 1, none⟩ = some v1 ∧
    (((((((w.setCell ⟨b, 0, none⟩ v0).setCell ⟨b, 1, none⟩ v1).setCell ⟨b, 2, none⟩ v2).setCell ⟨b, 3, none⟩ v3).setCell ⟨b, 4, none⟩ v4).setCell ⟨b, 5, none⟩ v5).setCell ⟨b, 6, none⟩ v6).cell? ⟨b, 2, none⟩ = some v2 ∧
    (((((((w.setCell ⟨b, 0, none⟩ v0).setCell ⟨b, 1, none⟩ v1).setCell ⟨b, 2, none⟩ v2).setCell ⟨b, 3, none⟩ v3).setCell ⟨b, 4, none⟩ v4).setCell ⟨b, 5, none⟩ v5).setCell ⟨b, 6, none⟩ v6).cell? ⟨b, 3, none⟩ = some v3 ∧
    (((((((w.setCell ⟨b, 0, none⟩ v0).setCell ⟨b, 1, none⟩ v1).setCell ⟨b, 2, none⟩ v2).setCell ⟨b, 3, none⟩ v3).setCell ⟨b, 4, none⟩ v4).setCell ⟨b, 5, none⟩ v5).setCell ⟨b, 6, none⟩ v6).cell? ⟨b, 4, none⟩ = some v4 ∧
    (((((((w.setCell ⟨b, 0, none⟩ v0).setCell ⟨b, 1, none⟩ v1).setCell ⟨b, 2, none⟩ v2).setCell ⟨b, 3, none⟩ v3).setCell ⟨b, 4, none⟩ v4).setCell ⟨b, 5, none⟩ v5).setCell ⟨b, 6, none⟩ v6).cell? ⟨b, 5, none⟩ = some v5 ∧
    (((((((w.setCell ⟨b, 0, none⟩ v0).setCell ⟨b, 1, none⟩ v1).setCell ⟨b, 2, none⟩ v2).setCell ⟨b, 3, none⟩ v3).setCell ⟨b, 4, none⟩ v4).setCell ⟨b, 5, none⟩ v5).setCell ⟨b, 6, none⟩ v6).cell? ⟨b, 6, none⟩ = some v6 ∧
    Below b w (((((((w.setCell ⟨b, 0, none⟩ v0).setCell ⟨b, 1, none⟩ v1).setCell ⟨b, 2, none⟩ v2).setCell ⟨b, 3, none⟩ v3).setCell ⟨b, 4, none⟩ v4).setCell ⟨b, 5, none⟩ v5).setCell ⟨b, 6, none⟩ v6) := by
  have e := World.cell?_setCells_in b [v0, v1, v2, v3, v4, v5, v6] 0 w (fun j hj => by rw [Nat.zero_add]; exact h j hj)
  exact ⟨e 0 (by simp), e 1 (by simp), e 2 (by simp), e 3 (by simp), e 4 (by simp), e 5 (by simp), e 6 (by simp),
    (((((((Below.refl b w).setCell (Nat.le_refl _) _).setCell (Nat.le_refl _) _).setCell (Nat.le_refl _) _).setCell (Nat.le_refl _) _).setCell (Nat.le_refl _) _).setCell (Nat.le_refl _) _).setCell (Nat.le_refl _) _⟩
end Go.Proofs.YthgjddbfjmgkhaaGreatDoor.Val
end

section
/- ATTRIBUTES: six cells each; the walks of event.find and event.Get, and of the library's search as event.find calls it. -/
namespace Go.Proofs.YthgjddbfjmgkhaaGreatDoor.Val
open Go.RowKit Flt
structure A where
  name : List UInt8
  val : V
instance : Inhabited A := ⟨⟨[], ⟨0, 0, 0, [], false⟩⟩⟩
def AAt (w : World) (p : Addr) (a : A) : Prop :=
  w.cell? p = some (.string ⟨a.name.toArray⟩) ∧ w.cell? ⟨p.block, p.off + 1, none⟩ = some (.int .i64 a.val.kind) ∧ w.cell? ⟨p.block, p.off + 2, none⟩ = some (.int .i64 a.val.int) ∧ w.cell? ⟨p.block, p.off + 3, none⟩ = some (.float .f64 a.val.num) ∧ w.cell? ⟨p.block, p.off + 4, none⟩ = some (.string ⟨a.val.text.toArray⟩) ∧ w.cell? ⟨p.block, p.off + 5, none⟩ = some (.bool a.val.yes)
def Attrs (w : World) (a0 : Option Addr) (l : List A) : Prop := ∀ i (h : i < l.length), ∃ a, a0 = some a ∧ AAt w (a.add (i * 6)) l[i]
theorem AAt.below {w w2 : World} {p : Addr} {a : A} (h : AAt w p a) (hb : Below w.heap.size w w2) : AAt w2 p a := by
  obtain ⟨h0, h1, h2, h3, h4, h5⟩ := h
  exact ⟨(hb.cell (World.block_lt_of_cell? _ _ h0)).trans h0, (hb.cell (World.block_lt_of_cell? _ _ h1)).trans h1, (hb.cell (World.block_lt_of_cell? _ _ h2)).trans h2, (hb.cell (World.block_lt_of_cell? _ _ h3)).trans h3, (hb.cell (World.block_lt_of_cell? _ _ h4)).trans h4, (hb.cell (World.block_lt_of_cell? _ _ h5)).trans h5⟩
theorem Attrs.below {w w2 : World} {a0 : Option Addr} {l : List A} (h : Attrs w a0 l) (hb : Below w.heap.size w w2) : Attrs w2 a0 l := fun i hi => by
  obtain ⟨a, e, h1⟩ := h i hi
  exact ⟨a, e, h1.below hb⟩
attribute [local go_sem] run_store_flt
/-- an event's two cells -/
abbrev ev (sc : List UInt8) (a0 : Option Addr) (n cap : Nat) : Value := .agg #[.string ⟨sc.toArray⟩, .slice a0 n cap]
theorem set5_at (w : World) (b : Nat) (v0 v1 v2 v3 v4 : Value) (h : ∀ j, j < 5 → (w.cell? ⟨b, j, none⟩).isSome = true) :
    (((((w.setCell ⟨b, 0, none⟩ v0).setCell ⟨b, 1, none⟩ v1).setCell ⟨b, 2, none⟩ v2).setCell ⟨b, 3, none⟩ v3).setCell ⟨b, 4, none⟩ v4).cell? ⟨b, 0, none⟩ = some v0 ∧
    (((((w.setCell ⟨b, 0, none⟩ v0).setCell ⟨b, 1, none⟩ v1).setCell ⟨b, 2, none⟩ v2).setCell ⟨b, 3, none⟩ v3).setCell ⟨b, 4, none⟩ v4).cell? ⟨b, 1, none⟩ = some v1 ∧
    (((((w.setCell ⟨b, 0, none⟩ v0).setCell ⟨b, 1, none⟩ v1).setCell ⟨b, 2, none⟩ v2).setCell ⟨b, 3, none⟩ v3).setCell ⟨b, 4, none⟩ v4).cell? ⟨b, 2, none⟩ = some v2 ∧
    (((((w.setCell ⟨b, 0, none⟩ v0).setCell ⟨b, 1, none⟩ v1).setCell ⟨b, 2, none⟩ v2).setCell ⟨b, 3, none⟩ v3).setCell ⟨b, 4, none⟩ v4).cell? ⟨b, 3, none⟩ = some v3 ∧
    (((((w.setCell ⟨b, 0, none⟩ v0).setCell ⟨b, 1, none⟩ v1).setCell ⟨b, 2, none⟩ v2).setCell ⟨b, 3, none⟩ v3).setCell ⟨b, 4, none⟩ v4).cell? ⟨b, 4, none⟩ = some v4 ∧
    Below b w (((((w.setCell ⟨b, 0, none⟩ v0).setCell ⟨b, 1, none⟩ v1).setCell ⟨b, 2, none⟩ v2).setCell ⟨b, 3, none⟩ v3).setCell ⟨b, 4, none⟩ v4) := by
  have e := World.cell?_setCells_in b [v0, v1, v2, v3, v4] 0 w (fun j hj => by rw [Nat.zero_add]; exact h j hj)
  exact ⟨e 0 (by simp), e 1 (by simp), e 2 (by simp), e 3 (by simp), e 4 (by simp),
    (((((Below.refl b w).setCell (Nat.le_refl _) _).setCell (Nat.le_refl _) _).setCell (Nat.le_refl _) _).setCell (Nat.le_refl _) _).setCell (Nat.le_refl _) _⟩
end Go.Proofs.YthgjddbfjmgkhaaGreatDoor.Val
end

section
/- THE WALK OF cond.Match. -/
namespace Go.Proofs.YthgjddbfjmgkhaaGreatDoor.Val
open Go.RowKit Flt
attribute [local go_sem] run_store_flt
end Go.Proofs.YthgjddbfjmgkhaaGreatDoor.Val
end

section
/- CONDITIONS IN MEMORY: seven cells each. -/
namespace Go.Proofs.YthgjddbfjmgkhaaGreatDoor.Val
open Go.RowKit Flt
instance : Inhabited C := ⟨⟨[], 0, 0, 0, 0, [], false⟩⟩
def CAt (w : World) (p : Addr) (c : C) : Prop :=
  w.cell? p = some (.string ⟨c.name.toArray⟩) ∧ w.cell? ⟨p.block, p.off + 1, none⟩ = some (.int .i64 c.op) ∧ w.cell? ⟨p.block, p.off + 2, none⟩ = some (.int .i64 c.val.kind) ∧ w.cell? ⟨p.block, p.off + 3, none⟩ = some (.int .i64 c.val.int) ∧ w.cell? ⟨p.block, p.off + 4, none⟩ = some (.float .f64 c.val.num) ∧ w.cell? ⟨p.block, p.off + 5, none⟩ = some (.string ⟨c.val.text.toArray⟩) ∧ w.cell? ⟨p.block, p.off + 6, none⟩ = some (.bool c.val.yes)
def Conds (w : World) (a0 : Option Addr) (l : List C) : Prop := ∀ i (h : i < l.length), ∃ a, a0 = some a ∧ CAt w (a.add (i * 7)) l[i]
theorem CAt.below {w w2 : World} {p : Addr} {c : C} (h : CAt w p c) (hb : Below w.heap.size w w2) : CAt w2 p c := by
  obtain ⟨h0, h1, h2, h3, h4, h5, h6⟩ := h
  exact ⟨(hb.cell (World.block_lt_of_cell? _ _ h0)).trans h0, (hb.cell (World.block_lt_of_cell? _ _ h1)).trans h1, (hb.cell (World.block_lt_of_cell? _ _ h2)).trans h2, (hb.cell (World.block_lt_of_cell? _ _ h3)).trans h3, (hb.cell (World.block_lt_of_cell? _ _ h4)).trans h4, (hb.cell (World.block_lt_of_cell? _ _ h5)).trans h5, (hb.cell (World.block_lt_of_cell? _ _ h6)).trans h6⟩
theorem Conds.below {w w2 : World} {a0 : Option Addr} {l : List C} (h : Conds w a0 l) (hb : Below w.heap.size w w2) : Conds w2 a0 l := fun i hi => by
  obtain ⟨a, e, h1⟩ := h i hi
  exact ⟨a, e, h1.below hb⟩
end Go.Proofs.YthgjddbfjmgkhaaGreatDoor.Val
end

section
/- ROWS OF ONE's OWN: conditions, texts. -/
namespace Go.Proofs.YthgjddbfjmgkhaaGreatDoor.Pa
open Go.RowKit Flt Go.Proofs.YthgjddbfjmgkhaaGreatDoor.Val
def cells7 (c : C) : List Value := [.string ⟨c.name.toArray⟩, .int .i64 c.op, .int .i64 c.val.kind, .int .i64 c.val.int, .float .f64 c.val.num, .string ⟨c.val.text.toArray⟩, .bool c.val.yes]
def flatC (l : List C) : List Value := l.flatMap cells7
theorem flatC_len (l : List C) : (flatC l).length = l.length * 7 := by
  induction l with
  | nil => rfl
  | cons v l ih => unfold flatC at *; rw [List.flatMap_cons, List.length_append, ih]; simp [cells7]; omega
theorem flatC_at : ∀ (l : List C) (i j : Nat) (hi : i < l.length), j < 7 → (flatC l)[i * 7 + j]? = (cells7 l[i])[j]?
  | v :: l, 0, j, _, hj => by
    unfold flatC; rw [List.flatMap_cons, List.getElem?_append_left (by simp [cells7]; omega)]; simp
  | v :: l, i + 1, j, hi, hj => by
    unfold flatC; rw [List.flatMap_cons, List.getElem?_append_right (by simp [cells7]; omega)]
    have e : (i + 1) * 7 + j - (cells7 v).length = i * 7 + j := by simp [cells7]; omega
    rw [e]
    exact flatC_at l i j (by simpa using hi) hj
theorem flatC_one (l : List C) : ∀ u ∈ flatC l, u.oneCell' = true := by
  intro u hu
  obtain ⟨v, _, hv⟩ := List.mem_flatMap.1 hu
  simp only [cells7, List.mem_cons, List.not_mem_nil, or_false] at hv
  rcases hv with rfl | rfl | rfl | rfl | rfl | rfl | rfl <;> rfl
theorem flatC_app (l : List C) (a : C) : flatC (l ++ [a]) = flatC l ++ flatC [a] := by simp [flatC]
theorem own_lo {W W2 : World} {base e size : Nat} {v : Value} {n : Nat} {xs : List Value} {g : Nat} (h : W.ownsRow base e size v n xs) (hb : Below g W W2) (hv : ∀ k, v.ownBlock = some k → k < g) : W2.ownsRow base e size v n xs := by
  refine ⟨h.1, ?_⟩
  rcases h.2 with hn | ⟨g2, cap, cur, rfl, hb2, hgg, rest⟩
  · exact .inl hn
  · refine .inr ⟨g2, cap, cur, rfl, hb2, ?_, rest⟩
    rw [hb.block g2 (hv g2 (by simp [Value.ownBlock]))]
    exact hgg
theorem info_cond : (Tryz.prog.info? 37).map (fun i => (i.zero, i.size, i.bytes)) = some (some (.agg #[.string .empty, .int .i64 0, .int .i64 0, .int .i64 0, .float .f64 0, .string .empty, .bool false]), 7, 72) := by kernel_rfl
theorem new_cond (w : World) (g : Nat) (hg : g = w.heap.size) (c : C) (e : TypeId) : ∀ j u, (flatC [c])[j]? = some u → (w.alloc (.cells #[.string ⟨c.name.toArray⟩, .int .i64 c.op, .int .i64 c.val.kind, .int .i64 c.val.int, .float .f64 c.val.num, .string ⟨c.val.text.toArray⟩, .bool c.val.yes] e)).cell? ((⟨g, 0, none⟩ : Addr).add j) = some u := by
  subst hg
  intro j u hj
  have hadd : (⟨w.heap.size, 0, none⟩ : Addr).add j = ⟨w.heap.size, j, none⟩ := by unfold Addr.add; split <;> simp_all
  rw [hadd]
  simpa [flatC, cells7, go_sem] using hj
theorem own_conds {w : World} {v : Value} {l : List C} {base : Nat} (h : w.ownsRow base 37 7 v l.length (flatC l)) :
    ∃ b0 cap, v = .slice b0 l.length cap ∧ Conds w b0 l ∧ ∀ a, b0 = some a → base ≤ a.block := by
  rcases h.2 with ⟨rfl, h0⟩ | ⟨g, cp, cur, rfl, hb, hg, hh⟩
  · have : l = [] := List.eq_nil_of_length_eq_zero h0
    subst this
    exact ⟨none, 0, rfl, (fun i hi => absurd hi (Nat.not_lt_zero _)), fun a e => by cases e⟩
  · refine ⟨some ⟨g, 0, none⟩, cp, rfl, fun i hi => ⟨_, rfl, ?_⟩, fun a e => by injection e with e; subst e; exact hb⟩
    have k : ∀ j (hj : j < 7), w.cell? ⟨g, i * 7 + j, none⟩ = (cells7 l[i])[j]? := by
      intro j hj
      have hl := flatC_len l
      have hm := flatC_at l i j hi hj
      have hc : (cells7 l[i])[j]? = some ((cells7 l[i])[j]'(by simpa [cells7] using hj)) := by simp
      rw [hc] at hm ⊢
      have := h.cells rfl (i * 7 + j) _ hm
      have hadd : (⟨g, 0, none⟩ : Addr).add (i * 7 + j) = ⟨g, i * 7 + j, none⟩ := by unfold Addr.add; split <;> simp_all
      rw [← hadd]; exact this
    have hadd : (⟨g, 0, none⟩ : Addr).add (i * 7) = ⟨g, i * 7, none⟩ := by unfold Addr.add; split <;> simp_all
    rw [hadd]
    exact ⟨k 0 (by decide), k 1 (by decide), k 2 (by decide), k 3 (by decide), k 4 (by decide), k 5 (by decide), k 6 (by decide)⟩
theorem own_low7 {W W2 : World} {base e size : Nat} {v : Value} {n : Nat} {xs : List Value} (h : W.ownsRow base e size v n xs) (hb : Below W.heap.size W W2) : W2.ownsRow base e size v n xs :=
  own_lo h hb (fun k hk => (h.lt k hk).2)

abbrev strV (l : List (List UInt8)) : List Value := l.map fun t => .string ⟨t.toArray⟩
theorem strV_app (l m : List (List UInt8)) : strV (l ++ m) = strV l ++ strV m := List.map_append ..
theorem info_str : (Tryz.prog.info? 9).map (fun i => (i.zero, i.size, i.bytes)) = some (some (.string .empty), 1, 16) := by kernel_rfl
theorem strV_one (l : List (List UInt8)) : ∀ u ∈ strV l, u.oneCell' = true := by
  intro u hu
  obtain ⟨c, _, rfl⟩ := List.mem_map.1 hu
  rfl
theorem new_str (w : World) (g : Nat) (hg : g = w.heap.size) (t : List UInt8) (e : TypeId) : ∀ j u, (strV [t])[j]? = some u → (w.alloc (.cells #[.string ⟨t.toArray⟩] e)).cell? ((⟨g, 0, none⟩ : Addr).add j) = some u := by
  subst hg
  intro j u hj
  have hadd : (⟨w.heap.size, 0, none⟩ : Addr).add j = ⟨w.heap.size, j, none⟩ := by unfold Addr.add; split <;> simp_all
  rw [hadd]
  simpa [go_sem] using hj
/-- texts at a place -/
def Strs (w : World) (b0 : Option Addr) (l : List (List UInt8)) : Prop := ∀ i (h : i < l.length), ∃ a, b0 = some a ∧ w.cell? (a.add i) = some (.string ⟨l[i].toArray⟩)
theorem Strs.below {w w2 : World} {b0 : Option Addr} {l : List (List UInt8)} (h : Strs w b0 l) (hb : Below w.heap.size w w2) : Strs w2 b0 l := fun i hi => by
  obtain ⟨a, e, h2⟩ := h i hi
  exact ⟨a, e, (hb.cell (World.block_lt_of_cell? _ _ h2)).trans h2⟩
theorem own_strs {w : World} {v : Value} {l : List (List UInt8)} {base : Nat} (h : w.ownsRow base 9 1 v l.length (strV l)) :
    ∃ b0 cap, v = .slice b0 l.length cap ∧ Strs w b0 l ∧ ∀ a, b0 = some a → base ≤ a.block := by
  rcases h.2 with ⟨rfl, h0⟩ | ⟨g, cp, cur, rfl, hb, hg, hh⟩
  · have : l = [] := List.eq_nil_of_length_eq_zero h0
    subst this
    exact ⟨none, 0, rfl, (fun i hi => absurd hi (Nat.not_lt_zero _)), fun a e => by cases e⟩
  · refine ⟨some ⟨g, 0, none⟩, cp, rfl, fun i hi => ⟨_, rfl, ?_⟩, fun a e => by injection e with e; subst e; exact hb⟩
    have hm : (strV l)[i]? = some (.string ⟨l[i].toArray⟩) := by simp [hi]
    exact h.cells rfl i _ hm
end Go.Proofs.YthgjddbfjmgkhaaGreatDoor.Pa
end

section
/- THE WALK OF parse.cut: the pieces of a text. -/
namespace Go.Proofs.YthgjddbfjmgkhaaGreatDoor.Pa
open Go.RowKit Flt Go.Proofs.YthgjddbfjmgkhaaGreatDoor.Val
theorem u8_is (c d : UInt8) : (c == d) = ((c.toNat : Int) == (d.toNat : Int)) := by
  rw [Bool.eq_iff_iff, beq_iff_eq, beq_iff_eq, ← UInt8.toNat_inj]
  omega
theorem ext_pie (s : ByteArray) (a b : Nat) : s.extract a b = ⟨((s.data.toList.drop a).take (b - a)).toArray⟩ := by
  apply Sc.of_data
  rw [ByteArray.data_extract, Array.toList_extract, List.extract_eq_take_drop]
set_option maxRecDepth 20000 in
set_option maxHeartbeats 2000000 in
theorem pieces_any (s : ByteArray) (w : World) (hs : s.size ≤ 100000) :
    Calls Tryz.prog 13 #[.string s] w fun e w' => (∃ b0 cap, e = .returned (.slice b0 (cutP s.data.toList).length cap) ∧ Strs w' b0 (cutP s.data.toList) ∧ ∀ a, b0 = some a → w.heap.size ≤ a.block) ∧ Below w.heap.size w w' := by
  have hsz : s.data.toList.length = s.size := by rw [Array.length_toList]; rfl
  obtain ⟨i0, hi, hz0, hz1, hz2⟩ := info_parts info_str
  go_enter Tryz.func13, Tryz.ntmps13
  go_wp2_with fail
  go_loopw [3, 4, 5, 6] (fun vo vf vq vi wr => ∃ (k fr : Nat) (q : Bool) (done : List (List UInt8)), k ≤ s.size + 1 ∧ fr ≤ k ∧ fr ≤ s.size ∧ done.length ≤ k ∧ vf = .int .i64 fr ∧ vq = .bool q ∧ vi = .int .i64 k ∧ wr.ownsRow w.heap.size 9 1 vo done.length (strV done) ∧ cutP s.data.toList = done ++ cutGo q ((s.data.toList.drop fr).take (k - fr)) (s.data.toList.drop k) ∧ Below w.heap.size w wr) (fun _ _ _ vi _ => s.size + 1 - (intOf vi).toNat)
  case atStart => exact ⟨0, 0, false, [], Nat.zero_le _, Nat.le_refl _, Nat.zero_le _, Nat.le_refl _, rfl, rfl, rfl, World.ownsRow_nil _ _ _ _, by simp [cutP], Below.refl _ _⟩
  case round =>
    obtain ⟨k, fr, q, done, hk, hfk, hfs, hdl, rfl, rfl, rfl, hown, hcut, hbr⟩ := hrel
    have OWN := Lib.hid hown; have HBR := Lib.hid hbr; have HSZ := Lib.hid hsz
    clear hown hbr hsz
    by_cases hlt : k < s.size
    · have i1 : (k : Int) < (s.size : Int) := by omega
      have i2 : (0 : Int) ≤ (k : Int) := by omega
      have i3 : (fr : Int) ≤ (k : Int) := by omega
      have i4 : (0 : Int) ≤ (fr : Int) := by omega
      have i5 : (k : Int) ≤ (s.size : Int) := by omega
      have hg : s.data.toList[k]'(by rw [HSZ.out]; exact hlt) = s[k] := by rw [Array.getElem_toList]; rfl
      have hdr : s.data.toList.drop k = s[k] :: s.data.toList.drop (k + 1) := by rw [List.drop_eq_getElem_cons (by rw [HSZ.out]; exact hlt), hg]
      have hmore := (cur_more hdr hfk).1
      have hskip := cur_skip hdr hfk
      rw [hdr] at hcut
      have b92 := u8_is s[k] 92; have b34 := u8_is s[k] 34; have b38 := u8_is s[k] 38
      have k1 := cutGo_skip q ((s.data.toList.drop fr).take (k - fr)) s[k] (s.data.toList.drop (k + 1))
      have k2 := cutGo_quote q ((s.data.toList.drop fr).take (k - fr)) s[k] (s.data.toList.drop (k + 1))
      have k3 := cutGo_and q ((s.data.toList.drop fr).take (k - fr)) s[k] (s.data.toList.drop (k + 1))
      have k4 := cutGo_else q ((s.data.toList.drop fr).take (k - fr)) s[k] (s.data.toList.drop (k + 1))
      rw [b92] at k1 k2 k3 k4
      rw [b34] at k2 k3 k4
      rw [b38] at k3 k4
      have HK1 := Lib.hid k1; have HK2 := Lib.hid k2; have HK3 := Lib.hid k3; have HK4 := Lib.hid k4; have HCUT := Lib.hid hcut; have HMORE := Lib.hid hmore; have HSKIP := Lib.hid hskip
      clear k1 k2 k3 k4 hcut hmore hskip b92 b34 b38 hdr hg
      cases q
      · cases c34 : ((s[k].toNat : Int) == ((34 : UInt8).toNat : Int))
        · cases c38 : ((s[k].toNat : Int) == ((38 : UInt8).toNat : Int))
          · have n34 : ¬ (s[k].toNat : Int) = 34 := by simpa using c34
            have n38 : ¬ (s[k].toNat : Int) = 38 := by simpa using c38
            have m34 : ((s[k].toNat : Int) == 34) = false := c34
            have m38 : ((s[k].toNat : Int) == 38) = false := c38
            go_wp2_with fail
            refine ⟨⟨k + 1, fr, false, done, by omega, by omega, hfs, by omega, rfl, rfl, by go_num, OWN.out, ?_, HBR.out⟩, by simp [intOf]; go_num⟩
            rw [HCUT.out, HK4.out rfl c34 (by rw [c38]; rfl), HMORE.out]
          · have n34 : ¬ (s[k].toNat : Int) = 34 := by simpa using c34
            have n38 : (s[k].toNat : Int) = 38 := by simpa using c38
            have m34 : ((s[k].toNat : Int) == 34) = false := c34
            have m38 : ((s[k].toNat : Int) == 38) = true := c38
            have hext := ext_pie s fr k
            go_wp2_with (first | (at_builtin; refine wpList_append_own _ rfl _ _ 43 rfl w.heap.size 9 i0 (.string .empty) 1 16 Tryz.underlying43 hi hz0 hz1 hz2 rfl (by decide) _ _ _ rfl (OWN.out.alloc _) ⟨wr.heap.size, 0, none⟩ 1 1 (strV [(s.data.toList.drop fr).take (k - fr)]) rfl rfl ?news (strV_one _) (by unfold maxLen; omega) (by omega) (by have := HBR.out.size; simp at *; omega) ?_; rotate_left; (case news => exact new_str wr _ rfl _ _); intro v' w4 hown' hgrow3 hnil3) | fail)
            have hb4 : Below w.heap.size w w4 := Below.grown (btrans HBR.out (balloc _ _)) hgrow3 (by have := HBR.out.size; simp at *; omega) (fun q hq => (OWN.out.lt q hq).1)
            refine ⟨⟨k + 1, k + 1, false, done ++ [(s.data.toList.drop fr).take (k - fr)], by omega, Nat.le_refl _, by omega, by simp; omega, by go_num, rfl, by go_num, ?_, ?_, hb4⟩, by simp [intOf]; go_num⟩
            · rw [List.length_append, strV_app]
              exact hown'
            · rw [HCUT.out, HK3.out rfl c34 (by rw [c38]; rfl), Nat.sub_self, List.take_zero, List.append_assoc]; rfl
        · have n34 : (s[k].toNat : Int) = 34 := by simpa using c34
          have m34 : ((s[k].toNat : Int) == 34) = true := c34
          go_wp2_with fail
          refine ⟨⟨k + 1, fr, true, done, by omega, by omega, hfs, by omega, rfl, rfl, by go_num, OWN.out, ?_, HBR.out⟩, by simp [intOf]; go_num⟩
          rw [HCUT.out, HK2.out rfl c34, HMORE.out]; rfl
      · cases c92 : ((s[k].toNat : Int) == ((92 : UInt8).toNat : Int))
        · cases c34 : ((s[k].toNat : Int) == ((34 : UInt8).toNat : Int))
          · have n92 : ¬ (s[k].toNat : Int) = 92 := by simpa using c92
            have n34 : ¬ (s[k].toNat : Int) = 34 := by simpa using c34
            have m92 : ((s[k].toNat : Int) == 92) = false := c92
            have m34 : ((s[k].toNat : Int) == 34) = false := c34
            go_wp2_with fail
            all_goals
              refine ⟨⟨k + 1, fr, true, done, by omega, by omega, hfs, by omega, rfl, rfl, by go_num, OWN.out, ?_, HBR.out⟩, by simp [intOf]; go_num⟩
              rw [HCUT.out, HK4.out (by rw [c92]; rfl) c34 (by simp), HMORE.out]
          · have n92 : ¬ (s[k].toNat : Int) = 92 := by simpa using c92
            have n34 : (s[k].toNat : Int) = 34 := by simpa using c34
            have m92 : ((s[k].toNat : Int) == 92) = false := c92
            have m34 : ((s[k].toNat : Int) == 34) = true := c34
            go_wp2_with fail
            refine ⟨⟨k + 1, fr, false, done, by omega, by omega, hfs, by omega, rfl, rfl, by go_num, OWN.out, ?_, HBR.out⟩, by simp [intOf]; go_num⟩
            rw [HCUT.out, HK2.out (by rw [c92]; rfl) c34, HMORE.out]; rfl
        · have n92 : (s[k].toNat : Int) = 92 := by simpa using c92
          have m92 : ((s[k].toNat : Int) == 92) = true := c92
          go_wp2_with fail
          refine ⟨⟨k + 2, fr, true, done, by omega, by omega, hfs, by omega, rfl, rfl, by go_num, OWN.out, ?_, HBR.out⟩, by simp [intOf]; go_num⟩
          rw [HCUT.out, HK1.out (by rw [c92]; rfl), HSKIP.out.1, HSKIP.out.2]
    · have i1 : ¬ (k : Int) < (s.size : Int) := by omega
      have i4 : (0 : Int) ≤ (fr : Int) := by omega
      have i5 : (fr : Int) ≤ (s.size : Int) := by omega
      have hext := ext_pie s fr s.size
      have hd0 : s.data.toList.drop k = [] := List.drop_of_length_le (by rw [HSZ.out]; omega)
      have hft : (s.data.toList.drop fr).take (k - fr) = (s.data.toList.drop fr).take (s.size - fr) := by
        rw [List.take_of_length_le (by rw [List.length_drop, HSZ.out]; omega), List.take_of_length_le (by rw [List.length_drop, HSZ.out]; omega)]
      rw [hd0, hft] at hcut
      have hcut2 : cutP s.data.toList = done ++ [(s.data.toList.drop fr).take (s.size - fr)] := by rw [hcut]; cases q <;> rfl
      have HCUT := Lib.hid hcut2
      clear hcut hcut2 hd0 hft
      go_wp2_with (first | (at_builtin; refine wpList_append_own _ rfl _ _ 43 rfl w.heap.size 9 i0 (.string .empty) 1 16 Tryz.underlying43 hi hz0 hz1 hz2 rfl (by decide) _ _ _ rfl (OWN.out.alloc _) ⟨wr.heap.size, 0, none⟩ 1 1 (strV [(s.data.toList.drop fr).take (s.size - fr)]) rfl rfl ?news (strV_one _) (by unfold maxLen; omega) (by omega) (by have := HBR.out.size; simp at *; omega) ?_; rotate_left; (case news => exact new_str wr _ rfl _ _); intro v' w4 hown' hgrow3 hnil3) | fail)
      have hb4 : Below w.heap.size w w4 := Below.grown (btrans HBR.out (balloc _ _)) hgrow3 (by have := HBR.out.size; simp at *; omega) (fun q hq => (OWN.out.lt q hq).1)
      have hown2 : w4.ownsRow w.heap.size 9 1 v' (cutP s.data.toList).length (strV (cutP s.data.toList)) := by
        rw [HCUT.out, List.length_append, strV_app]
        exact hown'
      obtain ⟨b0, cp, rfl, hst, hbl⟩ := own_strs hown2
      go_ret
      first | exact ⟨⟨b0, cp, rfl, hst, hbl⟩, hb4⟩ | exact ⟨⟨b0, ⟨cp, rfl⟩, hst, hbl⟩, hb4⟩
end Go.Proofs.YthgjddbfjmgkhaaGreatDoor.Pa
end

section
/- THE WALK OF event.New. -/
namespace Go.Proofs.YthgjddbfjmgkhaaGreatDoor.Val
open Go.RowKit Flt
/-- what New lays of an attribute in its box -/
def BoxA (W : World) (b : Nat) (a : A) : Prop :=
  W.cell? ⟨b, 0, none⟩ = some (.string ⟨a.name.toArray⟩) ∧ W.cell? ⟨b, 1, none⟩ = some (.int .i64 a.val.kind) ∧ W.cell? ⟨b, 2, none⟩ = some (.int .i64 a.val.int) ∧ W.cell? ⟨b, 3, none⟩ = some (.float .f64 a.val.num) ∧ W.cell? ⟨b, 4, none⟩ = some (.string ⟨a.val.text.toArray⟩) ∧ W.cell? ⟨b, 5, none⟩ = some (.bool a.val.yes)
theorem BoxA.below {W W2 : World} {b : Nat} {a : A} (h : BoxA W b a) (hb : Below W.heap.size W W2) : BoxA W2 b a := by
  obtain ⟨h0, h1, h2, h3, h4, h5⟩ := h
  exact ⟨(hb.cell (World.block_lt_of_cell? _ _ h0)).trans h0, (hb.cell (World.block_lt_of_cell? _ _ h1)).trans h1, (hb.cell (World.block_lt_of_cell? _ _ h2)).trans h2, (hb.cell (World.block_lt_of_cell? _ _ h3)).trans h3, (hb.cell (World.block_lt_of_cell? _ _ h4)).trans h4, (hb.cell (World.block_lt_of_cell? _ _ h5)).trans h5⟩
attribute [local go_sem] run_store_flt
end Go.Proofs.YthgjddbfjmgkhaaGreatDoor.Val
end

section
/- THE WALK OF the fit of chapter 03's laws. -/
namespace Go.Proofs.YthgjddbfjmgkhaaGreatDoor.Val
open Go.RowKit Flt
attribute [local go_sem] run_store_flt
end Go.Proofs.YthgjddbfjmgkhaaGreatDoor.Val
end

section
/- THE WALK OF light of chapter 03's laws; of a name the last attribute. -/
namespace Go.Proofs.YthgjddbfjmgkhaaGreatDoor.Val
open Go.RowKit Flt
attribute [local go_sem] run_store_flt
end Go.Proofs.YthgjddbfjmgkhaaGreatDoor.Val
end

section
/- THE WALKS OF package order: Key, Same. -/
namespace Go.Proofs.YthgjddbfjmgkhaaGreatDoor.Ord
open Go.RowKit Flt
attribute [local go_sem] ford_eq ford_lt ford_gt
def same (a b : Nat) : Bool := key a == key b
end Go.Proofs.YthgjddbfjmgkhaaGreatDoor.Ord
end

section
/- THE WALK OF event.Same. -/
namespace Go.Proofs.YthgjddbfjmgkhaaGreatDoor.Val
open Go.RowKit Flt
attribute [local go_sem] run_store_flt
end Go.Proofs.YthgjddbfjmgkhaaGreatDoor.Val
end

section
/- THE WALKS OF event.kept and event.Right. -/
namespace Go.Proofs.YthgjddbfjmgkhaaGreatDoor.Val
open Go.RowKit Flt
attribute [local go_sem] run_store_flt Ord.ford_eq
theorem run_equalIn_flt {P : Program} (w : World) (d : Nat) (t : TypeId) (a b : Nat) (h : P.underlying t = some (.float .f64)) : (Op.equalIn (d + 1) t (.float .f64 a) (.float .f64 b)).run P w = .ok (Flt.eq a b) w := by
  simp [Op.equalIn, run_underlying h, Op.floatEq, Ord.ford_eq]
theorem eqF (a b : Nat) (w : World) : (Op.equalIn 9999 33 (.float .f64 a) (.float .f64 b)).run Tryz.prog w = .ok (Flt.eq a b) w := run_equalIn_flt w 9998 _ a b Tryz.underlying33
attribute [local go_sem] eqF
end Go.Proofs.YthgjddbfjmgkhaaGreatDoor.Val
end

section
/- THE WALK OF event.Right. -/
namespace Go.Proofs.YthgjddbfjmgkhaaGreatDoor.Val
open Go.RowKit Flt
attribute [local go_sem] run_store_flt
end Go.Proofs.YthgjddbfjmgkhaaGreatDoor.Val
end

section
/- PLAIN LAW OF FILTERS: what covers what, what does; the attributes of the laws' events. No walk. -/
namespace Go.Proofs.YthgjddbfjmgkhaaGreatDoor.Val
open Flt
def fRight (sc : List UInt8) (l : List C) : Bool := l.all cRight && (Sc.rightB sc && decide (l.length ≤ 6))
end Go.Proofs.YthgjddbfjmgkhaaGreatDoor.Val
end

section
/- THE CONTRACTS OF scope.Right and scope.Under, at lists. -/
namespace Go.Proofs.YthgjddbfjmgkhaaGreatDoor.Sc
open Go.RowKit
theorem right_l (x : List UInt8) (w : World) (h : x.length ≤ 140737488351232) :
    Calls Tryz.prog 16 #[.string ⟨x.toArray⟩] w fun e w' => e = .returned (.bool (rightB x)) ∧ Drawn w w' :=
  right_any ⟨x.toArray⟩ w (by show x.length ≤ _; unfold maxLen; omega) (by show x.length < _; omega)
end Go.Proofs.YthgjddbfjmgkhaaGreatDoor.Sc
end

section
/- THE WALKS OF package filter: ContainsFunc at conditions, Void, Match, Right, Covers. -/
namespace Go.Proofs.YthgjddbfjmgkhaaGreatDoor.Val
open Go.RowKit Flt
attribute [local go_sem] run_store_flt
theorem all_take_succ' (p : C → Bool) (l : List C) (k : Nat) (h : k < l.length) : (l.take (k + 1)).all p = ((l.take k).all p && p l[k]) := by
  rw [List.take_succ_eq_append_getElem h]; simp only [List.all_append, List.all_cons, List.all_nil, Bool.and_true]
theorem all_miss (p : C → Bool) (l : List C) (k : Nat) (h : k < l.length) (hk : p l[k] = false) : l.all p = false := by
  rw [Bool.eq_false_iff]; intro ha
  have := List.all_eq_true.1 ha l[k] (List.getElem_mem h)
  rw [hk] at this; cases this
/-- two boxes of two cells each, laid one behind the other -/
def Box2 (w : World) (b : Nat) (s : List UInt8) (a0 : Option Addr) (n cap : Nat) : Prop := w.cell? ⟨b, 0, none⟩ = some (.string ⟨s.toArray⟩) ∧ w.cell? ⟨b, 1, none⟩ = some (.slice a0 n cap)
theorem Box2.below {w w2 : World} {b : Nat} {s : List UInt8} {a0 : Option Addr} {n cap : Nat} (h : Box2 w b s a0 n cap) (hb : Below w.heap.size w w2) : Box2 w2 b s a0 n cap :=
  ⟨(hb.cell (World.block_lt_of_cell? _ _ h.1)).trans h.1, (hb.cell (World.block_lt_of_cell? _ _ h.2)).trans h.2⟩
theorem box2_new (w : World) (s : List UInt8) (a0 : Option Addr) (n cap : Nat) (T : TypeId) : Box2 (w.alloc (.cells #[.string ⟨s.toArray⟩, .slice a0 n cap] T)) w.heap.size s a0 n cap := by
  have c : ∀ o, (w.alloc (.cells #[.string ⟨s.toArray⟩, .slice a0 n cap] T)).cell? ⟨w.heap.size, o, none⟩ = #[.string ⟨s.toArray⟩, .slice a0 n cap][o]? := fun o => World.cell?_alloc_at _ _ _ _ rfl
  exact ⟨c 0, c 1⟩
theorem Box2.lt {w : World} {b : Nat} {s : List UInt8} {a0 : Option Addr} {n cap : Nat} (h : Box2 w b s a0 n cap) : b < w.heap.size := World.block_lt_of_cell? _ _ h.1
end Go.Proofs.YthgjddbfjmgkhaaGreatDoor.Val
end

section
/- THE WALKS OF filter.Match, filter.Right, filter.Covers. -/
namespace Go.Proofs.YthgjddbfjmgkhaaGreatDoor.Val
open Go.RowKit Flt
attribute [local go_sem] run_store_flt
set_option maxHeartbeats 2000000 in
theorem fright_any (sf : List UInt8) (a0 : Option Addr) (cap : Nat) (l : List C) (w : World) (hl : Conds w a0 l) (hlm : l.length ≤ 1000000)
    (hsf : sf.length ≤ 140737488351232) (hok : ∀ c ∈ l, c.name.length ≤ 140737488351232 ∧ c.val.text.length ≤ 140737488351232) :
    Calls Tryz.prog 7 #[ev sf a0 l.length cap] w fun e w' => e = .returned (.bool (fRight sf l)) ∧ Below w.heap.size w w' := by
  have hrt (W : World) := Sc.right_l sf W hsf
  have hr : fRight sf l = (l.all cRight && (Sc.rightB sf && decide (l.length ≤ 6))) := rfl
  have HL := Lib.hid hl; have HRT := Lib.hid hrt; have HR := Lib.hid hr; have HOK := Lib.hid hok
  clear hl hrt hr hsf hok
  generalize Sc.rightB sf = U at *
  generalize fRight sf l = R at *
  go_enter Tryz.func7, Tryz.ntmps7
  go_wp2_with fail
  have hx1 := box2_new w sf a0 l.length cap 26
  have hbw := balloc w (.cells #[.string ⟨sf.toArray⟩, .slice a0 l.length cap] 26)
  have HX1 := Lib.hid hx1; have HBW := Lib.hid hbw
  clear hx1 hbw
  generalize w.alloc _ = W0 at *
  go_loopw [8] (fun vi wr => ∃ k : Nat, k ≤ l.length ∧ vi = .int .i64 k ∧ Hid ((l.take k).all cRight = true) ∧ Below W0.heap.size W0 wr) (fun vi _ => l.length - (intOf vi).toNat)
  case atStart => exact ⟨0, Nat.zero_le _, rfl, Lib.hid rfl, Below.refl _ _⟩
  case round =>
    obtain ⟨k, hk, rfl, HP, hbr⟩ := hrel
    have hbz := btrans HBW.out hbr
    have hy1 := HX1.out.below hbr
    have hs1 := hy1.lt
    obtain ⟨f0, f1⟩ := hy1
    have HBZ := Lib.hid hbz; have HBR := Lib.hid hbr
    clear hbz hbr
    by_cases hlt : k < l.length
    · have i1 : (k : Int) < (l.length : Int) := by omega
      have i0 : (0 : Int) ≤ (k : Int) := by omega
      have hts := all_take_succ' cRight l k hlt
      have hno := all_miss cRight l k hlt
      rw [HP.out, Bool.true_and] at hts
      have hx := HOK.out _ (List.getElem_mem hlt)
      obtain ⟨a, rfl, v0, v1, v2, v3, v4, v5, v6⟩ := (HL.out.below HBZ.out) k hlt
      have hmc (W : World) : Calls Tryz.prog 15 #[cc l[k]] W fun e w' => e = .returned (.bool (cRight l[k])) ∧ Below W.heap.size W w' := cright_any _ _ _ _ _ _ _ W hx.1 hx.2
      clear hx
      generalize cRight l[k] = M at *
      have HTS := Lib.hid hts; have HNO := Lib.hid hno; have HMC := Lib.hid hmc
      clear hts hno hmc HP
      cases M
      · go_wp2_with (go_at_call 15; refine (HMC.out _).mono ?_; rintro e w5 ⟨rfl, hb5⟩)
        go_ret
        exact ⟨ret_bool (by rw [HR.out, HNO.out (by trivial)]; rfl), btrans (btrans HBZ.out (balloc _ _)) hb5⟩
      · go_wp2_with (go_at_call 15; refine (HMC.out _).mono ?_; rintro e w5 ⟨rfl, hb5⟩)
        exact ⟨⟨k + 1, by omega, by go_num, Lib.hid HTS.out, btrans (btrans HBR.out (balloc _ _)) hb5⟩, by simp [intOf]; go_num⟩
    · obtain rfl : k = l.length := by omega
      have hP := HP.out
      rw [List.take_length] at hP
      have HQ := Lib.hid hP; clear hP
      cases U
      · go_wp2_with (go_at_call 16; refine (HRT.out _).mono ?_; rintro e w5 ⟨rfl, ⟨nd, rfl⟩⟩)
        go_ret
        exact ⟨ret_bool (by rw [HR.out, HQ.out]; rfl), bdrewN HBZ.out _⟩
      · go_wp2_with (go_at_call 16; refine (HRT.out _).mono ?_; rintro e w5 ⟨rfl, ⟨nd, rfl⟩⟩)
        go_ret
        exact ⟨ret_bool (by rw [HR.out, HQ.out, Bool.true_and, Bool.true_and, Bool.eq_iff_iff]; simp; omega), bdrewN HBZ.out _⟩
end Go.Proofs.YthgjddbfjmgkhaaGreatDoor.Val
end

section
/- THE WALK OF parse.Filter: a filter of a text whose pieces are conditions. -/
namespace Go.Proofs.YthgjddbfjmgkhaaGreatDoor.Pa
open Go.RowKit Flt Go.Proofs.YthgjddbfjmgkhaaGreatDoor.Val
attribute [local go_sem] run_store_flt
/-- a box may turn -/
structure NK (b : Nat) (W W2 : World) : Prop where
  os : W2.os = W.os
  tape : W2.tape = W.tape
  output : W2.output = W.output
  size : W.heap.size ≤ W2.heap.size
  block : ∀ p, p < W.heap.size → p ≠ b → W2.heap[p]? = W.heap[p]?
theorem NK.refl (b : Nat) (W : World) : NK b W W := ⟨rfl, rfl, rfl, Nat.le_refl _, fun _ _ _ => rfl⟩
theorem NK.trans {b : Nat} {W W2 W3 : World} (h : NK b W W2) (k : NK b W2 W3) : NK b W W3 :=
  ⟨k.os.trans h.os, k.tape.trans h.tape, k.output.trans h.output, Nat.le_trans h.size k.size, fun p hp hne => (k.block p (Nat.lt_of_lt_of_le hp h.size) hne).trans (h.block p hp hne)⟩
theorem nk_set (b o : Nat) (W : World) (v : Value) : NK b W (W.setCell ⟨b, o, none⟩ v) := ⟨rfl, rfl, rfl, by simp, fun p _ hne => Below.heap_setCell _ _ _ _ hne⟩
theorem NK.low {b B : Nat} {W W2 : World} (h : NK b W W2) (hB : B ≤ b) (hs : B ≤ W.heap.size) : Below B W W2 := ⟨h.os, h.tape, h.output, h.size, fun p hp => h.block p (by omega) (by omega)⟩
theorem NK.cell {b : Nat} {W W2 : World} (h : NK b W W2) {p : Addr} (h1 : p.block < W.heap.size) (h2 : p.block ≠ b) : W2.cell? p = W.cell? p := World.cell?_of_block (w := W) (h.block _ h1 h2)
theorem NK.frozen {b : Nat} {W W2 : World} (h : NK b W W2) {p : Addr} (h1 : p.block < W.heap.size) (h2 : p.block ≠ b) : W2.frozen? p = W.frozen? p := World.frozen?_of_block (w := W) (h.block _ h1 h2)
theorem Strs.nk {W W2 : World} {b : Nat} {b0 : Option Addr} {l : List (List UInt8)} (h : Strs W b0 l) (hk : NK b W W2) (hb : ∀ a, b0 = some a → a.block ≠ b) : Strs W2 b0 l := fun i hi => by
  obtain ⟨a, e, h2⟩ := h i hi
  have hab : (a.add i).block = a.block := by unfold Addr.add; split <;> rfl
  exact ⟨a, e, (hk.cell (World.block_lt_of_cell? _ _ h2) (by rw [hab]; exact hb a e)).trans h2⟩
/-- what was grown below a row of one's own -/
theorem nk_grown {b : Nat} {w6 wr w3 w4 : World} {v : Value} (hk : NK b w6 wr) (hb : Below wr.heap.size wr w3) (hg : w3.grownBy w4 v.ownBlock) (ho : ∀ q, v.ownBlock = some q → w6.heap.size ≤ q ∧ q < wr.heap.size) : NK b w6 w4 :=
  ⟨hg.os.trans (hb.os.trans hk.os), hg.tape.trans (hb.tape.trans hk.tape), hg.output.trans (hb.output.trans hk.output), Nat.le_trans hk.size (Nat.le_trans hb.size hg.size), fun p hp hne => by
    have h1 : p < wr.heap.size := Nat.lt_of_lt_of_le hp hk.size
    refine (hg.block p (Nat.lt_of_lt_of_le h1 hb.size) (fun e => ?_)).trans ((hb.block p h1).trans (hk.block p hp hne))
    have := (ho p e.symm).1
    omega⟩
theorem conds_kp {W W2 : World} {a0 : Option Addr} {l : List C} (h : Conds W a0 l) (hk : ∀ a, a0 = some a → ∀ p : Addr, p.block = a.block → p.block < W.heap.size → W2.cell? p = W.cell? p) : Conds W2 a0 l := by
  intro i hi
  obtain ⟨a, e, h0, h1, h2, h3, h4, h5, h6⟩ := h i hi
  have hab : (a.add (i * 7)).block = a.block := by unfold Addr.add; split <;> rfl
  have k := fun {p : Addr} {v : Value} (hp : p.block = a.block) (hc : W.cell? p = some v) => (hk a e p hp (World.block_lt_of_cell? _ _ hc)).trans hc
  exact ⟨a, e, k hab h0, k hab h1, k hab h2, k hab h3, k hab h4, k hab h5, k hab h6⟩
theorem set2_at (W : World) (b : Nat) (u0 u1 : Value) {v0 v1 : Value} (h0 : W.cell? ⟨b, 0, none⟩ = some v0) (h1 : W.cell? ⟨b, 1, none⟩ = some v1) :
    ((W.setCell ⟨b, 0, none⟩ u0).setCell ⟨b, 1, none⟩ u1).cell? ⟨b, 0, none⟩ = some u0 ∧ ((W.setCell ⟨b, 0, none⟩ u0).setCell ⟨b, 1, none⟩ u1).cell? ⟨b, 1, none⟩ = some u1 ∧ Below b W ((W.setCell ⟨b, 0, none⟩ u0).setCell ⟨b, 1, none⟩ u1) := by
  refine ⟨(World.cell?_setCell_other _ _ _ _ (by simp)).trans (World.cell?_setCell_same _ _ _ h0), World.cell?_setCell_same _ _ _ ((World.cell?_setCell_other _ _ _ _ (by simp)).trans h1), ((Below.refl b W).setCell (Nat.le_refl _) _).setCell (Nat.le_refl _) _⟩
theorem fil_start (w : World) (n m : Nat) (ts : List UInt8) {T1 T2 : TypeId} {W : World} (h : W = ((((w.alloc (.cells #[.string ⟨#[]⟩, .slice none 0 0] T1)).drewN n).alloc (.cells #[.string ⟨ts.toArray⟩, .slice none 0 0] T2)).drewN m)) :
    (W.cell? ⟨w.heap.size, 0, none⟩ = some (.string ⟨#[]⟩) ∧ W.cell? ⟨w.heap.size, 1, none⟩ = some (.slice none 0 0) ∧ (∀ o, W.frozen? ⟨w.heap.size, o, none⟩ = false)) ∧ (W.cell? ⟨w.heap.size + 1, 0, none⟩ = some (.string ⟨ts.toArray⟩) ∧ W.cell? ⟨w.heap.size + 1, 1, none⟩ = some (.slice none 0 0) ∧ (∀ o, W.frozen? ⟨w.heap.size + 1, o, none⟩ = false)) ∧ W.heap.size = w.heap.size + 2 ∧ Below w.heap.size w W := by
  have hb : Below w.heap.size w W := by rw [h]; exact bdrewN (btrans (bdrewN (balloc _ _) _) (balloc _ _)) _
  subst h
  refine ⟨⟨?_, ?_, fun o => ?_⟩, ⟨?_, ?_, fun o => ?_⟩, ?_, hb⟩ <;> simp [go_sem]
/-- what parse.Filter answers, of a scope and conditions -/
def Made (sc : List UInt8) (cs : List C) (e : Ending) (w' : World) : Prop :=
  if 6 < cs.length then e = .returned (.tuple #[ev [] none 0 0, .int .i64 2]) else if fRight sc cs = true then ∃ b0 cp, e = .returned (.tuple #[ev sc b0 cs.length cp, .int .i64 0]) ∧ Conds w' b0 cs else e = .returned (.tuple #[ev [] none 0 0, .int .i64 1])
set_option maxRecDepth 20000 in
set_option maxHeartbeats 4000000 in
theorem pfilter_any (sc rest : List UInt8) (cs : List C) (w : World) (h58 : 58 ∉ sc) (hl : sc.length + rest.length + 1 ≤ 100000) (hne : trimP rest ≠ []) (hlen : (cutP rest).length = cs.length) (hc20 : cs.length ≤ 20) (htl : (trimP sc).length ≤ 100000)
    (hone : ∀ i (h : i < cs.length) W, Below w.heap.size w W → Calls Tryz.prog 14 #[.string ⟨((cutP rest)[i]'(by omega)).toArray⟩] W fun e w' => e = .returned (.tuple #[cc cs[i], .bool true]) ∧ Below W.heap.size W w')
    (hok : ∀ x ∈ cs, x.name.length ≤ 140737488351232 ∧ x.val.text.length ≤ 140737488351232) :
    Calls Tryz.prog 6 #[.string ⟨(sc ++ 58 :: rest).toArray⟩] w fun e w' => Made (trimP sc) cs e w' ∧ Below w.heap.size w w' := by
  obtain ⟨i0, hi, hz0, hz1, hz2⟩ := info_parts info_cond
  have hcu := fun W => pcut_some 58 sc rest W h58 (by unfold maxLen; omega)
  have ht1 := fun W => ptrim_any sc W (by unfold maxLen; omega)
  have ht2 := fun W => ptrim_any rest W (by unfold maxLen; omega)
  have hpi := fun W => pieces_any ⟨rest.toArray⟩ W (by show rest.toArray.size ≤ _; simp; omega)
  have hpi2 : ∀ W, Calls Tryz.prog 13 #[.string ⟨rest.toArray⟩] W fun e w' => (∃ b0 cap, e = .returned (.slice b0 cs.length cap) ∧ Strs w' b0 (cutP rest) ∧ ∀ a, b0 = some a → W.heap.size ≤ a.block) ∧ Below W.heap.size W w' := fun W => by
    have h := hpi W
    rw [show (⟨rest.toArray⟩ : ByteArray).data.toList = rest from rfl, hlen] at h
    exact h
  have e0 : (trimP rest == []) = false := by simpa using hne
  have e1 : (trimP rest != []) = true := by simpa using hne
  generalize htr : trimP rest = tr at *
  generalize hts : trimP sc = ts at *
  have HCU := Lib.hid hcu; have HT1 := Lib.hid ht1; have HT2 := Lib.hid ht2; have HPI := Lib.hid hpi2; have HONE := Lib.hid hone; have HOK := Lib.hid hok
  clear hcu ht1 ht2 hpi hpi2 hone hok h58 htr hts hl
  go_enter Tryz.func6, Tryz.ntmps6
  go_upto_region 7 with (first | (go_at_call 11; (with_reducible refine (HCU.out _).mono ?_); rintro e w1 ⟨rfl, n1, rfl⟩) | (go_at_call 12; (with_reducible refine (HT1.out _).mono ?_); rintro e w1 ⟨rfl, n2, rfl⟩) | (go_at_call 12; (with_reducible refine (HT2.out _).mono ?_); rintro e w1 ⟨rfl, n3, rfl⟩) | (go_at_call 13; (with_reducible refine (HPI.out _).mono ?_); rintro e w6 ⟨⟨b0, cap, rfl, hst, hbl⟩, hb6⟩) | fail)
  obtain ⟨W5, hW5⟩ : ∃ W5, W5 = ((((w.alloc (.cells #[.string ⟨#[]⟩, .slice none 0 0] 26)).drewN (n1 + n2)).alloc (.cells #[.string ⟨ts.toArray⟩, .slice none 0 0] 26)).drewN n3) := ⟨_, rfl⟩
  obtain ⟨⟨r0, r1, rz⟩, ⟨f0, f1, fz⟩, hs5, hb5⟩ := fil_start w (n1 + n2) n3 ts hW5
  rw [← hW5] at hb6 hbl
  have hb56 : Below w.heap.size w w6 := hb5.trans (hb6.mono (by omega))
  have hs6 := hb6.size
  have hpr : w.heap.size < W5.heap.size := by omega
  have hpf : w.heap.size + 1 < W5.heap.size := by omega
  have HR := Lib.hid (show w6.cell? ⟨w.heap.size, 0, none⟩ = some (.string ⟨#[]⟩) ∧ w6.cell? ⟨w.heap.size, 1, none⟩ = some (.slice none 0 0) ∧ ∀ o, w6.frozen? ⟨w.heap.size, o, none⟩ = false from ⟨(hb6.cell (p := ⟨w.heap.size, 0, none⟩) hpr).trans r0, (hb6.cell (p := ⟨w.heap.size, 1, none⟩) hpr).trans r1, fun o => (hb6.frozen (p := ⟨w.heap.size, o, none⟩) hpr).trans (rz o)⟩)
  have g0 := (hb6.cell (p := ⟨w.heap.size + 1, 0, none⟩) hpf).trans f0
  have g1 := (hb6.cell (p := ⟨w.heap.size + 1, 1, none⟩) hpf).trans f1
  have gz := (hb6.frozen (p := ⟨w.heap.size + 1, 1, none⟩) hpf).trans (fz 1)
  have hbl2 : ∀ a, b0 = some a → a.block ≠ w.heap.size + 1 := fun a e => by have := hbl a e; omega
  have hbase : w.heap.size + 1 < w6.heap.size := by omega
  have HST := Lib.hid hst; have HBL := Lib.hid hbl2; have HB56 := Lib.hid hb56
  clear hst hbl hbl2 hb5 hb6 hb56 r0 r1 rz f0 f1 fz hs5 hs6 hpr hpf hW5
  go_loopw [30] (fun vi wr => ∃ (k : Nat) (v : Value), k ≤ cs.length ∧ vi = .int .i64 k ∧ wr.cell? ⟨w.heap.size + 1, 0, none⟩ = some (.string ⟨ts.toArray⟩) ∧ wr.cell? ⟨w.heap.size + 1, 1, none⟩ = some v ∧ wr.frozen? ⟨w.heap.size + 1, 1, none⟩ = false ∧ wr.ownsRow w6.heap.size 37 7 v (cs.take k).length (flatC (cs.take k)) ∧ NK (w.heap.size + 1) w6 wr) (fun vi _ => cs.length - (intOf vi).toNat)
  case atStart => exact ⟨0, .slice none 0 0, Nat.zero_le _, rfl, g0, g1, gz, World.ownsRow_nil _ _ _ _, NK.refl _ _⟩
  case round =>
    obtain ⟨k, v, hk, rfl, o0, o1, ofz, hown, hnk⟩ := hrel
    clear g0 g1 gz
    have hpfr : w.heap.size + 1 < wr.heap.size := Nat.lt_of_lt_of_le hbase hnk.size
    have hbw : Below w.heap.size w wr := HB56.out.trans (hnk.low (by omega) (by omega))
    have OWN := Lib.hid hown; have HNK := Lib.hid hnk; have HBW := Lib.hid hbw
    have hnks := hnk.size
    clear hown hnk hbw
    by_cases hlt : k < cs.length
    · have i1 : (k : Int) < (cs.length : Int) := by omega
      have i2 : (0 : Int) ≤ (k : Int) := by omega
      obtain ⟨a, rfl, hpc⟩ := (HST.out.nk HNK.out HBL.out) k (by omega)
      have hn := fun W => HONE.out k hlt W
      have hstep : cs.take (k + 1) = cs.take k ++ [cs[k]] := List.take_succ_eq_append_getElem hlt
      have htk : (cs.take k).length = k := by rw [List.length_take]; omega
      generalize (cutP rest)[k]'(by omega) = pc at *
      generalize cs[k] = c at *
      have HN := Lib.hid hn; have HSTEP := Lib.hid hstep
      clear hn hstep
      obtain ⟨cn1, cn2, cn3, cn4, cn5, cn6, cn7⟩ := c
      go_wp2_with (first | (go_at_call 14; (refine (HN.out _ HBW.out).mono ?_); rintro e w3 ⟨rfl, hb3⟩; have HB3 := Lib.hid hb3; have OWN3 := Lib.hid (own_low7 OWN.out hb3); have hpf3 : w.heap.size + 1 < w3.heap.size := Nat.lt_of_lt_of_le hpfr hb3.size; have q1 := (hb3.cell (p := ⟨w.heap.size + 1, 1, none⟩) hpfr).trans o1; have qz := (hb3.frozen (p := ⟨w.heap.size + 1, 1, none⟩) hpfr).trans ofz; clear hb3) | (at_builtin; refine wpList_append_own _ rfl _ _ 24 rfl w6.heap.size 37 i0 (.agg #[.string .empty, .int .i64 0, .int .i64 0, .int .i64 0, .float .f64 0, .string .empty, .bool false]) 7 72 Tryz.underlying24 hi hz0 hz1 hz2 rfl (by decide) v _ _ rfl ((OWN3.out.alloc _).alloc _) ⟨w3.heap.size + 1, 0, none⟩ 1 1 (flatC [⟨cn1, cn2, cn3, cn4, cn5, cn6, cn7⟩]) rfl rfl ?news (flatC_one _) (by unfold maxLen; omega) (by omega) (by have := HB3.out.size; simp at *; omega) ?_; rotate_left; (case news => exact new_cond _ _ (by simp) _ _); intro v' w4 hown' hgrow3 hnil3; have hb7 := btrans HB3.out (balloc2 w3 (.cells #[.string ⟨cn1.toArray⟩, .int .i64 cn2, .int .i64 cn3, .int .i64 cn4, .float .f64 cn5, .string ⟨cn6.toArray⟩, .bool cn7] 37) (.cells #[.string ⟨cn1.toArray⟩, .int .i64 cn2, .int .i64 cn3, .int .i64 cn4, .float .f64 cn5, .string ⟨cn6.toArray⟩, .bool cn7] 37)); have hg1 := hgrow3.block (w.heap.size + 1) (by have := hb7.size; omega) (fun h => by have := (OWN.out.lt _ h.symm).1; omega); have p0 := (World.cell?_of_block (a := ⟨w.heap.size + 1, 0, none⟩) hg1).trans ((hb7.cell (p := ⟨w.heap.size + 1, 0, none⟩) hpfr).trans o0); have p1 := (World.cell?_of_block (a := ⟨w.heap.size + 1, 1, none⟩) hg1).trans ((hb7.cell (p := ⟨w.heap.size + 1, 1, none⟩) hpfr).trans o1); have pfz := (World.frozen?_of_block (a := ⟨w.heap.size + 1, 1, none⟩) hg1).trans ((hb7.frozen (p := ⟨w.heap.size + 1, 1, none⟩) hpfr).trans ofz); have hnk4 : NK (w.heap.size + 1) w6 w4 := nk_grown HNK.out hb7 hgrow3 (fun q hq => OWN.out.lt q hq); have hown2 : w4.ownsRow w6.heap.size 37 7 v' (cs.take k ++ [(⟨cn1, cn2, cn3, cn4, cn5, cn6, cn7⟩ : C)]).length (flatC (cs.take k ++ [(⟨cn1, cn2, cn3, cn4, cn5, cn6, cn7⟩ : C)])) := (by rw [flatC_app, List.length_append]; exact hown'); obtain ⟨b1, cp1, hv1, _⟩ := own_conds hown2; subst hv1; have OWN4 := Lib.hid hown2; have HNK4 := Lib.hid hnk4; clear hown' hown2 hgrow3 hnil3 hb7 hg1 hnk4) | fail)
      have o4 := OWN4.out
      refine ⟨⟨k + 1, _, by omega, by go_num, (World.cell?_setCell_other _ _ _ _ (by simp)).trans p0, World.cell?_setCell_same _ _ _ p1, by rw [World.frozen?_setCell]; exact pfz, ?_, HNK4.out.trans (nk_set _ _ _ _)⟩, by simp [intOf]; go_num⟩
      have el : (cs.take k ++ [(⟨cn1, cn2, cn3, cn4, cn5, cn6, cn7⟩ : C)]).length = k + 1 := by simp [htk]
      rw [HSTEP.out, el]
      rw [el] at o4
      exact ownsRow_setCell_below (a := ⟨w.heap.size + 1, 1, none⟩) o4 hbase _
    · obtain rfl : k = cs.length := by omega
      have own := OWN.out
      rw [List.take_length] at own
      obtain ⟨b1, cp, rfl, hcs, hbc⟩ := own_conds own
      have hq0 := (HNK.out.cell (p := ⟨w.heap.size, 0, none⟩) (by show w.heap.size < _; omega) (by show w.heap.size ≠ _; omega)).trans HR.out.1
      have hq1 := (HNK.out.cell (p := ⟨w.heap.size, 1, none⟩) (by show w.heap.size < _; omega) (by show w.heap.size ≠ _; omega)).trans HR.out.2.1
      have hqz : ∀ o, wr.frozen? ⟨w.heap.size, o, none⟩ = false := fun o => (HNK.out.frozen (p := ⟨w.heap.size, o, none⟩) (by show w.heap.size < _; omega) (by show w.heap.size ≠ _; omega)).trans (HR.out.2.2 o)
      have hlw : w.heap.size < wr.heap.size := by omega
      have hfr := fright_any ts b1 cp cs wr hcs (by omega) (by omega) HOK.out
      have hm : ∀ e w', Made ts cs e w' = if 6 < cs.length then e = .returned (.tuple #[ev [] none 0 0, .int .i64 2]) else if fRight ts cs = true then ∃ b0 cp, e = .returned (.tuple #[ev ts b0 cs.length cp, .int .i64 0]) ∧ Conds w' b0 cs else e = .returned (.tuple #[ev [] none 0 0, .int .i64 1]) := fun e w' => rfl
      generalize fRight ts cs = FR at *
      have HCS := Lib.hid hcs; have HBC := Lib.hid hbc; have HFR := Lib.hid hfr; have HM := Lib.hid hm
      clear hcs hbc hfr hm own OWN HNK HR HOK HONE HPI HT1 HT2 HCU HST
      by_cases h6 : 6 < cs.length
      · have d1 : (6 : Int) < (cs.length : Int) := by omega
        go_wp2_with fail
        obtain ⟨c0, c1, hbz⟩ := set2_at wr w.heap.size (.string ⟨#[]⟩) (.slice none 0 0) hq0 hq1
        generalize World.setCell (World.setCell _ _ _) _ _ = Wz at *
        refine bodyPost_ret (v := .tuple #[ev [] none 0 0, .int .i64 2]) (by simp [results, Tryz.results6, go_sem, c0, c1]; try rfl) rfl ?_
        refine ⟨?_, HBW.out.trans hbz⟩
        rw [HM.out, if_pos h6]
      · have d1 : ¬ (6 : Int) < (cs.length : Int) := by omega
        cases FR
        · go_wp2_with (first | (go_at_call 7; (with_reducible refine HFR.out.mono ?_); rintro e w7 ⟨rfl, hb7⟩; have q0 := (hb7.cell (p := ⟨w.heap.size, 0, none⟩) hlw).trans hq0; have q1 := (hb7.cell (p := ⟨w.heap.size, 1, none⟩) hlw).trans hq1; have qz := fun o => (hb7.frozen (p := ⟨w.heap.size, o, none⟩) hlw).trans (hqz o)) | fail)
          obtain ⟨c0, c1, hbz⟩ := set2_at w7 w.heap.size (.string ⟨#[]⟩) (.slice none 0 0) q0 q1
          generalize World.setCell (World.setCell _ _ _) _ _ = Wz at *
          refine bodyPost_ret (v := .tuple #[ev [] none 0 0, .int .i64 1]) (by simp [results, Tryz.results6, go_sem, c0, c1]; try rfl) rfl ?_
          refine ⟨?_, (btrans HBW.out hb7).trans hbz⟩
          rw [HM.out, if_neg h6]
          simp
        · go_wp2_with (first | (go_at_call 7; (with_reducible refine HFR.out.mono ?_); rintro e w7 ⟨rfl, hb7⟩; have q0 := (hb7.cell (p := ⟨w.heap.size, 0, none⟩) hlw).trans hq0; have q1 := (hb7.cell (p := ⟨w.heap.size, 1, none⟩) hlw).trans hq1; have qz := fun o => (hb7.frozen (p := ⟨w.heap.size, o, none⟩) hlw).trans (hqz o); have x0 := (hb7.cell (p := ⟨w.heap.size + 1, 0, none⟩) hpfr).trans o0; have x1 := (hb7.cell (p := ⟨w.heap.size + 1, 1, none⟩) hpfr).trans o1) | fail)
          obtain ⟨c0, c1, hbz⟩ := set2_at w7 w.heap.size (.string ⟨ts.toArray⟩) (.slice b1 cs.length cp) q0 q1
          have hc9 : Conds ((w7.setCell ⟨w.heap.size, 0, none⟩ (.string ⟨ts.toArray⟩)).setCell ⟨w.heap.size, 1, none⟩ (.slice b1 cs.length cp)) b1 cs := conds_kp (HCS.out.below hb7) (fun a e p hp _ => (World.cell?_setCell_other _ _ _ _ (by intro e2; have := HBC.out a e; rw [← e2] at hp; have hp' : w.heap.size = a.block := hp; omega)).trans (World.cell?_setCell_other _ _ _ _ (by intro e2; have := HBC.out a e; rw [← e2] at hp; have hp' : w.heap.size = a.block := hp; omega)))
          generalize World.setCell (World.setCell _ _ _) _ _ = Wz at *
          refine bodyPost_ret (v := .tuple #[ev ts b1 cs.length cp, .int .i64 0]) (by simp [results, Tryz.results6, go_sem, c0, c1]; try rfl) rfl ?_
          refine ⟨?_, (btrans HBW.out hb7).trans hbz⟩
          rw [HM.out, if_neg h6]
          simp only [if_true]
          exact ⟨b1, cp, rfl, hc9⟩
end Go.Proofs.YthgjddbfjmgkhaaGreatDoor.Pa
end

section
/- utf8.ValidString's contract, laid by the kit's tool at this seat's dump, its remarks struck. -/
namespace Go.Proofs
open Go.Shelf
def Tryz.lays196_ren : Go.Shelf.Ren := ⟨fun | 196 => 62 | 259 => 76 | n => n, fun | 9 => 9 | 4 => 4 | 3 => 3 | 5 => 5 | 12 => 12 | 119 => 88 | 0 => 0 | 46 => 76 | 139 => 91 | 138 => 90 | 53 => 105 | n => n, fun | 3 => 3 | 4 => 4 | n => n⟩
theorem Tryz.lays196 : Go.Proofs.Lays.n196 Tryz.prog Tryz.lays196_ren := {
  mixed := by kernel_rfl
  f196 := Tryz.func62.trans (congrArg some (by kernel_rfl))
  f259 := Tryz.func76.trans (congrArg some (by kernel_rfl))
  t0 := Tryz.underlying0
  a0 := Tryz.isAgg0
  z0 := Tryz.sizeOf0
  v0 := Tryz.zeroValue0
  t3 := Tryz.underlying3
  a3 := Tryz.isAgg3
  z3 := Tryz.sizeOf3
  v3 := Tryz.zeroValue3
  t4 := Tryz.underlying4
  a4 := Tryz.isAgg4
  z4 := Tryz.sizeOf4
  v4 := Tryz.zeroValue4
  t5 := Tryz.underlying5
  a5 := Tryz.isAgg5
  z5 := Tryz.sizeOf5
  v5 := Tryz.zeroValue5
  t9 := Tryz.underlying9
  a9 := Tryz.isAgg9
  z9 := Tryz.sizeOf9
  v9 := Tryz.zeroValue9
  t12 := Tryz.underlying12
  a12 := Tryz.isAgg12
  z12 := Tryz.sizeOf12
  v12 := Tryz.zeroValue12
  t46 := Tryz.underlying76
  a46 := Tryz.isAgg76
  z46 := Tryz.sizeOf76
  v46 := Tryz.zeroValue76
  t53 := Tryz.underlying105
  a53 := Tryz.isAgg105
  z53 := Tryz.sizeOf105
  v53 := Tryz.zeroValue105
  t119 := Tryz.underlying88
  a119 := Tryz.isAgg88
  z119 := Tryz.sizeOf88
  t138 := Tryz.underlying90
  a138 := Tryz.isAgg90
  z138 := Tryz.sizeOf90
  v138 := Tryz.zeroValue90
  t139 := Tryz.underlying91
  a139 := Tryz.isAgg91
  z139 := Tryz.sizeOf91
  v139 := Tryz.zeroValue91
  g3 := by kernel_rfl
  g4 := by kernel_rfl }
end Go.Proofs
end

section
/- THE WALK OF strconv.Unquote AT A TEXT BETWEEN QUOTES that needs no escapes. -/
namespace Go.Proofs.YthgjddbfjmgkhaaGreatDoor.Unq
open Go.RowKit Go.Lib
theorem ibs_call (s : ByteArray) (c : Int) (w : World) : (callFunc 56 #[.string s, .int .u8 c]).run Tryz.prog w = .ok (.value (.int .i64 (Lib.indexByte s.data.toList c.toNat.toUInt8))) w := by
  rw [run_callFunc_extern Tryz.func56 (by kernel_rfl) (by kernel_rfl) (by kernel_rfl) (e := Extern.BytealgIndexByte.indexByte) (by kernel_rfl), Lib.run_indexByteString]
  rfl
set_option maxHeartbeats 400000 in
theorem index_any (s : ByteArray) (c : Int) (w : World) : Calls Tryz.prog 60 #[.string s, .int .u8 c] w fun e w' => e = .returned (.int .i64 (Lib.indexByte s.data.toList c.toNat.toUInt8)) ∧ w = w' := by
  go_enter Tryz.func60, Tryz.ntmps60
  go_wp2_with (first | (simp only [ibs_call]) | fail)
  go_ret
  exact ⟨rfl, rfl⟩
theorem contains_of (s : ByteArray) (c : Int) (b : Bool) (hb : (Lib.indexByte s.data.toList c.toNat.toUInt8 != -1) = b) (w : World) : Calls Tryz.prog 61 #[.string s, .int .u8 c] w fun e w' => e = .returned (.bool b) ∧ w = w' := by
  go_enter Tryz.func61, Tryz.ntmps61
  go_wp2_with (go_at_call 60; refine (index_any _ _ _).mono ?_; rintro e w' ⟨rfl, rfl⟩)
  go_ret
  exact ⟨rfl, rfl⟩
theorem ix_none : ∀ (l : List UInt8) (c : UInt8), c ∉ l → Lib.indexByte l c = -1
  | [], _, _ => rfl
  | a :: l, c, h => by
    have h1 : (a == c) = false := by rw [beq_eq_false_iff_ne]; exact fun e => h (by simp [e])
    unfold Lib.indexByte
    rw [h1, ix_none l c (fun m => h (by simp [m]))]; rfl
theorem ix_end : ∀ (l : List UInt8) (c : UInt8), c ∉ l → Lib.indexByte (l ++ [c]) c = (l.length : Int)
  | [], c, _ => by simp [Lib.indexByte]
  | a :: l, c, h => by
    have h1 : (a == c) = false := by rw [beq_eq_false_iff_ne]; exact fun e => h (by simp [e])
    have h2 : ((l.length : Int) == -1) = false := by rw [beq_eq_false_iff_ne]; omega
    rw [List.cons_append]
    unfold Lib.indexByte
    rw [h1, ix_end l c (fun m => h (by simp [m])), h2]; simp
theorem ext_list2 (l : List UInt8) (a b : Nat) : (⟨l.toArray⟩ : ByteArray).extract a b = ⟨((l.drop a).take (b - a)).toArray⟩ := by
  have h := Lib.extract_data (⟨l.toArray⟩ : ByteArray) a b
  apply ByteArray.ext
  rw [← Array.toArray_toList (xs := ((⟨l.toArray⟩ : ByteArray).extract a b).data), h]
set_option maxRecDepth 100000 in
set_option maxHeartbeats 4000000 in
/-- the quick road -/
theorem unquote_of (s t bd : ByteArray) (n : Nat) (w : World) (hn : n ≤ 1000000) (hz : s.size = n + 2) (h0 : (s[0]'(by omega)).toNat = 34)
    (e1 : s.extract 1 (n + 2) = t) (e2 : s.extract 0 (n + 2) = s) (e3 : s.extract 1 (n + 1) = bd)
    (hi : Lib.indexByte t.data.toList 34 = (n : Int)) (hb : Lib.indexByte s.data.toList 92 = -1) (hl : Lib.indexByte s.data.toList 10 = -1) (hv : Lib.validD bd.data.toList = true) (hbs : bd.size ≤ 1000000) (hT : Tab.Tabs w) :
    Calls Tryz.prog 47 #[.string s, .bool true] w fun e w' => e = .returned (.tuple #[.string bd, .string ⟨#[]⟩, .nilIface]) ∧ Below w.heap.size w w' := by
  have hu := fun W (hW : Lib.Utf8Tabs 3 4 W) => (Go.Proofs.Any.utf8_ValidString Tryz.lays196 bd W (by omega) hW)
  rw [hv] at hu
  have hc1 := fun W => contains_of s 92 false (by rw [show ((92 : Int).toNat.toUInt8) = 92 from rfl, hb]; rfl) W
  have hc2 := fun W => contains_of s 10 false (by rw [show ((10 : Int).toNat.toUInt8) = 10 from rfl, hl]; rfl) W
  have hix := fun W => index_any t 34 W
  rw [show ((34 : Int).toNat.toUInt8) = 34 from rfl, hi] at hix
  have HU := Lib.hid hu; have HC1 := Lib.hid hc1; have HC2 := Lib.hid hc2; have HI := Lib.hid hix; have HT := Lib.hid hT
  clear hu hc1 hc2 hix hT hi hb hl hv
  go_enter Tryz.func47, Tryz.ntmps47
  go_wp2_with (first
    | (go_at_call 60; refine (HI.out _).mono ?_; rintro e w' ⟨rfl, rfl⟩)
    | (go_at_call 61; ((with_reducible refine (HC1.out _).mono ?_); rintro e w' ⟨rfl, rfl⟩))
    | (go_at_call 61; ((with_reducible refine (HC2.out _).mono ?_); rintro e w' ⟨rfl, rfl⟩))
    | (go_at_call 62; refine (HU.out _ HT.out.utf).mono ?_; rintro e w1 ⟨rfl, hb1⟩) | fail)
  go_quiet (fail)
  go_wp2
  go_ret3
  refine ⟨?_, Val.bdrewN hb1 nq⟩
  simp
  exact ⟨e3, rfl⟩
set_option maxHeartbeats 1000000 in
theorem unq_any (body : List UInt8) (w : World) (h34 : 34 ∉ body) (h92 : 92 ∉ body) (h10 : 10 ∉ body) (hv : Lib.validD body = true) (hl : body.length ≤ 100000) (hT : Tab.Tabs w) :
    Calls Tryz.prog 34 #[.string ⟨(34 :: (body ++ [34])).toArray⟩] w fun e w' => e = .returned (.tuple #[.string ⟨body.toArray⟩, .nilIface]) ∧ Below w.heap.size w w' := by
  have hz : (⟨(34 :: (body ++ [34])).toArray⟩ : ByteArray).size = body.length + 2 := by show (34 :: (body ++ [34])).toArray.size = _; simp
  have hu := unquote_of ⟨(34 :: (body ++ [34])).toArray⟩ ⟨(body ++ [34]).toArray⟩ ⟨body.toArray⟩ body.length w (by omega) hz rfl
    (by rw [ext_list2, List.take_of_length_le (by simp)]; rfl) (by rw [ext_list2, List.take_of_length_le (by simp)]; rfl)
    (by rw [ext_list2, List.drop_succ_cons, List.drop_zero, show body.length + 1 - 1 = body.length by omega, List.take_left' rfl])
    (ix_end body 34 h34) (ix_none _ 92 (by simp [h92])) (ix_none _ 10 (by simp [h10])) hv (by show body.toArray.size ≤ _; simp; omega) hT
  have HU := Lib.hid hu
  clear hu hz h34 h92 h10 hv hT
  go_enter Tryz.func34, Tryz.ntmps34
  go_wp2_with (go_at_call 47; refine HU.out.mono ?_; rintro e w1 ⟨rfl, hb1⟩)
  go_ret2
  exact ⟨rfl, hb1⟩
end Go.Proofs.YthgjddbfjmgkhaaGreatDoor.Unq
end

section
/- THE WALK OF strconv.ParseFloat AT ONE TEXT ("3.0"): the exact road, thirty divided by ten. -/
namespace Go.Proofs.YthgjddbfjmgkhaaGreatDoor.Pf
open Go.RowKit Go.Lib
/-- what the exact road reads -/
structure PfT (w : World) : Prop where
  opt : w.cell? ⟨8, 0, none⟩ = some (.bool true)
  inf : w.cell? ⟨9, 0, none⟩ = some (.int .u64 52)
  pow : ∃ R o c : Nat, w.cell? ⟨13, 0, none⟩ = some (.slice (some ⟨R, o, none⟩) 23 c) ∧ w.cell? ⟨R, o + 1, none⟩ = some (.float .f64 4621819117588971520)
theorem PfT.below {w w' : World} {B : Nat} (h : PfT w) (hb : Below B w w') (hB : w.heap.size ≤ B) : PfT w' := by
  obtain ⟨h1, h2, R, o, c, h3, h4⟩ := h
  exact ⟨Tab.cell_below hb hB h1, Tab.cell_below hb hB h2, R, o, c, Tab.cell_below hb hB h3, Tab.cell_below hb hB h4⟩
/-- "3.0" -/
abbrev t3 : Value := .string ⟨#[51, 46, 48]⟩
theorem g0 (h : 0 < (⟨#[51, 46, 48]⟩ : ByteArray).size) : ((⟨#[51, 46, 48]⟩ : ByteArray)[0]'h) = 51 := rfl
theorem g1 (h : 1 < (⟨#[51, 46, 48]⟩ : ByteArray).size) : ((⟨#[51, 46, 48]⟩ : ByteArray)[1]'h) = 46 := rfl
theorem g2 (h : 2 < (⟨#[51, 46, 48]⟩ : ByteArray).size) : ((⟨#[51, 46, 48]⟩ : ByteArray)[2]'h) = 48 := rfl
attribute [local go_sem] g0 g1 g2
end Go.Proofs.YthgjddbfjmgkhaaGreatDoor.Pf
end

section
/- THE WALK OF the fit of chapter 02's laws: it reads "3.0" and prints "a". -/
namespace Go.Proofs.YthgjddbfjmgkhaaGreatDoor.Val
open Go.RowKit Flt
attribute [local go_sem] run_store_flt
/-- two boxes laid one behind the other, seen from a later world -/
theorem two_box {w w1 : World} {A B : Array Value} {T U : TypeId} (hb : Below ((w.alloc (.cells A T)).alloc (.cells B U)).heap.size ((w.alloc (.cells A T)).alloc (.cells B U)) w1) :
    (∀ o, w1.cell? ⟨w.heap.size, o, none⟩ = A[o]?) ∧ (∀ o, w1.cell? ⟨w.heap.size + 1, o, none⟩ = B[o]?) ∧ (∀ o, w1.frozen? ⟨w.heap.size, o, none⟩ = false) ∧ (∀ o, w1.frozen? ⟨w.heap.size + 1, o, none⟩ = false) ∧
      w.heap.size + 1 < w1.heap.size ∧ Below w.heap.size w w1 := by
  have hz := size2 hb
  have c : ∀ b o, b < w.heap.size + 2 → w1.cell? ⟨b, o, none⟩ = ((w.alloc (.cells A T)).alloc (.cells B U)).cell? ⟨b, o, none⟩ := fun b o h => hb.cell (p := ⟨b, o, none⟩) (by simp; omega)
  have f : ∀ b o, b < w.heap.size + 2 → w1.frozen? ⟨b, o, none⟩ = ((w.alloc (.cells A T)).alloc (.cells B U)).frozen? ⟨b, o, none⟩ := fun b o h => hb.frozen (p := ⟨b, o, none⟩) (by simp; omega)
  exact ⟨fun o => (c _ o (by omega)).trans (by simp), fun o => (c _ o (by omega)).trans (by simp), fun o => (f _ o (by omega)).trans (by simp), fun o => (f _ o (by omega)).trans (by simp), hz, btrans (balloc2 _ _ _) hb⟩
/-- the second one is written -/
theorem two_set {w w1 : World} {A B : Array Value} {T U : TypeId} (hb : Below ((w.alloc (.cells A T)).alloc (.cells B U)).heap.size ((w.alloc (.cells A T)).alloc (.cells B U)) w1) (hB : B.size = 5) (v0 v1 v2 v3 v4 : Value) :
    ∃ W2, W2 = (((((w1.setCell ⟨w.heap.size + 1, 0, none⟩ v0).setCell ⟨w.heap.size + 1, 1, none⟩ v1).setCell ⟨w.heap.size + 1, 2, none⟩ v2).setCell ⟨w.heap.size + 1, 3, none⟩ v3).setCell ⟨w.heap.size + 1, 4, none⟩ v4) ∧
      (∀ o, W2.cell? ⟨w.heap.size, o, none⟩ = A[o]?) ∧ (W2.cell? ⟨w.heap.size + 1, 0, none⟩ = some v0 ∧ W2.cell? ⟨w.heap.size + 1, 1, none⟩ = some v1 ∧ W2.cell? ⟨w.heap.size + 1, 2, none⟩ = some v2 ∧ W2.cell? ⟨w.heap.size + 1, 3, none⟩ = some v3 ∧ W2.cell? ⟨w.heap.size + 1, 4, none⟩ = some v4) ∧
      (∀ o, W2.frozen? ⟨w.heap.size, o, none⟩ = false) ∧ w.heap.size + 1 < W2.heap.size ∧ Below w.heap.size w W2 := by
  obtain ⟨c0, c1, f0, f1, hz, hl⟩ := two_box hb
  obtain ⟨e0, e1, e2, e3, e4, h2⟩ := set5_at w1 (w.heap.size + 1) v0 v1 v2 v3 v4 (fun j hj => by rw [c1, Array.getElem?_eq_getElem (by omega)]; rfl)
  exact ⟨_, rfl, fun o => (h2.cell (p := ⟨w.heap.size, o, none⟩) (Nat.lt_succ_self _)).trans (c0 o), ⟨e0, e1, e2, e3, e4⟩, fun o => (h2.frozen (p := ⟨w.heap.size, o, none⟩) (Nat.lt_succ_self _)).trans (f0 o), Nat.lt_of_lt_of_le hz h2.size, hl.trans (h2.mono (by omega))⟩
end Go.Proofs.YthgjddbfjmgkhaaGreatDoor.Val
end

section
/- THE WALK OF value.Read AT A TEXT BETWEEN QUOTES that needs no escapes. -/
namespace Go.Proofs.YthgjddbfjmgkhaaGreatDoor.Val
open Go.RowKit Flt
attribute [local go_sem] run_store_flt
/-- a text that stands between quotes as it is -/
structure Bare1 (body : List UInt8) : Prop where
  h34 : 34 ∉ body
  h92 : 92 ∉ body
  h10 : 10 ∉ body
  hv : Lib.validD body = true
  hq : Quo.quoteT Lib.goPrintTabs body = 34 :: (body ++ [34])
set_option maxRecDepth 20000 in
set_option maxHeartbeats 4000000 in
theorem read_yes (body : List UInt8) (w : World) (hb : Bare1 body) (hl : body.length ≤ 40) (hT : Tab.Tabs w) :
    Calls Tryz.prog 26 #[.string ⟨(34 :: (body ++ [34])).toArray⟩] w fun e w' => e = .returned (.tuple #[val 2 0 0 body false, .bool true]) ∧ Below w.heap.size w w' := by
  have hu := fun W hW => Unq.unq_any body W hb.h34 hb.h92 hb.h10 hb.hv (by omega) hW
  have hp := fun W hW => vprint_any 2 0 0 body false W (by decide) (by decide) (by decide) (by omega) hW
  have hvt : vT ⟨2, 0, 0, body, false⟩ = 34 :: (body ++ [34]) := hb.hq
  rw [hvt] at hp
  have hr := fun W => vright_any 2 0 0 body false W (by omega)
  have hrr : vRight ⟨2, 0, 0, body, false⟩ = true := by
    show (true && true && decide (body.length ≤ 40)) = _
    simp; omega
  rw [hrr] at hr
  have HU := Lib.hid hu; have HPR := Lib.hid hp; have HR := Lib.hid hr; have HT := Lib.hid hT
  clear hu hp hvt hr hrr hT hb
  go_enter Tryz.func26, Tryz.ntmps26
  go_wp2_with (first
    | (go_at_call 34; refine (HU.out _ (HT.out.below (by repeat (first | assumption | (with_reducible exact Below.refl _ _) | exact balloc _ _ | exact balloc2 _ _ _ | refine btrans ?_ (by assumption) | refine btrans ?_ (balloc _ _))) (Nat.le_refl _))).mono ?_; rintro e w1 ⟨rfl, hb1⟩; have HB1 := Lib.hid hb1; obtain ⟨c0, c1, f0, f1, hz1, hl1⟩ := two_box hb1; clear hb1) | fail)
  obtain ⟨W2, hW2, d0, ⟨e0, e1, e2, e3, e4⟩, g0, hz2, hl2⟩ := two_set HB1.out rfl (.int .i64 2) (.int .i64 0) (.float .f64 0) (.string ⟨body.toArray⟩) (.bool false)
  rw [← hW2]
  clear c0 c1 f0 f1 hz1 hl1 HB1 hW2
  have HB := Lib.hid hl2; clear hl2
  go_wp2_with (first
    | (go_at_call 9; refine (HR.out _).mono ?_; rintro e w3 ⟨rfl, hb3⟩; obtain ⟨hc3, hf3⟩ := bcell hb3; have hs3 := Nat.lt_of_lt_of_le hz2 hb3.size; have hs3' : w.heap.size < W2.heap.size := by omega)
    | (go_at_call 39; refine (HPR.out _ (HT.out.below (btrans HB.out hb3) (Nat.le_refl _))).mono ?_; rintro e w4 ⟨rfl, hb4⟩; obtain ⟨hc4, hf4⟩ := bcell hb4; have hs4' : w.heap.size < w3.heap.size := by omega) | fail)
  obtain ⟨r0, r1, r2, r3, r4, hb5⟩ := set5_at w4 w.heap.size (.int .i64 2) (.int .i64 0) (.float .f64 0) (.string ⟨body.toArray⟩) (.bool false) (fun j hj => by
    rw [hc4 _ _ (by omega), hc3 _ _ (by omega), d0, Array.getElem?_eq_getElem (by exact hj)]; rfl)
  generalize World.setCell _ _ _ = W5 at *
  refine bodyPost_ret (v := .tuple #[val 2 0 0 body false, .bool true]) (by simp [results, Tryz.results26, go_sem, r0, r1, r2, r3, r4]; try rfl) rfl ?_
  exact ⟨rfl, (btrans (btrans HB.out hb3) hb4).trans hb5⟩
end Go.Proofs.YthgjddbfjmgkhaaGreatDoor.Val
end

section
/- PLAIN TEXTS between quotes: signs 32..126 without the quote and the back stroke stand as they are. -/
namespace Go.Proofs.YthgjddbfjmgkhaaGreatDoor.Val
open Go.RowKit Flt
/-- a plain sign -/
def Pl (b : UInt8) : Prop := 32 ≤ b.toNat ∧ b.toNat < 127 ∧ b.toNat ≠ 34 ∧ b.toNat ≠ 92
theorem code_pl_all : ((List.range 127).all fun n => decide (n < 32) || decide (n = 34) || decide (n = 92) || (Quo.code Lib.goPrintTabs (n : Int) == [(n : Int)])) = true := by decide +kernel
theorem code_pl (n : Nat) (h0 : 32 ≤ n) (h1 : n < 127) (h2 : n ≠ 34) (h3 : n ≠ 92) : Quo.code Lib.goPrintTabs (n : Int) = [(n : Int)] := by
  have h := List.all_eq_true.1 code_pl_all n (List.mem_range.2 h1)
  rw [show decide (n < 32) = false by rw [decide_eq_false_iff_not]; omega, decide_eq_false h2, decide_eq_false h3] at h
  exact beq_iff_eq.1 (by simpa using h)
theorem qf_pl : ∀ (l : List UInt8) (f : Nat), (∀ b ∈ l, Pl b) → l.length ≤ f → Quo.qf Lib.goPrintTabs f l = l.map fun b => (b.toNat : Int)
  | [], f, _, _ => Quo.qf_nil _ f
  | b :: t, 0, _, h => by simp at h
  | b :: t, f + 1, hp, h => by
    obtain ⟨p0, p1, p2, p3⟩ := hp b (List.mem_cons_self ..)
    have hd : Lib.decodeL (b :: t) = (b.toNat, 1) := Lib.decodeL_ascii b t (by omega)
    have hs : Quo.symOf (b :: t) = (b.toNat : Int) := by
      unfold Quo.symOf
      rw [hd]
      rw [if_neg (fun hh => by have := hh.2; dsimp only at this; omega)]
    unfold Quo.qf
    rw [if_neg (by simp), hs, code_pl b.toNat p0 p1 p2 p3, hd]
    show [(b.toNat : Int)] ++ Quo.qf Lib.goPrintTabs f t = _
    rw [qf_pl t f (fun c hc => hp c (List.mem_cons_of_mem _ hc)) (by simpa using h)]
    rfl
theorem quoteT_pl (l : List UInt8) (hp : ∀ b ∈ l, Pl b) : Quo.quoteT Lib.goPrintTabs l = 34 :: (l ++ [34]) := by
  unfold Quo.quoteT
  rw [Quo.quoteZ_qf, qf_pl l l.length hp (Nat.le_refl _)]
  have hb : ∀ b : UInt8, UInt8.ofNat (Int.toNat (b.toNat : Int)) = b := fun b => by
    rw [Int.toNat_natCast]; exact UInt8.ofNat_toNat
  simp only [List.map_cons, List.map_append, List.map_nil, List.map_map]
  congr 2
  conv => rhs; rw [← List.map_id l]
  exact List.map_congr_left fun b _ => hb b
theorem valid_pl : ∀ (l : List UInt8), (∀ b ∈ l, Pl b) → Lib.validD l = true
  | [], _ => rfl
  | b :: t, hp => by
    have p1 := (hp b (List.mem_cons_self ..)).2.1
    rw [Lib.validD_cons b t (by omega)]
    exact valid_pl t fun c hc => hp c (List.mem_cons_of_mem _ hc)
theorem bare_pl (l : List UInt8) (hp : ∀ b ∈ l, Pl b) : Bare1 l :=
  ⟨fun e => (hp _ e).2.2.1 rfl, fun e => (hp _ e).2.2.2 rfl, fun e => absurd (hp _ e).1 (by decide), valid_pl l hp, quoteT_pl l hp⟩
end Go.Proofs.YthgjddbfjmgkhaaGreatDoor.Val
end

section
/- THE WALK OF parse.one: a condition of a text, at the two forms that the laws of chapter 8 need. -/
namespace Go.Proofs.YthgjddbfjmgkhaaGreatDoor.Pa
open Go.RowKit Flt Go.Proofs.YthgjddbfjmgkhaaGreatDoor.Val
attribute [local go_sem] run_store_flt
theorem no_space {l : List UInt8} (h : 32 ∉ l) (w : World) : Calls Tryz.prog 25 #[.string ⟨l.toArray⟩, .string ⟨#[32]⟩] w fun e w' => e = .returned (.bool false) ∧ w' = w := by
  refine (Tryz.strings_Contains_one ⟨l.toArray⟩ 32 w).mono ?_
  rintro e w' ⟨rfl, rfl⟩
  refine ⟨?_, rfl⟩
  rcases byte_cases 32 l with ⟨h1, _⟩ | ⟨a, b, e, _, _⟩
  · show Ending.returned (.bool (decide (0 ≤ Lib.indexByte l 32))) = _
    rw [h1]; rfl
  · exact absurd (by rw [e]; simp) h
set_option maxRecDepth 20000 in
set_option maxHeartbeats 2000000 in
theorem one_has (s nm : List UInt8) (w : World) (hs : s.length ≤ 100000) (h : trimP s = [104, 97, 115] ++ 32 :: nm) (hn : trimP nm = nm) (h0 : nm ≠ []) (h32 : 32 ∉ nm) (hl : nm.length ≤ 100000) :
    Calls Tryz.prog 14 #[.string ⟨s.toArray⟩] w fun e w' => e = .returned (.tuple #[cond nm 7 0 0 0 [] false, .bool true]) ∧ Below w.heap.size w w' := by
  have ht1 := fun W => ptrim_any s W (by unfold maxLen; omega)
  rw [h] at ht1
  have ht2 := fun W => ptrim_any nm W (by unfold maxLen; omega)
  rw [hn] at ht2
  have hc := fun W => pcut_some 32 [104, 97, 115] nm W (by decide) (by unfold maxLen; simp; omega)
  have hsp := fun W => no_space h32 W
  have e0 : (nm == []) = false := by simpa using h0
  have e1 : (nm != []) = true := by simpa using h0
  have HT1 := Lib.hid ht1; have HT2 := Lib.hid ht2; have HC := Lib.hid hc; have HSP := Lib.hid hsp
  clear ht1 ht2 hc hsp h hn h32
  go_enter Tryz.func14, Tryz.ntmps14
  go_wp2_with (first | (go_at_call 12; (with_reducible refine (HT1.out _).mono ?_); rintro e w1 ⟨rfl, n1, rfl⟩) | (go_at_call 12; (with_reducible refine (HT2.out _).mono ?_); rintro e w1 ⟨rfl, n2, rfl⟩) | (go_at_call 11; refine (HC.out _).mono ?_; rintro e w1 ⟨rfl, n3, rfl⟩) | (go_at_call 25; refine (HSP.out _).mono ?_; rintro e w1 ⟨rfl, rfl⟩) | fail)
  obtain ⟨c0, c1, c2, c3, c4, c5, c6, hbz⟩ := set7_at (((w.alloc (.cells #[.string ⟨#[]⟩, .int .i64 0, .int .i64 0, .int .i64 0, .float .f64 0, .string ⟨#[]⟩, .bool false] 37)).drewN (n1 + n3 + n2))) w.heap.size (.string ⟨nm.toArray⟩) (.int .i64 7) (.int .i64 0) (.int .i64 0) (.float .f64 0) (.string ⟨#[]⟩) (.bool false) (fun j hj => by simp; omega)
  generalize World.setCell _ _ _ = W2 at *
  refine bodyPost_ret (v := .tuple #[cond nm 7 0 0 0 [] false, .bool true]) (by simp [results, Tryz.results14, go_sem, c0, c1, c2, c3, c4, c5, c6]; try rfl) rfl ?_
  exact ⟨rfl, (bdrewN (balloc _ _) _).trans hbz⟩
theorem word_no32 : ∀ n : Nat, n ≤ 7 → 32 ∉ wordL n := by decide
theorem word_apart : ∀ n : Nat, n ≤ 6 → ∀ m : Nat, m ≤ 6 → n ≠ m → (wordL n == wordL m) = false := by decide
theorem word_b (n : Nat) (h : n ≤ 7) : wordB (n : Int) = wordL n := by
  unfold wordB
  rw [if_neg (by omega)]
  rfl
set_option maxRecDepth 20000 in
set_option maxHeartbeats 2000000 in
theorem one_cmp (s nm r1 r2 body : List UInt8) (op : Nat) (w : World) (hw : Words w) (hT : Tab.Tabs w) (hs : s.length ≤ 100000) (h1 : trimP s = nm ++ 32 :: r1) (h32 : 32 ∉ nm) (hnh : nm ≠ [104, 97, 115]) (h2 : trimP r1 = wordL op ++ 32 :: r2) (hop : op ≤ 6) (h3 : trimP r2 = 34 :: (body ++ [34])) (hb : Bare1 body) (hbl : body.length ≤ 40)
    (l1 : nm.length + r1.length ≤ 100000) (l2 : r2.length ≤ 100000) :
    Calls Tryz.prog 14 #[.string ⟨s.toArray⟩] w fun e w' => e = .returned (.tuple #[cond nm op 2 0 0 body false, .bool true]) ∧ Below w.heap.size w w' := by
  have ht1 := fun W => ptrim_any s W (by unfold maxLen; omega)
  rw [h1] at ht1
  have ht2 := fun W => ptrim_any r1 W (by unfold maxLen; omega)
  rw [h2] at ht2
  have ht3 := fun W => ptrim_any r2 W (by unfold maxLen; omega)
  rw [h3] at ht3
  have hc1 := fun W => pcut_some 32 nm r1 W h32 (by unfold maxLen; omega)
  have hwl : (wordL op).length ≤ 10 := (show ∀ n : Nat, n ≤ 6 → (wordL n).length ≤ 10 by decide) op hop
  have hc2 := fun W => pcut_some 32 (wordL op) r2 W (word_no32 op (by omega)) (by unfold maxLen; omega)
  have hrd := fun W (hb2 : Below w.heap.size w W) => read_yes body W hb hbl (hT.below hb2 (Nat.le_refl _))
  have hwd : ∀ n : Nat, n ≤ 7 → ∀ W, Below w.heap.size w W → Calls Tryz.prog 8 #[.int .i64 (n : Int)] W fun e w' => e = .returned (.string ⟨(wordL n).toArray⟩) ∧ W = w' := fun n hn W hb2 => by
    have h := word_any (n : Int) W (hw.below hb2)
    rw [word_b n hn] at h
    exact h
  have e0 : (nm == [104, 97, 115]) = false := by simpa using hnh
  have hap := fun n (hn : n ≤ 6) (hne : n ≠ op) => word_apart n hn op hop hne
  have HT1 := Lib.hid ht1; have HT2 := Lib.hid ht2; have HT3 := Lib.hid ht3; have HC1 := Lib.hid hc1; have HC2 := Lib.hid hc2; have HRD := Lib.hid hrd; have HWD := Lib.hid hwd; have HAP := Lib.hid hap
  clear ht1 ht2 ht3 hc1 hc2 hrd hwd hap h1 h2 h3 h32 hw hT hb hwl l1 l2 hnh
  obtain ⟨wo, hwo⟩ : ∃ wo, wordL op = wo := ⟨_, rfl⟩
  rw [hwo] at HT2 HC2 HAP
  have HWO := Lib.hid hwo; clear hwo
  go_enter Tryz.func14, Tryz.ntmps14
  go_upto_region 15 with (first | (go_at_call 12; (with_reducible refine (HT1.out _).mono ?_); rintro e w1 ⟨rfl, n1, rfl⟩) | (go_at_call 12; (with_reducible refine (HT2.out _).mono ?_); rintro e w1 ⟨rfl, n2, rfl⟩) | (go_at_call 12; (with_reducible refine (HT3.out _).mono ?_); rintro e w1 ⟨rfl, n3, rfl⟩) | (go_at_call 11; (with_reducible refine (HC1.out _).mono ?_); rintro e w1 ⟨rfl, n4, rfl⟩) | (go_at_call 11; (with_reducible refine (HC2.out _).mono ?_); rintro e w1 ⟨rfl, n5, rfl⟩) | (go_at_call 26; (refine (HRD.out _ (bdrewN (balloc _ _) _)).mono ?_); rintro e w5 ⟨rfl, hb5⟩) | fail)
  have hlw : w.heap.size < ((w.alloc (.cells #[.string ⟨#[]⟩, .int .i64 0, .int .i64 0, .int .i64 0, .float .f64 0, .string ⟨#[]⟩, .bool false] 37)).drewN (n1 + n4 + n2 + n5 + n3)).heap.size := by simp
  have y0 : w5.cell? ⟨w.heap.size, 0, none⟩ = some (.string ⟨#[]⟩) := (hb5.cell (p := ⟨w.heap.size, 0, none⟩) hlw).trans (by simp [go_sem])
  have y1 : w5.cell? ⟨w.heap.size, 1, none⟩ = some (.int .i64 0) := (hb5.cell (p := ⟨w.heap.size, 1, none⟩) hlw).trans (by simp [go_sem])
  have y2 : w5.cell? ⟨w.heap.size, 2, none⟩ = some (.int .i64 0) := (hb5.cell (p := ⟨w.heap.size, 2, none⟩) hlw).trans (by simp [go_sem])
  have y3 : w5.cell? ⟨w.heap.size, 3, none⟩ = some (.int .i64 0) := (hb5.cell (p := ⟨w.heap.size, 3, none⟩) hlw).trans (by simp [go_sem])
  have y4 : w5.cell? ⟨w.heap.size, 4, none⟩ = some (.float .f64 0) := (hb5.cell (p := ⟨w.heap.size, 4, none⟩) hlw).trans (by simp [go_sem])
  have y5 : w5.cell? ⟨w.heap.size, 5, none⟩ = some (.string ⟨#[]⟩) := (hb5.cell (p := ⟨w.heap.size, 5, none⟩) hlw).trans (by simp [go_sem])
  have y6 : w5.cell? ⟨w.heap.size, 6, none⟩ = some (.bool false) := (hb5.cell (p := ⟨w.heap.size, 6, none⟩) hlw).trans (by simp [go_sem])
  have yz : ∀ o, w5.frozen? ⟨w.heap.size, o, none⟩ = false := fun o => (hb5.frozen (p := ⟨w.heap.size, o, none⟩) hlw).trans (by simp)
  have hl5 : w.heap.size < w5.heap.size := Nat.lt_of_lt_of_le hlw hb5.size
  have hbw5 : Below w.heap.size w w5 := btrans (bdrewN (balloc _ _) _) hb5
  have hb6 := balloc w5 (.cells #[.int .i64 2, .int .i64 0, .float .f64 0, .string ⟨body.toArray⟩, .bool false] 35)
  generalize hW6 : World.alloc w5 _ = W6 at *
  replace y0 : W6.cell? ⟨w.heap.size, 0, none⟩ = some (.string ⟨#[]⟩) := (hb6.cell (p := ⟨w.heap.size, 0, none⟩) hl5).trans y0
  replace y1 : W6.cell? ⟨w.heap.size, 1, none⟩ = some (.int .i64 0) := (hb6.cell (p := ⟨w.heap.size, 1, none⟩) hl5).trans y1
  replace y2 : W6.cell? ⟨w.heap.size, 2, none⟩ = some (.int .i64 0) := (hb6.cell (p := ⟨w.heap.size, 2, none⟩) hl5).trans y2
  replace y3 : W6.cell? ⟨w.heap.size, 3, none⟩ = some (.int .i64 0) := (hb6.cell (p := ⟨w.heap.size, 3, none⟩) hl5).trans y3
  replace y4 : W6.cell? ⟨w.heap.size, 4, none⟩ = some (.float .f64 0) := (hb6.cell (p := ⟨w.heap.size, 4, none⟩) hl5).trans y4
  replace y5 : W6.cell? ⟨w.heap.size, 5, none⟩ = some (.string ⟨#[]⟩) := (hb6.cell (p := ⟨w.heap.size, 5, none⟩) hl5).trans y5
  replace y6 : W6.cell? ⟨w.heap.size, 6, none⟩ = some (.bool false) := (hb6.cell (p := ⟨w.heap.size, 6, none⟩) hl5).trans y6
  replace yz : ∀ o, W6.frozen? ⟨w.heap.size, o, none⟩ = false := fun o => (hb6.frozen (p := ⟨w.heap.size, o, none⟩) hl5).trans (yz o)
  have v0 : W6.cell? ⟨w5.heap.size, 0, none⟩ = some (.int .i64 2) := by rw [← hW6]; exact World.cell?_alloc_at _ _ _ _ rfl
  have v1 : W6.cell? ⟨w5.heap.size, 1, none⟩ = some (.int .i64 0) := by rw [← hW6]; exact World.cell?_alloc_at _ _ _ _ rfl
  have v2 : W6.cell? ⟨w5.heap.size, 2, none⟩ = some (.float .f64 0) := by rw [← hW6]; exact World.cell?_alloc_at _ _ _ _ rfl
  have v3 : W6.cell? ⟨w5.heap.size, 3, none⟩ = some (.string ⟨body.toArray⟩) := by rw [← hW6]; exact World.cell?_alloc_at _ _ _ _ rfl
  have v4 : W6.cell? ⟨w5.heap.size, 4, none⟩ = some (.bool false) := by rw [← hW6]; exact World.cell?_alloc_at _ _ _ _ rfl
  have HBW := Lib.hid (btrans hbw5 hb6)
  clear hb5 hb6 hbw5 hW6 hlw
  generalize w5.heap.size = pv at *
  go_loop [10] (fun vk => ∃ j : Nat, j ≤ op ∧ vk = .int .i64 (j : Int)) (fun vk => 7 - (intOf vk).toNat)
  case atStart => exact ⟨0, Nat.zero_le _, rfl⟩
  case round =>
    obtain ⟨j, hj, rfl⟩ := hrel
    have i1 : (j : Int) < 7 := by omega
    have i2 : (0 : Int) ≤ (j : Int) := by omega
    by_cases hjo : j = op
    · subst hjo
      have heq : (wordL j == wo) = true := by rw [HWO.out]; simp
      have heq2 : wordL j = wo := HWO.out
      go_wp2_with (first | (go_at_call 8; (refine (HWD.out j (by omega) _ HBW.out).mono ?_); rintro e w9 ⟨rfl, rfl⟩) | fail)
      obtain ⟨k0, k1, k2, k3, k4, k5, k6, hbz⟩ := set7_at W6 w.heap.size (.string ⟨nm.toArray⟩) (.int .i64 (j : Int)) (.int .i64 2) (.int .i64 0) (.float .f64 0) (.string ⟨body.toArray⟩) (.bool false) (fun i hi => by
        have hi' : i = 0 ∨ i = 1 ∨ i = 2 ∨ i = 3 ∨ i = 4 ∨ i = 5 ∨ i = 6 := by omega
        rcases hi' with rfl | rfl | rfl | rfl | rfl | rfl | rfl
        · rw [y0]; rfl
        · rw [y1]; rfl
        · rw [y2]; rfl
        · rw [y3]; rfl
        · rw [y4]; rfl
        · rw [y5]; rfl
        · rw [y6]; rfl)
      generalize World.setCell _ _ _ = W2 at *
      refine bodyPost_ret (v := .tuple #[cond nm (j : Int) 2 0 0 body false, .bool true]) (by simp [results, Tryz.results14, go_sem, k0, k1, k2, k3, k4, k5, k6]; try rfl) rfl ?_
      exact ⟨rfl, HBW.out.trans hbz⟩
    · have hne : (wordL j == wo) = false := HAP.out j (by omega) hjo
      go_wp2_with (first | (go_at_call 8; (refine (HWD.out j (by omega) _ HBW.out).mono ?_); rintro e w9 ⟨rfl, rfl⟩) | fail)
      exact ⟨⟨j + 1, by omega, by go_num⟩, by simp [intOf]; go_num⟩
end Go.Proofs.YthgjddbfjmgkhaaGreatDoor.Pa
end

section
/- THE WALKS OF Light, few and Event of chapter 07's laws. -/
namespace Go.Proofs.YthgjddbfjmgkhaaGreatDoor.Val
open Go.RowKit Flt
attribute [local go_sem] run_store_flt
end Go.Proofs.YthgjddbfjmgkhaaGreatDoor.Val
end

section
/- A FILTER THAT IS LIGHT. -/
namespace Go.Proofs.YthgjddbfjmgkhaaGreatDoor.Val
open Go.RowKit Flt
attribute [local go_sem] run_store_flt
def sumC (l : List C) : Nat := (l.map fun c => c.name.length + c.val.text.length).sum
theorem sumC_step (l : List C) (k : Nat) (h : k < l.length) : sumC (l.take (k + 1)) = sumC (l.take k) + (l[k].name.length + l[k].val.text.length) := by
  unfold sumC
  rw [List.take_succ_eq_append_getElem h, List.map_append, List.sum_append]
  simp
theorem sumC_le (l : List C) (k : Nat) : sumC (l.take k) ≤ sumC l := by
  unfold sumC
  have : l = l.take k ++ l.drop k := (List.take_append_drop k l).symm
  conv => rhs; rw [this, List.map_append, List.sum_append]
  omega
set_option maxHeartbeats 2000000 in
theorem light07_yes (sf : List UInt8) (a0 : Option Addr) (cap : Nat) (l : List C) (w : World) (hl : Conds w a0 l) (hlm : l.length ≤ 20) (hs : sf.length + sumC l ≤ 2000) :
    Calls Tryz.prog 10 #[ev sf a0 l.length cap] w fun e w' => e = .returned (.bool true) ∧ Below w.heap.size w w' := by
  have HL := Lib.hid hl
  clear hl
  go_enter Tryz.func10, Tryz.ntmps10
  go_wp2_with fail
  have hx1 := box2_new w sf a0 l.length cap 26
  have hbw := balloc w (.cells #[.string ⟨sf.toArray⟩, .slice a0 l.length cap] 26)
  have HX1 := Lib.hid hx1; have HBW := Lib.hid hbw
  clear hx1 hbw
  generalize w.alloc _ = W0 at *
  go_loopw [3, 12] (fun vn vi wr => ∃ k : Nat, k ≤ l.length ∧ vn = .int .i64 ((sf.length + sumC (l.take k) : Nat) : Int) ∧ vi = .int .i64 k ∧ Below W0.heap.size W0 wr) (fun _ vi _ => l.length - (intOf vi).toNat)
  case atStart => exact ⟨0, Nat.zero_le _, by simp [sumC], rfl, Below.refl _ _⟩
  case round =>
    obtain ⟨k, hk, rfl, rfl, hbr⟩ := hrel
    have hbz := btrans HBW.out hbr
    have hy1 := HX1.out.below hbr
    have hs1 := hy1.lt
    obtain ⟨f0, f1⟩ := hy1
    have HBZ := Lib.hid hbz; have HBR := Lib.hid hbr
    clear hbz hbr
    by_cases hlt : k < l.length
    · have i1 : (k : Int) < (l.length : Int) := by omega
      have i0 : (0 : Int) ≤ (k : Int) := by omega
      obtain ⟨a, rfl, v0, v1, v2, v3, v4, v5, v6⟩ := (HL.out.below HBZ.out) k hlt
      have hle := sumC_le l (k + 1)
      have hst := sumC_step l k hlt
      generalize l[k] = x at *
      have n1 : (0 : Int) ≤ (x.name.length : Int) := by omega
      have HST := Lib.hid hst; have HLE := Lib.hid hle
      clear hst hle
      go_wp2_with fail
      refine ⟨⟨k + 1, by omega, ?_, by go_num, btrans HBR.out (balloc _ _)⟩, by simp [intOf]; go_num⟩
      have h1 := HST.out; have h2 := HLE.out
      have hwr : ∀ z : Int, 0 ≤ z → z < 9223372036854775808 → wrap64 z = z := fun z h0 h3 => by unfold wrap64; omega
      rw [hwr ((x.name.length : Int) + (x.val.text.length : Int)) (by omega) (by omega), hwr _ (by omega) (by omega), h1]
      congr 1
      push_cast
      omega
    · obtain rfl : k = l.length := by omega
      have i2 : ((sf.length + sumC l : Nat) : Int) ≤ 2000 := by omega
      have i3 : (l.length : Int) ≤ 20 := by omega
      rw [List.take_length]
      go_wp2_with fail
      go_ret
      exact ⟨rfl, HBZ.out⟩
end Go.Proofs.YthgjddbfjmgkhaaGreatDoor.Val
end

section
/- THE WALK OF the fit of chapter 8's laws. -/
namespace Go.Proofs.YthgjddbfjmgkhaaGreatDoor.Pa
open Go.RowKit Flt Go.Proofs.YthgjddbfjmgkhaaGreatDoor.Val
attribute [local go_sem] run_store_flt
abbrev fitC : List C := [⟨[120], 6, ⟨2, 0, 0, [112], false⟩⟩, ⟨[121], 7, ⟨0, 0, 0, [], false⟩⟩]
abbrev fitR : List UInt8 := [32, 120, 32, 94, 32, 34, 112, 34, 32, 38, 32, 104, 97, 115, 32, 121]
theorem fit_cut : cutP fitR = [[32, 120, 32, 94, 32, 34, 112, 34, 32], [32, 104, 97, 115, 32, 121]] := by decide
theorem pl_p : ∀ b ∈ ([112] : List UInt8), Pl b := by
  intro b hb
  rw [List.mem_singleton] at hb
  subst hb
  unfold Pl; decide
theorem fit_filter (w : World) (hw : Words w) (hT : Tab.Tabs w) :
    Calls Tryz.prog 6 #[.string ⟨#[97, 58, 32, 120, 32, 94, 32, 34, 112, 34, 32, 38, 32, 104, 97, 115, 32, 121]⟩] w fun e w' => (∃ b0 cp, e = .returned (.tuple #[ev [97] b0 2 cp, .int .i64 0]) ∧ Conds w' b0 fitC) ∧ Below w.heap.size w w' := by
  have h := pfilter_any [97] fitR fitC w (by decide) (by decide) (by decide) (by rw [fit_cut]; rfl) (by decide) (by decide) (fun i hi W hb => by
    have hi2 : i = 0 ∨ i = 1 := by simp only [List.length_cons, List.length_nil] at hi; omega
    rcases hi2 with rfl | rfl
    · have h0 := one_cmp [32, 120, 32, 94, 32, 34, 112, 34, 32] [120] [94, 32, 34, 112, 34] [34, 112, 34] [112] 6 W (hw.below hb) (hT.below hb (Nat.le_refl _)) (by decide) (by decide) (by decide) (by decide) (by decide) (by decide) (by decide) (bare_pl _ pl_p) (by decide) (by decide) (by decide)
      exact h0
    · have h0 := one_has [32, 104, 97, 115, 32, 121] [121] W (by decide) (by decide) (by decide) (by decide) (by decide) (by decide)
      exact h0) (by decide)
  refine h.mono ?_
  rintro e w' ⟨hm, hb⟩
  refine ⟨?_, hb⟩
  unfold Made at hm
  rw [if_neg (by decide), show trimP [97] = [97] from by decide, if_pos (by decide)] at hm
  exact hm
set_option maxRecDepth 20000 in
set_option maxHeartbeats 2000000 in
theorem fit08_any (w : World) (hw : Words w) (hT : Tab.Tabs w) : Calls Tryz.prog 5 #[] w fun e w' => e = .returned (.bool true) ∧ Below w.heap.size w w' := by
  have hff := fit_filter w hw hT
  have hwd : ∀ W, Below w.heap.size w W → Calls Tryz.prog 8 #[.int .i64 7] W fun e w' => e = .returned (.string ⟨#[104, 97, 115]⟩) ∧ W = w' := fun W hb => word_any 7 W (hw.below hb)
  have hvr := fun W => vright_any 2 0 0 [112] false W (by decide)
  rw [show vRight ⟨2, 0, 0, [112], false⟩ = true from by decide] at hvr
  have HFF := Lib.hid hff; have HWD := Lib.hid hwd; have HVR := Lib.hid hvr
  clear hff hwd hvr hw hT
  go_enter Tryz.func5, Tryz.ntmps5
  go_upto_region 2 with (first | (go_at_call 6; (refine HFF.out.mono ?_); rintro e w1 ⟨⟨b0, cp, rfl, hcs⟩, hb1⟩) | fail)
  have hb2 := balloc w1 (.cells #[.string ⟨[97].toArray⟩, .slice b0 2 cp] 26)
  have f0 : (w1.alloc (.cells #[.string ⟨[97].toArray⟩, .slice b0 2 cp] 26)).cell? ⟨w1.heap.size, 0, none⟩ = some (.string ⟨[97].toArray⟩) := World.cell?_alloc_at _ _ _ _ rfl
  have f1 : (w1.alloc (.cells #[.string ⟨[97].toArray⟩, .slice b0 2 cp] 26)).cell? ⟨w1.heap.size, 1, none⟩ = some (.slice b0 2 cp) := World.cell?_alloc_at _ _ _ _ rfl
  have hlt2 : w1.heap.size < (w1.alloc (.cells #[.string ⟨[97].toArray⟩, .slice b0 2 cp] 26)).heap.size := by simp
  have hcs2 := hcs.below hb2
  have HB2 := Lib.hid (btrans hb1 hb2)
  clear hcs hb2 hb1
  generalize World.alloc w1 _ = W2 at *
  generalize w1.heap.size = pf at *
  obtain ⟨a, rfl, d0, d1, d2, d3, d4, d5, d6⟩ := hcs2 0 (by decide)
  obtain ⟨a', ea, e0, e1, e2, e3, e4, e5, e6⟩ := hcs2 1 (by decide)
  obtain rfl : a = a' := by injection ea
  have hli := fun W (hb : Below W2.heap.size W2 W) => light07_yes [97] (some a) cp fitC W (hcs2.below hb) (by decide) (by decide)
  have HLI := Lib.hid hli
  clear hli hcs2 ea
  obtain ⟨ab, ao, spot⟩ := a
  have hspot : spot = none := by simpa [Addr.add] using World.cell?_spot d0
  subst hspot
  simp only [Addr.add_lit, Nat.zero_mul, Nat.one_mul, Nat.add_zero] at d0 d1 d2 d3 d4 d5 d6 e0 e1 e2 e3 e4 e5 e6
  go_wp2_with (first | (go_at_call 8; (refine (HWD.out _ HB2.out).mono ?_); rintro e w3 ⟨rfl, rfl⟩) | (go_at_call 9; (refine (HVR.out _).mono ?_); rintro e w5 ⟨rfl, hb5⟩; have x0 := (hb5.cell (p := ⟨pf, 0, none⟩) hlt2).trans f0; have x1 := (hb5.cell (p := ⟨pf, 1, none⟩) hlt2).trans f1) | (go_at_call 10; (refine (HLI.out _ hb5).mono ?_); rintro e w6 ⟨rfl, hb6⟩) | fail)
  go_ret
  exact ⟨rfl, btrans (btrans HB2.out hb5) hb6⟩
end Go.Proofs.YthgjddbfjmgkhaaGreatDoor.Pa
end

section
/- THE WALK OF gazettelaw08.ParseMany. -/
namespace Go.Proofs.YthgjddbfjmgkhaaGreatDoor.Pa
open Go.RowKit Flt Go.Proofs.YthgjddbfjmgkhaaGreatDoor.Val
attribute [local go_sem] run_store_flt
/-- one condition's text -/
def pieceT (q : Bool) (i : Nat) : List UInt8 := if q then [32, 97, 32, 33, 61, 32, 34, 120, 38] ++ ([UInt8.ofNat (97 + i)] ++ [34]) else [32, 104, 97, 115, 32, 110] ++ [UInt8.ofNat (97 + i)]
def restT (q : Bool) : Nat → List UInt8
  | 0 => []
  | i + 1 => restT q i ++ ((if i = 0 then [] else [32, 38]) ++ pieceT q i)
theorem pieceT_len (q : Bool) (i : Nat) : (pieceT q i).length ≤ 11 := by cases q <;> simp [pieceT]
theorem restT_len (q : Bool) : ∀ k : Nat, k ≤ 16 → (restT q k).length ≤ 13 * k
  | 0, _ => by simp [restT]
  | i + 1, h => by
    have h1 := restT_len q i (by omega)
    have h2 := pieceT_len q i
    have h3 : (if i = 0 then ([] : List UInt8) else [32, 38]).length ≤ 2 := by split <;> simp
    rw [restT, List.length_append, List.length_append]
    omega
theorem and_small (a : Int) (k m : Nat) (hm : m = 2 ^ k - 1) (hk : k < 60) : ∃ A : Nat, A < 2 ^ k ∧ bits .and .i64 a (m : Int) = (A : Int) := by
  have h60 : 2 ^ k ≤ 2 ^ 60 := Nat.pow_le_pow_right (by decide) (by omega)
  have hp : 0 < 2 ^ k := Nat.two_pow_pos k
  refine ⟨(BitVec.ofInt 64 a).toNat &&& m, ?_, ?_⟩
  · rw [hm]; exact Nat.lt_of_le_of_lt Nat.and_le_right (by omega)
  · have hle : (BitVec.ofInt 64 a).toNat &&& m ≤ m := Nat.and_le_right
    have e : (BitVec.ofInt 64 (m : Int)).toNat = m := by
      rw [BitVec.ofInt_natCast, BitVec.toNat_ofNat]; exact Nat.mod_eq_of_lt (by omega)
    show IntKind.i64.wrap ((BitVec.ofInt 64 a &&& BitVec.ofInt 64 (m : Int)).toNat : Int) = _
    rw [BitVec.toNat_and, e]
    generalize (BitVec.ofInt 64 a).toNat &&& m = z at *
    simp only [IntKind.wrap, IntKind.bits, IntKind.signed]; simp; omega
theorem and_small15 (m : Int) : ∃ N : Nat, N < 16 ∧ bits .and .i64 m 15 = (N : Int) := and_small m 4 15 (by decide) (by decide)
def piecesT (q : Bool) (N : Nat) : List (List UInt8) := (List.range N).map fun i => pieceT q i ++ (if i + 1 < N then [32] else [])
theorem cut_many : ∀ N : Nat, N < 16 → ∀ q : Bool, 0 < N → cutP (restT q N) = piecesT q N := by decide +kernel
def condT (q : Bool) (i : Nat) : C := if q then ⟨[97], 1, ⟨2, 0, 0, [120, 38, UInt8.ofNat (97 + i)], false⟩⟩ else ⟨[110, UInt8.ofNat (97 + i)], 7, ⟨0, 0, 0, [], false⟩⟩
def condsT (q : Bool) (N : Nat) : List C := (List.range N).map (condT q)
theorem has_trim : ∀ i : Nat, i < 15 → ∀ b : Bool, trimP (pieceT false i ++ (if b then [32] else [])) = [104, 97, 115] ++ 32 :: [110, UInt8.ofNat (97 + i)] ∧ trimP [110, UInt8.ofNat (97 + i)] = [110, UInt8.ofNat (97 + i)] ∧ 32 ∉ [110, UInt8.ofNat (97 + i)] := by decide +kernel
theorem cmp_trim : ∀ i : Nat, i < 15 → ∀ b : Bool, trimP (pieceT true i ++ (if b then [32] else [])) = [97] ++ 32 :: [33, 61, 32, 34, 120, 38, UInt8.ofNat (97 + i), 34] ∧ trimP [33, 61, 32, 34, 120, 38, UInt8.ofNat (97 + i), 34] = wordL 1 ++ 32 :: [34, 120, 38, UInt8.ofNat (97 + i), 34] ∧ trimP [34, 120, 38, UInt8.ofNat (97 + i), 34] = 34 :: ([120, 38, UInt8.ofNat (97 + i)] ++ [34]) := by decide +kernel
theorem pl_x (i : Nat) (hi : i < 15) : ∀ b ∈ ([120, 38, UInt8.ofNat (97 + i)] : List UInt8), Pl b := by
  intro b hb
  simp only [List.mem_cons, List.not_mem_nil, or_false] at hb
  rcases hb with rfl | rfl | rfl
  · unfold Pl; decide
  · unfold Pl; decide
  · unfold Pl
    rw [UInt8.toNat_ofNat']
    omega
theorem one_many (q b : Bool) (i : Nat) (hi : i < 15) (W : World) (hw : Words W) (hT : Tab.Tabs W) : Calls Tryz.prog 14 #[.string ⟨(pieceT q i ++ (if b then [32] else [])).toArray⟩] W fun e w' => e = .returned (.tuple #[cc (condT q i), .bool true]) ∧ Below W.heap.size W w' := by
  have hl : (pieceT q i ++ (if b then [32] else [])).length ≤ 100000 := by have := pieceT_len q i; rw [List.length_append]; have : (if b then ([32] : List UInt8) else []).length ≤ 1 := (by split <;> simp); omega
  cases q
  · obtain ⟨t1, t2, t3⟩ := has_trim i hi b
    exact one_has _ [110, UInt8.ofNat (97 + i)] W hl t1 t2 (by simp) t3 (by simp)
  · obtain ⟨t1, t2, t3⟩ := cmp_trim i hi b
    exact one_cmp _ [97] _ _ [120, 38, UInt8.ofNat (97 + i)] 1 W hw hT hl t1 (by decide) (by decide) t2 (by decide) t3 (bare_pl _ (pl_x i hi)) (by simp) (by simp) (by simp)
theorem many_right : ∀ N : Nat, N ≤ 6 → ∀ q : Bool, fRight [97] (condsT q N) = true := by decide +kernel
set_option maxRecDepth 20000 in
set_option maxHeartbeats 1000000 in
theorem none_filter (w : World) : Calls Tryz.prog 6 #[.string ⟨#[97, 58]⟩] w fun e w' => (∃ b0 cp, e = .returned (.tuple #[ev [97] b0 0 cp, .int .i64 0])) ∧ Below w.heap.size w w' := by
  have hcu : ∀ W, Calls Tryz.prog 11 #[.string ⟨#[97, 58]⟩, .string ⟨#[58]⟩] W fun e w' => e = .returned (.tuple #[.string ⟨#[97]⟩, .string ⟨#[]⟩, .bool true]) ∧ Sc.Drawn W w' := fun W => pcut_some 58 [97] [] W (by decide) (by decide)
  have ht1 : ∀ W, Calls Tryz.prog 12 #[.string ⟨#[97]⟩, .string ⟨#[32]⟩] W fun e w' => e = .returned (.string ⟨#[97]⟩) ∧ Sc.Drawn W w' := fun W => ptrim_any [97] W (by decide)
  have ht2 : ∀ W, Calls Tryz.prog 12 #[.string ⟨#[]⟩, .string ⟨#[32]⟩] W fun e w' => e = .returned (.string ⟨#[]⟩) ∧ Sc.Drawn W w' := fun W => ptrim_any [] W (by decide)
  have hrt : ∀ W, Calls Tryz.prog 7 #[ev [97] none 0 0] W fun e w' => e = .returned (.bool true) ∧ Below W.heap.size W w' := fun W => fright_any [97] none 0 [] W (fun i hi => absurd hi (by simp)) (by decide) (by decide) (by simp)
  have HCU := Lib.hid hcu; have HT1 := Lib.hid ht1; have HT2 := Lib.hid ht2; have HRT := Lib.hid hrt
  clear hcu ht1 ht2 hrt
  go_enter Tryz.func6, Tryz.ntmps6
  go_upto_region 16 with (first | (go_at_call 11; (with_reducible refine (HCU.out _).mono ?_); rintro e w1 ⟨rfl, n1, rfl⟩) | (go_at_call 12; (with_reducible refine (HT1.out _).mono ?_); rintro e w1 ⟨rfl, n2, rfl⟩) | (go_at_call 12; (with_reducible refine (HT2.out _).mono ?_); rintro e w1 ⟨rfl, n3, rfl⟩) | fail)
  obtain ⟨W5, hW5⟩ : ∃ W5, W5 = ((((w.alloc (.cells #[.string ⟨#[]⟩, .slice none 0 0] 26)).drewN (n1 + n2)).alloc (.cells #[.string ⟨[97].toArray⟩, .slice none 0 0] 26)).drewN n3) := ⟨_, rfl⟩
  obtain ⟨⟨r0, r1, rz⟩, ⟨f0, f1, fz⟩, hs5, hb5⟩ := fil_start w (n1 + n2) n3 [97] hW5
  rw [← hW5]
  have hpr : w.heap.size < W5.heap.size := by omega
  have hpf : w.heap.size + 1 < W5.heap.size := by omega
  clear hW5 hs5
  go_wp2_with (first | (go_at_call 7; (with_reducible refine (HRT.out _).mono ?_); rintro e w7 ⟨rfl, hb7⟩; have q0 := (hb7.cell (p := ⟨w.heap.size, 0, none⟩) hpr).trans r0; have q1 := (hb7.cell (p := ⟨w.heap.size, 1, none⟩) hpr).trans r1; have qz := fun o => (hb7.frozen (p := ⟨w.heap.size, o, none⟩) hpr).trans (rz o); have x0 := (hb7.cell (p := ⟨w.heap.size + 1, 0, none⟩) hpf).trans f0; have x1 := (hb7.cell (p := ⟨w.heap.size + 1, 1, none⟩) hpf).trans f1) | fail)
  obtain ⟨c0, c1, hbz⟩ := set2_at w7 w.heap.size (.string ⟨#[97]⟩) (.slice none 0 0) q0 q1
  generalize World.setCell (World.setCell _ _ _) _ _ = Wz at *
  refine bodyPost_ret (v := .tuple #[ev [97] none 0 0, .int .i64 0]) (by simp [results, Tryz.results6, go_sem, c0, c1]; try rfl) rfl ?_
  exact ⟨⟨none, 0, rfl⟩, (btrans hb5 hb7).trans hbz⟩
theorem many_filter (q : Bool) (N : Nat) (hN : N < 16) (w : World) (hw : Words w) (hT : Tab.Tabs w) : Calls Tryz.prog 6 #[.string ⟨([97, 58] ++ restT q N).toArray⟩] w fun e w' => (if 6 < N then e = .returned (.tuple #[ev [] none 0 0, .int .i64 2]) else ∃ b0 cp, e = .returned (.tuple #[ev [97] b0 N cp, .int .i64 0])) ∧ Below w.heap.size w w' := by
  by_cases h0 : N = 0
  · subst h0
    refine (none_filter w).mono ?_
    rintro e w' ⟨hm, hb⟩
    exact ⟨by rw [if_neg (by decide)]; exact hm, hb⟩
  have hcut := cut_many N hN q (by omega)
  have hcl : (condsT q N).length = N := by simp [condsT]
  have hrl := restT_len q N (by omega)
  have h := pfilter_any [97] (restT q N) (condsT q N) w (by decide) (by simp; omega) ((show ∀ N : Nat, N < 16 → ∀ q : Bool, 0 < N → trimP (restT q N) ≠ [] by decide +kernel) N hN q (by omega)) (by rw [hcut, hcl]; simp [piecesT]) (by omega) (by decide) (fun i hi W hb => by
    have hiN : i < N := by omega
    have e1 : (cutP (restT q N))[i]'(by rw [hcut]; simp [piecesT]; omega) = pieceT q i ++ (if i + 1 < N then [32] else []) := by simp [hcut, piecesT]
    have e2 : (condsT q N)[i] = condT q i := by simp [condsT]
    rw [e2]
    have h1 := one_many q (decide (i + 1 < N)) i (by omega) W (hw.below hb) (hT.below hb (Nat.le_refl _))
    simp only [decide_eq_true_eq] at h1
    rw [← e1] at h1
    exact h1) (fun x hx => by
    obtain ⟨i, _, rfl⟩ := List.mem_map.1 hx
    cases q <;> simp [condT])
  refine h.mono ?_
  rintro e w' ⟨hm, hb⟩
  refine ⟨?_, hb⟩
  unfold Made at hm
  rw [hcl] at hm
  split
  · rw [if_pos (by assumption)] at hm
    exact hm
  · rw [if_neg (by assumption), show trimP [97] = [97] from by decide, if_pos (many_right N (by omega) q)] at hm
    obtain ⟨b0, cp, e1, _⟩ := hm
    exact ⟨b0, cp, e1⟩
set_option maxRecDepth 20000 in
set_option maxHeartbeats 2000000 in
theorem pmany_any (m : Int) (q : Bool) (w : World) (hw : Words w) (hT : Tab.Tabs w) :
    Calls Tryz.prog 3 #[.int .i64 m, .bool q] w fun e w' => e = .returned (.bool true) ∧ Below w.heap.size w w' := by
  have hfit := fit08_any w hw hT
  have hmf := fun (N : Nat) (hN : N < 16) (W : World) (hb : Below w.heap.size w W) => many_filter q N hN W (hw.below hb) (hT.below hb (Nat.le_refl _))
  have HMF := Lib.hid hmf
  clear hmf
  have HFIT := Lib.hid hfit
  clear hfit hw hT
  go_enter Tryz.func3, Tryz.ntmps3
  go_upto_region 6 with (first | (go_at_call 5; (with_reducible refine HFIT.out.mono ?_); rintro e w1 ⟨rfl, hb1⟩) | fail)
  have HB1 := Lib.hid hb1; clear hb1 HFIT
  obtain ⟨N, hN, eN⟩ : ∃ N : Nat, N < 16 ∧ bits .and .i64 m 15 = (N : Int) := and_small15 m
  rw [eN]
  clear eN
  go_loopw [5, 14] (fun vs vi wr => ∃ k : Nat, k ≤ N ∧ vi = .int .i64 (k : Int) ∧ vs = .string ⟨([97, 58] ++ restT q k).toArray⟩ ∧ Below w.heap.size w wr) (fun _ vi _ => N - (intOf vi).toNat)
  case atStart => exact ⟨0, Nat.zero_le _, rfl, rfl, HB1.out⟩
  case round =>
    obtain ⟨k, hk, rfl, rfl, hbr⟩ := hrel
    have HBR := Lib.hid hbr; clear hbr
    by_cases hlt : k < N
    · have i1 : (k : Int) < (N : Int) := by omega
      have i2 : (0 : Int) ≤ (k : Int) := by omega
      have hRl := restT_len q k (by omega)
      generalize hR : restT q k = R at *
      obtain ⟨ch, hch⟩ : ∃ ch, UInt8.ofNat (97 + k) = ch := ⟨_, rfl⟩
      have hcn : (ch.toNat : Int) = 97 + (k : Int) := by rw [← hch, UInt8.toNat_ofNat']; omega
      have hcv : (convert 23 9 (.slice (some ⟨wr.heap.size, 0, none⟩) 1 1)).run Tryz.prog (wr.alloc (.cells #[.int .u8 (97 + (k : Int))] 5)) = .ok (.string ⟨#[ch]⟩) (wr.alloc (.cells #[.int .u8 (97 + (k : Int))] 5)) :=
        run_convert_bytes_back (wr.alloc (.cells #[.int .u8 (97 + (k : Int))] 5)) 23 9 5 ⟨wr.heap.size, 0, none⟩ 1 [ch] Tryz.underlying23 Tryz.underlying5 Tryz.underlying9 (fun j hj => by
          obtain rfl : j = 0 := by simpa using hj
          have hadd : (⟨wr.heap.size, 0, none⟩ : Addr).add 0 = ⟨wr.heap.size, 0, none⟩ := by simp [Addr.add]
          rw [hadd]
          refine (World.cell?_alloc_at _ _ _ _ rfl).trans ?_
          show some (Value.int .u8 (97 + (k : Int))) = some (.int .u8 (ch.toNat : Int))
          rw [hcn])
      by_cases h0 : k = 0
      · have i3 : ¬ (0 : Int) < (k : Int) := by omega
        have hcv0 : (convert 23 9 (.slice (some ⟨wr.heap.size, 0, none⟩) 1 1)).run Tryz.prog (wr.alloc (.cells #[.int .u8 97] 5)) = .ok (.string ⟨#[ch]⟩) (wr.alloc (.cells #[.int .u8 97] 5)) := by rw [h0] at hcv; simpa using hcv
        cases q
        · skip
          have hstep : restT false (k + 1) = R ++ ([] ++ ([32, 104, 97, 115, 32, 110] ++ [ch])) := by
            show restT false k ++ ((if k = 0 then [] else [32, 38]) ++ pieceT false k) = _
            rw [hR, if_pos h0]
            show _ = _
            unfold pieceT
            rw [hch]
            rfl
          have HSTEP := Lib.hid hstep
          clear hstep hR
          go_wp2_with fail
          refine ⟨⟨k + 1, by omega, by go_num, ?_, btrans HBR.out (balloc _ _)⟩, by simp [intOf]; go_num⟩
          rw [HSTEP.out]
          all_goals (congr 1 <;> (apply Sc.of_data) <;> simp)
        · skip
          have hstep : restT true (k + 1) = R ++ ([] ++ ([32, 97, 32, 33, 61, 32, 34, 120, 38] ++ ([ch] ++ [34]))) := by
            show restT true k ++ ((if k = 0 then [] else [32, 38]) ++ pieceT true k) = _
            rw [hR, if_pos h0]
            show _ = _
            unfold pieceT
            rw [hch]
            rfl
          have HSTEP := Lib.hid hstep
          clear hstep hR
          go_wp2_with fail
          refine ⟨⟨k + 1, by omega, by go_num, ?_, btrans HBR.out (balloc _ _)⟩, by simp [intOf]; go_num⟩
          rw [HSTEP.out]
          all_goals (congr 1 <;> (apply Sc.of_data) <;> simp)
      · have i3 : (0 : Int) < (k : Int) := by omega
        cases q
        · skip
          have hstep : restT false (k + 1) = R ++ ([32, 38] ++ ([32, 104, 97, 115, 32, 110] ++ [ch])) := by
            show restT false k ++ ((if k = 0 then [] else [32, 38]) ++ pieceT false k) = _
            rw [hR, if_neg h0]
            show _ = _
            unfold pieceT
            rw [hch]
            rfl
          have HSTEP := Lib.hid hstep
          clear hstep hR
          go_wp2_with fail
          refine ⟨⟨k + 1, by omega, by go_num, ?_, btrans HBR.out (balloc _ _)⟩, by simp [intOf]; go_num⟩
          rw [HSTEP.out]
          all_goals (congr 1 <;> (apply Sc.of_data) <;> simp)
        · skip
          have hstep : restT true (k + 1) = R ++ ([32, 38] ++ ([32, 97, 32, 33, 61, 32, 34, 120, 38] ++ ([ch] ++ [34]))) := by
            show restT true k ++ ((if k = 0 then [] else [32, 38]) ++ pieceT true k) = _
            rw [hR, if_neg h0]
            show _ = _
            unfold pieceT
            rw [hch]
            rfl
          have HSTEP := Lib.hid hstep
          clear hstep hR
          go_wp2_with fail
          refine ⟨⟨k + 1, by omega, by go_num, ?_, btrans HBR.out (balloc _ _)⟩, by simp [intOf]; go_num⟩
          rw [HSTEP.out]
          all_goals (congr 1 <;> (apply Sc.of_data) <;> simp)
    · obtain rfl : k = N := by omega
      have hmf := HMF.out k hN
      have HM2 := Lib.hid hmf
      clear hmf hk
      by_cases h6 : 6 < k
      · have d1 : (6 : Int) < (k : Int) := by omega
        go_wp2_with (first | (go_at_call 6; (refine (HM2.out _ HBR.out).mono ?_); rintro e w5 ⟨hm, hb5⟩; rw [if_pos h6] at hm; subst hm) | fail)
        go_ret
        exact ⟨rfl, btrans (btrans HBR.out hb5) (balloc _ _)⟩
      · have d1 : ¬ (6 : Int) < (k : Int) := by omega
        go_wp2_with (first | (go_at_call 6; (refine (HM2.out _ HBR.out).mono ?_); rintro e w5 ⟨hm, hb5⟩; rw [if_neg h6] at hm; obtain ⟨b0, cp, rfl⟩ := hm) | fail)
        go_ret
        exact ⟨rfl, btrans (btrans HBR.out hb5) (balloc _ _)⟩
end Go.Proofs.YthgjddbfjmgkhaaGreatDoor.Pa
end
