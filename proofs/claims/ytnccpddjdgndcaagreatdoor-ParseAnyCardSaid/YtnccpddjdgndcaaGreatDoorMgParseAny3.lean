/- MERGED BY A PROGRAM OF MINE (pmg.py) out of my own texts, pruned, in their order: Sc, PaCut, OwnC, PaPie, NewFn, New, Fit03, Light03, ESame, ERight, RightA, FilFn, ScL, Fil, FilM, PaFil, FPrint, EvL, PaLight, PaSame. -/
import Derived.Test.YtnccpddjdgndcaaGreatDoorMgParseAny2
import Derived.Test.YtnccpddjdgndcaaGreatDoorRows
import Derived.Test.YtnccpddjdgndcaaGreatDoorShelf
import Derived.WalkKit
import Derived.WalkSpells
import Derived.WalkLawsBesides
import Derived.Lib.Hide
import Derived.Lib.PathFns
import Derived.Deep.Draws
import Derived.Laws.AppendOwn
import Derived.Laws.AppendOwnNone
import Derived.Laws.OwnMore
import Derived.Laws.StructEq

section
/- THE WALKS OF event.Name, strings.Cut at a /, scope.Right, scope.Under: each gives its plain function; the world stays as it was, but for draws. -/
namespace Go.Proofs.YtnccpddjdgndcaaGreatDoor.Sc
open Go.RowKit

def Drawn (w w' : World) : Prop := ∃ n, w' = w.drewN n
theorem Drawn.refl (w : World) : Drawn w w := ⟨0, rfl⟩
theorem Drawn.trans {a b c : World} (h : Drawn a b) (k : Drawn b c) : Drawn a c := by
 obtain ⟨n, rfl⟩ := h; obtain ⟨m, rfl⟩ := k; exact ⟨n + m, by simp [World.drewN, Nat.add_assoc]⟩
theorem Drawn.drew {a b : World} (h : Drawn a b) : Drawn a b.drew := h.trans ⟨1, rfl⟩
theorem Drawn.below {a b : World} (h : Drawn a b) (B : Nat) : Below B a b := by
 obtain ⟨n, rfl⟩ := h; exact ⟨rfl, rfl, rfl, Nat.le_refl _, fun _ _ => rfl⟩
theorem of_data {s : ByteArray} {l : List UInt8} (h : s.data.toList = l) : s = ⟨l.toArray⟩ := by
 subst h; rfl
theorem cutAt_hit (a b : List UInt8) : (⟨(a ++ 47 :: b).toArray⟩ : ByteArray).extract 0 a.length = ⟨a.toArray⟩ ∧ (⟨(a ++ 47 :: b).toArray⟩ : ByteArray).extract (a.length + 1) (⟨(a ++ 47 :: b).toArray⟩ : ByteArray).size = ⟨b.toArray⟩ := by
 constructor
 ·apply of_data; rw [Lib.Pa.extract_upto_list]; simp
 ·apply of_data; rw [Lib.extract_to_end]; simp
set_option maxHeartbeats 400000 in
theorem lcut_miss (s : ByteArray) (w : World) (hi : Lib.indexByte s.data.toList 47 = -1) :
  Calls Tryz.prog 56 #[.string s, .string ⟨#[47]⟩] w fun e w' => e = .returned (.tuple #[.string s, .string ⟨#[]⟩, .bool false]) ∧ w = w' := by
 go_enter Tryz.func56, Tryz.ntmps56
 go_wp2_with (go_at_call 94; refine (Tryz.stringslite_Index_one _ _ _).mono ?_; rintro e w' ⟨rfl, rfl⟩)
 go_ret3
 exact ⟨rfl, rfl⟩
set_option maxHeartbeats 400000 in
theorem lcut_hit (s : ByteArray) (i : Nat) (w : World) (hs : s.size ≤ maxLen) (hi : Lib.indexByte s.data.toList 47 = i) (hlt : i < s.size) :
  Calls Tryz.prog 56 #[.string s, .string ⟨#[47]⟩] w fun e w' => e = .returned (.tuple #[.string (s.extract 0 i), .string (s.extract (i + 1) s.size), .bool true]) ∧ Drawn w w' := by
 unfold maxLen at hs
 have c1 : (0 : Int) ≤ ↑i := by omega
 have c2 : (↑i : Int) ≤ ↑s.size := by omega
 have c3 : (0 : Int) ≤ ↑i + 1 := by omega
 have c4 : (↑i + 1 : Int) ≤ ↑s.size := by omega
 go_enter Tryz.func56, Tryz.ntmps56
 go_wp2_with (go_at_call 94; refine (Tryz.stringslite_Index_one _ _ _).mono ?_; rintro e w' ⟨rfl, rfl⟩)
 go_region
 all_goals
  go_wp2
  go_ret3
  exact ⟨rfl, 1, rfl⟩

set_option maxHeartbeats 400000 in
theorem cut_none (l : List UInt8) (w : World) (h : 47 ∉ l) :
  Calls Tryz.prog 39 #[.string ⟨l.toArray⟩, .string ⟨#[47]⟩] w fun e w' => e = .returned (.tuple #[.string ⟨l.toArray⟩, .string ⟨#[]⟩, .bool false]) ∧ Drawn w w' := by
 have hi : Lib.indexByte (⟨l.toArray⟩ : ByteArray).data.toList 47 = -1 := by
  rcases slash_cases l with ⟨h1, _⟩ | ⟨a, b, e, _, _⟩
  ·exact h1
  ·exact absurd (by rw [e]; simp) h
 have HI := Lib.hid hi; clear hi h
 go_enter Tryz.func39, Tryz.ntmps39
 go_wp2_with (go_at_call 56; refine (lcut_miss _ _ HI.out).mono ?_; rintro e w' ⟨rfl, rfl⟩)
 go_ret3
 exact ⟨rfl, Drawn.refl _⟩
set_option maxHeartbeats 400000 in
theorem cut_some (a b : List UInt8) (w : World) (h : 47 ∉ a) (hs : a.length + b.length + 1 ≤ maxLen) :
  Calls Tryz.prog 39 #[.string ⟨(a ++ 47 :: b).toArray⟩, .string ⟨#[47]⟩] w fun e w' => e = .returned (.tuple #[.string ⟨a.toArray⟩, .string ⟨b.toArray⟩, .bool true]) ∧ Drawn w w' := by
 have hz : (⟨(a ++ 47 :: b).toArray⟩ : ByteArray).size = a.length + b.length + 1 := by
  show (a ++ 47 :: b).toArray.size = _
  simp; omega
 have hi : Lib.indexByte (⟨(a ++ 47 :: b).toArray⟩ : ByteArray).data.toList 47 = a.length := by
  rcases slash_cases (a ++ 47 :: b) with ⟨_, h1⟩ | ⟨a', b', e, h2, h3⟩
  ·exact absurd (by simp) h1
  ·have : a = a' := by
    have e1 := parts_slash a b h
    rw [e, parts_slash a' b' h2] at e1
    exact (List.cons.inj e1).1.symm
   subst this; exact h3
 have hc := lcut_hit ⟨(a ++ 47 :: b).toArray⟩ a.length w (by rw [hz]; exact hs) hi (by rw [hz]; omega)
 rw [(cutAt_hit a b).1, (cutAt_hit a b).2] at hc
 have HC := Lib.hid hc; clear hc hi hz h hs
 go_enter Tryz.func39, Tryz.ntmps39
 go_wp2_with fail
 refine HC.out.mono ?_
 rintro e w' ⟨rfl, hq⟩
 go_wp2
 go_ret3
 exact ⟨rfl, hq⟩

def RightRel (l : List UInt8) (w : World) (n r m : Value) (wr : World) : Prop :=
 ∃ (done : List (List UInt8)) (rest : List UInt8) (more : Bool), n = .int .i64 done.length ∧ r = .string ⟨rest.toArray⟩ ∧ m = .bool more ∧ Drawn w wr ∧
  done.all nameB = true ∧ parts l = done ++ (if more then parts rest else []) ∧ rest.length ≤ l.length
def rightMeas (r m : Value) : Nat := match r, m with
 | .string s, .bool true => s.size + 1
 | _, _ => 0
set_option maxHeartbeats 1000000 in
theorem right_any (s : ByteArray) (w : World) (hs : s.size ≤ maxLen) (hs2 : s.size < 4611686018427387904) :
  Calls Tryz.prog 44 #[.string s] w fun e w' => e = .returned (.bool (rightB s.data.toList)) ∧ Drawn w w' := by
 unfold maxLen at hs
 obtain ⟨l, rfl⟩ : ∃ l : List UInt8, s = ⟨l.toArray⟩ := ⟨s.data.toList, rfl⟩
 by_cases h0 : l = []
 ·subst h0
  go_enter Tryz.func44, Tryz.ntmps44
  go_wp2
  go_ret
  exact ⟨rfl, Drawn.refl _⟩
 ·have h0' : l.isEmpty = false := by cases l <;> simp_all
  go_enter Tryz.func44, Tryz.ntmps44
  go_wp2
  go_loopw [3, 4, 5] (fun n r m wr => RightRel l w n r m wr) (fun _ r m _ => rightMeas r m)
  case atStart => exact ⟨[], l, true, rfl, rfl, rfl, Drawn.refl _, rfl, rfl, Nat.le_refl _⟩
  case round =>
   obtain ⟨done, rest, more, rfl, rfl, rfl, hq, hall, hp, hlen⟩ := hrel
   have HP := Lib.hid hp; have HA := Lib.hid hall; clear hp hall
   have hlz : (⟨l.toArray⟩ : ByteArray).size = l.length := rfl
   have hdl : (done.length : Int) ≤ 4611686018427387905 := by
    have h1 := parts_length l
    rw [HP.out, List.length_append] at h1
    omega
   have HLZ := Lib.hid hlz; clear hlz
   cases more
   ·have hp : parts l = done := by rw [HP.out]; simp
    have hr : rightB l = decide (done.length ≤ 4) := by
     unfold rightB; rw [h0', hp, HA.out]; simp
    have HR := Lib.hid hr; clear hr hp HP
    go_wp2
    go_ret
    exact ⟨ret_bool (by rw [HR.out, Bool.eq_iff_iff]; simp; omega), hq⟩
   ·rcases slash_cases rest with ⟨_, hn⟩ | ⟨a, b, rfl, hn, _⟩
    ·have hb : (⟨rest.toArray⟩ : ByteArray).size ≤ maxLen := by
      unfold maxLen; rw [HLZ.out] at hs; show rest.length ≤ _; omega
     have HB := Lib.hid hb; clear hb
     have hp : parts l = done ++ [rest] := by rw [HP.out]; simp [parts_none rest hn]
     have HP2 := Lib.hid hp; clear hp HP
     cases hnm : nameB rest
     all_goals
      go_wp2_with (first | (go_at_call 39; refine (cut_none _ _ hn).mono ?_; rintro e w' ⟨rfl, hq1⟩) | (go_at_call 65; refine (name_any _ _ HB.out).mono ?_; rintro e w' ⟨rfl, rfl⟩))
     ·go_ret
      exact ⟨ret_bool (by unfold rightB; rw [HP2.out, h0']; simp [hnm]), hq.trans hq1⟩
     ·exact ⟨⟨done ++ [rest], [], false, by simp, rfl, rfl, hq.trans hq1, by simp [HA.out, hnm], by simp [HP2.out], Nat.zero_le _⟩, by show 0 < _; simp [rightMeas]⟩
    ·have hlen' : a.length + (b.length + 1) ≤ l.length := by simpa using hlen
     have hb : (⟨a.toArray⟩ : ByteArray).size ≤ maxLen := by
      unfold maxLen; rw [HLZ.out] at hs; show a.length ≤ _; omega
     have hb2 : a.length + b.length + 1 ≤ maxLen := by
      unfold maxLen; rw [HLZ.out] at hs; omega
     have HB := Lib.hid hb; have HB2 := Lib.hid hb2; clear hb hb2
     have hp : parts l = done ++ a :: parts b := by rw [HP.out]; simp [parts_slash a b hn]
     have HP2 := Lib.hid hp; clear hp HP
     cases hnm : nameB a
     all_goals
      go_wp2_with (first | (go_at_call 39; refine (cut_some _ _ _ hn HB2.out).mono ?_; rintro e w' ⟨rfl, hq1⟩) | (go_at_call 65; refine (name_any _ _ HB.out).mono ?_; rintro e w' ⟨rfl, rfl⟩))
     ·go_ret
      exact ⟨ret_bool (by unfold rightB; rw [HP2.out, h0']; simp [hnm]), hq.trans hq1⟩
     ·exact ⟨⟨done ++ [a], b, true, by simp, rfl, rfl, hq.trans hq1, by simp [HA.out, hnm], by simp [HP2.out], by omega⟩, by show b.length + 1 < (a ++ 47 :: b).length + 1; simp; omega⟩

end Go.Proofs.YtnccpddjdgndcaaGreatDoor.Sc
end

section
/- THE WALKS OF strings.Cut at one byte, strings.Contains of one byte, strings.Trim of blanks: any byte, any text. -/
namespace Go.Proofs.YtnccpddjdgndcaaGreatDoor.Pa
open Go.RowKit Go.Proofs.YtnccpddjdgndcaaGreatDoor.Sc
theorem byte_cases (k : UInt8) (l : List UInt8) : (Lib.indexByte l k = -1 ∧ k ∉ l) ∨ (∃ a b, l = a ++ k :: b ∧ k ∉ a ∧ Lib.indexByte l k = a.length) := by
 induction l with
 | nil => left; simp [Lib.indexByte]
 | cons c r ih =>
  by_cases hc : c = k
  ·right; exact ⟨[], r, by simp [hc], by simp, by simp [Lib.indexByte, hc]⟩
  ·have h1 : (c == k) = false := by simp [hc]
   rcases ih with ⟨e, hn⟩ | ⟨a, b, e, hn, hi⟩
   ·left; refine ⟨?_, by simp [hn]; exact fun h => hc h.symm⟩
    unfold Lib.indexByte; rw [h1, e]; rfl
   ·right
    refine ⟨c :: a, b, by simp [e], by simp [hn]; exact fun h => hc h.symm, ?_⟩
    unfold Lib.indexByte; rw [h1, hi]
    simp
    try (split <;> omega)
theorem app_cut {k : UInt8} : ∀ {a a' b b' : List UInt8}, k ∉ a → k ∉ a' → a ++ k :: b = a' ++ k :: b' → a = a'
 | [], [], _, _, _, _, _ => rfl
 | [], c :: a', _, _, _, h2, h => by
  simp only [List.nil_append, List.cons_append, List.cons.injEq] at h
  exact absurd (by rw [h.1]; simp) h2
 | c :: a, [], _, _, h1, _, h => by
  simp only [List.nil_append, List.cons_append, List.cons.injEq] at h
  exact absurd (by rw [← h.1]; simp) h1
 | c :: a, c' :: a', _, _, h1, h2, h => by
  simp only [List.cons_append, List.cons.injEq] at h
  rw [h.1, app_cut (fun x => h1 (by simp [x])) (fun x => h2 (by simp [x])) h.2]
theorem pcut_hit (k : UInt8) (a b : List UInt8) : (⟨(a ++ k :: b).toArray⟩ : ByteArray).extract 0 a.length = ⟨a.toArray⟩ ∧ (⟨(a ++ k :: b).toArray⟩ : ByteArray).extract (a.length + 1) (⟨(a ++ k :: b).toArray⟩ : ByteArray).size = ⟨b.toArray⟩ := by
 constructor
 ·apply of_data; rw [Lib.Pa.extract_upto_list]; simp
 ·apply of_data; rw [Lib.extract_to_end]; simp
set_option maxHeartbeats 400000 in
theorem plcut_miss (k : UInt8) (s : ByteArray) (w : World) (hi : Lib.indexByte s.data.toList k = -1) :
  Calls Tryz.prog 56 #[.string s, .string ⟨#[k]⟩] w fun e w' => e = .returned (.tuple #[.string s, .string ⟨#[]⟩, .bool false]) ∧ w = w' := by
 go_enter Tryz.func56, Tryz.ntmps56
 go_wp2_with (go_at_call 94; refine (Tryz.stringslite_Index_one _ _ _).mono ?_; rintro e w' ⟨rfl, rfl⟩)
 go_ret3
 exact ⟨rfl, rfl⟩
set_option maxHeartbeats 400000 in
theorem plcut_hit (k : UInt8) (s : ByteArray) (i : Nat) (w : World) (hs : s.size ≤ maxLen) (hi : Lib.indexByte s.data.toList k = i) (hlt : i < s.size) :
  Calls Tryz.prog 56 #[.string s, .string ⟨#[k]⟩] w fun e w' => e = .returned (.tuple #[.string (s.extract 0 i), .string (s.extract (i + 1) s.size), .bool true]) ∧ Drawn w w' := by
 unfold maxLen at hs
 have c1 : (0 : Int) ≤ ↑i := by omega
 have c2 : (↑i : Int) ≤ ↑s.size := by omega
 have c3 : (0 : Int) ≤ ↑i + 1 := by omega
 have c4 : (↑i + 1 : Int) ≤ ↑s.size := by omega
 go_enter Tryz.func56, Tryz.ntmps56
 go_wp2_with (go_at_call 94; refine (Tryz.stringslite_Index_one _ _ _).mono ?_; rintro e w' ⟨rfl, rfl⟩)
 go_region
 all_goals
  go_wp2
  go_ret3
  exact ⟨rfl, 1, rfl⟩
set_option maxHeartbeats 400000 in
theorem pcut_none (k : UInt8) (l : List UInt8) (w : World) (h : k ∉ l) :
  Calls Tryz.prog 39 #[.string ⟨l.toArray⟩, .string ⟨#[k]⟩] w fun e w' => e = .returned (.tuple #[.string ⟨l.toArray⟩, .string ⟨#[]⟩, .bool false]) ∧ Drawn w w' := by
 have hi : Lib.indexByte (⟨l.toArray⟩ : ByteArray).data.toList k = -1 := by
  rcases byte_cases k l with ⟨h1, _⟩ | ⟨a, b, e, _, _⟩
  ·exact h1
  ·exact absurd (by rw [e]; simp) h
 have HI := Lib.hid hi; clear hi h
 go_enter Tryz.func39, Tryz.ntmps39
 go_wp2_with (go_at_call 56; refine (plcut_miss _ _ _ HI.out).mono ?_; rintro e w' ⟨rfl, rfl⟩)
 go_ret3
 exact ⟨rfl, Drawn.refl _⟩
set_option maxHeartbeats 400000 in
theorem pcut_some (k : UInt8) (a b : List UInt8) (w : World) (h : k ∉ a) (hs : a.length + b.length + 1 ≤ maxLen) :
  Calls Tryz.prog 39 #[.string ⟨(a ++ k :: b).toArray⟩, .string ⟨#[k]⟩] w fun e w' => e = .returned (.tuple #[.string ⟨a.toArray⟩, .string ⟨b.toArray⟩, .bool true]) ∧ Drawn w w' := by
 have hz : (⟨(a ++ k :: b).toArray⟩ : ByteArray).size = a.length + b.length + 1 := by
  show (a ++ k :: b).toArray.size = _
  simp; omega
 have hi : Lib.indexByte (⟨(a ++ k :: b).toArray⟩ : ByteArray).data.toList k = a.length := by
  rcases byte_cases k (a ++ k :: b) with ⟨_, h1⟩ | ⟨a', b', e, h2, h3⟩
  ·exact absurd (by simp) h1
  ·have : a = a' := app_cut h h2 e
   subst this; exact h3
 have hc := plcut_hit k ⟨(a ++ k :: b).toArray⟩ a.length w (by rw [hz]; exact hs) hi (by rw [hz]; omega)
 rw [(pcut_hit k a b).1, (pcut_hit k a b).2] at hc
 have HC := Lib.hid hc; clear hc hi hz h hs
 go_enter Tryz.func39, Tryz.ntmps39
 go_wp2_with fail
 refine HC.out.mono ?_
 rintro e w' ⟨rfl, hq⟩
 go_wp2
 go_ret3
 exact ⟨rfl, hq⟩
theorem ptrim_any (l : List UInt8) (w : World) (hs : l.length ≤ maxLen) :
  Calls Tryz.prog 40 #[.string ⟨l.toArray⟩, .string ⟨#[32]⟩] w fun e w' => e = .returned (.string ⟨(trimP l).toArray⟩) ∧ Drawn w w' := by
 refine (Tryz.strings_Trim_one ⟨l.toArray⟩ 32 (by decide) w (by show l.toArray.size ≤ _; unfold maxLen at hs; simp; omega)).mono ?_
 rintro e w' ⟨rfl, h⟩
 refine ⟨rfl, ?_⟩
 rcases h with rfl | rfl
 ·exact Drawn.refl _
 ·exact ⟨1, rfl⟩
end Go.Proofs.YtnccpddjdgndcaaGreatDoor.Pa
end

section
/- ROWS OF ONE's OWN: conditions, texts. -/
namespace Go.Proofs.YtnccpddjdgndcaaGreatDoor.Pa
open Go.RowKit Flt Go.Proofs.YtnccpddjdgndcaaGreatDoor.Val
def cells7 (c : C) : List Value := [.string ⟨c.name.toArray⟩, .int .i64 c.op, .int .i64 c.val.kind, .int .i64 c.val.int, .float .f64 c.val.num, .string ⟨c.val.text.toArray⟩, .bool c.val.yes]
def flatC (l : List C) : List Value := l.flatMap cells7
theorem flatC_len (l : List C) : (flatC l).length = l.length * 7 := by
 induction l with
 | nil => rfl
 | cons v l ih => unfold flatC at *; rw [List.flatMap_cons, List.length_append, ih]; simp [cells7]; omega
theorem flatC_at : ∀ (l : List C) (i j : Nat) (hi : i < l.length), j < 7 → (flatC l)[i * 7 + j]? = (cells7 l[i])[j]?
 | v :: l, 0, j, _, hj => by
  unfold flatC; rw [List.flatMap_cons, List.getElem?_append_left (by simp [cells7]; omega)]; simp
 | v :: l, i + 1, j, hi, hj => by
  unfold flatC; rw [List.flatMap_cons, List.getElem?_append_right (by simp [cells7]; omega)]
  have e : (i + 1) * 7 + j - (cells7 v).length = i * 7 + j := by simp [cells7]; omega
  rw [e]
  exact flatC_at l i j (by simpa using hi) hj
theorem flatC_one (l : List C) : ∀ u ∈ flatC l, u.oneCell' = true := by
 intro u hu
 obtain ⟨v, _, hv⟩ := List.mem_flatMap.1 hu
 simp only [cells7, List.mem_cons, List.not_mem_nil, or_false] at hv
 rcases hv with rfl | rfl | rfl | rfl | rfl | rfl | rfl <;> rfl
theorem flatC_app (l : List C) (a : C) : flatC (l ++ [a]) = flatC l ++ flatC [a] := by simp [flatC]
theorem own_lo {W W2 : World} {base e size : Nat} {v : Value} {n : Nat} {xs : List Value} {g : Nat} (h : W.ownsRow base e size v n xs) (hb : Below g W W2) (hv : ∀ k, v.ownBlock = some k → k < g) : W2.ownsRow base e size v n xs := by
 refine ⟨h.1, ?_⟩
 rcases h.2 with hn | ⟨g2, cap, cur, rfl, hb2, hgg, rest⟩
 ·exact .inl hn
 ·refine .inr ⟨g2, cap, cur, rfl, hb2, ?_, rest⟩
  rw [hb.block g2 (hv g2 (by simp [Value.ownBlock]))]
  exact hgg
theorem info_cond : (Tryz.prog.info? 41).map (fun i => (i.zero, i.size, i.bytes)) = some (some (.agg #[.string .empty, .int .i64 0, .int .i64 0, .int .i64 0, .float .f64 0, .string .empty, .bool false]), 7, 72) := by kernel_rfl
theorem new_cond (w : World) (g : Nat) (hg : g = w.heap.size) (c : C) (e : TypeId) : ∀ j u, (flatC [c])[j]? = some u → (w.alloc (.cells #[.string ⟨c.name.toArray⟩, .int .i64 c.op, .int .i64 c.val.kind, .int .i64 c.val.int, .float .f64 c.val.num, .string ⟨c.val.text.toArray⟩, .bool c.val.yes] e)).cell? ((⟨g, 0, none⟩ : Addr).add j) = some u := by
 subst hg
 intro j u hj
 have hadd : (⟨w.heap.size, 0, none⟩ : Addr).add j = ⟨w.heap.size, j, none⟩ := by unfold Addr.add; split <;> simp_all
 rw [hadd]
 simpa [flatC, cells7, go_sem] using hj
theorem own_conds {w : World} {v : Value} {l : List C} {base : Nat} (h : w.ownsRow base 41 7 v l.length (flatC l)) :
  ∃ b0 cap, v = .slice b0 l.length cap ∧ Conds w b0 l ∧ ∀ a, b0 = some a → base ≤ a.block := by
 rcases h.2 with ⟨rfl, h0⟩ | ⟨g, cp, cur, rfl, hb, hg, hh⟩
 ·have : l = [] := List.eq_nil_of_length_eq_zero h0
  subst this
  exact ⟨none, 0, rfl, (fun i hi => absurd hi (Nat.not_lt_zero _)), fun a e => by cases e⟩
 ·refine ⟨some ⟨g, 0, none⟩, cp, rfl, fun i hi => ⟨_, rfl, ?_⟩, fun a e => by injection e with e; subst e; exact hb⟩
  have k : ∀ j (hj : j < 7), w.cell? ⟨g, i * 7 + j, none⟩ = (cells7 l[i])[j]? := by
   intro j hj
   have hl := flatC_len l
   have hm := flatC_at l i j hi hj
   have hc : (cells7 l[i])[j]? = some ((cells7 l[i])[j]'(by simpa [cells7] using hj)) := by simp
   rw [hc] at hm ⊢
   have := h.cells rfl (i * 7 + j) _ hm
   have hadd : (⟨g, 0, none⟩ : Addr).add (i * 7 + j) = ⟨g, i * 7 + j, none⟩ := by unfold Addr.add; split <;> simp_all
   rw [← hadd]; exact this
  have hadd : (⟨g, 0, none⟩ : Addr).add (i * 7) = ⟨g, i * 7, none⟩ := by unfold Addr.add; split <;> simp_all
  rw [hadd]
  exact ⟨k 0 (by decide), k 1 (by decide), k 2 (by decide), k 3 (by decide), k 4 (by decide), k 5 (by decide), k 6 (by decide)⟩
theorem own_low7 {W W2 : World} {base e size : Nat} {v : Value} {n : Nat} {xs : List Value} (h : W.ownsRow base e size v n xs) (hb : Below W.heap.size W W2) : W2.ownsRow base e size v n xs :=
 own_lo h hb (fun k hk => (h.lt k hk).2)

abbrev strV (l : List (List UInt8)) : List Value := l.map fun t => .string ⟨t.toArray⟩
theorem strV_app (l m : List (List UInt8)) : strV (l ++ m) = strV l ++ strV m := List.map_append ..
theorem info_str : (Tryz.prog.info? 9).map (fun i => (i.zero, i.size, i.bytes)) = some (some (.string .empty), 1, 16) := by kernel_rfl
theorem strV_one (l : List (List UInt8)) : ∀ u ∈ strV l, u.oneCell' = true := by
 intro u hu
 obtain ⟨c, _, rfl⟩ := List.mem_map.1 hu
 rfl
theorem new_str (w : World) (g : Nat) (hg : g = w.heap.size) (t : List UInt8) (e : TypeId) : ∀ j u, (strV [t])[j]? = some u → (w.alloc (.cells #[.string ⟨t.toArray⟩] e)).cell? ((⟨g, 0, none⟩ : Addr).add j) = some u := by
 subst hg
 intro j u hj
 have hadd : (⟨w.heap.size, 0, none⟩ : Addr).add j = ⟨w.heap.size, j, none⟩ := by unfold Addr.add; split <;> simp_all
 rw [hadd]
 simpa [go_sem] using hj
def Strs (w : World) (b0 : Option Addr) (l : List (List UInt8)) : Prop := ∀ i (h : i < l.length), ∃ a, b0 = some a ∧ w.cell? (a.add i) = some (.string ⟨l[i].toArray⟩)
theorem Strs.below {w w2 : World} {b0 : Option Addr} {l : List (List UInt8)} (h : Strs w b0 l) (hb : Below w.heap.size w w2) : Strs w2 b0 l := fun i hi => by
 obtain ⟨a, e, h2⟩ := h i hi
 exact ⟨a, e, (hb.cell (World.block_lt_of_cell? _ _ h2)).trans h2⟩
theorem own_strs {w : World} {v : Value} {l : List (List UInt8)} {base : Nat} (h : w.ownsRow base 9 1 v l.length (strV l)) :
  ∃ b0 cap, v = .slice b0 l.length cap ∧ Strs w b0 l ∧ ∀ a, b0 = some a → base ≤ a.block := by
 rcases h.2 with ⟨rfl, h0⟩ | ⟨g, cp, cur, rfl, hb, hg, hh⟩
 ·have : l = [] := List.eq_nil_of_length_eq_zero h0
  subst this
  exact ⟨none, 0, rfl, (fun i hi => absurd hi (Nat.not_lt_zero _)), fun a e => by cases e⟩
 ·refine ⟨some ⟨g, 0, none⟩, cp, rfl, fun i hi => ⟨_, rfl, ?_⟩, fun a e => by injection e with e; subst e; exact hb⟩
  have hm : (strV l)[i]? = some (.string ⟨l[i].toArray⟩) := by simp [hi]
  exact h.cells rfl i _ hm
end Go.Proofs.YtnccpddjdgndcaaGreatDoor.Pa
end

section
/- THE WALK OF parse.cut: the pieces of a text. -/
namespace Go.Proofs.YtnccpddjdgndcaaGreatDoor.Pa
open Go.RowKit Flt Go.Proofs.YtnccpddjdgndcaaGreatDoor.Val
theorem u8_is (c d : UInt8) : (c == d) = ((c.toNat : Int) == (d.toNat : Int)) := by
 rw [Bool.eq_iff_iff, beq_iff_eq, beq_iff_eq, ← UInt8.toNat_inj]
 omega
theorem ext_pie (s : ByteArray) (a b : Nat) : s.extract a b = ⟨((s.data.toList.drop a).take (b - a)).toArray⟩ := by
 apply Sc.of_data
 rw [ByteArray.data_extract, Array.toList_extract, List.extract_eq_take_drop]
set_option maxRecDepth 20000 in
set_option maxHeartbeats 2000000 in
theorem pieces_any (s : ByteArray) (w : World) (hs : s.size ≤ 100000) :
  Calls Tryz.prog 41 #[.string s] w fun e w' => (∃ b0 cap, e = .returned (.slice b0 (cutP s.data.toList).length cap) ∧ Strs w' b0 (cutP s.data.toList) ∧ ∀ a, b0 = some a → w.heap.size ≤ a.block) ∧ Below w.heap.size w w' := by
 have hsz : s.data.toList.length = s.size := by rw [Array.length_toList]; rfl
 obtain ⟨i0, hi, hz0, hz1, hz2⟩ := info_parts info_str
 go_enter Tryz.func41, Tryz.ntmps41
 go_wp2_with fail
 go_loopw [3, 4, 5, 6] (fun vo vf vq vi wr => ∃ (k fr : Nat) (q : Bool) (done : List (List UInt8)), k ≤ s.size + 1 ∧ fr ≤ k ∧ fr ≤ s.size ∧ done.length ≤ k ∧ vf = .int .i64 fr ∧ vq = .bool q ∧ vi = .int .i64 k ∧ wr.ownsRow w.heap.size 9 1 vo done.length (strV done) ∧ cutP s.data.toList = done ++ cutGo q ((s.data.toList.drop fr).take (k - fr)) (s.data.toList.drop k) ∧ Below w.heap.size w wr) (fun _ _ _ vi _ => s.size + 1 - (intOf vi).toNat)
 case atStart => exact ⟨0, 0, false, [], Nat.zero_le _, Nat.le_refl _, Nat.zero_le _, Nat.le_refl _, rfl, rfl, rfl, World.ownsRow_nil _ _ _ _, by simp [cutP], Below.refl _ _⟩
 case round =>
  obtain ⟨k, fr, q, done, hk, hfk, hfs, hdl, rfl, rfl, rfl, hown, hcut, hbr⟩ := hrel
  have OWN := Lib.hid hown; have HBR := Lib.hid hbr; have HSZ := Lib.hid hsz
  clear hown hbr hsz
  by_cases hlt : k < s.size
  ·have i1 : (k : Int) < (s.size : Int) := by omega
   have i2 : (0 : Int) ≤ (k : Int) := by omega
   have i3 : (fr : Int) ≤ (k : Int) := by omega
   have i4 : (0 : Int) ≤ (fr : Int) := by omega
   have i5 : (k : Int) ≤ (s.size : Int) := by omega
   have hg : s.data.toList[k]'(by rw [HSZ.out]; exact hlt) = s[k] := by rw [Array.getElem_toList]; rfl
   have hdr : s.data.toList.drop k = s[k] :: s.data.toList.drop (k + 1) := by rw [List.drop_eq_getElem_cons (by rw [HSZ.out]; exact hlt), hg]
   have hmore := (cur_more hdr hfk).1
   have hskip := cur_skip hdr hfk
   rw [hdr] at hcut
   have b92 := u8_is s[k] 92; have b34 := u8_is s[k] 34; have b38 := u8_is s[k] 38
   have k1 := cutGo_skip q ((s.data.toList.drop fr).take (k - fr)) s[k] (s.data.toList.drop (k + 1))
   have k2 := cutGo_quote q ((s.data.toList.drop fr).take (k - fr)) s[k] (s.data.toList.drop (k + 1))
   have k3 := cutGo_and q ((s.data.toList.drop fr).take (k - fr)) s[k] (s.data.toList.drop (k + 1))
   have k4 := cutGo_else q ((s.data.toList.drop fr).take (k - fr)) s[k] (s.data.toList.drop (k + 1))
   rw [b92] at k1 k2 k3 k4
   rw [b34] at k2 k3 k4
   rw [b38] at k3 k4
   have HK1 := Lib.hid k1; have HK2 := Lib.hid k2; have HK3 := Lib.hid k3; have HK4 := Lib.hid k4; have HCUT := Lib.hid hcut; have HMORE := Lib.hid hmore; have HSKIP := Lib.hid hskip
   clear k1 k2 k3 k4 hcut hmore hskip b92 b34 b38 hdr hg
   cases q
   ·cases c34 : ((s[k].toNat : Int) == ((34 : UInt8).toNat : Int))
    ·cases c38 : ((s[k].toNat : Int) == ((38 : UInt8).toNat : Int))
     ·have n34 : ¬ (s[k].toNat : Int) = 34 := by simpa using c34
      have n38 : ¬ (s[k].toNat : Int) = 38 := by simpa using c38
      have m34 : ((s[k].toNat : Int) == 34) = false := c34
      have m38 : ((s[k].toNat : Int) == 38) = false := c38
      go_wp2_with fail
      refine ⟨⟨k + 1, fr, false, done, by omega, by omega, hfs, by omega, rfl, rfl, by go_num, OWN.out, ?_, HBR.out⟩, by simp [intOf]; go_num⟩
      rw [HCUT.out, HK4.out rfl c34 (by rw [c38]; rfl), HMORE.out]
     ·have n34 : ¬ (s[k].toNat : Int) = 34 := by simpa using c34
      have n38 : (s[k].toNat : Int) = 38 := by simpa using c38
      have m34 : ((s[k].toNat : Int) == 34) = false := c34
      have m38 : ((s[k].toNat : Int) == 38) = true := c38
      have hext := ext_pie s fr k
      go_wp2_with (first | (at_builtin; refine wpList_append_own _ rfl _ _ 68 rfl w.heap.size 9 i0 (.string .empty) 1 16 Tryz.underlying68 hi hz0 hz1 hz2 rfl (by decide) _ _ _ rfl (OWN.out.alloc _) ⟨wr.heap.size, 0, none⟩ 1 1 (strV [(s.data.toList.drop fr).take (k - fr)]) rfl rfl ?news (strV_one _) (by unfold maxLen; omega) (by omega) (by have := HBR.out.size; simp at *; omega) ?_; rotate_left; (case news => exact new_str wr _ rfl _ _); intro v' w4 hown' hgrow3 hnil3) | fail)
      have hb4 : Below w.heap.size w w4 := Below.grown (btrans HBR.out (balloc _ _)) hgrow3 (by have := HBR.out.size; simp at *; omega) (fun q hq => (OWN.out.lt q hq).1)
      refine ⟨⟨k + 1, k + 1, false, done ++ [(s.data.toList.drop fr).take (k - fr)], by omega, Nat.le_refl _, by omega, by simp; omega, by go_num, rfl, by go_num, ?_, ?_, hb4⟩, by simp [intOf]; go_num⟩
      ·rw [List.length_append, strV_app]
       exact hown'
      ·rw [HCUT.out, HK3.out rfl c34 (by rw [c38]; rfl), Nat.sub_self, List.take_zero, List.append_assoc]; rfl
    ·have n34 : (s[k].toNat : Int) = 34 := by simpa using c34
     have m34 : ((s[k].toNat : Int) == 34) = true := c34
     go_wp2_with fail
     refine ⟨⟨k + 1, fr, true, done, by omega, by omega, hfs, by omega, rfl, rfl, by go_num, OWN.out, ?_, HBR.out⟩, by simp [intOf]; go_num⟩
     rw [HCUT.out, HK2.out rfl c34, HMORE.out]; rfl
   ·cases c92 : ((s[k].toNat : Int) == ((92 : UInt8).toNat : Int))
    ·cases c34 : ((s[k].toNat : Int) == ((34 : UInt8).toNat : Int))
     ·have n92 : ¬ (s[k].toNat : Int) = 92 := by simpa using c92
      have n34 : ¬ (s[k].toNat : Int) = 34 := by simpa using c34
      have m92 : ((s[k].toNat : Int) == 92) = false := c92
      have m34 : ((s[k].toNat : Int) == 34) = false := c34
      go_wp2_with fail
      all_goals
       refine ⟨⟨k + 1, fr, true, done, by omega, by omega, hfs, by omega, rfl, rfl, by go_num, OWN.out, ?_, HBR.out⟩, by simp [intOf]; go_num⟩
       rw [HCUT.out, HK4.out (by rw [c92]; rfl) c34 (by simp), HMORE.out]
     ·have n92 : ¬ (s[k].toNat : Int) = 92 := by simpa using c92
      have n34 : (s[k].toNat : Int) = 34 := by simpa using c34
      have m92 : ((s[k].toNat : Int) == 92) = false := c92
      have m34 : ((s[k].toNat : Int) == 34) = true := c34
      go_wp2_with fail
      refine ⟨⟨k + 1, fr, false, done, by omega, by omega, hfs, by omega, rfl, rfl, by go_num, OWN.out, ?_, HBR.out⟩, by simp [intOf]; go_num⟩
      rw [HCUT.out, HK2.out (by rw [c92]; rfl) c34, HMORE.out]; rfl
    ·have n92 : (s[k].toNat : Int) = 92 := by simpa using c92
     have m92 : ((s[k].toNat : Int) == 92) = true := c92
     go_wp2_with fail
     refine ⟨⟨k + 2, fr, true, done, by omega, by omega, hfs, by omega, rfl, rfl, by go_num, OWN.out, ?_, HBR.out⟩, by simp [intOf]; go_num⟩
     rw [HCUT.out, HK1.out (by rw [c92]; rfl), HSKIP.out.1, HSKIP.out.2]
  ·have i1 : ¬ (k : Int) < (s.size : Int) := by omega
   have i4 : (0 : Int) ≤ (fr : Int) := by omega
   have i5 : (fr : Int) ≤ (s.size : Int) := by omega
   have hext := ext_pie s fr s.size
   have hd0 : s.data.toList.drop k = [] := List.drop_of_length_le (by rw [HSZ.out]; omega)
   have hft : (s.data.toList.drop fr).take (k - fr) = (s.data.toList.drop fr).take (s.size - fr) := by
    rw [List.take_of_length_le (by rw [List.length_drop, HSZ.out]; omega), List.take_of_length_le (by rw [List.length_drop, HSZ.out]; omega)]
   rw [hd0, hft] at hcut
   have hcut2 : cutP s.data.toList = done ++ [(s.data.toList.drop fr).take (s.size - fr)] := by rw [hcut]; cases q <;> rfl
   have HCUT := Lib.hid hcut2
   clear hcut hcut2 hd0 hft
   go_wp2_with (first | (at_builtin; refine wpList_append_own _ rfl _ _ 68 rfl w.heap.size 9 i0 (.string .empty) 1 16 Tryz.underlying68 hi hz0 hz1 hz2 rfl (by decide) _ _ _ rfl (OWN.out.alloc _) ⟨wr.heap.size, 0, none⟩ 1 1 (strV [(s.data.toList.drop fr).take (s.size - fr)]) rfl rfl ?news (strV_one _) (by unfold maxLen; omega) (by omega) (by have := HBR.out.size; simp at *; omega) ?_; rotate_left; (case news => exact new_str wr _ rfl _ _); intro v' w4 hown' hgrow3 hnil3) | fail)
   have hb4 : Below w.heap.size w w4 := Below.grown (btrans HBR.out (balloc _ _)) hgrow3 (by have := HBR.out.size; simp at *; omega) (fun q hq => (OWN.out.lt q hq).1)
   have hown2 : w4.ownsRow w.heap.size 9 1 v' (cutP s.data.toList).length (strV (cutP s.data.toList)) := by
    rw [HCUT.out, List.length_append, strV_app]
    exact hown'
   obtain ⟨b0, cp, rfl, hst, hbl⟩ := own_strs hown2
   go_ret
   first | exact ⟨⟨b0, cp, rfl, hst, hbl⟩, hb4⟩ | exact ⟨⟨b0, ⟨cp, rfl⟩, hst, hbl⟩, hb4⟩
end Go.Proofs.YtnccpddjdgndcaaGreatDoor.Pa
end

section
/- PLAIN LAW OF EVENTS: attributes that rise by their names, what the search finds among them, what New makes. No program in sight. -/
namespace Go.Proofs.YtnccpddjdgndcaaGreatDoor.Val
open Flt
theorem cb_anti (a b : List UInt8) : (Lib.compareBytes a b < 0 ↔ 0 < Lib.compareBytes b a) ∧ (Lib.compareBytes a b = 0 ↔ Lib.compareBytes b a = 0) := by
 have h1 := cb_ord a b a
 have h2 := cb_ord b a b
 rw [(cb_zero a a).2 rfl] at h1
 rw [(cb_zero b b).2 rfl] at h2
 have h3 := cb_zero a b
 have h4 := cb_zero b a
 unfold Ord3 at h1 h2
 refine ⟨by omega, ?_⟩
 rw [h3, h4]; exact eq_comm
theorem cb_trans {a b c : List UInt8} (h1 : Lib.compareBytes a b < 0) (h2 : Lib.compareBytes b c < 0) : Lib.compareBytes a c < 0 := (cb_lt a b c).1 h1 h2
theorem cb_irr (a : List UInt8) : ¬ Lib.compareBytes a a < 0 := by rw [(cb_zero a a).2 rfl]; decide
theorem name_ne {x y : A} (h : Lib.compareBytes x.name y.name < 0) : x.name ≠ y.name := fun e => by rw [e] at h; exact cb_irr _ h
end Go.Proofs.YtnccpddjdgndcaaGreatDoor.Val
end

section
/- THE WALK OF event.New. -/
namespace Go.Proofs.YtnccpddjdgndcaaGreatDoor.Val
open Go.RowKit Flt
def BoxA (W : World) (b : Nat) (a : A) : Prop :=
 W.cell? ⟨b, 0, none⟩ = some (.string ⟨a.name.toArray⟩) ∧ W.cell? ⟨b, 1, none⟩ = some (.int .i64 a.val.kind) ∧ W.cell? ⟨b, 2, none⟩ = some (.int .i64 a.val.int) ∧ W.cell? ⟨b, 3, none⟩ = some (.float .f64 a.val.num) ∧ W.cell? ⟨b, 4, none⟩ = some (.string ⟨a.val.text.toArray⟩) ∧ W.cell? ⟨b, 5, none⟩ = some (.bool a.val.yes)
theorem BoxA.below {W W2 : World} {b : Nat} {a : A} (h : BoxA W b a) (hb : Below W.heap.size W W2) : BoxA W2 b a := by
 obtain ⟨h0, h1, h2, h3, h4, h5⟩ := h
 exact ⟨(hb.cell (World.block_lt_of_cell? _ _ h0)).trans h0, (hb.cell (World.block_lt_of_cell? _ _ h1)).trans h1, (hb.cell (World.block_lt_of_cell? _ _ h2)).trans h2, (hb.cell (World.block_lt_of_cell? _ _ h3)).trans h3, (hb.cell (World.block_lt_of_cell? _ _ h4)).trans h4, (hb.cell (World.block_lt_of_cell? _ _ h5)).trans h5⟩
attribute [local go_sem] run_store_flt
end Go.Proofs.YtnccpddjdgndcaaGreatDoor.Val
end

section
/- THE WALK OF the fit of chapter 03's laws. -/
namespace Go.Proofs.YtnccpddjdgndcaaGreatDoor.Val
open Go.RowKit Flt
attribute [local go_sem] run_store_flt
end Go.Proofs.YtnccpddjdgndcaaGreatDoor.Val
end

section
/- THE WALK OF light of chapter 03's laws; of a name the last attribute. -/
namespace Go.Proofs.YtnccpddjdgndcaaGreatDoor.Val
open Go.RowKit Flt
attribute [local go_sem] run_store_flt
end Go.Proofs.YtnccpddjdgndcaaGreatDoor.Val
end

section
/- THE WALK OF event.Same. -/
namespace Go.Proofs.YtnccpddjdgndcaaGreatDoor.Val
open Go.RowKit Flt
attribute [local go_sem] run_store_flt
end Go.Proofs.YtnccpddjdgndcaaGreatDoor.Val
end

section
/- THE WALKS OF event.kept and event.Right. -/
namespace Go.Proofs.YtnccpddjdgndcaaGreatDoor.Val
open Go.RowKit Flt
attribute [local go_sem] run_store_flt Ord.ford_eq
theorem run_equalIn_flt {P : Program} (w : World) (d : Nat) (t : TypeId) (a b : Nat) (h : P.underlying t = some (.float .f64)) : (Op.equalIn (d + 1) t (.float .f64 a) (.float .f64 b)).run P w = .ok (Flt.eq a b) w := by
 simp [Op.equalIn, run_underlying h, Op.floatEq, Ord.ford_eq]
theorem eqF (a b : Nat) (w : World) : (Op.equalIn 9999 23 (.float .f64 a) (.float .f64 b)).run Tryz.prog w = .ok (Flt.eq a b) w := run_equalIn_flt w 9998 _ a b Tryz.underlying23
attribute [local go_sem] eqF
end Go.Proofs.YtnccpddjdgndcaaGreatDoor.Val
end

section
/- THE WALK OF event.Right. -/
namespace Go.Proofs.YtnccpddjdgndcaaGreatDoor.Val
open Go.RowKit Flt
attribute [local go_sem] run_store_flt
end Go.Proofs.YtnccpddjdgndcaaGreatDoor.Val
end

section
/- PLAIN LAW OF FILTERS: what covers what, what does; the attributes of the laws' events. No walk. -/
namespace Go.Proofs.YtnccpddjdgndcaaGreatDoor.Val
open Flt
def fRight (sc : List UInt8) (l : List C) : Bool := l.all cRight && (Sc.rightB sc && decide (l.length ≤ 6))
end Go.Proofs.YtnccpddjdgndcaaGreatDoor.Val
end

section
/- THE CONTRACTS OF scope.Right and scope.Under, at lists. -/
namespace Go.Proofs.YtnccpddjdgndcaaGreatDoor.Sc
open Go.RowKit
theorem right_l (x : List UInt8) (w : World) (h : x.length ≤ 140737488351232) :
  Calls Tryz.prog 44 #[.string ⟨x.toArray⟩] w fun e w' => e = .returned (.bool (rightB x)) ∧ Drawn w w' :=
 right_any ⟨x.toArray⟩ w (by show x.length ≤ _; unfold maxLen; omega) (by show x.length < _; omega)
end Go.Proofs.YtnccpddjdgndcaaGreatDoor.Sc
end

section
/- THE WALKS OF package filter: ContainsFunc at conditions, Void, Match, Right, Covers. -/
namespace Go.Proofs.YtnccpddjdgndcaaGreatDoor.Val
open Go.RowKit Flt
attribute [local go_sem] run_store_flt
theorem all_take_succ' (p : C → Bool) (l : List C) (k : Nat) (h : k < l.length) : (l.take (k + 1)).all p = ((l.take k).all p && p l[k]) := by
 rw [List.take_succ_eq_append_getElem h]; simp only [List.all_append, List.all_cons, List.all_nil, Bool.and_true]
theorem all_miss (p : C → Bool) (l : List C) (k : Nat) (h : k < l.length) (hk : p l[k] = false) : l.all p = false := by
 rw [Bool.eq_false_iff]; intro ha
 have := List.all_eq_true.1 ha l[k] (List.getElem_mem h)
 rw [hk] at this; cases this
def Box2 (w : World) (b : Nat) (s : List UInt8) (a0 : Option Addr) (n cap : Nat) : Prop := w.cell? ⟨b, 0, none⟩ = some (.string ⟨s.toArray⟩) ∧ w.cell? ⟨b, 1, none⟩ = some (.slice a0 n cap)
theorem Box2.below {w w2 : World} {b : Nat} {s : List UInt8} {a0 : Option Addr} {n cap : Nat} (h : Box2 w b s a0 n cap) (hb : Below w.heap.size w w2) : Box2 w2 b s a0 n cap :=
 ⟨(hb.cell (World.block_lt_of_cell? _ _ h.1)).trans h.1, (hb.cell (World.block_lt_of_cell? _ _ h.2)).trans h.2⟩
theorem box2_new (w : World) (s : List UInt8) (a0 : Option Addr) (n cap : Nat) (T : TypeId) : Box2 (w.alloc (.cells #[.string ⟨s.toArray⟩, .slice a0 n cap] T)) w.heap.size s a0 n cap := by
 have c : ∀ o, (w.alloc (.cells #[.string ⟨s.toArray⟩, .slice a0 n cap] T)).cell? ⟨w.heap.size, o, none⟩ = #[.string ⟨s.toArray⟩, .slice a0 n cap][o]? := fun o => World.cell?_alloc_at _ _ _ _ rfl
 exact ⟨c 0, c 1⟩
theorem Box2.lt {w : World} {b : Nat} {s : List UInt8} {a0 : Option Addr} {n cap : Nat} (h : Box2 w b s a0 n cap) : b < w.heap.size := World.block_lt_of_cell? _ _ h.1
end Go.Proofs.YtnccpddjdgndcaaGreatDoor.Val
end

section
/- THE WALKS OF filter.Match, filter.Right, filter.Covers. -/
namespace Go.Proofs.YtnccpddjdgndcaaGreatDoor.Val
open Go.RowKit Flt
attribute [local go_sem] run_store_flt
set_option maxHeartbeats 2000000 in
theorem fright_any (sf : List UInt8) (a0 : Option Addr) (cap : Nat) (l : List C) (w : World) (hl : Conds w a0 l) (hlm : l.length ≤ 1000000)
  (hsf : sf.length ≤ 140737488351232) (hok : ∀ c ∈ l, c.name.length ≤ 140737488351232 ∧ c.val.text.length ≤ 140737488351232) :
  Calls Tryz.prog 21 #[ev sf a0 l.length cap] w fun e w' => e = .returned (.bool (fRight sf l)) ∧ Below w.heap.size w w' := by
 have hrt (W : World) := Sc.right_l sf W hsf
 have hr : fRight sf l = (l.all cRight && (Sc.rightB sf && decide (l.length ≤ 6))) := rfl
 have HL := Lib.hid hl; have HRT := Lib.hid hrt; have HR := Lib.hid hr; have HOK := Lib.hid hok
 clear hl hrt hr hsf hok
 generalize Sc.rightB sf = U at *
 generalize fRight sf l = R at *
 go_enter Tryz.func21, Tryz.ntmps21
 go_wp2_with fail
 have hx1 := box2_new w sf a0 l.length cap 35
 have hbw := balloc w (.cells #[.string ⟨sf.toArray⟩, .slice a0 l.length cap] 35)
 have HX1 := Lib.hid hx1; have HBW := Lib.hid hbw
 clear hx1 hbw
 generalize w.alloc _ = W0 at *
 go_loopw [8] (fun vi wr => ∃ k : Nat, k ≤ l.length ∧ vi = .int .i64 k ∧ Hid ((l.take k).all cRight = true) ∧ Below W0.heap.size W0 wr) (fun vi _ => l.length - (intOf vi).toNat)
 case atStart => exact ⟨0, Nat.zero_le _, rfl, Lib.hid rfl, Below.refl _ _⟩
 case round =>
  obtain ⟨k, hk, rfl, HP, hbr⟩ := hrel
  have hbz := btrans HBW.out hbr
  have hy1 := HX1.out.below hbr
  have hs1 := hy1.lt
  obtain ⟨f0, f1⟩ := hy1
  have HBZ := Lib.hid hbz; have HBR := Lib.hid hbr
  clear hbz hbr
  by_cases hlt : k < l.length
  ·have i1 : (k : Int) < (l.length : Int) := by omega
   have i0 : (0 : Int) ≤ (k : Int) := by omega
   have hts := all_take_succ' cRight l k hlt
   have hno := all_miss cRight l k hlt
   rw [HP.out, Bool.true_and] at hts
   have hx := HOK.out _ (List.getElem_mem hlt)
   obtain ⟨a, rfl, v0, v1, v2, v3, v4, v5, v6⟩ := (HL.out.below HBZ.out) k hlt
   have hmc (W : World) : Calls Tryz.prog 43 #[cc l[k]] W fun e w' => e = .returned (.bool (cRight l[k])) ∧ Below W.heap.size W w' := cright_any _ _ _ _ _ _ _ W hx.1 hx.2
   clear hx
   generalize cRight l[k] = M at *
   have HTS := Lib.hid hts; have HNO := Lib.hid hno; have HMC := Lib.hid hmc
   clear hts hno hmc HP
   cases M
   ·go_wp2_with (go_at_call 43; refine (HMC.out _).mono ?_; rintro e w5 ⟨rfl, hb5⟩)
    go_ret
    exact ⟨ret_bool (by rw [HR.out, HNO.out (by trivial)]; rfl), btrans (btrans HBZ.out (balloc _ _)) hb5⟩
   ·go_wp2_with (go_at_call 43; refine (HMC.out _).mono ?_; rintro e w5 ⟨rfl, hb5⟩)
    exact ⟨⟨k + 1, by omega, by go_num, Lib.hid HTS.out, btrans (btrans HBR.out (balloc _ _)) hb5⟩, by simp [intOf]; go_num⟩
  ·obtain rfl : k = l.length := by omega
   have hP := HP.out
   rw [List.take_length] at hP
   have HQ := Lib.hid hP; clear hP
   cases U
   ·go_wp2_with (go_at_call 44; refine (HRT.out _).mono ?_; rintro e w5 ⟨rfl, ⟨nd, rfl⟩⟩)
    go_ret
    exact ⟨ret_bool (by rw [HR.out, HQ.out]; rfl), bdrewN HBZ.out _⟩
   ·go_wp2_with (go_at_call 44; refine (HRT.out _).mono ?_; rintro e w5 ⟨rfl, ⟨nd, rfl⟩⟩)
    go_ret
    exact ⟨ret_bool (by rw [HR.out, HQ.out, Bool.true_and, Bool.true_and, Bool.eq_iff_iff]; simp; omega), bdrewN HBZ.out _⟩
end Go.Proofs.YtnccpddjdgndcaaGreatDoor.Val
end

section
/- THE WALK OF parse.Filter: a filter of a text whose pieces are conditions. -/
namespace Go.Proofs.YtnccpddjdgndcaaGreatDoor.Pa
open Go.RowKit Flt Go.Proofs.YtnccpddjdgndcaaGreatDoor.Val
attribute [local go_sem] run_store_flt
structure NK (b : Nat) (W W2 : World) : Prop where
 os : W2.os = W.os
 tape : W2.tape = W.tape
 output : W2.output = W.output
 size : W.heap.size ≤ W2.heap.size
 block : ∀ p, p < W.heap.size → p ≠ b → W2.heap[p]? = W.heap[p]?
theorem NK.refl (b : Nat) (W : World) : NK b W W := ⟨rfl, rfl, rfl, Nat.le_refl _, fun _ _ _ => rfl⟩
theorem NK.trans {b : Nat} {W W2 W3 : World} (h : NK b W W2) (k : NK b W2 W3) : NK b W W3 :=
 ⟨k.os.trans h.os, k.tape.trans h.tape, k.output.trans h.output, Nat.le_trans h.size k.size, fun p hp hne => (k.block p (Nat.lt_of_lt_of_le hp h.size) hne).trans (h.block p hp hne)⟩
theorem nk_set (b o : Nat) (W : World) (v : Value) : NK b W (W.setCell ⟨b, o, none⟩ v) := ⟨rfl, rfl, rfl, by simp, fun p _ hne => Below.heap_setCell _ _ _ _ hne⟩
theorem NK.low {b B : Nat} {W W2 : World} (h : NK b W W2) (hB : B ≤ b) (hs : B ≤ W.heap.size) : Below B W W2 := ⟨h.os, h.tape, h.output, h.size, fun p hp => h.block p (by omega) (by omega)⟩
theorem NK.cell {b : Nat} {W W2 : World} (h : NK b W W2) {p : Addr} (h1 : p.block < W.heap.size) (h2 : p.block ≠ b) : W2.cell? p = W.cell? p := World.cell?_of_block (w := W) (h.block _ h1 h2)
theorem NK.frozen {b : Nat} {W W2 : World} (h : NK b W W2) {p : Addr} (h1 : p.block < W.heap.size) (h2 : p.block ≠ b) : W2.frozen? p = W.frozen? p := World.frozen?_of_block (w := W) (h.block _ h1 h2)
theorem Strs.nk {W W2 : World} {b : Nat} {b0 : Option Addr} {l : List (List UInt8)} (h : Strs W b0 l) (hk : NK b W W2) (hb : ∀ a, b0 = some a → a.block ≠ b) : Strs W2 b0 l := fun i hi => by
 obtain ⟨a, e, h2⟩ := h i hi
 have hab : (a.add i).block = a.block := by unfold Addr.add; split <;> rfl
 exact ⟨a, e, (hk.cell (World.block_lt_of_cell? _ _ h2) (by rw [hab]; exact hb a e)).trans h2⟩
theorem nk_grown {b : Nat} {w6 wr w3 w4 : World} {v : Value} (hk : NK b w6 wr) (hb : Below wr.heap.size wr w3) (hg : w3.grownBy w4 v.ownBlock) (ho : ∀ q, v.ownBlock = some q → w6.heap.size ≤ q ∧ q < wr.heap.size) : NK b w6 w4 :=
 ⟨hg.os.trans (hb.os.trans hk.os), hg.tape.trans (hb.tape.trans hk.tape), hg.output.trans (hb.output.trans hk.output), Nat.le_trans hk.size (Nat.le_trans hb.size hg.size), fun p hp hne => by
  have h1 : p < wr.heap.size := Nat.lt_of_lt_of_le hp hk.size
  refine (hg.block p (Nat.lt_of_lt_of_le h1 hb.size) (fun e => ?_)).trans ((hb.block p h1).trans (hk.block p hp hne))
  have := (ho p e.symm).1
  omega⟩
theorem conds_kp {W W2 : World} {a0 : Option Addr} {l : List C} (h : Conds W a0 l) (hk : ∀ a, a0 = some a → ∀ p : Addr, p.block = a.block → p.block < W.heap.size → W2.cell? p = W.cell? p) : Conds W2 a0 l := by
 intro i hi
 obtain ⟨a, e, h0, h1, h2, h3, h4, h5, h6⟩ := h i hi
 have hab : (a.add (i * 7)).block = a.block := by unfold Addr.add; split <;> rfl
 have k := fun {p : Addr} {v : Value} (hp : p.block = a.block) (hc : W.cell? p = some v) => (hk a e p hp (World.block_lt_of_cell? _ _ hc)).trans hc
 exact ⟨a, e, k hab h0, k hab h1, k hab h2, k hab h3, k hab h4, k hab h5, k hab h6⟩
theorem set2_at (W : World) (b : Nat) (u0 u1 : Value) {v0 v1 : Value} (h0 : W.cell? ⟨b, 0, none⟩ = some v0) (h1 : W.cell? ⟨b, 1, none⟩ = some v1) :
  ((W.setCell ⟨b, 0, none⟩ u0).setCell ⟨b, 1, none⟩ u1).cell? ⟨b, 0, none⟩ = some u0 ∧ ((W.setCell ⟨b, 0, none⟩ u0).setCell ⟨b, 1, none⟩ u1).cell? ⟨b, 1, none⟩ = some u1 ∧ Below b W ((W.setCell ⟨b, 0, none⟩ u0).setCell ⟨b, 1, none⟩ u1) := by
 refine ⟨(World.cell?_setCell_other _ _ _ _ (by simp)).trans (World.cell?_setCell_same _ _ _ h0), World.cell?_setCell_same _ _ _ ((World.cell?_setCell_other _ _ _ _ (by simp)).trans h1), ((Below.refl b W).setCell (Nat.le_refl _) _).setCell (Nat.le_refl _) _⟩
theorem fil_start (w : World) (n m : Nat) (ts : List UInt8) {T1 T2 : TypeId} {W : World} (h : W = ((((w.alloc (.cells #[.string ⟨#[]⟩, .slice none 0 0] T1)).drewN n).alloc (.cells #[.string ⟨ts.toArray⟩, .slice none 0 0] T2)).drewN m)) :
  (W.cell? ⟨w.heap.size, 0, none⟩ = some (.string ⟨#[]⟩) ∧ W.cell? ⟨w.heap.size, 1, none⟩ = some (.slice none 0 0) ∧ (∀ o, W.frozen? ⟨w.heap.size, o, none⟩ = false)) ∧ (W.cell? ⟨w.heap.size + 1, 0, none⟩ = some (.string ⟨ts.toArray⟩) ∧ W.cell? ⟨w.heap.size + 1, 1, none⟩ = some (.slice none 0 0) ∧ (∀ o, W.frozen? ⟨w.heap.size + 1, o, none⟩ = false)) ∧ W.heap.size = w.heap.size + 2 ∧ Below w.heap.size w W := by
 have hb : Below w.heap.size w W := by rw [h]; exact bdrewN (btrans (bdrewN (balloc _ _) _) (balloc _ _)) _
 subst h
 refine ⟨⟨?_, ?_, fun o => ?_⟩, ⟨?_, ?_, fun o => ?_⟩, ?_, hb⟩ <;> simp [go_sem]
def Made (sc : List UInt8) (cs : List C) (e : Ending) (w' : World) : Prop :=
 if 6 < cs.length then e = .returned (.tuple #[ev [] none 0 0, .int .i64 2]) else if fRight sc cs = true then ∃ b0 cp, e = .returned (.tuple #[ev sc b0 cs.length cp, .int .i64 0]) ∧ Conds w' b0 cs else e = .returned (.tuple #[ev [] none 0 0, .int .i64 1])
set_option maxRecDepth 20000 in
set_option maxHeartbeats 4000000 in
theorem pfilter_any (sc rest : List UInt8) (cs : List C) (w : World) (h58 : 58 ∉ sc) (hl : sc.length + rest.length + 1 ≤ 100000) (hne : trimP rest ≠ []) (hlen : (cutP rest).length = cs.length) (hc20 : cs.length ≤ 100000) (htl : (trimP sc).length ≤ 100000)
  (hone : ∀ i (h : i < cs.length) W, Below w.heap.size w W → Calls Tryz.prog 42 #[.string ⟨((cutP rest)[i]'(by omega)).toArray⟩] W fun e w' => e = .returned (.tuple #[cc cs[i], .bool true]) ∧ Below W.heap.size W w')
  (hok : ∀ x ∈ cs, x.name.length ≤ 140737488351232 ∧ x.val.text.length ≤ 140737488351232) :
  Calls Tryz.prog 18 #[.string ⟨(sc ++ 58 :: rest).toArray⟩] w fun e w' => Made (trimP sc) cs e w' ∧ Below w.heap.size w w' := by
 obtain ⟨i0, hi, hz0, hz1, hz2⟩ := info_parts info_cond
 have hcu := fun W => pcut_some 58 sc rest W h58 (by unfold maxLen; omega)
 have ht1 := fun W => ptrim_any sc W (by unfold maxLen; omega)
 have ht2 := fun W => ptrim_any rest W (by unfold maxLen; omega)
 have hpi := fun W => pieces_any ⟨rest.toArray⟩ W (by show rest.toArray.size ≤ _; simp; omega)
 have hpi2 : ∀ W, Calls Tryz.prog 41 #[.string ⟨rest.toArray⟩] W fun e w' => (∃ b0 cap, e = .returned (.slice b0 cs.length cap) ∧ Strs w' b0 (cutP rest) ∧ ∀ a, b0 = some a → W.heap.size ≤ a.block) ∧ Below W.heap.size W w' := fun W => by
  have h := hpi W
  rw [show (⟨rest.toArray⟩ : ByteArray).data.toList = rest from rfl, hlen] at h
  exact h
 have e0 : (trimP rest == []) = false := by simpa using hne
 have e1 : (trimP rest != []) = true := by simpa using hne
 generalize htr : trimP rest = tr at *
 generalize hts : trimP sc = ts at *
 have HCU := Lib.hid hcu; have HT1 := Lib.hid ht1; have HT2 := Lib.hid ht2; have HPI := Lib.hid hpi2; have HONE := Lib.hid hone; have HOK := Lib.hid hok
 clear hcu ht1 ht2 hpi hpi2 hone hok h58 htr hts hl
 go_enter Tryz.func18, Tryz.ntmps18
 go_upto_region 7 with (first | (go_at_call 39; (with_reducible refine (HCU.out _).mono ?_); rintro e w1 ⟨rfl, n1, rfl⟩) | (go_at_call 40; (with_reducible refine (HT1.out _).mono ?_); rintro e w1 ⟨rfl, n2, rfl⟩) | (go_at_call 40; (with_reducible refine (HT2.out _).mono ?_); rintro e w1 ⟨rfl, n3, rfl⟩) | (go_at_call 41; (with_reducible refine (HPI.out _).mono ?_); rintro e w6 ⟨⟨b0, cap, rfl, hst, hbl⟩, hb6⟩) | fail)
 obtain ⟨W5, hW5⟩ : ∃ W5, W5 = ((((w.alloc (.cells #[.string ⟨#[]⟩, .slice none 0 0] 35)).drewN (n1 + n2)).alloc (.cells #[.string ⟨ts.toArray⟩, .slice none 0 0] 35)).drewN n3) := ⟨_, rfl⟩
 obtain ⟨⟨r0, r1, rz⟩, ⟨f0, f1, fz⟩, hs5, hb5⟩ := fil_start w (n1 + n2) n3 ts hW5
 rw [← hW5] at hb6 hbl
 have hb56 : Below w.heap.size w w6 := hb5.trans (hb6.mono (by omega))
 have hs6 := hb6.size
 have hpr : w.heap.size < W5.heap.size := by omega
 have hpf : w.heap.size + 1 < W5.heap.size := by omega
 have HR := Lib.hid (show w6.cell? ⟨w.heap.size, 0, none⟩ = some (.string ⟨#[]⟩) ∧ w6.cell? ⟨w.heap.size, 1, none⟩ = some (.slice none 0 0) ∧ ∀ o, w6.frozen? ⟨w.heap.size, o, none⟩ = false from ⟨(hb6.cell (p := ⟨w.heap.size, 0, none⟩) hpr).trans r0, (hb6.cell (p := ⟨w.heap.size, 1, none⟩) hpr).trans r1, fun o => (hb6.frozen (p := ⟨w.heap.size, o, none⟩) hpr).trans (rz o)⟩)
 have g0 := (hb6.cell (p := ⟨w.heap.size + 1, 0, none⟩) hpf).trans f0
 have g1 := (hb6.cell (p := ⟨w.heap.size + 1, 1, none⟩) hpf).trans f1
 have gz := (hb6.frozen (p := ⟨w.heap.size + 1, 1, none⟩) hpf).trans (fz 1)
 have hbl2 : ∀ a, b0 = some a → a.block ≠ w.heap.size + 1 := fun a e => by have := hbl a e; omega
 have hbase : w.heap.size + 1 < w6.heap.size := by omega
 have HST := Lib.hid hst; have HBL := Lib.hid hbl2; have HB56 := Lib.hid hb56
 clear hst hbl hbl2 hb5 hb6 hb56 r0 r1 rz f0 f1 fz hs5 hs6 hpr hpf hW5
 go_loopw [30] (fun vi wr => ∃ (k : Nat) (v : Value), k ≤ cs.length ∧ vi = .int .i64 k ∧ wr.cell? ⟨w.heap.size + 1, 0, none⟩ = some (.string ⟨ts.toArray⟩) ∧ wr.cell? ⟨w.heap.size + 1, 1, none⟩ = some v ∧ wr.frozen? ⟨w.heap.size + 1, 1, none⟩ = false ∧ wr.ownsRow w6.heap.size 41 7 v (cs.take k).length (flatC (cs.take k)) ∧ NK (w.heap.size + 1) w6 wr) (fun vi _ => cs.length - (intOf vi).toNat)
 case atStart => exact ⟨0, .slice none 0 0, Nat.zero_le _, rfl, g0, g1, gz, World.ownsRow_nil _ _ _ _, NK.refl _ _⟩
 case round =>
  obtain ⟨k, v, hk, rfl, o0, o1, ofz, hown, hnk⟩ := hrel
  clear g0 g1 gz
  have hpfr : w.heap.size + 1 < wr.heap.size := Nat.lt_of_lt_of_le hbase hnk.size
  have hbw : Below w.heap.size w wr := HB56.out.trans (hnk.low (by omega) (by omega))
  have OWN := Lib.hid hown; have HNK := Lib.hid hnk; have HBW := Lib.hid hbw
  have hnks := hnk.size
  clear hown hnk hbw
  by_cases hlt : k < cs.length
  ·have i1 : (k : Int) < (cs.length : Int) := by omega
   have i2 : (0 : Int) ≤ (k : Int) := by omega
   obtain ⟨a, rfl, hpc⟩ := (HST.out.nk HNK.out HBL.out) k (by omega)
   have hn := fun W => HONE.out k hlt W
   have hstep : cs.take (k + 1) = cs.take k ++ [cs[k]] := List.take_succ_eq_append_getElem hlt
   have htk : (cs.take k).length = k := by rw [List.length_take]; omega
   generalize (cutP rest)[k]'(by omega) = pc at *
   generalize cs[k] = c at *
   have HN := Lib.hid hn; have HSTEP := Lib.hid hstep
   clear hn hstep
   obtain ⟨cn1, cn2, cn3, cn4, cn5, cn6, cn7⟩ := c
   go_wp2_with (first | (go_at_call 42; (refine (HN.out _ HBW.out).mono ?_); rintro e w3 ⟨rfl, hb3⟩; have HB3 := Lib.hid hb3; have OWN3 := Lib.hid (own_low7 OWN.out hb3); have hpf3 : w.heap.size + 1 < w3.heap.size := Nat.lt_of_lt_of_le hpfr hb3.size; have q1 := (hb3.cell (p := ⟨w.heap.size + 1, 1, none⟩) hpfr).trans o1; have qz := (hb3.frozen (p := ⟨w.heap.size + 1, 1, none⟩) hpfr).trans ofz; clear hb3) | (at_builtin; refine wpList_append_own _ rfl _ _ 33 rfl w6.heap.size 41 i0 (.agg #[.string .empty, .int .i64 0, .int .i64 0, .int .i64 0, .float .f64 0, .string .empty, .bool false]) 7 72 Tryz.underlying33 hi hz0 hz1 hz2 rfl (by decide) v _ _ rfl ((OWN3.out.alloc _).alloc _) ⟨w3.heap.size + 1, 0, none⟩ 1 1 (flatC [⟨cn1, cn2, cn3, cn4, cn5, cn6, cn7⟩]) rfl rfl ?news (flatC_one _) (by unfold maxLen; omega) (by omega) (by have := HB3.out.size; simp at *; omega) ?_; rotate_left; (case news => exact new_cond _ _ (by simp) _ _); intro v' w4 hown' hgrow3 hnil3; have hb7 := btrans HB3.out (balloc2 w3 (.cells #[.string ⟨cn1.toArray⟩, .int .i64 cn2, .int .i64 cn3, .int .i64 cn4, .float .f64 cn5, .string ⟨cn6.toArray⟩, .bool cn7] 41) (.cells #[.string ⟨cn1.toArray⟩, .int .i64 cn2, .int .i64 cn3, .int .i64 cn4, .float .f64 cn5, .string ⟨cn6.toArray⟩, .bool cn7] 41)); have hg1 := hgrow3.block (w.heap.size + 1) (by have := hb7.size; omega) (fun h => by have := (OWN.out.lt _ h.symm).1; omega); have p0 := (World.cell?_of_block (a := ⟨w.heap.size + 1, 0, none⟩) hg1).trans ((hb7.cell (p := ⟨w.heap.size + 1, 0, none⟩) hpfr).trans o0); have p1 := (World.cell?_of_block (a := ⟨w.heap.size + 1, 1, none⟩) hg1).trans ((hb7.cell (p := ⟨w.heap.size + 1, 1, none⟩) hpfr).trans o1); have pfz := (World.frozen?_of_block (a := ⟨w.heap.size + 1, 1, none⟩) hg1).trans ((hb7.frozen (p := ⟨w.heap.size + 1, 1, none⟩) hpfr).trans ofz); have hnk4 : NK (w.heap.size + 1) w6 w4 := nk_grown HNK.out hb7 hgrow3 (fun q hq => OWN.out.lt q hq); have hown2 : w4.ownsRow w6.heap.size 41 7 v' (cs.take k ++ [(⟨cn1, cn2, cn3, cn4, cn5, cn6, cn7⟩ : C)]).length (flatC (cs.take k ++ [(⟨cn1, cn2, cn3, cn4, cn5, cn6, cn7⟩ : C)])) := (by rw [flatC_app, List.length_append]; exact hown'); obtain ⟨b1, cp1, hv1, _⟩ := own_conds hown2; subst hv1; have OWN4 := Lib.hid hown2; have HNK4 := Lib.hid hnk4; clear hown' hown2 hgrow3 hnil3 hb7 hg1 hnk4) | fail)
   have o4 := OWN4.out
   refine ⟨⟨k + 1, _, by omega, by go_num, (World.cell?_setCell_other _ _ _ _ (by simp)).trans p0, World.cell?_setCell_same _ _ _ p1, by rw [World.frozen?_setCell]; exact pfz, ?_, HNK4.out.trans (nk_set _ _ _ _)⟩, by simp [intOf]; go_num⟩
   have el : (cs.take k ++ [(⟨cn1, cn2, cn3, cn4, cn5, cn6, cn7⟩ : C)]).length = k + 1 := by simp [htk]
   rw [HSTEP.out, el]
   rw [el] at o4
   exact ownsRow_setCell_below (a := ⟨w.heap.size + 1, 1, none⟩) o4 hbase _
  ·obtain rfl : k = cs.length := by omega
   have own := OWN.out
   rw [List.take_length] at own
   obtain ⟨b1, cp, rfl, hcs, hbc⟩ := own_conds own
   have hq0 := (HNK.out.cell (p := ⟨w.heap.size, 0, none⟩) (by show w.heap.size < _; omega) (by show w.heap.size ≠ _; omega)).trans HR.out.1
   have hq1 := (HNK.out.cell (p := ⟨w.heap.size, 1, none⟩) (by show w.heap.size < _; omega) (by show w.heap.size ≠ _; omega)).trans HR.out.2.1
   have hqz : ∀ o, wr.frozen? ⟨w.heap.size, o, none⟩ = false := fun o => (HNK.out.frozen (p := ⟨w.heap.size, o, none⟩) (by show w.heap.size < _; omega) (by show w.heap.size ≠ _; omega)).trans (HR.out.2.2 o)
   have hlw : w.heap.size < wr.heap.size := by omega
   have hfr := fright_any ts b1 cp cs wr hcs (by omega) (by omega) HOK.out
   have hm : ∀ e w', Made ts cs e w' = if 6 < cs.length then e = .returned (.tuple #[ev [] none 0 0, .int .i64 2]) else if fRight ts cs = true then ∃ b0 cp, e = .returned (.tuple #[ev ts b0 cs.length cp, .int .i64 0]) ∧ Conds w' b0 cs else e = .returned (.tuple #[ev [] none 0 0, .int .i64 1]) := fun e w' => rfl
   generalize fRight ts cs = FR at *
   have HCS := Lib.hid hcs; have HBC := Lib.hid hbc; have HFR := Lib.hid hfr; have HM := Lib.hid hm
   clear hcs hbc hfr hm own OWN HNK HR HOK HONE HPI HT1 HT2 HCU HST
   by_cases h6 : 6 < cs.length
   ·have d1 : (6 : Int) < (cs.length : Int) := by omega
    go_wp2_with fail
    obtain ⟨c0, c1, hbz⟩ := set2_at wr w.heap.size (.string ⟨#[]⟩) (.slice none 0 0) hq0 hq1
    generalize World.setCell (World.setCell _ _ _) _ _ = Wz at *
    refine bodyPost_ret (v := .tuple #[ev [] none 0 0, .int .i64 2]) (by simp [results, Tryz.results18, go_sem, c0, c1]; try rfl) rfl ?_
    refine ⟨?_, HBW.out.trans hbz⟩
    rw [HM.out, if_pos h6]
   ·have d1 : ¬ (6 : Int) < (cs.length : Int) := by omega
    cases FR
    ·go_wp2_with (first | (go_at_call 21; (with_reducible refine HFR.out.mono ?_); rintro e w7 ⟨rfl, hb7⟩; have q0 := (hb7.cell (p := ⟨w.heap.size, 0, none⟩) hlw).trans hq0; have q1 := (hb7.cell (p := ⟨w.heap.size, 1, none⟩) hlw).trans hq1; have qz := fun o => (hb7.frozen (p := ⟨w.heap.size, o, none⟩) hlw).trans (hqz o)) | fail)
     obtain ⟨c0, c1, hbz⟩ := set2_at w7 w.heap.size (.string ⟨#[]⟩) (.slice none 0 0) q0 q1
     generalize World.setCell (World.setCell _ _ _) _ _ = Wz at *
     refine bodyPost_ret (v := .tuple #[ev [] none 0 0, .int .i64 1]) (by simp [results, Tryz.results18, go_sem, c0, c1]; try rfl) rfl ?_
     refine ⟨?_, (btrans HBW.out hb7).trans hbz⟩
     rw [HM.out, if_neg h6]
     simp
    ·go_wp2_with (first | (go_at_call 21; (with_reducible refine HFR.out.mono ?_); rintro e w7 ⟨rfl, hb7⟩; have q0 := (hb7.cell (p := ⟨w.heap.size, 0, none⟩) hlw).trans hq0; have q1 := (hb7.cell (p := ⟨w.heap.size, 1, none⟩) hlw).trans hq1; have qz := fun o => (hb7.frozen (p := ⟨w.heap.size, o, none⟩) hlw).trans (hqz o); have x0 := (hb7.cell (p := ⟨w.heap.size + 1, 0, none⟩) hpfr).trans o0; have x1 := (hb7.cell (p := ⟨w.heap.size + 1, 1, none⟩) hpfr).trans o1) | fail)
     obtain ⟨c0, c1, hbz⟩ := set2_at w7 w.heap.size (.string ⟨ts.toArray⟩) (.slice b1 cs.length cp) q0 q1
     have hc9 : Conds ((w7.setCell ⟨w.heap.size, 0, none⟩ (.string ⟨ts.toArray⟩)).setCell ⟨w.heap.size, 1, none⟩ (.slice b1 cs.length cp)) b1 cs := conds_kp (HCS.out.below hb7) (fun a e p hp _ => (World.cell?_setCell_other _ _ _ _ (by intro e2; have := HBC.out a e; rw [← e2] at hp; have hp' : w.heap.size = a.block := hp; omega)).trans (World.cell?_setCell_other _ _ _ _ (by intro e2; have := HBC.out a e; rw [← e2] at hp; have hp' : w.heap.size = a.block := hp; omega)))
     generalize World.setCell (World.setCell _ _ _) _ _ = Wz at *
     refine bodyPost_ret (v := .tuple #[ev ts b1 cs.length cp, .int .i64 0]) (by simp [results, Tryz.results18, go_sem, c0, c1]; try rfl) rfl ?_
     refine ⟨?_, (btrans HBW.out hb7).trans hbz⟩
     rw [HM.out, if_neg h6]
     simp only [if_true]
     exact ⟨b1, cp, rfl, hc9⟩
end Go.Proofs.YtnccpddjdgndcaaGreatDoor.Pa
end

section
/- THE WALK OF filter.Print, over whatever cond.Print writes. -/
namespace Go.Proofs.YtnccpddjdgndcaaGreatDoor.Val
open Go.RowKit Flt
attribute [local go_sem] run_store_flt
def fprK (sc : List UInt8) (l : List C) (pr : C → List UInt8) : Nat → List UInt8
 | 0 => sc ++ [58]
 | k + 1 => (fprK sc l pr k ++ (if k = 0 then [] else [32, 38])) ++ ([32] ++ pr l[k]!)
theorem fprK_len (sc : List UInt8) (l : List C) (pr : C → List UInt8) (B : Nat) (k : Nat) (h : ∀ i, i < k → (pr l[i]!).length ≤ B) : (fprK sc l pr k).length ≤ sc.length + 1 + k * (B + 3) := by
 induction k with
 | zero => simp [fprK]
 | succ k ih =>
  have h1 := ih (fun i hi => h i (by omega))
  have h2 := h k (by omega)
  unfold fprK
  simp only [List.length_append, List.length_cons, List.length_nil]
  have h3 : (if k = 0 then ([] : List UInt8) else [32, 38]).length ≤ 2 := by split <;> simp
  rw [Nat.succ_mul]
  omega
set_option maxHeartbeats 2000000 in
theorem fprint_any (sf : List UInt8) (a0 : Option Addr) (cap : Nat) (l : List C) (pr : C → List UInt8) (w : World) (hw : Words w) (hl : Conds w a0 l) (hlm : l.length ≤ 20) (hsf : sf.length ≤ 1000000) (hpl : ∀ c ∈ l, (pr c).length ≤ 100000)
  (hp : ∀ c ∈ l, ∀ W, Words W → Below w.heap.size w W → Calls Tryz.prog 25 #[cc c] W fun e w' => e = .returned (.string ⟨(pr c).toArray⟩) ∧ Below W.heap.size W w') :
  Calls Tryz.prog 20 #[ev sf a0 l.length cap] w fun e w' => e = .returned (.string ⟨(fprK sf l pr l.length).toArray⟩) ∧ Below w.heap.size w w' := by
 have hfl (k : Nat) (h : k ≤ l.length) : (fprK sf l pr k).length ≤ 3000100 := by
  have := fprK_len sf l pr 100000 k (fun i hi => by
   rw [getElem!_pos l i (by omega)]; exact hpl _ (List.getElem_mem _))
  have h2 : k * 100003 ≤ 20 * 100003 := Nat.mul_le_mul_right _ (by omega)
  omega
 have h0 : fprK sf l pr 0 = sf ++ [58] := rfl
 have hst (k : Nat) (h : k < l.length) : fprK sf l pr (k + 1) = (fprK sf l pr k ++ (if k = 0 then [] else [32, 38])) ++ ([32] ++ pr l[k]) := by
  conv => lhs; unfold fprK
  rw [getElem!_pos l k h]
 have HL := Lib.hid hl; have HP := Lib.hid hp; have HW := Lib.hid hw; have HFL := Lib.hid hfl; have HST := Lib.hid hst; have HPL := Lib.hid hpl
 clear hl hp hw hfl hst hpl
 generalize hF : fprK sf l pr = F at *
 have r1 : ∀ w, (Op.stringOp .add ⟨sf.toArray⟩ ⟨#[58]⟩).run Tryz.prog w = .ok (.string ⟨(F 0).toArray⟩) w := fun w => by rw [h0]; exact run_string_add_lists w sf [58] (by omega) (by simp)
 clear hF h0
 go_enter Tryz.func20, Tryz.ntmps20
 go_wp2_with fail
 have hx1 := box2_new w sf a0 l.length cap 35
 have hbw := balloc w (.cells #[.string ⟨sf.toArray⟩, .slice a0 l.length cap] 35)
 have HX1 := Lib.hid hx1; have HBW := Lib.hid hbw
 clear hx1 hbw r1
 generalize w.alloc _ = W0 at *
 go_loopw [3, 12] (fun vs vi wr => ∃ k : Nat, k ≤ l.length ∧ vs = .string ⟨(F k).toArray⟩ ∧ vi = .int .i64 k ∧ Below W0.heap.size W0 wr) (fun _ vi _ => l.length - (intOf vi).toNat)
 case atStart => exact ⟨0, Nat.zero_le _, rfl, rfl, Below.refl _ _⟩
 case round =>
  obtain ⟨k, hk, rfl, rfl, hbr⟩ := hrel
  have hbz := btrans HBW.out hbr
  have HBZ := Lib.hid hbz; have HBR := Lib.hid hbr
  clear hbz hbr
  by_cases hlt : k < l.length
  ·have i1 : (k : Int) < (l.length : Int) := by omega
   have i0 : (0 : Int) ≤ (k : Int) := by omega
   have hl1 := HFL.out k hk
   have hl2 := HPL.out _ (List.getElem_mem hlt)
   have hs := HST.out k hlt
   obtain ⟨a, rfl, v0, v1, v2, v3, v4, v5, v6⟩ := (HL.out.below HBZ.out) k hlt
   have hpc := HP.out _ (List.getElem_mem hlt)
   generalize hT : F (k + 1) = T at *
   have HT := Lib.hid hT; clear hT
   generalize F k = S at *
   generalize pr l[k] = p at *
   have HPC := Lib.hid hpc
   clear hpc
   obtain ⟨y1, hy1⟩ : ∃ y, y = [32] ++ p := ⟨_, rfl⟩
   have r1 : ∀ w, (Op.stringOp .add ⟨#[32]⟩ ⟨p.toArray⟩).run Tryz.prog w = .ok (.string ⟨y1.toArray⟩) w := fun w => by rw [hy1]; exact run_string_add_lists w [32] p (by simp) (by omega)
   have l1 : y1.length = p.length + 1 := by rw [hy1]; simp
   rw [← hy1] at hs
   by_cases hk0 : k = 0
   ·rw [if_pos hk0, List.append_nil] at hs
    have k0 : ¬ (0 : Int) < (k : Int) := by omega
    clear hk0
    have r2 : ∀ w, (Op.stringOp .add ⟨S.toArray⟩ ⟨y1.toArray⟩).run Tryz.prog w = .ok (.string ⟨T.toArray⟩) w := fun w => by rw [hs]; exact run_string_add_lists w S y1 (by omega) (by omega)
    clear hy1 hs l1
    go_wp2_with (go_at_call 25; refine (HPC.out _ ((HW.out.below HBZ.out).below (balloc _ _)) (btrans HBZ.out (balloc _ _))).mono ?_; rintro e w5 ⟨rfl, hb5⟩)
    exact ⟨⟨k + 1, by omega, by rw [HT.out], by go_num, btrans (btrans HBR.out (balloc _ _)) hb5⟩, by simp [intOf]; go_num⟩
   ·rw [if_neg hk0] at hs
    have k0 : (0 : Int) < (k : Int) := by omega
    obtain ⟨y2, hy2⟩ : ∃ y, y = S ++ [32, 38] := ⟨_, rfl⟩
    have r2 : ∀ w, (Op.stringOp .add ⟨S.toArray⟩ ⟨#[32, 38]⟩).run Tryz.prog w = .ok (.string ⟨y2.toArray⟩) w := fun w => by rw [hy2]; exact run_string_add_lists w S [32, 38] (by omega) (by simp)
    have l2 : y2.length = S.length + 2 := by rw [hy2]; simp
    rw [← hy2] at hs
    have r3 : ∀ w, (Op.stringOp .add ⟨y2.toArray⟩ ⟨y1.toArray⟩).run Tryz.prog w = .ok (.string ⟨T.toArray⟩) w := fun w => by rw [hs]; exact run_string_add_lists w y2 y1 (by omega) (by omega)
    clear hy1 hy2 hs l1 l2
    go_wp2_with (go_at_call 25; refine (HPC.out _ ((HW.out.below HBZ.out).below (balloc _ _)) (btrans HBZ.out (balloc _ _))).mono ?_; rintro e w5 ⟨rfl, hb5⟩)
    exact ⟨⟨k + 1, by omega, by rw [HT.out], by go_num, btrans (btrans HBR.out (balloc _ _)) hb5⟩, by simp [intOf]; go_num⟩
  ·obtain rfl : k = l.length := by omega
   go_wp2
   go_ret
   exact ⟨rfl, HBZ.out⟩
end Go.Proofs.YtnccpddjdgndcaaGreatDoor.Val
end

section
/- THE WALKS OF Light, few and Event of chapter 07's laws. -/
namespace Go.Proofs.YtnccpddjdgndcaaGreatDoor.Val
open Go.RowKit Flt
attribute [local go_sem] run_store_flt
end Go.Proofs.YtnccpddjdgndcaaGreatDoor.Val
end

section
/- A FILTER THAT IS LIGHT. -/
namespace Go.Proofs.YtnccpddjdgndcaaGreatDoor.Val
open Go.RowKit Flt
attribute [local go_sem] run_store_flt
def sumC (l : List C) : Nat := (l.map fun c => c.name.length + c.val.text.length).sum
theorem sumC_step (l : List C) (k : Nat) (h : k < l.length) : sumC (l.take (k + 1)) = sumC (l.take k) + (l[k].name.length + l[k].val.text.length) := by
 unfold sumC
 rw [List.take_succ_eq_append_getElem h, List.map_append, List.sum_append]
 simp
theorem sumC_le (l : List C) (k : Nat) : sumC (l.take k) ≤ sumC l := by
 unfold sumC
 have : l = l.take k ++ l.drop k := (List.take_append_drop k l).symm
 conv => rhs; rw [this, List.map_append, List.sum_append]
 omega
set_option maxHeartbeats 2000000 in
theorem light07_yes (sf : List UInt8) (a0 : Option Addr) (cap : Nat) (l : List C) (w : World) (hl : Conds w a0 l) (hlm : l.length ≤ 20) (hs : sf.length + sumC l ≤ 2000) :
  Calls Tryz.prog 23 #[ev sf a0 l.length cap] w fun e w' => e = .returned (.bool true) ∧ Below w.heap.size w w' := by
 have HL := Lib.hid hl
 clear hl
 go_enter Tryz.func23, Tryz.ntmps23
 go_wp2_with fail
 have hx1 := box2_new w sf a0 l.length cap 35
 have hbw := balloc w (.cells #[.string ⟨sf.toArray⟩, .slice a0 l.length cap] 35)
 have HX1 := Lib.hid hx1; have HBW := Lib.hid hbw
 clear hx1 hbw
 generalize w.alloc _ = W0 at *
 go_loopw [3, 12] (fun vn vi wr => ∃ k : Nat, k ≤ l.length ∧ vn = .int .i64 ((sf.length + sumC (l.take k) : Nat) : Int) ∧ vi = .int .i64 k ∧ Below W0.heap.size W0 wr) (fun _ vi _ => l.length - (intOf vi).toNat)
 case atStart => exact ⟨0, Nat.zero_le _, by simp [sumC], rfl, Below.refl _ _⟩
 case round =>
  obtain ⟨k, hk, rfl, rfl, hbr⟩ := hrel
  have hbz := btrans HBW.out hbr
  have hy1 := HX1.out.below hbr
  have hs1 := hy1.lt
  obtain ⟨f0, f1⟩ := hy1
  have HBZ := Lib.hid hbz; have HBR := Lib.hid hbr
  clear hbz hbr
  by_cases hlt : k < l.length
  ·have i1 : (k : Int) < (l.length : Int) := by omega
   have i0 : (0 : Int) ≤ (k : Int) := by omega
   obtain ⟨a, rfl, v0, v1, v2, v3, v4, v5, v6⟩ := (HL.out.below HBZ.out) k hlt
   have hle := sumC_le l (k + 1)
   have hst := sumC_step l k hlt
   generalize l[k] = x at *
   have n1 : (0 : Int) ≤ (x.name.length : Int) := by omega
   have HST := Lib.hid hst; have HLE := Lib.hid hle
   clear hst hle
   go_wp2_with fail
   refine ⟨⟨k + 1, by omega, ?_, by go_num, btrans HBR.out (balloc _ _)⟩, by simp [intOf]; go_num⟩
   have h1 := HST.out; have h2 := HLE.out
   have hwr : ∀ z : Int, 0 ≤ z → z < 9223372036854775808 → wrap64 z = z := fun z h0 h3 => by unfold wrap64; omega
   rw [hwr ((x.name.length : Int) + (x.val.text.length : Int)) (by omega) (by omega), hwr _ (by omega) (by omega), h1]
   congr 1
   push_cast
   omega
  ·obtain rfl : k = l.length := by omega
   have i2 : ((sf.length + sumC l : Nat) : Int) ≤ 2000 := by omega
   have i3 : (l.length : Int) ≤ 20 := by omega
   rw [List.take_length]
   go_wp2_with fail
   go_ret
   exact ⟨rfl, HBZ.out⟩
end Go.Proofs.YtnccpddjdgndcaaGreatDoor.Val
end

section
/- THE WALK OF gazettelaw08.same, at two filters of one scope and one list of conditions. -/
namespace Go.Proofs.YtnccpddjdgndcaaGreatDoor.Pa
open Go.RowKit Flt Go.Proofs.YtnccpddjdgndcaaGreatDoor.Val
attribute [local go_sem] run_store_flt
theorem same_me (c : V) : sameB c c = true := by
 have h : Ord.same c.num c.num = true := by unfold Ord.same; simp
 unfold sameB
 simp [h]
def Box7 (W : World) (b : Nat) (c : C) : Prop := W.cell? ⟨b, 0, none⟩ = some (.string ⟨c.name.toArray⟩) ∧ W.cell? ⟨b, 1, none⟩ = some (.int .i64 c.op) ∧ W.cell? ⟨b, 2, none⟩ = some (.int .i64 c.val.kind) ∧ W.cell? ⟨b, 3, none⟩ = some (.int .i64 c.val.int) ∧ W.cell? ⟨b, 4, none⟩ = some (.float .f64 c.val.num) ∧ W.cell? ⟨b, 5, none⟩ = some (.string ⟨c.val.text.toArray⟩) ∧ W.cell? ⟨b, 6, none⟩ = some (.bool c.val.yes)
theorem Box7.below {W W2 : World} {b : Nat} {c : C} (h : Box7 W b c) (hb : Below W.heap.size W W2) : Box7 W2 b c := by
 obtain ⟨h0, h1, h2, h3, h4, h5, h6⟩ := h
 have z := World.block_lt_of_cell? _ _ h0
 have e : ∀ o, W2.cell? ⟨b, o, none⟩ = W.cell? ⟨b, o, none⟩ := fun o => hb.cell (p := ⟨b, o, none⟩) z
 exact ⟨(e 0).trans h0, (e 1).trans h1, (e 2).trans h2, (e 3).trans h3, (e 4).trans h4, (e 5).trans h5, (e 6).trans h6⟩
theorem box7_new (w : World) (c : C) : Box7 (w.alloc (.cells #[.string ⟨c.name.toArray⟩, .int .i64 c.op, .int .i64 c.val.kind, .int .i64 c.val.int, .float .f64 c.val.num, .string ⟨c.val.text.toArray⟩, .bool c.val.yes] 41)) w.heap.size c := by
 have e : ∀ o, (w.alloc (.cells #[.string ⟨c.name.toArray⟩, .int .i64 c.op, .int .i64 c.val.kind, .int .i64 c.val.int, .float .f64 c.val.num, .string ⟨c.val.text.toArray⟩, .bool c.val.yes] 41)).cell? ⟨w.heap.size, o, none⟩ = #[Value.string ⟨c.name.toArray⟩, .int .i64 c.op, .int .i64 c.val.kind, .int .i64 c.val.int, .float .f64 c.val.num, .string ⟨c.val.text.toArray⟩, .bool c.val.yes][o]? := fun o => World.cell?_alloc_at _ _ _ _ rfl
 exact ⟨e 0, e 1, e 2, e 3, e 4, e 5, e 6⟩
set_option maxRecDepth 20000 in
set_option maxHeartbeats 2000000 in
theorem same_yes (sf : List UInt8) (a0 b0 : Option Addr) (c1 c2 : Nat) (l : List C) (w : World) (h1 : Conds w a0 l) (h2 : Conds w b0 l) (hlm : l.length ≤ 1000) (hn : ∀ c ∈ l, c.val.num < 18446744073709551616) :
  Calls Tryz.prog 22 #[ev sf a0 l.length c1, ev sf b0 l.length c2] w fun e w' => e = .returned (.bool true) ∧ Below w.heap.size w w' := by
 have H1 := Lib.hid h1; have H2 := Lib.hid h2
 have hsm : ∀ c ∈ l, ∀ W, Calls Tryz.prog 11 #[vv c.val, vv c.val] W fun e w' => e = .returned (.bool true) ∧ Below W.heap.size W w' := fun c hc W => by
  have h := same_any c.val.kind c.val.int c.val.num c.val.text c.val.yes c.val.kind c.val.int c.val.num c.val.text c.val.yes W (hn c hc) (hn c hc)
  have e : sameB ⟨c.val.kind, c.val.int, c.val.num, c.val.text, c.val.yes⟩ ⟨c.val.kind, c.val.int, c.val.num, c.val.text, c.val.yes⟩ = true := same_me _
  rw [e] at h
  exact h
 have HSM := Lib.hid hsm
 clear h1 h2 hn hsm
 go_enter Tryz.func22, Tryz.ntmps22
 go_upto_region 4 with fail
 have hx1 := (box2_new w sf a0 l.length c1 35).below (balloc (w.alloc (.cells #[.string ⟨sf.toArray⟩, .slice a0 l.length c1] 35)) (.cells #[.string ⟨sf.toArray⟩, .slice b0 l.length c2] 35))
 have hx2 := box2_new (w.alloc (.cells #[.string ⟨sf.toArray⟩, .slice a0 l.length c1] 35)) sf b0 l.length c2 35
 have hbw := balloc2 w (.cells #[.string ⟨sf.toArray⟩, .slice a0 l.length c1] 35) (.cells #[.string ⟨sf.toArray⟩, .slice b0 l.length c2] 35)
 have hsz : (w.alloc (.cells #[.string ⟨sf.toArray⟩, .slice a0 l.length c1] 35)).heap.size = w.heap.size + 1 := by simp
 rw [hsz] at hx2
 have HX1 := Lib.hid hx1; have HX2 := Lib.hid hx2; have HBW := Lib.hid hbw
 clear hx1 hx2 hbw hsz
 generalize (w.alloc _).alloc _ = W0 at *
 go_loopw [25] (fun vi wr => ∃ k : Nat, k ≤ l.length ∧ vi = .int .i64 k ∧ Below W0.heap.size W0 wr) (fun vi _ => l.length - (intOf vi).toNat)
 case atStart => exact ⟨0, Nat.zero_le _, rfl, Below.refl _ _⟩
 case round =>
  obtain ⟨k, hk, rfl, hbr⟩ := hrel
  have HBZ := Lib.hid (btrans HBW.out hbr); have HBR := Lib.hid hbr
  have HG := Lib.hid (HX2.out.below hbr)
  clear hbr
  by_cases hlt : k < l.length
  ·have i1 : (k : Int) < (l.length : Int) := by omega
   have i0 : (0 : Int) ≤ (k : Int) := by omega
   obtain ⟨a, rfl, v0, v1, v2, v3, v4, v5, v6⟩ := (H1.out.below HBZ.out) k hlt
   have hs := HSM.out l[k] (List.getElem_mem hlt)
   have hat : Hid (∀ W, Below W0.heap.size W0 W → ∃ b, b0 = some b ∧ CAt W (b.add (k * 7)) l[k]) := Lib.hid fun W hb => (H2.out.below (btrans HBW.out hb)) k hlt
   generalize l[k] = c at *
   have HS := Lib.hid hs
   clear hs
   go_upto_region 6 with fail
   have hb1 := balloc wr (.cells #[.string ⟨c.name.toArray⟩, .int .i64 c.op, .int .i64 c.val.kind, .int .i64 c.val.int, .float .f64 c.val.num, .string ⟨c.val.text.toArray⟩, .bool c.val.yes] 41)
   have hx := box7_new wr c
   have HB1 := Lib.hid (btrans HBR.out hb1)
   obtain ⟨g0, g1⟩ := HG.out.below hb1
   clear hb1 v0 v1 v2 v3 v4 v5 v6
   generalize World.alloc wr _ = W1 at *
   generalize wr.heap.size = p1 at *
   obtain ⟨b, rfl, u0, u1, u2, u3, u4, u5, u6⟩ := hat.out W1 HB1.out
   have HX := Lib.hid hx
   clear hx hat
   go_upto_region 7 with fail
   have hb2 := balloc W1 (.cells #[.string ⟨c.name.toArray⟩, .int .i64 c.op, .int .i64 c.val.kind, .int .i64 c.val.int, .float .f64 c.val.num, .string ⟨c.val.text.toArray⟩, .bool c.val.yes] 41)
   have hx := HX.out.below hb2
   have hy := box7_new W1 c
   have HB2 := Lib.hid (btrans HB1.out hb2)
   clear hb2 u0 u1 u2 u3 u4 u5 u6 g0 g1 HX
   generalize World.alloc W1 _ = W2 at *
   generalize W1.heap.size = p2 at *
   obtain ⟨x0, x1, x2, x3, x4, x5, x6⟩ := hx
   obtain ⟨y0, y1, y2, y3, y4, y5, y6⟩ := hy
   obtain ⟨cn, co, ck, ci, cx, ct, cy⟩ := c
   by_cases h7 : co = 7
   ·have e7 : (co != 7) = false := by rw [h7]; rfl
    go_wp2_with fail
    exact ⟨⟨k + 1, by omega, by go_num, HB2.out⟩, by simp [intOf]; go_num⟩
   ·have e7 : (co != 7) = true := by rw [bne_iff_ne]; exact h7
    go_wp2_with (first | (go_at_call 11; (refine (HS.out _).mono ?_); rintro e w5 ⟨rfl, hb5⟩) | fail)
    exact ⟨⟨k + 1, by omega, by go_num, btrans HB2.out hb5⟩, by simp [intOf]; go_num⟩
  ·obtain rfl : k = l.length := by omega
   go_wp2_with fail
   go_ret
   exact ⟨rfl, HBZ.out⟩
end Go.Proofs.YtnccpddjdgndcaaGreatDoor.Pa
end
