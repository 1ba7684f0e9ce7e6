/- THE WALKS OF event.Name, strings.Cut at a /, scope.Right, scope.Under: each gives its plain function; the world stays as it was, but for draws. -/
import Derived.Test.YtpbdgbejcdncgaaRows
import Derived.Test.YtpbdgbejcdncgaaScFn
import Derived.Test.YtpbdgbejcdncgaaName
import Derived.Test.YtpbdgbejcdncgaaShelf
import Derived.WalkKit
import Derived.WalkSpells
import Derived.WalkLawsBesides
import Derived.Lib.Hide
import Derived.Lib.PathFns
import Derived.Deep.Draws
namespace Go.Proofs.Ytpbdgbejcdncgaa.Sc
open Go.RowKit

/-- nothing but draws -/
def Drawn (w w' : World) : Prop := ∃ n, w' = w.drewN n
theorem Drawn.refl (w : World) : Drawn w w := ⟨0, rfl⟩
theorem Drawn.trans {a b c : World} (h : Drawn a b) (k : Drawn b c) : Drawn a c := by
  obtain ⟨n, rfl⟩ := h; obtain ⟨m, rfl⟩ := k; exact ⟨n + m, by simp [World.drewN, Nat.add_assoc]⟩
theorem Drawn.drew {a b : World} (h : Drawn a b) : Drawn a b.drew := h.trans ⟨1, rfl⟩
theorem Drawn.below {a b : World} (h : Drawn a b) (B : Nat) : Below B a b := by
  obtain ⟨n, rfl⟩ := h; exact ⟨rfl, rfl, rfl, Nat.le_refl _, fun _ _ => rfl⟩
/-- a text by its letters -/
theorem of_data {s : ByteArray} {l : List UInt8} (h : s.data.toList = l) : s = ⟨l.toArray⟩ := by
  subst h; rfl
theorem cutAt_hit (a b : List UInt8) : (⟨(a ++ 47 :: b).toArray⟩ : ByteArray).extract 0 a.length = ⟨a.toArray⟩ ∧ (⟨(a ++ 47 :: b).toArray⟩ : ByteArray).extract (a.length + 1) (⟨(a ++ 47 :: b).toArray⟩ : ByteArray).size = ⟨b.toArray⟩ := by
  constructor
  · apply of_data; rw [Lib.Pa.extract_upto_list]; simp
  · apply of_data; rw [Lib.extract_to_end]; simp
set_option maxHeartbeats 400000 in
theorem lcut_miss (s : ByteArray) (w : World) (hi : Lib.indexByte s.data.toList 47 = -1) :
    Calls Try.prog 47 #[.string s, .string ⟨#[47]⟩] w fun e w' => e = .returned (.tuple #[.string s, .string ⟨#[]⟩, .bool false]) ∧ w = w' := by
  go_enter Try.func47, Try.ntmps47
  go_wp2_with (go_at_call 57; refine (Try.stringslite_Index_one _ _ _).mono ?_; rintro e w' ⟨rfl, rfl⟩)
  go_ret3
  exact ⟨rfl, rfl⟩
set_option maxHeartbeats 400000 in
theorem lcut_hit (s : ByteArray) (i : Nat) (w : World) (hs : s.size ≤ maxLen) (hi : Lib.indexByte s.data.toList 47 = i) (hlt : i < s.size) :
    Calls Try.prog 47 #[.string s, .string ⟨#[47]⟩] w fun e w' => e = .returned (.tuple #[.string (s.extract 0 i), .string (s.extract (i + 1) s.size), .bool true]) ∧ Drawn w w' := by
  unfold maxLen at hs
  have c1 : (0 : Int) ≤ ↑i := by omega
  have c2 : (↑i : Int) ≤ ↑s.size := by omega
  have c3 : (0 : Int) ≤ ↑i + 1 := by omega
  have c4 : (↑i + 1 : Int) ≤ ↑s.size := by omega
  go_enter Try.func47, Try.ntmps47
  go_wp2_with (go_at_call 57; refine (Try.stringslite_Index_one _ _ _).mono ?_; rintro e w' ⟨rfl, rfl⟩)
  go_region
  all_goals
    go_wp2
    go_ret3
    exact ⟨rfl, 1, rfl⟩

set_option maxHeartbeats 400000 in
theorem cut_none (l : List UInt8) (w : World) (h : 47 ∉ l) :
    Calls Try.prog 38 #[.string ⟨l.toArray⟩, .string ⟨#[47]⟩] w fun e w' => e = .returned (.tuple #[.string ⟨l.toArray⟩, .string ⟨#[]⟩, .bool false]) ∧ Drawn w w' := by
  have hi : Lib.indexByte (⟨l.toArray⟩ : ByteArray).data.toList 47 = -1 := by
    rcases slash_cases l with ⟨h1, _⟩ | ⟨a, b, e, _, _⟩
    · exact h1
    · exact absurd (by rw [e]; simp) h
  have HI := Lib.hid hi; clear hi h
  go_enter Try.func38, Try.ntmps38
  go_wp2_with (go_at_call 47; refine (lcut_miss _ _ HI.out).mono ?_; rintro e w' ⟨rfl, rfl⟩)
  go_ret3
  exact ⟨rfl, Drawn.refl _⟩
set_option maxHeartbeats 400000 in
theorem cut_some (a b : List UInt8) (w : World) (h : 47 ∉ a) (hs : a.length + b.length + 1 ≤ maxLen) :
    Calls Try.prog 38 #[.string ⟨(a ++ 47 :: b).toArray⟩, .string ⟨#[47]⟩] w fun e w' => e = .returned (.tuple #[.string ⟨a.toArray⟩, .string ⟨b.toArray⟩, .bool true]) ∧ Drawn w w' := by
  have hz : (⟨(a ++ 47 :: b).toArray⟩ : ByteArray).size = a.length + b.length + 1 := by
    show (a ++ 47 :: b).toArray.size = _
    simp; omega
  have hi : Lib.indexByte (⟨(a ++ 47 :: b).toArray⟩ : ByteArray).data.toList 47 = a.length := by
    rcases slash_cases (a ++ 47 :: b) with ⟨_, h1⟩ | ⟨a', b', e, h2, h3⟩
    · exact absurd (by simp) h1
    · have : a = a' := by
        have e1 := parts_slash a b h
        rw [e, parts_slash a' b' h2] at e1
        exact (List.cons.inj e1).1.symm
      subst this; exact h3
  have hc := lcut_hit ⟨(a ++ 47 :: b).toArray⟩ a.length w (by rw [hz]; exact hs) hi (by rw [hz]; omega)
  rw [(cutAt_hit a b).1, (cutAt_hit a b).2] at hc
  have HC := Lib.hid hc; clear hc hi hz h hs
  go_enter Try.func38, Try.ntmps38
  go_wp2_with fail
  refine HC.out.mono ?_
  rintro e w' ⟨rfl, hq⟩
  go_wp2
  go_ret3
  exact ⟨rfl, hq⟩

def RightRel (l : List UInt8) (w : World) (n r m : Value) (wr : World) : Prop :=
  ∃ (done : List (List UInt8)) (rest : List UInt8) (more : Bool), n = .int .i64 done.length ∧ r = .string ⟨rest.toArray⟩ ∧ m = .bool more ∧ Drawn w wr ∧
    done.all nameB = true ∧ parts l = done ++ (if more then parts rest else []) ∧ rest.length ≤ l.length
def rightMeas (r m : Value) : Nat := match r, m with
  | .string s, .bool true => s.size + 1
  | _, _ => 0
set_option maxHeartbeats 1000000 in
theorem right_any (s : ByteArray) (w : World) (hs : s.size ≤ maxLen) (hs2 : s.size < 4611686018427387904) :
    Calls Try.prog 18 #[.string s] w fun e w' => e = .returned (.bool (rightB s.data.toList)) ∧ Drawn w w' := by
  unfold maxLen at hs
  obtain ⟨l, rfl⟩ : ∃ l : List UInt8, s = ⟨l.toArray⟩ := ⟨s.data.toList, rfl⟩
  by_cases h0 : l = []
  · subst h0
    go_enter Try.func18, Try.ntmps18
    go_wp2
    go_ret
    exact ⟨rfl, Drawn.refl _⟩
  · have h0' : l.isEmpty = false := by cases l <;> simp_all
    go_enter Try.func18, Try.ntmps18
    go_wp2
    go_loopw [3, 4, 5] (fun n r m wr => RightRel l w n r m wr) (fun _ r m _ => rightMeas r m)
    case atStart => exact ⟨[], l, true, rfl, rfl, rfl, Drawn.refl _, rfl, rfl, Nat.le_refl _⟩
    case round =>
      obtain ⟨done, rest, more, rfl, rfl, rfl, hq, hall, hp, hlen⟩ := hrel
      have HP := Lib.hid hp; have HA := Lib.hid hall; clear hp hall
      have hlz : (⟨l.toArray⟩ : ByteArray).size = l.length := rfl
      have hdl : (done.length : Int) ≤ 4611686018427387905 := by
        have h1 := parts_length l
        rw [HP.out, List.length_append] at h1
        omega
      have HLZ := Lib.hid hlz; clear hlz
      cases more
      · have hp : parts l = done := by rw [HP.out]; simp
        have hr : rightB l = decide (done.length ≤ 4) := by
          unfold rightB; rw [h0', hp, HA.out]; simp
        have HR := Lib.hid hr; clear hr hp HP
        go_wp2
        go_ret
        exact ⟨ret_bool (by rw [HR.out, Bool.eq_iff_iff]; simp; omega), hq⟩
      · rcases slash_cases rest with ⟨_, hn⟩ | ⟨a, b, rfl, hn, _⟩
        · have hb : (⟨rest.toArray⟩ : ByteArray).size ≤ maxLen := by
            unfold maxLen; rw [HLZ.out] at hs; show rest.length ≤ _; omega
          have HB := Lib.hid hb; clear hb
          have hp : parts l = done ++ [rest] := by rw [HP.out]; simp [parts_none rest hn]
          have HP2 := Lib.hid hp; clear hp HP
          cases hnm : nameB rest
          all_goals
            go_wp2_with (first | (go_at_call 38; refine (cut_none _ _ hn).mono ?_; rintro e w' ⟨rfl, hq1⟩) | (go_at_call 17; refine (name_any _ _ HB.out).mono ?_; rintro e w' ⟨rfl, rfl⟩))
          · go_ret
            exact ⟨ret_bool (by unfold rightB; rw [HP2.out, h0']; simp [hnm]), hq.trans hq1⟩
          · exact ⟨⟨done ++ [rest], [], false, by simp, rfl, rfl, hq.trans hq1, by simp [HA.out, hnm], by simp [HP2.out], Nat.zero_le _⟩, by show 0 < _; simp [rightMeas]⟩
        · have hlen' : a.length + (b.length + 1) ≤ l.length := by simpa using hlen
          have hb : (⟨a.toArray⟩ : ByteArray).size ≤ maxLen := by
            unfold maxLen; rw [HLZ.out] at hs; show a.length ≤ _; omega
          have hb2 : a.length + b.length + 1 ≤ maxLen := by
            unfold maxLen; rw [HLZ.out] at hs; omega
          have HB := Lib.hid hb; have HB2 := Lib.hid hb2; clear hb hb2
          have hp : parts l = done ++ a :: parts b := by rw [HP.out]; simp [parts_slash a b hn]
          have HP2 := Lib.hid hp; clear hp HP
          cases hnm : nameB a
          all_goals
            go_wp2_with (first | (go_at_call 38; refine (cut_some _ _ _ hn HB2.out).mono ?_; rintro e w' ⟨rfl, hq1⟩) | (go_at_call 17; refine (name_any _ _ HB.out).mono ?_; rintro e w' ⟨rfl, rfl⟩))
          · go_ret
            exact ⟨ret_bool (by unfold rightB; rw [HP2.out, h0']; simp [hnm]), hq.trans hq1⟩
          · exact ⟨⟨done ++ [a], b, true, by simp, rfl, rfl, hq.trans hq1, by simp [HA.out, hnm], by simp [HP2.out], by omega⟩, by show b.length + 1 < (a ++ 47 :: b).length + 1; simp; omega⟩

theorem beq47 (x : UInt8) : ((x.toNat : Int) == 47) = (x == 47) := by
  rw [Bool.eq_iff_iff, beq_iff_eq, beq_iff_eq]
  constructor
  · intro h; apply UInt8.toNat_inj.1; show x.toNat = 47; omega
  · intro h; subst h; rfl
end Go.Proofs.Ytpbdgbejcdncgaa.Sc
