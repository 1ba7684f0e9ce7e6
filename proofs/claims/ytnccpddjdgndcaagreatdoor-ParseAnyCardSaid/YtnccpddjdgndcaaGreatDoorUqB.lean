/- THE WALK OF strconv.UnquoteChar AT ANY TEXT, ahead of a double quote. -/
import Derived.Test.YtnccpddjdgndcaaGreatDoorUqFn
import Derived.Test.YtnccpddjdgndcaaGreatDoorTabs
import Derived.Test.YtnccpddjdgndcaaGreatDoorShelf
import Derived.Handy
import Derived.BigQuiet
import Derived.Deep.QuietTactic
import Derived.Deep.LoopGhost
import Derived.Lib.PathFns
namespace Go.Proofs.YtnccpddjdgndcaaGreatDoor.Unq
open Go.RowKit Go.Lib Go.Proofs.YtnccpddjdgndcaaGreatDoor.Quo
/-- the error's variable is laid -/
def ErrS (w : World) : Prop := ∃ (t : TypeId) (x : Value), w.cell? ⟨1, 0, none⟩ = some (.iface t x)
/-- what UnquoteChar answers -/
def UqP (o : Option (Int × Bool × List UInt8)) (e : Ending) : Prop :=
  match o with
  | none => ∃ (v : Int) (mb : Bool) (q : ByteArray) (t : TypeId) (x : Value), e = .returned (.tuple #[.int .i32 v, .bool mb, .string q, .iface t x])
  | some (v, mb, q) => e = .returned (.tuple #[.int .i32 v, .bool mb, .string ⟨q.toArray⟩, .nilIface])
theorem ext_end (s : ByteArray) (k : Nat) : s.extract k s.size = ⟨(s.data.toList.drop k).toArray⟩ := by
  apply ByteArray.ext
  rw [← Array.toArray_toList (xs := (s.extract k s.size).data)]
  congr 1
  rw [ByteArray.data_extract, Array.toList_extract, List.extract_eq_take_drop]
  exact List.take_of_length_le (by rw [List.length_drop, Array.length_toList]; show s.size - k ≤ s.size - k; omega)
theorem hex_short : ∀ (n : Nat) (l : List UInt8) (v : Int), l.length < n → hexGo n l v = none
  | 0, _, _, h => absurd h (Nat.not_lt_zero _)
  | n + 1, [], _, _ => rfl
  | n + 1, c :: l, v, h => by
    unfold hexGo
    split
    · rfl
    · exact hex_short n l _ (by simpa using h)
theorem oct_short : ∀ (n : Nat) (l : List UInt8) (v : Int), l.length < n → octGo n l v = none
  | 0, _, _, h => absurd h (Nat.not_lt_zero _)
  | n + 1, [], _, _ => rfl
  | n + 1, c :: l, v, h => by
    unfold octGo
    split
    · rfl
    · exact oct_short n l _ (by simpa using h)
set_option maxHeartbeats 1000000 in
theorem unhex_any (c : Int) (h0 : 0 ≤ c) (h1 : c < 256) (w : World) : Calls Tryz.prog 104 #[.int .u8 c] w fun e w' => e = .returned (.tuple #[.int .i32 ((uhx c).getD 0), .bool (uhx c).isSome]) ∧ w = w' := by
  by_cases a : 48 ≤ c ∧ c ≤ 57
  · have e : uhx c = some (c - 48) := by unfold uhx; rw [if_pos a]
    rw [e]
    obtain ⟨a1, a2⟩ := a
    clear e
    go_enter Tryz.func104, Tryz.ntmps104
    go_wp2
    go_returns
    exact ⟨rfl, rfl⟩
  by_cases b : 97 ≤ c ∧ c ≤ 102
  · have e : uhx c = some (c - 97 + 10) := by unfold uhx; rw [if_neg a, if_pos b]
    rw [e]
    obtain ⟨b1, b2⟩ := b
    have a1 : 48 ≤ c := by omega
    have a2 : ¬ c ≤ 57 := by omega
    clear e a
    go_enter Tryz.func104, Tryz.ntmps104
    go_wp2
    go_returns
    exact ⟨rfl, rfl⟩
  by_cases d : 65 ≤ c ∧ c ≤ 70
  · have e : uhx c = some (c - 65 + 10) := by unfold uhx; rw [if_neg a, if_neg b, if_pos d]
    rw [e]
    obtain ⟨d1, d2⟩ := d
    have a1 : 48 ≤ c := by omega
    have a2 : ¬ c ≤ 57 := by omega
    have b1 : ¬ 97 ≤ c := by omega
    clear e a b
    go_enter Tryz.func104, Tryz.ntmps104
    go_wp2
    go_returns
    exact ⟨rfl, rfl⟩
  · have e : uhx c = none := by unfold uhx; rw [if_neg a, if_neg b, if_neg d]
    rw [e]
    have aa : ¬ 48 ≤ c ∨ (48 ≤ c ∧ ¬ c ≤ 57) := by omega
    have bb : ¬ 97 ≤ c ∨ (97 ≤ c ∧ ¬ c ≤ 102) := by omega
    have dd : ¬ 65 ≤ c ∨ (65 ≤ c ∧ ¬ c ≤ 70) := by omega
    clear e a b d
    rcases aa with a1 | ⟨a1, a2⟩ <;> rcases bb with b1 | ⟨b1, b2⟩ <;> rcases dd with d1 | ⟨d1, d2⟩ <;> first
      | (exfalso; omega)
      | (go_enter Tryz.func104, Tryz.ntmps104
         go_wp2
         go_returns
         exact ⟨rfl, rfl⟩)

end Go.Proofs.YtnccpddjdgndcaaGreatDoor.Unq
