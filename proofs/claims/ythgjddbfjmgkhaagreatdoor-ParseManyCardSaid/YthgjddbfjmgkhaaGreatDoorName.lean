/- THE WALK OF event.Name. -/
import Derived.Test.YthgjddbfjmgkhaaGreatDoorRows
import Derived.Test.YthgjddbfjmgkhaaGreatDoorNameFn
import Derived.WalkKit
import Derived.WalkSpells
import Derived.WalkLawsBesides
import Derived.Lib.Hide
import Derived.Lib.IndexBytes
namespace Go.Proofs.YthgjddbfjmgkhaaGreatDoor.Sc
open Go.RowKit
theorem ret_bool {a b : Bool} (h : a = b) : Ending.returned (.bool a) = .returned (.bool b) := by rw [h]
def NameRel (l : List UInt8) (i : Value) : Prop := ∃ k : Nat, k ≤ l.length ∧ i = .int .i64 k ∧ chsOk 0 (l.take k) = true
theorem byte_ways (c k : Int) (h0 : 0 ≤ k) : (97 ≤ c ∧ c ≤ 122) ∨ (¬ 97 ≤ c ∧ ¬ 0 < k) ∨ (¬ 97 ≤ c ∧ 0 < k ∧ ¬ 48 ≤ c) ∨ (¬ 97 ≤ c ∧ 0 < k ∧ 48 ≤ c ∧ c ≤ 57) ∨ (¬ 97 ≤ c ∧ 0 < k ∧ 48 ≤ c ∧ ¬ c ≤ 57) ∨ (97 ≤ c ∧ ¬ c ≤ 122 ∧ ¬ 0 < k) ∨ (97 ≤ c ∧ ¬ c ≤ 122 ∧ 0 < k ∧ 48 ≤ c ∧ ¬ c ≤ 57) := by omega
theorem chOk_yes {k : Nat} {c : UInt8} (h : (97 ≤ (c.toNat : Int) ∧ (c.toNat : Int) ≤ 122) ∨ (0 < (k : Int) ∧ 48 ≤ (c.toNat : Int) ∧ (c.toNat : Int) ≤ 57)) : chOk k c = true := by
  unfold chOk; simp; omega
theorem chOk_no {k : Nat} {c : UInt8} (h : ¬ ((97 ≤ (c.toNat : Int) ∧ (c.toNat : Int) ≤ 122) ∨ (0 < (k : Int) ∧ 48 ≤ (c.toNat : Int) ∧ (c.toNat : Int) ≤ 57))) : chOk k c = false := by
  have : ¬ chOk k c = true := by unfold chOk; simp; omega
  simpa using this
set_option maxHeartbeats 1000000 in
theorem name_any (s : ByteArray) (w : World) (hs : s.size ≤ maxLen) :
    Calls Tryz.prog 27 #[.string s] w fun e w' => e = .returned (.bool (nameB s.data.toList)) ∧ w = w' := by
  unfold maxLen at hs
  have hsz : s.data.toList.length = s.size := by rw [Array.length_toList]; rfl
  go_enter Tryz.func27, Tryz.ntmps27
  go_wp2
  go_loop [6] (fun i => NameRel s.data.toList i) (fun i => s.size - (intOf i).toNat)
  case atStart => exact ⟨0, Nat.zero_le _, rfl, by simp [chsOk]⟩
  case round =>
    obtain ⟨k, hk, rfl, hok⟩ := hrel
    have HOK := Lib.hid hok; have HSZ := Lib.hid hsz; clear hok hsz
    rw [HSZ.out] at hk
    by_cases hlt : k < s.size
    · have hg : s.data.toList[k]'(by rw [HSZ.out]; exact hlt) = s[k] := by rw [Array.getElem_toList]; rfl
      have HG := Lib.hid hg; clear hg
      rcases byte_ways (s[k].toNat : Int) (k : Int) (by omega) with ⟨a1, a2⟩ | ⟨a1, a2⟩ | ⟨a1, a2, a3⟩ | ⟨a1, a2, a3, a4⟩ | ⟨a1, a2, a3, a4⟩ | ⟨a1, a2, a3⟩ | ⟨a1, a2, a3, a4, a5⟩
      all_goals go_wp2
      all_goals try first
        | exact ⟨⟨k + 1, by rw [HSZ.out]; omega, by go_num, by rw [chsOk_snoc _ k (by rw [HSZ.out]; exact hlt), HOK.out, HG.out]; exact chOk_yes (by omega)⟩, by simp [intOf]; omega⟩
      all_goals
        go_ret
        exact ⟨ret_bool (by unfold nameB; rw [chsOk_bad _ k (by rw [HSZ.out]; exact hlt) (by rw [HG.out]; exact chOk_no (by omega))]; rfl), rfl⟩
    · obtain rfl : k = s.size := by omega
      rw [List.take_of_length_le (by rw [HSZ.out]; exact Nat.le_refl _)] at HOK
      clear hlt hk
      have he : s.toList.isEmpty = decide (s.size = 0) := by
        rw [Lib.toList_data, Bool.eq_iff_iff, List.isEmpty_iff, decide_eq_true_iff, ← HSZ.out, List.length_eq_zero_iff]
      have hr : nameB s.data.toList = (!decide (s.size = 0) && decide (s.size ≤ 12)) := by
        unfold nameB; rw [HOK.out, ← he, Lib.toList_data, HSZ.out]; rfl
      by_cases h0 : s.size = 0
      · rw [decide_eq_true h0] at he hr
        have h1 : s.toList = [] := List.isEmpty_iff.1 he
        have HR := Lib.hid hr; clear hr h0
        go_wp2
        go_ret
        exact ⟨ret_bool (by rw [HR.out]; rfl), rfl⟩
      · rw [decide_eq_false h0] at he hr
        have h1 : ¬ s.toList = [] := fun h => by rw [h] at he; cases he
        have HR := Lib.hid hr; clear hr
        by_cases h12 : s.size ≤ 12
        all_goals
          go_wp2
          go_ret
          exact ⟨ret_bool (by rw [HR.out]; simp [h12]; omega), rfl⟩

theorem name_l (x : List UInt8) (w : World) (h : x.length ≤ 140737488351232) :
    Calls Tryz.prog 27 #[.string ⟨x.toArray⟩] w fun e w' => e = .returned (.bool (nameB x)) ∧ w = w' :=
  name_any ⟨x.toArray⟩ w (by show x.length ≤ _; unfold maxLen; omega)
end Go.Proofs.YthgjddbfjmgkhaaGreatDoor.Sc
