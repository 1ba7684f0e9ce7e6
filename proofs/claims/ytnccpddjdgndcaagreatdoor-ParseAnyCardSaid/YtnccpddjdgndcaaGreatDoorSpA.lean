/- THE WALK OF commonPrefixLenIgnoreCase: it answers, at any two texts. -/
import Derived.Test.YtnccpddjdgndcaaGreatDoorRfDef
import Derived.Handy
import Derived.WalkMore
import Derived.Deep.DeepCutAuto
import Derived.Deep.CutBlock
import Derived.Deep.CutRange
import Derived.Deep.LoopGhost
import Derived.Deep.QuietTactic
import Derived.Lib.Hide
namespace Go.Proofs.YtnccpddjdgndcaaGreatDoor.Pf
open Go.RowKit
/-- a count of at most as many -/
def AnsN (a : Nat) (e : Ending) : Prop := ∃ k : Nat, e = .returned (.int .i64 (k : Int)) ∧ k ≤ a
set_option maxRecDepth 20000 in
set_option maxHeartbeats 2000000 in
theorem prefix_any (s p : ByteArray) (hs : s.size ≤ 100000) (w : World) :
    Calls Tryz.prog 187 #[.string s, .string p] w fun e w' => AnsN s.size e ∧ w = w' := by
  obtain ⟨n, hn, hn1, hn2⟩ : ∃ n : Nat, (if s.size < p.size then (s.size : Int) else (p.size : Int)) = (n : Int) ∧ n ≤ p.size ∧ n ≤ s.size := ⟨min p.size s.size, by split <;> omega, by omega, by omega⟩
  go_enter Tryz.func187, Tryz.ntmps187
  go_wp2_with fail
  go_loopw [6] (fun v6 wr => (∃ i : Nat, v6 = .int .i64 (i : Int) ∧ i ≤ n) ∧ w = wr) (fun v6 _ => n - (intOf v6).toNat)
  case atStart => exact ⟨⟨0, rfl, Nat.zero_le _⟩, rfl⟩
  case round =>
    obtain ⟨⟨i, rfl, hi⟩, rfl⟩ := hrel
    by_cases hlt : i < n
    · have i1 : (i : Int) < (n : Int) := by omega
      have i0 : (0 : Int) ≤ (i : Int) := by omega
      have i2 : (i : Int) < (s.size : Int) := by omega
      have i3 : (i : Int) < (p.size : Int) := by omega
      go_wp2_with fail
      all_goals first | (go_ret; exact ⟨⟨i, rfl, by omega⟩, rfl⟩) | (refine ⟨⟨⟨i + 1, by go_num, by omega⟩, by first | rfl | trivial⟩, by simp [intOf]; go_num⟩)
    · obtain rfl : i = n := by omega
      go_wp2_with fail
      go_ret
      exact ⟨⟨_, rfl, hn2⟩, rfl⟩
end Go.Proofs.YtnccpddjdgndcaaGreatDoor.Pf
