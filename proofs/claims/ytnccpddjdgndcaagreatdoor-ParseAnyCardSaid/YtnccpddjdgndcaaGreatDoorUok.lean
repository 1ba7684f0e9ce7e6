/- THE WALK OF strconv.underscoreOK: it answers, at any text. -/
import Derived.Test.YtnccpddjdgndcaaGreatDoorRfDef
import Derived.Handy
import Derived.WalkMore
import Derived.Deep.DeepCutAuto
import Derived.Deep.CutBlock
import Derived.Deep.CutRange
import Derived.Deep.LoopGhost
import Derived.Deep.QuietTactic
import Derived.Lib.Hide
namespace Go.Proofs.YtnccpddjdgndcaaGreatDoor.Pf
open Go.RowKit
theorem lower_any (c : Int) (w : World) : Calls Tryz.prog 115 #[.int .u8 c] w fun e w' => e = .returned (.int .u8 (low c)) ∧ w = w' := by
  go_enter Tryz.func115, Tryz.ntmps115
  go_wp2
  go_ret
  exact ⟨rfl, rfl⟩
/-- it answers -/
def SaysB (e : Ending) : Prop := ∃ b : Bool, e = .returned (.bool b)
set_option maxRecDepth 20000 in
set_option maxHeartbeats 4000000 in
theorem uok_any (t : ByteArray) (ht : t.size ≤ 100000) (w : World) : Calls Tryz.prog 116 #[.string t] w fun e w' => SaysB e ∧ w = w' := by
  go_enter Tryz.func116, Tryz.ntmps116
  go_upto_region 3 with fail
  go_cut [18] from 6 to 17 (fun v wx => (∃ b : Bool, v = .bool b ∧ (b = true → 1 ≤ t.size)) ∧ w = wx)
  case first => as_aux_lemma =>
    by_cases h0 : 1 ≤ t.size
    · have i1 : (1 : Int) ≤ (t.size : Int) := by omega
      have i2 : (0 : Int) < (t.size : Int) := by omega
      by_cases h1 : ((t[0]'(by omega)).toNat : Int) = 45
      · have b1 : (((t[0]'(by omega)).toNat : Int) == 45) = true := by simpa using h1
        go_wp2_with fail
        go_meet
        exact ⟨⟨true, rfl, fun _ => h0⟩, rfl⟩
      · have b1 : (((t[0]'(by omega)).toNat : Int) == 45) = false := by simpa using h1
        go_wp2_with fail
        go_meet
        exact ⟨⟨_, rfl, fun _ => h0⟩, rfl⟩
    · have i1 : ¬ (1 : Int) ≤ (t.size : Int) := by omega
      go_wp2_with fail
      go_meet
      exact ⟨⟨false, rfl, fun h => absurd h (by decide)⟩, rfl⟩
  case rest => as_aux_lemma =>
    obtain ⟨⟨b, rfl, hb⟩, rfl⟩ := hcut
    go_upto_if 18 with fail
    go_cut [0] from 18 to 20 (fun v wx => (∃ t2 : ByteArray, v = .string t2 ∧ t2.size ≤ 100000) ∧ w = wx)
    case first => as_aux_lemma =>
      cases b
      · go_wp2_with fail
        go_meet
        exact ⟨⟨t, rfl, ht⟩, rfl⟩
      · have h1 := hb rfl
        have i1 : (1 : Int) ≤ (t.size : Int) := by omega
        clear hb
        go_wp2_with fail
        go_meet
        exact ⟨⟨_, rfl, by simp [ByteArray.size_extract]; omega⟩, rfl⟩
    case rest => as_aux_lemma =>
      obtain ⟨⟨s, rfl, hs⟩, rfl⟩ := hcut
      clear hb ht
      go_upto_region 6 with fail
      go_cut [46] from 21 to 45 (fun v wx => (∃ b : Bool, v = .bool b ∧ (b = true → 2 ≤ s.size)) ∧ w = wx)
      case first => as_aux_lemma =>
        by_cases h0 : 2 ≤ s.size
        · have i1 : (2 : Int) ≤ (s.size : Int) := by omega
          have i2 : (0 : Int) < (s.size : Int) := by omega
          have i3 : (1 : Int) < (s.size : Int) := by omega
          by_cases h1 : ((s[0]'(by omega)).toNat : Int) = 48
          · have b1 : (((s[0]'(by omega)).toNat : Int) == 48) = true := by simpa using h1
            by_cases h2 : low ((s[1]'(by omega)).toNat : Int) = 98
            · have b2 : (low ((s[1]'(by omega)).toNat : Int) == 98) = true := by simpa using h2
              go_wp2_with (first | (go_at_call 115; refine (lower_any _ _).mono ?_; rintro e w1 ⟨rfl, rfl⟩) | fail)
              go_meet
              exact ⟨⟨_, rfl, fun _ => h0⟩, rfl⟩
            · have b2 : (low ((s[1]'(by omega)).toNat : Int) == 98) = false := by simpa using h2
              by_cases h3 : low ((s[1]'(by omega)).toNat : Int) = 111
              · have b3 : (low ((s[1]'(by omega)).toNat : Int) == 111) = true := by simpa using h3
                go_wp2_with (first | (go_at_call 115; refine (lower_any _ _).mono ?_; rintro e w1 ⟨rfl, rfl⟩) | fail)
                go_meet
                exact ⟨⟨_, rfl, fun _ => h0⟩, rfl⟩
              · have b3 : (low ((s[1]'(by omega)).toNat : Int) == 111) = false := by simpa using h3
                go_wp2_with (first | (go_at_call 115; refine (lower_any _ _).mono ?_; rintro e w1 ⟨rfl, rfl⟩) | fail)
                go_meet
                exact ⟨⟨_, rfl, fun _ => h0⟩, rfl⟩
          · have b1 : (((s[0]'(by omega)).toNat : Int) == 48) = false := by simpa using h1
            go_wp2_with (first | (go_at_call 115; refine (lower_any _ _).mono ?_; rintro e w1 ⟨rfl, rfl⟩) | fail)
            go_meet
            exact ⟨⟨_, rfl, fun _ => h0⟩, rfl⟩
        · have i1 : ¬ (2 : Int) ≤ (s.size : Int) := by omega
          go_wp2_with (first | (go_at_call 115; refine (lower_any _ _).mono ?_; rintro e w1 ⟨rfl, rfl⟩) | fail)
          go_meet
          exact ⟨⟨false, rfl, fun h => absurd h (by decide)⟩, rfl⟩
      case rest => as_aux_lemma =>
        obtain ⟨⟨b, rfl, hb⟩, rfl⟩ := hcut
        go_upto_if 46 with fail
        go_cut [3, 4, 5] from 46 to 50 (fun v3 v4 v5 wx => (∃ (sv : Int) (i : Nat) (hx : Bool), v3 = .int .i32 sv ∧ v4 = .int .i64 i ∧ v5 = .bool hx ∧ i ≤ s.size) ∧ w = wx)
        case first => as_aux_lemma =>
          cases b
          · go_wp2_with fail
            go_meet
            exact ⟨⟨94, 0, false, rfl, rfl, rfl, by omega⟩, rfl⟩
          · have h1 := hb rfl
            have i3 : (1 : Int) < (s.size : Int) := by omega
            clear hb
            go_wp2_with (first | (go_at_call 115; refine (lower_any _ _).mono ?_; rintro e w1 ⟨rfl, rfl⟩) | fail)
            go_meet
            exact ⟨⟨48, 2, _, rfl, rfl, rfl, h1⟩, rfl⟩
        case rest => as_aux_lemma =>
          obtain ⟨⟨sv, i0, hx, rfl, rfl, rfl, hi0⟩, rfl⟩ := hcut
          clear hb
          go_wp2_with fail
          go_loopw [3, 4] (fun v3 v4 wr => ∃ (sv : Int) (i : Nat), v3 = .int .i32 sv ∧ v4 = .int .i64 i ∧ i ≤ s.size ∧ w = wr) (fun _ v4 _ => s.size - (intOf v4).toNat)
          case atStart => exact ⟨sv, i0, rfl, rfl, hi0, rfl⟩
          case round =>
            obtain ⟨sv2, i, rfl, rfl, hi, rfl⟩ := hrel
            by_cases hlt : i < s.size
            · have i1 : (i : Int) < (s.size : Int) := by omega
              have i2 : (0 : Int) ≤ (i : Int) := by omega
              go_upto_region 12 with fail
              go_cut [83] from 57 to 82 (fun v wx => (∃ b : Bool, v = .bool b) ∧ w = wx)
              case first => as_aux_lemma =>
                by_cases d1 : 48 ≤ (s[i].toNat : Int)
                · by_cases d2 : (s[i].toNat : Int) ≤ 57
                  · go_wp2_with (first | (go_at_call 115; refine (lower_any _ _).mono ?_; rintro e w1 ⟨rfl, rfl⟩) | fail)
                    go_meet
                    exact ⟨⟨_, rfl⟩, rfl⟩
                  · cases hx
                    · go_wp2_with (first | (go_at_call 115; refine (lower_any _ _).mono ?_; rintro e w1 ⟨rfl, rfl⟩) | fail)
                      go_meet
                      exact ⟨⟨_, rfl⟩, rfl⟩
                    · by_cases l1 : 97 ≤ low (s[i].toNat : Int)
                      · go_wp2_with (first | (go_at_call 115; refine (lower_any _ _).mono ?_; rintro e w1 ⟨rfl, rfl⟩) | fail)
                        go_meet
                        exact ⟨⟨_, rfl⟩, rfl⟩
                      · go_wp2_with (first | (go_at_call 115; refine (lower_any _ _).mono ?_; rintro e w1 ⟨rfl, rfl⟩) | fail)
                        go_meet
                        exact ⟨⟨_, rfl⟩, rfl⟩
                · cases hx
                  · go_wp2_with (first | (go_at_call 115; refine (lower_any _ _).mono ?_; rintro e w1 ⟨rfl, rfl⟩) | fail)
                    go_meet
                    exact ⟨⟨_, rfl⟩, rfl⟩
                  · by_cases l1 : 97 ≤ low (s[i].toNat : Int)
                    · go_wp2_with (first | (go_at_call 115; refine (lower_any _ _).mono ?_; rintro e w1 ⟨rfl, rfl⟩) | fail)
                      go_meet
                      exact ⟨⟨_, rfl⟩, rfl⟩
                    · go_wp2_with (first | (go_at_call 115; refine (lower_any _ _).mono ?_; rintro e w1 ⟨rfl, rfl⟩) | fail)
                      go_meet
                      exact ⟨⟨_, rfl⟩, rfl⟩
              case rest =>
                obtain ⟨⟨b, rfl⟩, rfl⟩ := hcut
                cases b
                · by_cases c95 : (s[i].toNat : Int) = 95
                  · have b95 : ((s[i].toNat : Int) == 95) = true := by simpa using c95
                    by_cases e48 : sv2 = 48
                    · have f48 : (sv2 != 48) = false := by simpa using e48
                      go_wp2_with fail
                      first | exact ⟨⟨95, i + 1, rfl, by go_num, by omega, trivial⟩, by simp [intOf]; go_num⟩ | (go_ret; exact ⟨⟨_, rfl⟩, rfl⟩) | (trace_state; fail)
                    · have f48 : (sv2 != 48) = true := by simpa using e48
                      go_wp2_with fail
                      first | exact ⟨⟨95, i + 1, rfl, by go_num, by omega, trivial⟩, by simp [intOf]; go_num⟩ | (go_ret; exact ⟨⟨_, rfl⟩, rfl⟩) | (trace_state; fail)
                  · have b95 : ((s[i].toNat : Int) == 95) = false := by simpa using c95
                    by_cases e48 : sv2 = 95
                    · have f48 : (sv2 == 95) = true := by simpa using e48
                      go_wp2_with fail
                      first | exact ⟨⟨33, i + 1, rfl, by go_num, by omega, trivial⟩, by simp [intOf]; go_num⟩ | (go_ret; exact ⟨⟨_, rfl⟩, rfl⟩) | (trace_state; fail)
                    · have f48 : (sv2 == 95) = false := by simpa using e48
                      go_wp2_with fail
                      first | exact ⟨⟨33, i + 1, rfl, by go_num, by omega, trivial⟩, by simp [intOf]; go_num⟩ | (go_ret; exact ⟨⟨_, rfl⟩, rfl⟩) | (trace_state; fail)
                · go_wp2_with fail
                  first | exact ⟨⟨48, i + 1, rfl, by go_num, by omega, trivial⟩, by simp [intOf]; go_num⟩ | (trace_state; fail)
            · have i1 : ¬ (i : Int) < (s.size : Int) := by omega
              go_wp2_with fail
              go_ret
              exact ⟨⟨_, rfl⟩, rfl⟩
end Go.Proofs.YtnccpddjdgndcaaGreatDoor.Pf
