/- THE WALK OF nameRight of chapter 03's laws. -/
import Derived.Test.YtdggofleokjmcaaGreatDoorRightA
import Derived.Laws.IdiomStrings
namespace Go.Proofs.YtdggofleokjmcaaGreatDoor.Val
open Go.RowKit Flt
theorem conv_bytes (nm : List UInt8) (w : World) : ∃ (cap : Nat) (W : World), (convert 9 33 (.string ⟨nm.toArray⟩)).run Tryz.prog w = .ok (.slice (some ⟨w.heap.size, 0, none⟩) nm.length cap) W ∧
    (∀ j (hj : j < nm.length), W.cell? ⟨w.heap.size, j, none⟩ = some (.int .u8 (nm[j].toNat : Int))) ∧ Below w.heap.size w W := by
  have h := run_bytes_of_string (P := Tryz.prog) w 9 33 5 ⟨nm.toArray⟩ Tryz.underlying9 Tryz.underlying33 Tryz.underlying5
  refine ⟨_, _, h, fun j hj => ?_, ?_⟩
  · have hz : w.heap.size = w.drew.heap.size := rfl
    rw [hz, World.cell?_alloc_mark, bytesRow_at _ _ _ (by simpa using hj)]
    simp
  · exact ((Below.refl w.heap.size w).drew).alloc (Nat.le_refl _) _
theorem range_ways (c : Int) : (¬ 97 ≤ c ∧ c ≤ 122 ∧ ¬ 48 ≤ c ∧ c ≤ 57) ∨ (¬ 97 ≤ c ∧ c ≤ 122 ∧ 48 ≤ c ∧ c ≤ 57) ∨ (¬ 97 ≤ c ∧ c ≤ 122 ∧ 48 ≤ c ∧ ¬ c ≤ 57) ∨ (97 ≤ c ∧ c ≤ 122 ∧ 48 ≤ c ∧ ¬ c ≤ 57) ∨ (97 ≤ c ∧ ¬ c ≤ 122 ∧ 48 ≤ c ∧ ¬ c ≤ 57) := by omega
set_option maxRecDepth 20000 in
set_option maxHeartbeats 2000000 in
theorem nright_any (nm : List UInt8) (w : World) (hn : nm.length ≤ 140737488351232) :
    Calls Tryz.prog 19 #[.string ⟨nm.toArray⟩] w fun e w' => e = .returned (.bool (Sc.nameB nm)) ∧ Below w.heap.size w w' := by
  have hr : Sc.nameB nm = ((!nm.isEmpty && decide (nm.length ≤ 12)) && Sc.chsOk 0 nm) := by
    unfold Sc.nameB; cases Sc.chsOk 0 nm <;> cases nm.isEmpty <;> simp
  obtain ⟨cap, W, hrun, hcell, hb⟩ := conv_bytes nm w
  have HR := Lib.hid hr; have HC := Lib.hid hcell
  clear hr hcell
  have ways : (nm.isEmpty = true) ∨ (nm.isEmpty = false ∧ decide ((nm.length : Int) ≤ 12) = true ∧ decide (nm.length ≤ 12) = true) ∨ (nm.isEmpty = false ∧ decide ((nm.length : Int) ≤ 12) = false ∧ decide (nm.length ≤ 12) = false) := by
    cases nm.isEmpty
    · by_cases h : nm.length ≤ 12
      · have : (nm.length : Int) ≤ 12 := by omega
        simp [h, this]
      · have : ¬ (nm.length : Int) ≤ 12 := by omega
        simp [h, this]
    · simp
  generalize hokv : (!nm.isEmpty && decide (nm.length ≤ 12)) = ok0 at *
  rcases ways with h0 | ⟨h0, h1, h2⟩ | ⟨h0, h1, h2⟩
  all_goals
    rw [h0] at hokv
    try rw [h2] at hokv
    simp only [Bool.not_true, Bool.not_false, Bool.false_and, Bool.and_false, Bool.and_true] at hokv
    subst hokv
    go_enter Tryz.func19, Tryz.ntmps19
    go_wp2_with fail
    clear hrun
    go_loop [3, 4, 5, 16] (fun vo _ _ vi => ∃ (k : Nat) (b : Bool), k ≤ nm.length ∧ vi = .int .i64 k ∧ vo = .bool b ∧ Hid (b = (_ && Sc.chsOk 0 (nm.take k)))) (fun _ _ _ vi => nm.length - (intOf vi).toNat)
    case atStart => exact ⟨0, _, Nat.zero_le _, rfl, rfl, Lib.hid (by simp [Sc.chsOk]; rfl)⟩
    case round =>
      obtain ⟨k, b, hk, rfl, rfl, HB⟩ := hrel
      by_cases hlt : k < nm.length
      · have i1 : (k : Int) < (nm.length : Int) := by omega
        have i0 : (0 : Int) ≤ (k : Int) := by omega
        have hc := HC.out k hlt
        have hs := Sc.chsOk_snoc nm k hlt
        have hy : ∀ (z : Bool), Sc.chOk k nm[k] = z → Sc.chsOk 0 (nm.take (k + 1)) = (Sc.chsOk 0 (nm.take k) && z) := fun z h => by rw [hs, h]
        have hyes : ((97 ≤ (nm[k].toNat : Int) ∧ (nm[k].toNat : Int) ≤ 122) ∨ (0 < (k : Int) ∧ 48 ≤ (nm[k].toNat : Int) ∧ (nm[k].toNat : Int) ≤ 57)) → Sc.chOk k nm[k] = true := Sc.chOk_yes
        have hno : ¬ ((97 ≤ (nm[k].toNat : Int) ∧ (nm[k].toNat : Int) ≤ 122) ∨ (0 < (k : Int) ∧ 48 ≤ (nm[k].toNat : Int) ∧ (nm[k].toNat : Int) ≤ 57)) → Sc.chOk k nm[k] = false := Sc.chOk_no
        have HY := Lib.hid hy; have HYES := Lib.hid hyes; have HNO := Lib.hid hno
        clear hs hy hyes hno
        generalize nm[k] = c at *
        cases b
        · go_wp2_with fail
          exact ⟨⟨k + 1, _, by omega, by go_num, rfl, Lib.hid (by rw [HY.out _ rfl, ← Bool.and_assoc, ← HB.out]; rfl)⟩, by simp [intOf]; go_num⟩
        · rcases range_ways (c.toNat : Int) with ⟨a1, a2, a3, a4⟩ | ⟨a1, a2, a3, a4⟩ | ⟨a1, a2, a3, a4⟩ | ⟨a1, a2, a3, a4⟩ | ⟨a1, a2, a3, a4⟩
          all_goals
            by_cases hk0 : 0 < k
          all_goals
            go_wp2_with fail
            first
              | exact ⟨⟨k + 1, _, by omega, by go_num, rfl, Lib.hid (by rw [HY.out _ (HYES.out (by omega)), ← Bool.and_assoc, ← HB.out]; rfl)⟩, by simp [intOf]; go_num⟩
              | exact ⟨⟨k + 1, _, by omega, by go_num, rfl, Lib.hid (by rw [HY.out _ (HNO.out (by omega)), ← Bool.and_assoc, ← HB.out]; rfl)⟩, by simp [intOf]; go_num⟩
      · obtain rfl : k = nm.length := by omega
        have HB2 := HB
        rw [List.take_length] at HB2
        go_wp2_with fail
        go_ret
        exact ⟨ret_bool (by rw [HR.out]; exact HB2.out), hb⟩
end Go.Proofs.YtdggofleokjmcaaGreatDoor.Val
