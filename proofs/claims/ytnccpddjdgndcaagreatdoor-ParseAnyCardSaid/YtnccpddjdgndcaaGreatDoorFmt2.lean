/- THE WALK OF uscale. -/
import Derived.Test.YtnccpddjdgndcaaGreatDoorFmt1
import Derived.Deep.QuietTactic
import Derived.BigQuiet
namespace Go.Proofs.YtnccpddjdgndcaaGreatDoor.Fmt
open Go.RowKit
theorem bool2_q (b : Bool) (w : World) : Calls Tryz.prog 156 #[.bool b] w fun e w' => e = .returned (.int .u64 (if b then 1 else 0)) ∧ w' = w :=
  (bool2_any b w).mono fun _ _ ⟨h1, h2⟩ => ⟨h1, h2.symm⟩
theorem cast_div (H s : Nat) : (H : Int) / 2 ^ s = ((H / 2 ^ s : Nat) : Int) := by simp
theorem cast_mul (H s : Nat) : (H : Int) / 2 ^ s * 2 ^ s = ((H / 2 ^ s * 2 ^ s : Nat) : Int) := by simp
theorem or_end (X s Y : Nat) (hX : X < 18446744073709551616) (hY : Y < 18446744073709551616) : bits .or .u64 ((X : Int) / 2 ^ s) (Y : Int) = ((X / 2 ^ s ||| Y : Nat) : Int) := by
  rw [cast_div]
  exact or_u _ _ (Nat.lt_of_le_of_lt (Nat.div_le_self _ _) hX) hY
set_option maxRecDepth 20000 in
set_option maxHeartbeats 2000000 in
theorem uscale_any (x hi lo s b : Nat) (hx : x < 18446744073709551616) (hh : hi < 18446744073709551616) (hl : lo < 18446744073709551616) (hs : s ≤ 63) (w : World)
    (c0 : w.cell? ⟨b, 0, none⟩ = some (.int .u64 hi)) (c1 : w.cell? ⟨b, 1, none⟩ = some (.int .u64 lo)) (c2 : w.cell? ⟨b, 2, none⟩ = some (.int .i64 s)) :
    Calls Tryz.prog 168 #[.int .u64 x, .pointer (some ⟨b, 0, none⟩)] w fun e w' => e = .returned (.int .u64 (usc x hi lo s : Nat)) ∧ ∃ n, w' = w.drewN n := by
  have h63 := and63 s hs
  have s0 : (0 : Int) ≤ (s : Int) := by omega
  have hm : min ((s : Int)).toNat IntKind.u64.bits = s := by show min ((s : Int)).toNat 64 = s; omega
  have hU : usc x hi lo s = usc x hi lo s := rfl
  conv at hU => rhs; unfold usc
  have hhl : x * hi / 18446744073709551616 < 18446744073709551616 := by
    rw [Nat.div_lt_iff_lt_mul (by decide)]
    exact Nat.mul_lt_mul'' hx hh
  have hml : x * hi % 18446744073709551616 < 18446744073709551616 := Nat.mod_lt _ (by decide)
  have hm2 : x * lo / 18446744073709551616 < 18446744073709551616 := by
    rw [Nat.div_lt_iff_lt_mul (by decide)]
    exact Nat.mul_lt_mul'' hx hl
  have hmul1 := Tryz.bits_Mul64 x hi hx hh
  have hmul2 := Tryz.bits_Mul64 x lo hx hl
  generalize usc x hi lo s = U at *
  generalize x * hi / 18446744073709551616 = H at *
  generalize x * hi % 18446744073709551616 = M at *
  generalize x * lo / 18446744073709551616 = M2 at *
  generalize x * lo % 18446744073709551616 = M3 at *
  have hd : ∀ y, y < 18446744073709551616 → y / 2 ^ s < 18446744073709551616 := fun y hy => Nat.lt_of_le_of_lt (Nat.div_le_self _ _) hy
  have HU := Lib.hid hU; have HMUL1 := Lib.hid hmul1; have HMUL2 := Lib.hid hmul2; have HD := Lib.hid hd
  clear hU hmul1 hmul2 hd hx hh hl
  by_cases hq : H / 2 ^ s * 2 ^ s = H
  rotate_left
  · have hw : (IntKind.u64.wrap ((H : Int) / 2 ^ s * 2 ^ s) != (H : Int)) = true := by
      have hle : H / 2 ^ s * 2 ^ s ≤ H := Nat.div_mul_le_self _ _
      rw [cast_mul, IntKind.wrap_u64]
      simp only [bne_iff_ne, ne_eq]
      generalize H / 2 ^ s * 2 ^ s = z at *
      omega
    have hr := HU.out
    rw [if_pos hq] at hr
    have ho := or_u (H / 2 ^ s) 1 (HD.out H hhl) (by decide)
    rw [← hr, ← cast_div] at ho
    have HO := Lib.hid ho
    clear hr ho hq hm2 hml
    go_enter Tryz.func168, Tryz.ntmps168
    go_wp2_with fail
    refine (HMUL1.out _).mono ?_; rintro e w1 ⟨rfl, rfl⟩
    go_wp2_with fail
    go_ret
    exact ⟨ret_u HO.out, 0, rfl⟩
  · have hw : (IntKind.u64.wrap ((H : Int) / 2 ^ s * 2 ^ s) != (H : Int)) = false := by
      rw [cast_mul, IntKind.wrap_u64, hq]
      simp only [bne_eq_false_iff_eq]
      omega
    have hr := HU.out
    rw [if_neg (by simpa using hq)] at hr
    have HR := Lib.hid hr
    clear hr hq
    go_enter Tryz.func168, Tryz.ntmps168
    go_wp2_with fail
    refine (HMUL1.out _).mono ?_; rintro e w1 ⟨rfl, rfl⟩
    go_wp2_with fail
    refine (HMUL2.out _).mono ?_; rintro e w2 ⟨rfl, rfl⟩
    go_wp2_with (go_at_call 156; refine (bool2_any _ _).mono ?_; rintro e w3 ⟨rfl, rfl⟩)
    all_goals
      go_quiet ((go_at_call 156; refine Calls.quiet_of_same (bool2_q _ _)))
      go_wp2
      all_goals
        go_ret
        refine ⟨?_, nq, rfl⟩
        refine ret_u ?_
        have hX1 : IntKind.u64.wrap ((H : Int) - 1) = (((H + 18446744073709551616 - 1) % 18446744073709551616 : Nat) : Int) := by rw [IntKind.wrap_u64]; omega
        have hX0 : (H + 18446744073709551616 - 0) % 18446744073709551616 = H := by omega
        first
        | (rw [HR.out, if_pos (show M < M2 by omega), if_pos (by rw [IntKind.wrap_u64] at h; omega), hX1]; exact or_end _ s 1 (Nat.mod_lt _ (by decide)) (by decide))
        | (rw [HR.out, if_pos (show M < M2 by omega), if_neg (by rw [IntKind.wrap_u64] at h; omega), hX1]; exact or_end _ s 0 (Nat.mod_lt _ (by decide)) (by decide))
        | (rw [HR.out, if_neg (show ¬ M < M2 by omega), if_pos (by omega), hX0]; exact or_end _ s 1 hhl (by decide))
        | (rw [HR.out, if_neg (show ¬ M < M2 by omega), if_neg (by omega), hX0]; exact or_end _ s 0 hhl (by decide))
end Go.Proofs.YtnccpddjdgndcaaGreatDoor.Fmt
