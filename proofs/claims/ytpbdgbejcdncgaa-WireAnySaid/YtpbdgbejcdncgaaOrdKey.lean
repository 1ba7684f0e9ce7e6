/- THE WALKS OF package order: Key, Same. -/
import Derived.Test.YtpbdgbejcdncgaaOrd
namespace Go.Proofs.Ytpbdgbejcdncgaa.Ord
open Go.RowKit Flt
attribute [local go_sem] ford_eq ford_lt ford_gt
theorem bits_call (b : Nat) (w : World) : (callFunc 56 #[.float .f64 b]).run Try.prog w = .ok (.value (.int .u64 b)) w :=
  run_callFunc_extern (e := Extern.MathFloatBits.float64bits) Try.func56 (by kernel_rfl) (by kernel_rfl) (by kernel_rfl) (by kernel_rfl) _ w
theorem umax_xor (b : Nat) (hb : b < 18446744073709551616) : bits .xor .u64 IntKind.u64.max (b : Int) = ((most - b : Nat) : Int) := by
  have h := u64_xor 18446744073709551615 (b : Int) (by decide) (by decide) (by omega) (by omega)
  have e : IntKind.u64.max = 18446744073709551615 := by decide
  rw [e, h]
  have e2 : (18446744073709551615 : Int).toNat = most := by decide
  rw [e2, Int.toNat_natCast, xor_most hb]
theorem top_or (b : Nat) (hb : b < 18446744073709551616) : bits .or .u64 (b : Int) 9223372036854775808 = ((b ||| top : Nat) : Int) := by
  have h := u64_or (b : Int) 9223372036854775808 (by omega) (by omega) (by decide) (by decide)
  rw [h, Int.toNat_natCast]; rfl
theorem top_off (b : Nat) (hb : b < 18446744073709551616) : bits .andNot .u64 (b : Int) 9223372036854775808 = ((b % 9223372036854775808 : Nat) : Int) := by
  have h := u64_andNot (b : Int) 9223372036854775808 (by omega) (by omega) (by decide) (by decide)
  rw [h, Int.toNat_natCast]
  have e2 : (9223372036854775808 : Int).toNat = 9223372036854775808 := by decide
  rw [e2, and_low]

theorem ret_u64 {a b : Int} (h : a = b) : Ending.returned (.int .u64 a) = .returned (.int .u64 b) := by rw [h]
set_option maxHeartbeats 400000 in
theorem key_any (b : Nat) (hb : b < 18446744073709551616) (w : World) :
    Calls Try.prog 46 #[.float .f64 b] w fun e w' => e = .returned (.int .u64 (key b)) ∧ w = w' := by
  have hc := bits_call
  have h1 := ford_ne_self (canon b)
  rw [canon_nan] at h1
  cases hn : nan b with
  | true =>
    rw [key_nan hn]
    rw [hn] at h1; clear hn hb
    go_enter Try.func46, Try.ntmps46
    go_wp2_with (go_at_call 49; refine (canon_any _ _).mono ?_; rintro e w' ⟨rfl, rfl⟩)
    go_ret
    exact ⟨rfl, rfl⟩
  | false =>
    rw [hn] at h1
    have hk := key_of_canon b hb hn
    have hl := canon_lt b hb
    clear hn hb
    by_cases h : canon b / 9223372036854775808 = 1
    · rw [if_pos h] at hk
      have HK := Lib.hid hk; clear hk
      have h' : ((canon b : Int) / 9223372036854775808 == 1) = true := by rw [beq_iff_eq]; omega
      clear h
      go_enter Try.func46, Try.ntmps46
      go_wp2_with (go_at_call 49; refine (canon_any _ _).mono ?_; rintro e w' ⟨rfl, rfl⟩)
      go_ret
      exact ⟨ret_u64 (by rw [HK.out, umax_xor _ hl]), rfl⟩
    · rw [if_neg h] at hk
      have HK := Lib.hid hk; clear hk
      have h' : ((canon b : Int) / 9223372036854775808 == 1) = false := by rw [beq_eq_false_iff_ne]; omega
      clear h
      go_enter Try.func46, Try.ntmps46
      go_wp2_with (go_at_call 49; refine (canon_any _ _).mono ?_; rintro e w' ⟨rfl, rfl⟩)
      go_ret
      exact ⟨ret_u64 (by rw [HK.out, top_or _ hl]), rfl⟩
def same (a b : Nat) : Bool := key a == key b
theorem beq_cast (a b : Nat) : ((a : Int) == (b : Int)) = (a == b) := by
  rw [Bool.eq_iff_iff]; simp; omega
end Go.Proofs.Ytpbdgbejcdncgaa.Ord
