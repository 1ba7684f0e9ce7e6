/- THE WALKS OF package order: each function gives its plain function; the world stays as it was. -/
import Derived.Test.YtglnjgpdaaibkaaRows
import Derived.Test.YtglnjgpdaaibkaaOrdFn
import Derived.WalkKit
import Derived.WalkSpells
import Derived.WalkLawsBesides
import Derived.Lib.Hide
import Derived.Laws.BitsAllLaws
namespace Go.Proofs.Ytglnjgpdaaibkaa.Ord
open Go.RowKit Flt

theorem ford_ne_self (b : Nat) : (FloatKind.f64.format.order b b != some .eq) = nan b := by
  have : (FloatKind.f64.format.order b b == some .eq) = !nan b := Flt.eq_self b
  rw [bne, this, Bool.not_not]
theorem ford_eq (a b : Nat) : (FloatKind.f64.format.order a b == some .eq) = Flt.eq a b := order_eq a b
theorem ford_ne (a b : Nat) : (FloatKind.f64.format.order a b != some .eq) = !Flt.eq a b := by rw [bne, ford_eq]
theorem ford_lt (a b : Nat) : (FloatKind.f64.format.order a b == some .lt) = Flt.lt a b := order_lt a b
theorem ford_gt (a b : Nat) : (FloatKind.f64.format.order a b == some .gt) = Flt.lt b a := order_gt a b

theorem bits_call (b : Nat) (w : World) : (callFunc 16 #[.float .f64 b]).run Try.prog w = .ok (.value (.int .u64 b)) w :=
  run_callFunc_extern (e := Extern.MathFloatBits.float64bits) Try.func16 (by kernel_rfl) (by kernel_rfl) (by kernel_rfl) (by kernel_rfl) _ w
theorem frombits_call (n : Int) (w : World) : (callFunc 18 #[.int .u64 n]).run Try.prog w = .ok (.value (.float .f64 n.toNat)) w :=
  run_callFunc_extern (e := Extern.MathFloatBits.float64frombits) Try.func18 (by kernel_rfl) (by kernel_rfl) (by kernel_rfl) (by kernel_rfl) _ w

set_option maxHeartbeats 400000 in
theorem nan_any (w : World) :
    Calls Try.prog 17 #[] w fun e w' => e = .returned (.float .f64 nan0) ∧ w = w' := by
  have hc := frombits_call
  go_enter Try.func17, Try.ntmps17
  go_wp2
  go_ret
  exact ⟨rfl, rfl⟩
attribute [local go_sem] ford_eq ford_lt ford_gt
set_option maxHeartbeats 400000 in
theorem canon_any (b : Nat) (w : World) :
    Calls Try.prog 13 #[.float .f64 b] w fun e w' => e = .returned (.float .f64 (canon b)) ∧ w = w' := by
  have h1 := ford_ne_self b
  have h2 : Flt.eq b 0 = zero b := rfl
  have E : Hid (canon b = if nan b then nan0 else if zero b then 0 else b) := Lib.hid rfl
  cases hn : nan b with
  | true =>
    rw [hn] at h1 E
    clear h2 hn
    rw [show canon b = nan0 from E.out]; clear E
    go_enter Try.func13, Try.ntmps13
    go_wp2_with (go_at_call 17; refine (nan_any _).mono ?_; rintro e w' ⟨rfl, rfl⟩)
    go_ret
    exact ⟨rfl, rfl⟩
  | false =>
    rw [hn] at h1 E
    clear hn
    cases hz : zero b with
    | true =>
      rw [hz] at E h2; clear hz
      rw [show canon b = 0 from E.out]; clear E
      go_enter Try.func13, Try.ntmps13
      go_wp2
      go_ret
      exact ⟨rfl, rfl⟩
    | false =>
      rw [hz] at E h2; clear hz
      rw [show canon b = b from E.out]; clear E
      go_enter Try.func13, Try.ntmps13
      go_wp2
      go_ret
      exact ⟨rfl, rfl⟩
theorem umax_xor (b : Nat) (hb : b < 18446744073709551616) : bits .xor .u64 IntKind.u64.max (b : Int) = ((most - b : Nat) : Int) := by
  have h := u64_xor 18446744073709551615 (b : Int) (by decide) (by decide) (by omega) (by omega)
  have e : IntKind.u64.max = 18446744073709551615 := by decide
  rw [e, h]
  have e2 : (18446744073709551615 : Int).toNat = most := by decide
  rw [e2, Int.toNat_natCast, xor_most hb]
theorem top_or (b : Nat) (hb : b < 18446744073709551616) : bits .or .u64 (b : Int) 9223372036854775808 = ((b ||| top : Nat) : Int) := by
  have h := u64_or (b : Int) 9223372036854775808 (by omega) (by omega) (by decide) (by decide)
  rw [h, Int.toNat_natCast]; rfl
theorem top_off (b : Nat) (hb : b < 18446744073709551616) : bits .andNot .u64 (b : Int) 9223372036854775808 = ((b % 9223372036854775808 : Nat) : Int) := by
  have h := u64_andNot (b : Int) 9223372036854775808 (by omega) (by omega) (by decide) (by decide)
  rw [h, Int.toNat_natCast]
  have e2 : (9223372036854775808 : Int).toNat = 9223372036854775808 := by decide
  rw [e2, and_low]

theorem ret_bool {a b : Bool} (h : a = b) : Ending.returned (.bool a) = .returned (.bool b) := by rw [h]
theorem ret_u64 {a b : Int} (h : a = b) : Ending.returned (.int .u64 a) = .returned (.int .u64 b) := by rw [h]
set_option maxHeartbeats 400000 in
theorem key_any (b : Nat) (hb : b < 18446744073709551616) (w : World) :
    Calls Try.prog 10 #[.float .f64 b] w fun e w' => e = .returned (.int .u64 (key b)) ∧ w = w' := by
  have hc := bits_call
  have h1 := ford_ne_self (canon b)
  rw [canon_nan] at h1
  cases hn : nan b with
  | true =>
    rw [key_nan hn]
    rw [hn] at h1; clear hn hb
    go_enter Try.func10, Try.ntmps10
    go_wp2_with (go_at_call 13; refine (canon_any _ _).mono ?_; rintro e w' ⟨rfl, rfl⟩)
    go_ret
    exact ⟨rfl, rfl⟩
  | false =>
    rw [hn] at h1
    have hk := key_of_canon b hb hn
    have hl := canon_lt b hb
    clear hn hb
    by_cases h : canon b / 9223372036854775808 = 1
    · rw [if_pos h] at hk
      have HK := Lib.hid hk; clear hk
      have h' : ((canon b : Int) / 9223372036854775808 == 1) = true := by rw [beq_iff_eq]; omega
      clear h
      go_enter Try.func10, Try.ntmps10
      go_wp2_with (go_at_call 13; refine (canon_any _ _).mono ?_; rintro e w' ⟨rfl, rfl⟩)
      go_ret
      exact ⟨ret_u64 (by rw [HK.out, umax_xor _ hl]), rfl⟩
    · rw [if_neg h] at hk
      have HK := Lib.hid hk; clear hk
      have h' : ((canon b : Int) / 9223372036854775808 == 1) = false := by rw [beq_eq_false_iff_ne]; omega
      clear h
      go_enter Try.func10, Try.ntmps10
      go_wp2_with (go_at_call 13; refine (canon_any _ _).mono ?_; rintro e w' ⟨rfl, rfl⟩)
      go_ret
      exact ⟨ret_u64 (by rw [HK.out, top_or _ hl]), rfl⟩
set_option maxHeartbeats 400000 in
theorem less_any (a b : Nat) (w : World) :
    Calls Try.prog 11 #[.float .f64 a, .float .f64 b] w fun e w' => e = .returned (.bool (Flt.lt a b)) ∧ w = w' := by
  go_enter Try.func11, Try.ntmps11
  go_wp2
  go_ret
  exact ⟨rfl, rfl⟩
set_option maxHeartbeats 400000 in
theorem none_any (a : Nat) (w : World) :
    Calls Try.prog 14 #[.float .f64 a] w fun e w' => e = .returned (.bool (nan a)) ∧ w = w' := by
  go_enter Try.func14, Try.ntmps14
  go_wp2
  go_ret
  exact ⟨ret_bool (ford_ne_self a), rfl⟩
def same (a b : Nat) : Bool := key a == key b
theorem beq_cast (a b : Nat) : ((a : Int) == (b : Int)) = (a == b) := by
  rw [Bool.eq_iff_iff]; simp; omega
set_option maxHeartbeats 400000 in
theorem same_any (a b : Nat) (ha : a < 18446744073709551616) (hb : b < 18446744073709551616) (w : World) :
    Calls Try.prog 12 #[.float .f64 a, .float .f64 b] w fun e w' => e = .returned (.bool (same a b)) ∧ w = w' := by
  go_enter Try.func12, Try.ntmps12
  go_wp2_with (go_at_call 10; refine (key_any _ (by assumption) _).mono ?_; rintro e w' ⟨rfl, rfl⟩)
  go_ret
  exact ⟨ret_bool (beq_cast _ _), rfl⟩

theorem none_most (k : Nat) : ((k : Int) == 18446744073709551615) = decide (k = most) := by
  rw [Bool.eq_iff_iff]; unfold most; simp; omega
theorem bne_cast (a b : Nat) : ((a : Int) != (b : Int)) = (a != b) := by rw [bne, bne, beq_cast]
set_option maxHeartbeats 400000 in
theorem back_any (k : Nat) (hk : k < 18446744073709551616) (w : World) :
    Calls Try.prog 15 #[.int .u64 k] w fun e w' => e = .returned (.tuple #[.float .f64 (back k).1, .bool (back k).2]) ∧ w = w' := by
  have hc := frombits_call
  have hs : IntKind.u64.signed = false := by decide
  have hbl := backB_lt hk
  have hx := umax_xor k hk
  have ho := top_off k hk
  have h1 := ford_ne_self (backB k)
  have hB : backB k = if k / 9223372036854775808 = 0 then most - k else k % 9223372036854775808 := rfl
  have hR : back k = if k = most then (nan0, true) else if nan (backB k) || key (backB k) != k then (0, false) else (backB k, true) := rfl
  have hq := none_most k
  have hne := bne_cast (key (backB k)) k
  by_cases h : k / 9223372036854775808 = 0
  · have hz : ((k : Int) / 9223372036854775808 == 0) = true := by rw [beq_iff_eq]; omega
    rw [if_pos h] at hB
    rw [← hB] at hx
    clear hB h hk
    by_cases hm : k = most
    · rw [if_pos hm] at hR
      rw [decide_eq_true hm] at hq
      clear hm hne h1
      rw [hR]; clear hR
      go_enter Try.func15, Try.ntmps15
      go_wp2_with (go_at_call 17; refine (nan_any _).mono ?_; rintro e w' ⟨rfl, rfl⟩)
      go_ret2
      exact ⟨rfl, rfl⟩
    · rw [if_neg hm] at hR
      rw [decide_eq_false hm] at hq
      clear hm
      cases hn : nan (backB k)
      · rw [hn] at h1 hR
        cases hkk : key (backB k) != k
        · rw [hkk] at hR hne; clear hn hkk
          rw [show back k = (backB k, true) from hR]; clear hR
          go_enter Try.func15, Try.ntmps15
          go_wp2_with (go_at_call 10; refine (key_any _ hbl _).mono ?_; rintro e w' ⟨rfl, rfl⟩)
          go_ret2
          exact ⟨rfl, rfl⟩
        · rw [hkk] at hR hne; clear hn hkk
          rw [show back k = (0, false) from hR]; clear hR
          go_enter Try.func15, Try.ntmps15
          go_wp2_with (go_at_call 10; refine (key_any _ hbl _).mono ?_; rintro e w' ⟨rfl, rfl⟩)
          go_ret2
          exact ⟨rfl, rfl⟩
      · rw [hn] at h1 hR; clear hn hne
        rw [show back k = (0, false) from hR]; clear hR
        go_enter Try.func15, Try.ntmps15
        go_wp2
        go_ret2
        exact ⟨rfl, rfl⟩
  · have hz : ((k : Int) / 9223372036854775808 == 0) = false := by rw [beq_eq_false_iff_ne]; omega
    rw [if_neg h] at hB
    rw [← hB] at ho
    clear hB h hk hx
    by_cases hm : k = most
    · rw [if_pos hm] at hR
      rw [decide_eq_true hm] at hq
      clear hm hne h1
      rw [hR]; clear hR
      go_enter Try.func15, Try.ntmps15
      go_wp2_with (go_at_call 17; refine (nan_any _).mono ?_; rintro e w' ⟨rfl, rfl⟩)
      go_ret2
      exact ⟨rfl, rfl⟩
    · rw [if_neg hm] at hR
      rw [decide_eq_false hm] at hq
      clear hm
      cases hn : nan (backB k)
      · rw [hn] at h1 hR
        cases hkk : key (backB k) != k
        · rw [hkk] at hR hne; clear hn hkk
          rw [show back k = (backB k, true) from hR]; clear hR
          go_enter Try.func15, Try.ntmps15
          go_wp2_with (go_at_call 10; refine (key_any _ hbl _).mono ?_; rintro e w' ⟨rfl, rfl⟩)
          go_ret2
          exact ⟨rfl, rfl⟩
        · rw [hkk] at hR hne; clear hn hkk
          rw [show back k = (0, false) from hR]; clear hR
          go_enter Try.func15, Try.ntmps15
          go_wp2_with (go_at_call 10; refine (key_any _ hbl _).mono ?_; rintro e w' ⟨rfl, rfl⟩)
          go_ret2
          exact ⟨rfl, rfl⟩
      · rw [hn] at h1 hR; clear hn hne
        rw [show back k = (0, false) from hR]; clear hR
        go_enter Try.func15, Try.ntmps15
        go_wp2
        go_ret2
        exact ⟨rfl, rfl⟩
end Go.Proofs.Ytglnjgpdaaibkaa.Ord
