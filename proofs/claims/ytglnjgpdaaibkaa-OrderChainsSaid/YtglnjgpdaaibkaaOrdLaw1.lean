/- THE LAWS OF package order: fit. -/
import Derived.Test.YtglnjgpdaaibkaaOrd
namespace Go.Proofs.Ytglnjgpdaaibkaa.Ord
open Go.RowKit Flt
theorem nan_cut (t : Nat) : nan ((t % 2) * 2 ^ 63 + 0x7ff0000000000000 + 1 + (t / 2) % (2 ^ 52 - 1)) = true ∧ (t % 2) * 2 ^ 63 + 0x7ff0000000000000 + 1 + (t / 2) % (2 ^ 52 - 1) < 18446744073709551616 := by
  have h2 : (t / 2) % (2 ^ 52 - 1) < 2 ^ 52 - 1 := Nat.mod_lt _ (by decide)
  generalize (t / 2) % (2 ^ 52 - 1) = r at *
  refine ⟨?_, by omega⟩
  unfold nan rung inf
  rw [decide_eq_true_iff]; omega
theorem run_nan (t x y : Nat) (h : FloatKind.f64.format.div x y = none) (w : World) :
    ∃ b, nan b = true ∧ b < 18446744073709551616 ∧ (binOp .quo t (.float .f64 x) (.float .f64 y)).run Try.prog w = .ok (.float .f64 b) w.drew := by
  refine ⟨_, (nan_cut (w.tape w.drawn (.nanBits .f64 x y))).1, (nan_cut _).2, ?_⟩
  simp [binOp, Op.floatArith, h, Question.forced, Question.cut]
theorem run_neg (b : Nat) (w : World) : (Op.unary .neg (.float .f64 b)).run Try.prog w = .ok (.float .f64 (Op.negFloat .f64 b)) w := rfl
theorem below_drew (w : World) (B : Nat) : Below B w w.drew := ⟨rfl, rfl, rfl, Nat.le_refl _, fun _ _ => rfl⟩
theorem float_lt {b : Nat} (h : (Lit.float .f64 b).wf = true) : b < 18446744073709551616 := by simpa [Lit.wf] using h
theorem u64_lt {n : Int} (h : (Lit.int .u64 n).wf = true) : 0 ≤ n ∧ n < 18446744073709551616 := by
  have : 0 ≤ n ∧ n ≤ 18446744073709551615 := by simpa [Lit.wf, IntKind.min, IntKind.max, IntKind.signed, IntKind.bits] using h
  omega
set_option maxHeartbeats 400000 in
theorem fit_any (w : World) :
    Calls Try.prog 9 #[] w fun e w' => e = .returned (.bool true) ∧ w.drew = w' := by
  have k0 : key 0 = 9223372036854775808 := by decide
  have hneg := run_neg
  have hn0 : Op.negFloat .f64 0 = 9223372036854775808 := by decide
  have s0 : same 0 9223372036854775808 = true := by decide
  have l0 : Flt.lt 13830554455654793216 4611686018427387904 = true := by decide
  obtain ⟨b, hb, hb2, hrun⟩ := run_nan 22 0 0 (by decide) w
  go_enter Try.func9, Try.ntmps9
  go_wp2_with (first | (go_at_call 10; refine (key_any _ (by decide) _).mono ?_; rintro e w' ⟨rfl, rfl⟩) | (go_at_call 12; refine (same_any _ _ (by decide) (by decide) _).mono ?_; rintro e w' ⟨rfl, rfl⟩) | (go_at_call 14; refine (none_any _ _).mono ?_; rintro e w' ⟨rfl, rfl⟩) | (go_at_call 11; refine (less_any _ _ _).mono ?_; rintro e w' ⟨rfl, rfl⟩))
  go_ret
  exact ⟨rfl, rfl⟩
end Go.Proofs.Ytglnjgpdaaibkaa.Ord
