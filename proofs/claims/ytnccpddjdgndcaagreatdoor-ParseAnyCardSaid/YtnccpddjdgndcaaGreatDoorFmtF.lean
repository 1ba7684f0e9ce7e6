/- THE WALK OF ftoa64: its parts. -/
import Derived.Test.YtnccpddjdgndcaaGreatDoorFmtE
import Derived.Test.YtnccpddjdgndcaaGreatDoorFmtC
import Derived.BigQuiet
namespace Go.Proofs.YtnccpddjdgndcaaGreatDoor.Fmt
open Go.RowKit Go.Lib
theorem sbits_call (b : Nat) (w : World) : (callFunc 123 #[.float .f64 b]).run Tryz.prog w = .ok (.value (.int .u64 b)) w :=
  run_callFunc_extern (e := Extern.MathFloatBits.float64bits) Tryz.func123 (by kernel_rfl) (by kernel_rfl) (by kernel_rfl) (by kernel_rfl) _ w
theorem and_exp (b : Nat) (hb : b < 18446744073709551616) : bits .and .i64 ((b : Int) / 4503599627370496) 2047 = ((bexp b : Nat) : Int) := by
  have := (bits_nat .i64 63 (by decide) wraps_i64 (b / 4503599627370496) 2047 (by omega) (by decide)).1
  rw [show ((2047 : Int)) = ((2047 : Nat) : Int) from rfl, show (b : Int) / 4503599627370496 = ((b / 4503599627370496 : Nat) : Int) by omega, this]
  have h2 := Nat.and_two_pow_sub_one_eq_mod (b / 4503599627370496) 11
  rw [show (2 : Nat) ^ 11 - 1 = 2047 by decide, show (2 : Nat) ^ 11 = 2048 by decide] at h2
  rw [h2]; rfl
theorem and_man (b : Nat) (hb : b < 18446744073709551616) : bits .and .u64 (b : Int) 4503599627370495 = ((bman b : Nat) : Int) := by
  have := u64_and (b : Int) 4503599627370495 (by omega) (by omega) (by decide) (by decide)
  rw [this, Int.toNat_natCast]
  have h2 := Nat.and_two_pow_sub_one_eq_mod b 52
  rw [show (2 : Nat) ^ 52 - 1 = 4503599627370495 by decide, show (2 : Nat) ^ 52 = 4503599627370496 by decide] at h2
  rw [show (4503599627370495 : Int).toNat = 4503599627370495 by decide, h2]; rfl
theorem St.drew {w0 W : World} {base : Nat} {src : Option (Nat × Array Value)} {v : Value} {txt : List UInt8} (h : St w0 W base src v txt) : St w0 W.drew base src v txt :=
  ⟨h.own, h.blk, h.low.drew, h.size⟩
theorem St.here {w0 W : World} {base : Nat} {src : Option (Nat × Array Value)} {v : Value} {txt : List UInt8} (h : St w0 W base src v txt) : St W W base src v txt :=
  ⟨h.own, h.blk, Below.refl _ _, h.size⟩
theorem St.from {w0 W W2 : World} {base : Nat} {src : Option (Nat × Array Value)} {v : Value} {txt : List UInt8} (h : St W W2 base src v txt) (hb : Below base w0 W) : St w0 W2 base src v txt :=
  ⟨h.own, h.blk, hb.trans h.low, h.size⟩
theorem neg_eq (b : Nat) : ((b : Int) / 9223372036854775808 != 0) = bneg b := by
  unfold bneg
  rw [Bool.eq_iff_iff]
  simp only [bne_iff_ne, decide_eq_true_eq]
  omega
set_option maxRecDepth 20000 in
set_option maxHeartbeats 4000000 in
/-- zero -/
theorem ftoa_zero (b base : Nat) (v : Value) (txt : List UInt8) (w : World) (hb : b < 18446744073709551616) (hz : bman b = 0) (he : bexp b = 0) (hs : St w w base none v txt) (hl : txt.length ≤ 100) :
    Calls Tryz.prog 92 #[v, .float .f64 b, .int .u8 103, .int .i64 (-1)] w fun e w' =>
      ∃ v', e = .returned v' ∧ St w w' base none v' (txt ++ sgn (bneg b) ++ [48]) := by
  have b1 : bits .and .i64 ((b : Int) / 4503599627370496) 2047 = 0 := by rw [and_exp b hb, he]; rfl
  have b2 : bits .and .u64 (b : Int) 4503599627370495 = 0 := by rw [and_man b hb, hz]; rfl
  have b3 := neg_eq b
  have HS := Lib.hid hs; clear hs
  have HL := Lib.hid hl; clear hl
  clear hz he
  go_enter Tryz.func92, Tryz.ntmps92
  go_wp2_with (first | (simp only [sbits_call]) | fail)
  go_region
  go_wp2_with (go_at_call 126; refine (efg_zero (bneg b) base v txt _ HS.out.drew.here HL.out).mono ?_; rintro e w1 ⟨v1, rfl, h1⟩; have HR := Lib.hid h1; clear h1)
  go_ret
  exact ⟨_, rfl, HR.out.from HS.out.drew.low⟩
end Go.Proofs.YtnccpddjdgndcaaGreatDoor.Fmt
