/- THE WALK OF ftoa64 at a number that is not nought: of few bits. -/
import Derived.Test.YtnccpddjdgndcaaGreatDoorFmtM
namespace Go.Proofs.YtnccpddjdgndcaaGreatDoor.Fmt
open Go.RowKit Go.Lib
theorem wrap_sh (m z : Nat) (h : m * 2 ^ z < 18446744073709551616) (hz : z ≤ 63) : IntKind.u64.wrap ((m : Int) * 2 ^ (64 - (64 - z))) = ((m * 2 ^ z : Nat) : Int) := by
  rw [show 64 - (64 - z) = z by omega, show ((m : Int) * 2 ^ z) = ((m * 2 ^ z : Nat) : Int) by simp, IntKind.wrap_u64]
  generalize m * 2 ^ z = N at *
  omega
theorem len_sub (m z : Nat) (h : m < 4503599627370496) (hz : Lib.bitLen m = 64 - z) (hz2 : z ≤ 63) (w : World) : Calls Tryz.prog 118 #[.int .u64 (m : Int)] w fun e w' => e = .returned (.int .i64 (64 - (z : Int))) ∧ w' = w := by
  have hk := Tryz.bits_Len64 (m : Int) w (by omega) (by omega)
  rw [Int.toNat_natCast, hz, show ((64 - z : Nat) : Int) = 64 - (z : Int) by omega] at hk
  exact hk
theorem short_at2 (M X : Int) (m : Nat) (E : Int) (z : Nat) (hM : M = (m : Int)) (hX : X = E) (hzE : 11 + (-1085 - E) = (z : Int)) (hz1 : 12 ≤ z) (hz2 : z ≤ 63) (hm : 9223372036854775808 ≤ (m : Int)) (hm2 : m + 2 ^ z ≤ 18446744073709551616) (w : World) (hp : Pow w) :
    Calls Tryz.prog 133 #[.int .u64 M, .int .i64 X] w fun e w' => e = .returned (.tuple #[.int .u64 ((short m E).1 : Nat), .int .i64 (short m E).2]) ∧ Below w.heap.size w w' := by
  subst hM hX
  exact short_sub m _ z hzE hz1 hz2 hm hm2 w hp
set_option maxRecDepth 20000 in
set_option maxHeartbeats 4000000 in
theorem ftoa_sub (b base : Nat) (v : Value) (txt : List UInt8) (w : World) (hb : b < 18446744073709551616) (he : bexp b = 0) (hn : 1 ≤ bman b) (hs : St w w base none v txt) (hl : txt.length ≤ 100) (hp : Pow w) (ht : P10 w) :
    Calls Tryz.prog 92 #[v, .float .f64 b, .int .u8 103, .int .i64 (-1)] w fun e w' =>
      ∃ v', e = .returned v' ∧ St w w' base none v' (txt ++ sgn (bneg b) ++ numT b) := by
  have hf : bman b < 4503599627370496 := Nat.mod_lt _ (by decide)
  have b1 : bits .and .i64 ((b : Int) / 4503599627370496) 2047 = 0 := by rw [and_exp b hb, he]; rfl
  have b2 : bits .and .u64 (b : Int) 4503599627370495 = (bman b : Int) := and_man b hb
  have b3 := neg_eq b
  have n1 : ¬ (bman b : Int) = 0 := by omega
  have n2 : ((bman b : Int) == 0) = false := by simpa using n1
  obtain ⟨z, hz, z1, z2, hlen, hm, hE, hZ, l1, l2⟩ := sub_facts b he hn
  have hT0 : 0 < 2 ^ z := Nat.two_pow_pos _
  have hlow : 2 ^ (63 - z) * 2 ^ z ≤ bman b * 2 ^ z := Nat.mul_le_mul_right _ l1
  have hhigh : (bman b + 1) * 2 ^ z ≤ 2 ^ (64 - z) * 2 ^ z := Nat.mul_le_mul_right _ l2
  rw [pow_join _ _ 63 (by omega), show (2 : Nat) ^ 63 = 9223372036854775808 by decide] at hlow
  rw [pow_join _ _ 64 (by omega), show (2 : Nat) ^ 64 = 18446744073709551616 by decide, Nat.succ_mul] at hhigh
  have HLEN := Lib.hid hlen; clear hlen
  have HS := Lib.hid hs; clear hs
  have HL := Lib.hid hl; clear hl
  have HP := Lib.hid hp; clear hp
  have HT := Lib.hid ht; clear ht
  obtain ⟨q1, q2, q3, q4⟩ := (Num.mk (by omega) (.inr (by omega)) : Num b).facts
  obtain ⟨k1, k2, k3, k4⟩ := (Num.mk (by omega) (.inr (by omega)) : Num b).nd
  have hT : numT b = gText (digs (short (fm b) (fE b)).1) ((nDigits (short (fm b) (fE b)).1 : Int) + (short (fm b) (fE b)).2) := rfl
  rw [hT]
  have hsh : ∀ M X W, M = ((bman b * 2 ^ z : Nat) : Int) → X = -1074 - (z : Int) → Pow W → Calls Tryz.prog 133 #[.int .u64 M, .int .i64 X] W fun e w' => e = .returned (.tuple #[.int .u64 ((short (fm b) (fE b)).1 : Nat), .int .i64 (short (fm b) (fE b)).2]) ∧ Below W.heap.size W w' :=
    fun M X W hM hX hp => short_at2 M X (fm b) (fE b) z (by rw [hM, hm]) (by rw [hX, hE]) (by rw [hE]; omega) z1 z2 (by rw [hm]; omega) (by rw [hm]; omega) W hp
  have hsm : bman b * 2 ^ z < 18446744073709551616 := by omega
  have HSM := Lib.hid hsm
  clear hlow hhigh l1 l2 hZ hT0 hsm hz
  clear hT hm hE
  generalize (short (fm b) (fE b)).2 = p at *
  generalize (short (fm b) (fE b)).1 = d at *
  generalize hD : digs d = D at *
  have HD := Lib.hid hD; clear hD
  have HSH := Lib.hid hsh; clear hsh
  go_enter Tryz.func92, Tryz.ntmps92
  go_wp2_with (first | (simp only [sbits_call]) | fail)
  go_region
  go_wp2_with (first | (go_at_call 118; refine (len_sub (bman b) z hf HLEN.out z2 _).mono ?_; rintro e w1 ⟨rfl, rfl⟩) | (go_at_call 133; refine (HSH.out _ _ _ (wrap_sh _ _ HSM.out z2) (by omega) (HP.out.below (balloc_drew w _))).mono ?_; rintro e w1 ⟨rfl, hb1⟩; obtain ⟨hs1, hk1, hl1⟩ := HS.out.shorted hb1; have HS1 := Lib.hid hs1; have HK1 := Lib.hid hk1; have HL1 := Lib.hid hl1; clear hb1 hs1 hk1 hl1) | fail)
  go_region_with (first | (go_at_call 88; refine (Tryz.internal_strconv_numDigits d (by omega) (by omega) _ (HT.out.below HL1.out (Nat.le_refl _))).mono ?_; rintro e w2 ⟨rfl, rfl⟩) | (go_at_call 128; refine (digits_at w.heap.size d base p D v txt w _ HS1.out HK1.out HS.out.size HS.out.own_lt (by omega) HD.out (by omega) (by omega)).mono ?_; rintro e w3 ⟨rfl, cs, hf3, hd3⟩; have HF3 := Lib.hid hf3; have HD3 := Lib.hid hd3; clear hf3 hd3) | fail)
  all_goals
    go_wp2_with (first | (go_at_call 126; refine (efg_any (bneg b) D w.heap.size base cs v txt _ _ HF3.out.here HD3.out k1 k2 HL.out (by omega) (by omega)).mono ?_; rintro e w4 ⟨v1, rfl, h1⟩; have HR := Lib.hid (h1.from HF3.out.low).drop; clear h1) | fail)
  all_goals
    go_ret
    exact ⟨_, rfl, HR.out⟩
end Go.Proofs.YtnccpddjdgndcaaGreatDoor.Fmt
