/- THE WALK OF shortFloat, subnormal numbers. -/
import Derived.Test.YtnccpddjdgndcaaGreatDoorFmt3
namespace Go.Proofs.YtnccpddjdgndcaaGreatDoor.Fmt
open Go.RowKit
theorem wrap64_id (n : Int) (h0 : 0 ≤ n) (h1 : n < 9223372036854775808) : wrap64 n = n := by unfold wrap64; omega
set_option maxRecDepth 20000 in
set_option maxHeartbeats 4000000 in
theorem short_sub (m : Nat) (E : Int) (z : Nat) (hzE : 11 + (-1085 - E) = (z : Int)) (hz1 : 12 ≤ z) (hz2 : z ≤ 63) (hm : 9223372036854775808 ≤ (m : Int)) (hm2 : m + 2 ^ z ≤ 18446744073709551616) (w : World) (hp : Pow w) :
    Calls Tryz.prog 133 #[.int .u64 m, .int .i64 E] w fun e w' => e = .returned (.tuple #[.int .u64 ((short m E).1 : Nat), .int .i64 (short m E).2]) ∧ Below w.heap.size w w' := by
  have HP := Lib.hid hp
  have z0 : (0 : Int) ≤ (z : Int) - 1 := by omega
  have hB : ¬ -1085 < E := by omega
  have hB2 : ¬ -1085 ≤ E := by omega
  have hT2 : 2 ^ z = 2 ^ (z - 1) * 2 := by rw [← Nat.pow_succ]; congr 1; omega
  have hT1 : 2 ^ 11 ≤ 2 ^ (z - 1) := Nat.pow_le_pow_right (by decide) (by omega)
  have hT3 : 2 ^ (z - 1) ≤ 2 ^ 62 := Nat.pow_le_pow_right (by decide) (by omega)
  rw [show (2 : Nat) ^ 11 = 2048 by decide] at hT1
  rw [show (2 : Nat) ^ 62 = 4611686018427387904 by decide] at hT3
  have hz : sfZ E = z := by unfold sfZ; rw [if_neg hB2]; omega
  have hP : sfP m E = 324 := by unfold sfP; rw [if_neg (by omega), if_neg hB2]; decide
  have hPe : wrap64 (-lg10 (-1074)) = sfP m E := by rw [hP]; kernel_rfl
  have hN : IntKind.u64.wrap ((m : Int) - IntKind.u64.wrap (2 ^ (z - 1))) = (sfMin m E : Nat) := by
    unfold sfMin
    rw [if_neg (by omega), hz, show ((2 : Int) ^ (z - 1)) = ((2 ^ (z - 1) : Nat) : Int) by simp]
    generalize 2 ^ (z - 1) = T at *
    rw [IntKind.wrap_u64, IntKind.wrap_u64]; omega
  have hX : IntKind.u64.wrap ((m : Int) + IntKind.u64.wrap (2 ^ (z - 1))) = (sfMax m E : Nat) := by
    unfold sfMax
    rw [hz, show ((2 : Int) ^ (z - 1)) = ((2 ^ (z - 1) : Nat) : Int) by simp]
    generalize 2 ^ (z - 1) = T at *
    rw [IntKind.wrap_u64, IntKind.wrap_u64]; omega
  have hml : m < 18446744073709551616 := by omega
  have hq : m / 2 ^ z < 4503599627370496 * 4 := by
    rw [Nat.div_lt_iff_lt_mul (by omega)]
    have : 4503599627370496 * 4 * 2048 ≤ 4503599627370496 * 4 * 2 ^ z := Nat.mul_le_mul_left _ (by omega)
    omega
  have hO : bits .and .i64 (wrap64 ((m : Int) / 2 ^ z)) 1 = (sfOdd m E : Int) := by
    unfold sfOdd
    rw [hz, cast_div]
    generalize m / 2 ^ z = q at hq ⊢
    rw [wrap64_id (q : Int) (by omega) (by omega)]
    exact and1 _ (by omega)
  have hO1 : (sfOdd m E : Int) ≤ 1 := by unfold sfOdd; omega
  have hXl : sfMax m E < 18446744073709551616 := by unfold sfMax; rw [hz]; omega
  have hNl : sfMin m E < 18446744073709551616 := by unfold sfMin; rw [hz]; split <;> omega
  have hl2 : lg2 (sfP m E) = 1076 := by rw [hP]; decide
  obtain ⟨i, hi⟩ : ∃ i : Nat, sfP m E + 348 = i := ⟨(sfP m E + 348).toNat, by omega⟩
  obtain ⟨S, hS⟩ : ∃ S : Nat, -(E + lg2 (sfP m E) + 3) = S := ⟨(-(E + lg2 (sfP m E) + 3)).toNat, by omega⟩
  have hi2 : i < 696 := by omega
  have hS2 : S ≤ 63 := by omega
  have hsh : short m E = short m E := rfl
  conv at hsh => rhs; unfold short sfLo sfHi sfU sfI sfS
  rw [show (sfP m E + 348).toNat = i by omega, show (-(E + lg2 (sfP m E) + 3)).toNat = S by omega] at hsh
  have hez : E + (z : Int) = -1074 := by omega
  have hPb : -100000 ≤ sfP m E ∧ sfP m E ≤ 100000 := by omega
  have hlb : -100000 ≤ lg2 (sfP m E) ∧ lg2 (sfP m E) ≤ 100000 := by omega
  clear hp hm2 hT2 hT1 hT3 hz hq hP hl2
  generalize sfP m E = P at *
  generalize short m E = SH at *
  generalize sfMin m E = N at *
  generalize sfMax m E = X at *
  generalize sfOdd m E = O at *
  have HSH := Lib.hid hsh; have HN := Lib.hid hN; have HX := Lib.hid hX; have HO := Lib.hid hO; have HPE := Lib.hid hPe; have HEZ := Lib.hid hez
  clear hsh hN hX hO hPe hez
  cases hA' : ((m : Int) == 9223372036854775808)
  all_goals
    go_enter Tryz.func133, Tryz.ntmps133
    go_upto_region 27 with (first | (go_at_call 165; refine (skew_any _ (by omega) (by omega) _).mono ?_; rintro e w1 ⟨rfl, rfl⟩) | (go_at_call 117; refine (lg10_any _ (by omega) (by omega) _).mono ?_; rintro e w1 ⟨rfl, rfl⟩))
    rw [HEZ.out, HPE.out, HN.out, HX.out, HO.out]
    go_wp2_with fail
    refine (lg2_any P (by omega) (by omega) _).mono ?_; rintro e w1 ⟨rfl, rfl⟩
    go_wp2_with fail
    refine (prescale_any E P (lg2 P) i hi hi2 (by omega) (by omega) (by omega) (by omega) _ HP.out).mono ?_; rintro e w2 ⟨rfl, rfl⟩
    rw [hS]
    have hc : ∀ o n, ((w.alloc (.cells #[.int .u64 (hiT i : Nat), .int .u64 (loT i : Nat), .int .i64 (S : Int)] 199)).drewN n).cell? ⟨w.heap.size, o, none⟩ = #[.int .u64 (hiT i : Nat), .int .u64 (loT i : Nat), .int .i64 (S : Int)][o]? := fun o n => World.cell?_alloc_at (w := w) _ _ _ _ rfl
    have hu (x n : Nat) (hx : x < 18446744073709551616) : Calls Tryz.prog 168 #[.int .u64 x, .pointer (some ⟨w.heap.size, 0, none⟩)] ((w.alloc (.cells #[.int .u64 (hiT i : Nat), .int .u64 (loT i : Nat), .int .i64 (S : Int)] 199)).drewN n) fun e w' => e = .returned (.int .u64 (usc x (hiT i) (loT i) S : Nat)) ∧ ∃ n', w' = (w.alloc (.cells #[.int .u64 (hiT i : Nat), .int .u64 (loT i : Nat), .int .i64 (S : Int)] 199)).drewN n' := by
      obtain ⟨th, tl⟩ := tab_lt i hi2
      refine (uscale_any x (hiT i) (loT i) S w.heap.size hx th tl hS2 _ (hc 0 n) (hc 1 n) (hc 2 n)).mono ?_
      rintro e w3 ⟨h1, n2, rfl⟩
      exact ⟨h1, _, World.drewN_drewN _ _ _⟩
    have HU := Lib.hid hu
    clear hu hc
    go_wp2_with fail
    refine (HU.out N 0 hNl).mono ?_; rintro e w3 ⟨rfl, n1, rfl⟩
    go_wp2_with fail
    refine (nudge_any _ _ _).mono ?_; rintro e w4 ⟨rfl, rfl⟩
    go_wp2_with fail
    refine (cl_any _ _).mono ?_; rintro e w4 ⟨rfl, rfl⟩
    go_wp2_with fail
    refine (HU.out X n1 hXl).mono ?_; rintro e w3 ⟨rfl, n2, rfl⟩
    go_wp2_with fail
    refine (nudge_any _ (-(O : Int)) _).mono ?_; rintro e w4 ⟨rfl, rfl⟩
    go_wp2_with fail
    refine (flr_any _ (nudge_lt _ _) _).mono ?_; rintro e w4 ⟨rfl, rfl⟩
    have hHI : flr (nudge (usc X (hiT i) (loT i) S) (-(O : Int))) < 4611686018427387904 := by
      have := nudge_lt (usc X (hiT i) (loT i) S) (-(O : Int)); unfold flr; omega
    have hLO : cl (nudge (usc N (hiT i) (loT i) S) (O : Int)) < 4611686018427387904 := by unfold cl; omega
    have hsh := HSH.out
    clear HSH
    generalize flr (nudge (usc X (hiT i) (loT i) S) (-(O : Int))) = HI at *
    generalize cl (nudge (usc N (hiT i) (loT i) S) (O : Int)) = LO at *
    have HSH := Lib.hid hsh
    clear hsh
    have hbl : ∀ n, Below w.heap.size w ((w.alloc (.cells #[.int .u64 (hiT i : Nat), .int .u64 (loT i : Nat), .int .i64 (S : Int)] 199)).drewN n) := fun n => Val.bdrewN (Val.balloc w (.cells #[.int .u64 (hiT i : Nat), .int .u64 (loT i : Nat), .int .i64 (S : Int)] 199)) n
    have HBL := Lib.hid hbl
    clear hbl
    by_cases k1 : LO ≤ HI / 10 * 10
    · have k1' : (LO : Int) ≤ (HI : Int) / 10 * 10 := by omega
      go_wp2
      go_ret2
      refine ⟨ret_pair (a := (HI : Int) / 10) (b := -(P - 1)) (c := (SH.1 : Nat)) (d := SH.2) ?_ ?_, HBL.out n2⟩
      · rw [HSH.out, if_pos k1]; show (HI : Int) / 10 = ((HI / 10 : Nat) : Int); omega
      · rw [HSH.out, if_pos k1]
    · have k1' : ¬ (LO : Int) ≤ (HI : Int) / 10 * 10 := by omega
      by_cases k2 : LO < HI
      · go_wp2_with fail
        refine (HU.out m n2 hml).mono ?_; rintro e w3 ⟨rfl, n3, rfl⟩
        go_wp2_with fail
        refine (rnd_any _ (usc_lt _ _ _ _ hml (tab_lt i hi2).1) _).mono ?_; rintro e w4 ⟨rfl, rfl⟩
        go_wp2
        go_ret2
        refine ⟨ret_pair (a := (rnd (usc m (hiT i) (loT i) S) : Nat)) (b := -P) (c := (SH.1 : Nat)) (d := SH.2) ?_ ?_, HBL.out n3⟩
        · rw [HSH.out, if_neg k1, if_pos k2]
        · rw [HSH.out, if_neg k1, if_pos k2]
      · go_wp2
        go_ret2
        refine ⟨ret_pair (a := (LO : Nat)) (b := -P) (c := (SH.1 : Nat)) (d := SH.2) ?_ ?_, HBL.out n2⟩
        · rw [HSH.out, if_neg k1, if_neg k2]
        · rw [HSH.out, if_neg k1, if_neg k2]
end Go.Proofs.YtnccpddjdgndcaaGreatDoor.Fmt
