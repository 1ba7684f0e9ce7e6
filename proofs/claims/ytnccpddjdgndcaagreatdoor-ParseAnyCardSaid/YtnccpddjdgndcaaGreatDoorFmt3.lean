/- THE WALK OF shortFloat. -/
import Derived.Test.YtnccpddjdgndcaaGreatDoorFmt2
import Derived.Deep.DeepCutAuto
import Derived.Deep.LoopGhost
namespace Go.Proofs.YtnccpddjdgndcaaGreatDoor.Fmt
open Go.RowKit
theorem ret_pair {a b c d : Int} (h : a = c) (k : b = d) : Ending.returned (.tuple #[.int .u64 a, .int .i64 b]) = .returned (.tuple #[.int .u64 c, .int .i64 d]) := by rw [h, k]
theorem nudge_lt (u : Nat) (d : Int) : nudge u d < 18446744073709551616 := by unfold nudge; omega
theorem and1 (n : Nat) (h : n < 9223372036854775808) : bits .and .i64 (n : Int) 1 = ((n % 2 : Nat) : Int) := by
  have := (bits_nat .i64 63 (by decide) wraps_i64 n 1 h (by decide)).1
  rw [show ((1 : Int)) = ((1 : Nat) : Int) from rfl, this, Nat.and_one_is_mod]
theorem tab_lt : ∀ i, i < 696 → hiT i < 18446744073709551616 ∧ loT i < 18446744073709551616 := by
  have h : ∀ x ∈ Go.Pinned.pow10Rows, x.1 < 18446744073709551616 ∧ x.2 < 18446744073709551616 := by decide +kernel
  intro i _
  unfold hiT loT
  by_cases hi : i < Go.Pinned.pow10Rows.length
  · rw [List.getD_eq_getElem?_getD, List.getElem?_eq_getElem hi]
    exact h _ (List.getElem_mem hi)
  · rw [List.getD_eq_getElem?_getD, List.getElem?_eq_none (by omega)]
    exact ⟨by decide, by decide⟩
set_option maxRecDepth 20000 in
set_option maxHeartbeats 4000000 in
theorem short_any (m : Nat) (E : Int) (hm : 9223372036854775808 ≤ (m : Int)) (hm2 : (m : Int) ≤ 18446744073709549568) (hE : -1085 ≤ E) (hE2 : E ≤ 971) (w : World) (hp : Pow w) :
    Calls Tryz.prog 133 #[.int .u64 m, .int .i64 E] w fun e w' => e = .returned (.tuple #[.int .u64 ((short m E).1 : Nat), .int .i64 (short m E).2]) ∧ Below w.heap.size w w' := by
  have HP := Lib.hid hp
  clear hp
  have hP : sfP m E = sfP m E := rfl
  conv at hP => rhs; unfold sfP lg10 skew
  have hPi : -348 ≤ sfP m E ∧ sfP m E ≤ 347 := by rw [hP]; split <;> (try split) <;> omega
  have hSS : 0 ≤ -(E + lg2 (sfP m E) + 3) ∧ -(E + lg2 (sfP m E) + 3) ≤ 63 := by rw [hP]; unfold lg2; split <;> (try split) <;> omega
  have hl2 : -100000 ≤ lg2 (sfP m E) ∧ lg2 (sfP m E) ≤ 100000 := by unfold lg2; omega
  obtain ⟨i, hi⟩ : ∃ i : Nat, sfP m E + 348 = i := ⟨(sfP m E + 348).toNat, by omega⟩
  obtain ⟨S, hS⟩ : ∃ S : Nat, -(E + lg2 (sfP m E) + 3) = S := ⟨(-(E + lg2 (sfP m E) + 3)).toNat, by omega⟩
  have hi2 : i < 696 := by omega
  have hS2 : S ≤ 63 := by omega
  have hsh : short m E = short m E := rfl
  conv at hsh => rhs; unfold short sfLo sfHi sfU sfI sfS
  rw [show (sfP m E + 348).toNat = i by omega, show (-(E + lg2 (sfP m E) + 3)).toNat = S by omega] at hsh
  have hz : sfZ E = 11 := by unfold sfZ; rw [if_pos hE]
  have hX : (sfMax m E : Int) = (m : Int) + 1024 := by unfold sfMax; rw [hz]; omega
  have hO : sfOdd m E = m / 2048 % 2 := by unfold sfOdd; rw [hz]
  have hObits : bits .and .i64 ((m : Int) / 2048) 1 = (sfOdd m E : Int) := by
    rw [hO, show (m : Int) / 2048 = ((m / 2048 : Nat) : Int) by omega]
    exact and1 _ (by omega)
  have hO1 : (sfOdd m E : Int) ≤ 1 := by rw [hO]; omega
  have hXl : sfMax m E < 18446744073709551616 := by omega
  have hml : m < 18446744073709551616 := by omega
  rcases (show (m = 9223372036854775808 ∧ -1085 < E) ∨ (m = 9223372036854775808 ∧ ¬ -1085 < E) ∨ ((m : Int) ≠ 9223372036854775808) by omega) with ⟨hA, hB⟩ | ⟨hA, hB⟩ | hA
  · have hN : (sfMin m E : Int) = (m : Int) - 512 := by unfold sfMin; rw [if_pos ⟨hA, hB⟩]; omega
    have hPe : sfP m E = -skew (E + 11) := by unfold sfP; rw [if_pos ⟨hA, hB⟩]
    have hlb : -400 ≤ skew (E + 11) ∧ skew (E + 11) ≤ 400 := by omega
    obtain ⟨hlb1, hlb2⟩ := hlb
    have hNl : sfMin m E < 18446744073709551616 := by omega
    have hA' : ((m : Int) == 9223372036854775808) = true := by simp; omega
    generalize sfP m E = P at *
    generalize short m E = SH at *
    generalize sfMin m E = N at *
    generalize sfMax m E = X at *
    generalize sfOdd m E = O at *
    have HSH := Lib.hid hsh; have HN := Lib.hid hN; have HX := Lib.hid hX; have HO := Lib.hid hObits; have HPE := Lib.hid hPe
    clear hsh hN hX hObits hPe hP hz hO hPi hSS
    clear hA
    go_enter Tryz.func133, Tryz.ntmps133
    go_upto_region 27 with (first | (go_at_call 165; refine (skew_any _ (by omega) (by omega) _).mono ?_; rintro e w1 ⟨rfl, rfl⟩) | (go_at_call 117; refine (lg10_any _ (by omega) (by omega) _).mono ?_; rintro e w1 ⟨rfl, rfl⟩))
    rw [← HN.out, ← HX.out, HO.out, ← HPE.out]
    go_wp2_with fail
    refine (lg2_any P (by omega) (by omega) _).mono ?_; rintro e w1 ⟨rfl, rfl⟩
    go_wp2_with fail
    refine (prescale_any E P (lg2 P) i hi hi2 (by omega) (by omega) (by omega) (by omega) _ HP.out).mono ?_; rintro e w2 ⟨rfl, rfl⟩
    rw [hS]
    have hc : ∀ o n, ((w.alloc (.cells #[.int .u64 (hiT i : Nat), .int .u64 (loT i : Nat), .int .i64 (S : Int)] 199)).drewN n).cell? ⟨w.heap.size, o, none⟩ = #[.int .u64 (hiT i : Nat), .int .u64 (loT i : Nat), .int .i64 (S : Int)][o]? := fun o n => World.cell?_alloc_at (w := w) _ _ _ _ rfl
    have hu (x n : Nat) (hx : x < 18446744073709551616) : Calls Tryz.prog 168 #[.int .u64 x, .pointer (some ⟨w.heap.size, 0, none⟩)] ((w.alloc (.cells #[.int .u64 (hiT i : Nat), .int .u64 (loT i : Nat), .int .i64 (S : Int)] 199)).drewN n) fun e w' => e = .returned (.int .u64 (usc x (hiT i) (loT i) S : Nat)) ∧ ∃ n', w' = (w.alloc (.cells #[.int .u64 (hiT i : Nat), .int .u64 (loT i : Nat), .int .i64 (S : Int)] 199)).drewN n' := by
      obtain ⟨th, tl⟩ := tab_lt i hi2
      refine (uscale_any x (hiT i) (loT i) S w.heap.size hx th tl hS2 _ (hc 0 n) (hc 1 n) (hc 2 n)).mono ?_
      rintro e w3 ⟨h1, n2, rfl⟩
      exact ⟨h1, _, World.drewN_drewN _ _ _⟩
    have HU := Lib.hid hu
    clear hu hc
    go_wp2_with fail
    refine (HU.out N 0 hNl).mono ?_; rintro e w3 ⟨rfl, n1, rfl⟩
    go_wp2_with fail
    refine (nudge_any _ _ _).mono ?_; rintro e w4 ⟨rfl, rfl⟩
    go_wp2_with fail
    refine (cl_any _ _).mono ?_; rintro e w4 ⟨rfl, rfl⟩
    go_wp2_with fail
    refine (HU.out X n1 hXl).mono ?_; rintro e w3 ⟨rfl, n2, rfl⟩
    go_wp2_with fail
    refine (nudge_any _ (-(O : Int)) _).mono ?_; rintro e w4 ⟨rfl, rfl⟩
    go_wp2_with fail
    refine (flr_any _ (nudge_lt _ _) _).mono ?_; rintro e w4 ⟨rfl, rfl⟩
    have hHI : flr (nudge (usc X (hiT i) (loT i) S) (-(O : Int))) < 4611686018427387904 := by
      have := nudge_lt (usc X (hiT i) (loT i) S) (-(O : Int)); unfold flr; omega
    have hLO : cl (nudge (usc N (hiT i) (loT i) S) (O : Int)) < 4611686018427387904 := by unfold cl; omega
    have hsh := HSH.out
    clear HSH
    generalize flr (nudge (usc X (hiT i) (loT i) S) (-(O : Int))) = HI at *
    generalize cl (nudge (usc N (hiT i) (loT i) S) (O : Int)) = LO at *
    have HSH := Lib.hid hsh
    clear hsh
    have hbl : ∀ n, Below w.heap.size w ((w.alloc (.cells #[.int .u64 (hiT i : Nat), .int .u64 (loT i : Nat), .int .i64 (S : Int)] 199)).drewN n) := fun n => Val.bdrewN (Val.balloc w (.cells #[.int .u64 (hiT i : Nat), .int .u64 (loT i : Nat), .int .i64 (S : Int)] 199)) n
    have HBL := Lib.hid hbl
    clear hbl
    by_cases k1 : LO ≤ HI / 10 * 10
    · have k1' : (LO : Int) ≤ (HI : Int) / 10 * 10 := by omega
      go_wp2
      go_ret2
      refine ⟨ret_pair (a := (HI : Int) / 10) (b := -(P - 1)) (c := (SH.1 : Nat)) (d := SH.2) ?_ ?_, HBL.out n2⟩
      · rw [HSH.out, if_pos k1]; show (HI : Int) / 10 = ((HI / 10 : Nat) : Int); omega
      · rw [HSH.out, if_pos k1]
    · have k1' : ¬ (LO : Int) ≤ (HI : Int) / 10 * 10 := by omega
      by_cases k2 : LO < HI
      · go_wp2_with fail
        refine (HU.out m n2 hml).mono ?_; rintro e w3 ⟨rfl, n3, rfl⟩
        go_wp2_with fail
        refine (rnd_any _ (usc_lt _ _ _ _ hml (tab_lt i hi2).1) _).mono ?_; rintro e w4 ⟨rfl, rfl⟩
        go_wp2
        go_ret2
        refine ⟨ret_pair (a := (rnd (usc m (hiT i) (loT i) S) : Nat)) (b := -P) (c := (SH.1 : Nat)) (d := SH.2) ?_ ?_, HBL.out n3⟩
        · rw [HSH.out, if_neg k1, if_pos k2]
        · rw [HSH.out, if_neg k1, if_pos k2]
      · go_wp2
        go_ret2
        refine ⟨ret_pair (a := (LO : Nat)) (b := -P) (c := (SH.1 : Nat)) (d := SH.2) ?_ ?_, HBL.out n2⟩
        · rw [HSH.out, if_neg k1, if_neg k2]
        · rw [HSH.out, if_neg k1, if_neg k2]
  · have hN : (sfMin m E : Int) = (m : Int) - 1024 := by unfold sfMin; rw [if_neg (by omega), hz]; omega
    have hPe : sfP m E = -lg10 (E + 11) := by unfold sfP; rw [if_neg (by omega), if_pos hE]
    have hlb : -400 ≤ lg10 (E + 11) ∧ lg10 (E + 11) ≤ 400 := by omega
    obtain ⟨hlb1, hlb2⟩ := hlb
    have hNl : sfMin m E < 18446744073709551616 := by omega
    have hA' : ((m : Int) == 9223372036854775808) = true := by simp; omega
    generalize sfP m E = P at *
    generalize short m E = SH at *
    generalize sfMin m E = N at *
    generalize sfMax m E = X at *
    generalize sfOdd m E = O at *
    have HSH := Lib.hid hsh; have HN := Lib.hid hN; have HX := Lib.hid hX; have HO := Lib.hid hObits; have HPE := Lib.hid hPe
    clear hsh hN hX hObits hPe hP hz hO hPi hSS
    clear hA
    go_enter Tryz.func133, Tryz.ntmps133
    go_upto_region 27 with (first | (go_at_call 165; refine (skew_any _ (by omega) (by omega) _).mono ?_; rintro e w1 ⟨rfl, rfl⟩) | (go_at_call 117; refine (lg10_any _ (by omega) (by omega) _).mono ?_; rintro e w1 ⟨rfl, rfl⟩))
    rw [← HN.out, ← HX.out, HO.out, ← HPE.out]
    go_wp2_with fail
    refine (lg2_any P (by omega) (by omega) _).mono ?_; rintro e w1 ⟨rfl, rfl⟩
    go_wp2_with fail
    refine (prescale_any E P (lg2 P) i hi hi2 (by omega) (by omega) (by omega) (by omega) _ HP.out).mono ?_; rintro e w2 ⟨rfl, rfl⟩
    rw [hS]
    have hc : ∀ o n, ((w.alloc (.cells #[.int .u64 (hiT i : Nat), .int .u64 (loT i : Nat), .int .i64 (S : Int)] 199)).drewN n).cell? ⟨w.heap.size, o, none⟩ = #[.int .u64 (hiT i : Nat), .int .u64 (loT i : Nat), .int .i64 (S : Int)][o]? := fun o n => World.cell?_alloc_at (w := w) _ _ _ _ rfl
    have hu (x n : Nat) (hx : x < 18446744073709551616) : Calls Tryz.prog 168 #[.int .u64 x, .pointer (some ⟨w.heap.size, 0, none⟩)] ((w.alloc (.cells #[.int .u64 (hiT i : Nat), .int .u64 (loT i : Nat), .int .i64 (S : Int)] 199)).drewN n) fun e w' => e = .returned (.int .u64 (usc x (hiT i) (loT i) S : Nat)) ∧ ∃ n', w' = (w.alloc (.cells #[.int .u64 (hiT i : Nat), .int .u64 (loT i : Nat), .int .i64 (S : Int)] 199)).drewN n' := by
      obtain ⟨th, tl⟩ := tab_lt i hi2
      refine (uscale_any x (hiT i) (loT i) S w.heap.size hx th tl hS2 _ (hc 0 n) (hc 1 n) (hc 2 n)).mono ?_
      rintro e w3 ⟨h1, n2, rfl⟩
      exact ⟨h1, _, World.drewN_drewN _ _ _⟩
    have HU := Lib.hid hu
    clear hu hc
    go_wp2_with fail
    refine (HU.out N 0 hNl).mono ?_; rintro e w3 ⟨rfl, n1, rfl⟩
    go_wp2_with fail
    refine (nudge_any _ _ _).mono ?_; rintro e w4 ⟨rfl, rfl⟩
    go_wp2_with fail
    refine (cl_any _ _).mono ?_; rintro e w4 ⟨rfl, rfl⟩
    go_wp2_with fail
    refine (HU.out X n1 hXl).mono ?_; rintro e w3 ⟨rfl, n2, rfl⟩
    go_wp2_with fail
    refine (nudge_any _ (-(O : Int)) _).mono ?_; rintro e w4 ⟨rfl, rfl⟩
    go_wp2_with fail
    refine (flr_any _ (nudge_lt _ _) _).mono ?_; rintro e w4 ⟨rfl, rfl⟩
    have hHI : flr (nudge (usc X (hiT i) (loT i) S) (-(O : Int))) < 4611686018427387904 := by
      have := nudge_lt (usc X (hiT i) (loT i) S) (-(O : Int)); unfold flr; omega
    have hLO : cl (nudge (usc N (hiT i) (loT i) S) (O : Int)) < 4611686018427387904 := by unfold cl; omega
    have hsh := HSH.out
    clear HSH
    generalize flr (nudge (usc X (hiT i) (loT i) S) (-(O : Int))) = HI at *
    generalize cl (nudge (usc N (hiT i) (loT i) S) (O : Int)) = LO at *
    have HSH := Lib.hid hsh
    clear hsh
    have hbl : ∀ n, Below w.heap.size w ((w.alloc (.cells #[.int .u64 (hiT i : Nat), .int .u64 (loT i : Nat), .int .i64 (S : Int)] 199)).drewN n) := fun n => Val.bdrewN (Val.balloc w (.cells #[.int .u64 (hiT i : Nat), .int .u64 (loT i : Nat), .int .i64 (S : Int)] 199)) n
    have HBL := Lib.hid hbl
    clear hbl
    by_cases k1 : LO ≤ HI / 10 * 10
    · have k1' : (LO : Int) ≤ (HI : Int) / 10 * 10 := by omega
      go_wp2
      go_ret2
      refine ⟨ret_pair (a := (HI : Int) / 10) (b := -(P - 1)) (c := (SH.1 : Nat)) (d := SH.2) ?_ ?_, HBL.out n2⟩
      · rw [HSH.out, if_pos k1]; show (HI : Int) / 10 = ((HI / 10 : Nat) : Int); omega
      · rw [HSH.out, if_pos k1]
    · have k1' : ¬ (LO : Int) ≤ (HI : Int) / 10 * 10 := by omega
      by_cases k2 : LO < HI
      · go_wp2_with fail
        refine (HU.out m n2 hml).mono ?_; rintro e w3 ⟨rfl, n3, rfl⟩
        go_wp2_with fail
        refine (rnd_any _ (usc_lt _ _ _ _ hml (tab_lt i hi2).1) _).mono ?_; rintro e w4 ⟨rfl, rfl⟩
        go_wp2
        go_ret2
        refine ⟨ret_pair (a := (rnd (usc m (hiT i) (loT i) S) : Nat)) (b := -P) (c := (SH.1 : Nat)) (d := SH.2) ?_ ?_, HBL.out n3⟩
        · rw [HSH.out, if_neg k1, if_pos k2]
        · rw [HSH.out, if_neg k1, if_pos k2]
      · go_wp2
        go_ret2
        refine ⟨ret_pair (a := (LO : Nat)) (b := -P) (c := (SH.1 : Nat)) (d := SH.2) ?_ ?_, HBL.out n2⟩
        · rw [HSH.out, if_neg k1, if_neg k2]
        · rw [HSH.out, if_neg k1, if_neg k2]
  · have hA' : ((m : Int) == 9223372036854775808) = false := by simp; omega
    have hN : (sfMin m E : Int) = (m : Int) - 1024 := by unfold sfMin; rw [if_neg (by omega), hz]; omega
    have hPe : sfP m E = -lg10 (E + 11) := by unfold sfP; rw [if_neg (by omega), if_pos hE]
    have hlb : -400 ≤ lg10 (E + 11) ∧ lg10 (E + 11) ≤ 400 := by omega
    obtain ⟨hlb1, hlb2⟩ := hlb
    have hNl : sfMin m E < 18446744073709551616 := by omega
    generalize sfP m E = P at *
    generalize short m E = SH at *
    generalize sfMin m E = N at *
    generalize sfMax m E = X at *
    generalize sfOdd m E = O at *
    have HSH := Lib.hid hsh; have HN := Lib.hid hN; have HX := Lib.hid hX; have HO := Lib.hid hObits; have HPE := Lib.hid hPe
    clear hsh hN hX hObits hPe hP hz hO hPi hSS
    go_enter Tryz.func133, Tryz.ntmps133
    go_upto_region 27 with (first | (go_at_call 165; refine (skew_any _ (by omega) (by omega) _).mono ?_; rintro e w1 ⟨rfl, rfl⟩) | (go_at_call 117; refine (lg10_any _ (by omega) (by omega) _).mono ?_; rintro e w1 ⟨rfl, rfl⟩))
    rw [← HN.out, ← HX.out, HO.out, ← HPE.out]
    go_wp2_with fail
    refine (lg2_any P (by omega) (by omega) _).mono ?_; rintro e w1 ⟨rfl, rfl⟩
    go_wp2_with fail
    refine (prescale_any E P (lg2 P) i hi hi2 (by omega) (by omega) (by omega) (by omega) _ HP.out).mono ?_; rintro e w2 ⟨rfl, rfl⟩
    rw [hS]
    have hc : ∀ o n, ((w.alloc (.cells #[.int .u64 (hiT i : Nat), .int .u64 (loT i : Nat), .int .i64 (S : Int)] 199)).drewN n).cell? ⟨w.heap.size, o, none⟩ = #[.int .u64 (hiT i : Nat), .int .u64 (loT i : Nat), .int .i64 (S : Int)][o]? := fun o n => World.cell?_alloc_at (w := w) _ _ _ _ rfl
    have hu (x n : Nat) (hx : x < 18446744073709551616) : Calls Tryz.prog 168 #[.int .u64 x, .pointer (some ⟨w.heap.size, 0, none⟩)] ((w.alloc (.cells #[.int .u64 (hiT i : Nat), .int .u64 (loT i : Nat), .int .i64 (S : Int)] 199)).drewN n) fun e w' => e = .returned (.int .u64 (usc x (hiT i) (loT i) S : Nat)) ∧ ∃ n', w' = (w.alloc (.cells #[.int .u64 (hiT i : Nat), .int .u64 (loT i : Nat), .int .i64 (S : Int)] 199)).drewN n' := by
      obtain ⟨th, tl⟩ := tab_lt i hi2
      refine (uscale_any x (hiT i) (loT i) S w.heap.size hx th tl hS2 _ (hc 0 n) (hc 1 n) (hc 2 n)).mono ?_
      rintro e w3 ⟨h1, n2, rfl⟩
      exact ⟨h1, _, World.drewN_drewN _ _ _⟩
    have HU := Lib.hid hu
    clear hu hc
    go_wp2_with fail
    refine (HU.out N 0 hNl).mono ?_; rintro e w3 ⟨rfl, n1, rfl⟩
    go_wp2_with fail
    refine (nudge_any _ _ _).mono ?_; rintro e w4 ⟨rfl, rfl⟩
    go_wp2_with fail
    refine (cl_any _ _).mono ?_; rintro e w4 ⟨rfl, rfl⟩
    go_wp2_with fail
    refine (HU.out X n1 hXl).mono ?_; rintro e w3 ⟨rfl, n2, rfl⟩
    go_wp2_with fail
    refine (nudge_any _ (-(O : Int)) _).mono ?_; rintro e w4 ⟨rfl, rfl⟩
    go_wp2_with fail
    refine (flr_any _ (nudge_lt _ _) _).mono ?_; rintro e w4 ⟨rfl, rfl⟩
    have hHI : flr (nudge (usc X (hiT i) (loT i) S) (-(O : Int))) < 4611686018427387904 := by
      have := nudge_lt (usc X (hiT i) (loT i) S) (-(O : Int)); unfold flr; omega
    have hLO : cl (nudge (usc N (hiT i) (loT i) S) (O : Int)) < 4611686018427387904 := by unfold cl; omega
    have hsh := HSH.out
    clear HSH
    generalize flr (nudge (usc X (hiT i) (loT i) S) (-(O : Int))) = HI at *
    generalize cl (nudge (usc N (hiT i) (loT i) S) (O : Int)) = LO at *
    have HSH := Lib.hid hsh
    clear hsh
    have hbl : ∀ n, Below w.heap.size w ((w.alloc (.cells #[.int .u64 (hiT i : Nat), .int .u64 (loT i : Nat), .int .i64 (S : Int)] 199)).drewN n) := fun n => Val.bdrewN (Val.balloc w (.cells #[.int .u64 (hiT i : Nat), .int .u64 (loT i : Nat), .int .i64 (S : Int)] 199)) n
    have HBL := Lib.hid hbl
    clear hbl
    by_cases k1 : LO ≤ HI / 10 * 10
    · have k1' : (LO : Int) ≤ (HI : Int) / 10 * 10 := by omega
      go_wp2
      go_ret2
      refine ⟨ret_pair (a := (HI : Int) / 10) (b := -(P - 1)) (c := (SH.1 : Nat)) (d := SH.2) ?_ ?_, HBL.out n2⟩
      · rw [HSH.out, if_pos k1]; show (HI : Int) / 10 = ((HI / 10 : Nat) : Int); omega
      · rw [HSH.out, if_pos k1]
    · have k1' : ¬ (LO : Int) ≤ (HI : Int) / 10 * 10 := by omega
      by_cases k2 : LO < HI
      · go_wp2_with fail
        refine (HU.out m n2 hml).mono ?_; rintro e w3 ⟨rfl, n3, rfl⟩
        go_wp2_with fail
        refine (rnd_any _ (usc_lt _ _ _ _ hml (tab_lt i hi2).1) _).mono ?_; rintro e w4 ⟨rfl, rfl⟩
        go_wp2
        go_ret2
        refine ⟨ret_pair (a := (rnd (usc m (hiT i) (loT i) S) : Nat)) (b := -P) (c := (SH.1 : Nat)) (d := SH.2) ?_ ?_, HBL.out n3⟩
        · rw [HSH.out, if_neg k1, if_pos k2]
        · rw [HSH.out, if_neg k1, if_pos k2]
      · go_wp2
        go_ret2
        refine ⟨ret_pair (a := (LO : Nat)) (b := -P) (c := (SH.1 : Nat)) (d := SH.2) ?_ ?_, HBL.out n2⟩
        · rw [HSH.out, if_neg k1, if_neg k2]
        · rw [HSH.out, if_neg k1, if_neg k2]
end Go.Proofs.YtnccpddjdgndcaaGreatDoor.Fmt
