/- THE WALKS OF the scaling of internal/strconv. -/
import Derived.Test.YtnccpddjdgndcaaGreatDoorFmtFn
import Derived.Test.YtnccpddjdgndcaaGreatDoorShelf
import Derived.Test.YtnccpddjdgndcaaGreatDoorVal
import Derived.Laws.BitsLemmas
import Derived.Laws.Bits64
namespace Go.Proofs.YtnccpddjdgndcaaGreatDoor.Fmt
open Go.RowKit
theorem ret_u {a b : Int} (h : a = b) : Ending.returned (.int .u64 a) = .returned (.int .u64 b) := by rw [h]
theorem ret_i {a b : Int} (h : a = b) : Ending.returned (.int .i64 a) = .returned (.int .i64 b) := by rw [h]
theorem wraps_u64 (n : Int) (h₀ : 0 ≤ n) (h₁ : n < 2 ^ 64) : IntKind.u64.wrap n = n := by rw [IntKind.wrap_u64]; omega
theorem and_u (a b : Nat) (ha : a < 18446744073709551616) (hb : b < 18446744073709551616) : bits .and .u64 a b = ((a &&& b : Nat) : Int) := (bits_nat .u64 64 (by decide) wraps_u64 a b ha hb).1
theorem or_u (a b : Nat) (ha : a < 18446744073709551616) (hb : b < 18446744073709551616) : bits .or .u64 a b = ((a ||| b : Nat) : Int) := (bits_nat .u64 64 (by decide) wraps_u64 a b ha hb).2
theorem wraps_i64 (n : Int) (h₀ : 0 ≤ n) (h₁ : n < 2 ^ 63) : IntKind.i64.wrap n = n := by rw [IntKind.wrap_i64]; omega
theorem and63 (n : Nat) (h : n ≤ 63) : bits .and .i64 n 63 = (n : Int) := by
  have := (bits_nat .i64 63 (by decide) wraps_i64 n 63 (Nat.lt_of_le_of_lt h (by decide)) (by decide)).1
  rw [show ((63 : Int)) = ((63 : Nat) : Int) from rfl, this, show 63 = 2 ^ 6 - 1 from rfl, Nat.and_two_pow_sub_one_eq_mod]
  omega
theorem lg10_any (x : Int) (h0 : -100000 ≤ x) (h1 : x ≤ 100000) (w : World) : Calls Tryz.prog 117 #[.int .i64 x] w fun e w' => e = .returned (.int .i64 (lg10 x)) ∧ w = w' := by
  go_enter Tryz.func117, Tryz.ntmps117
  go_wp2
  go_ret
  exact ⟨rfl, rfl⟩
theorem lg2_any (x : Int) (h0 : -100000 ≤ x) (h1 : x ≤ 100000) (w : World) : Calls Tryz.prog 167 #[.int .i64 x] w fun e w' => e = .returned (.int .i64 (lg2 x)) ∧ w = w' := by
  go_enter Tryz.func167, Tryz.ntmps167
  go_wp2
  go_ret
  exact ⟨rfl, rfl⟩
theorem skew_any (x : Int) (h0 : -100000 ≤ x) (h1 : x ≤ 100000) (w : World) : Calls Tryz.prog 165 #[.int .i64 x] w fun e w' => e = .returned (.int .i64 (skew x)) ∧ w = w' := by
  go_enter Tryz.func165, Tryz.ntmps165
  go_wp2
  go_ret
  exact ⟨rfl, rfl⟩
theorem bool2_any (b : Bool) (w : World) : Calls Tryz.prog 156 #[.bool b] w fun e w' => e = .returned (.int .u64 (if b then 1 else 0)) ∧ w = w' := by
  cases b
  all_goals
    go_enter Tryz.func156, Tryz.ntmps156
    go_wp2
    go_ret
    exact ⟨rfl, rfl⟩
theorem flr_any (x : Nat) (h1 : x < 18446744073709551616) (w : World) : Calls Tryz.prog 171 #[.int .u64 x] w fun e w' => e = .returned (.int .u64 (flr x : Nat)) ∧ w = w' := by
  go_enter Tryz.func171, Tryz.ntmps171
  go_wp2
  go_ret
  exact ⟨ret_u (by unfold flr; omega), rfl⟩
theorem cl_any (x : Nat) (w : World) : Calls Tryz.prog 170 #[.int .u64 x] w fun e w' => e = .returned (.int .u64 (cl x : Nat)) ∧ w = w' := by
  go_enter Tryz.func170, Tryz.ntmps170
  go_wp2
  go_ret
  exact ⟨ret_u (by rw [IntKind.wrap_u64]; unfold cl; omega), rfl⟩
theorem rnd_any (x : Nat) (h1 : x < 18446744073709551616) (w : World) : Calls Tryz.prog 172 #[.int .u64 x] w fun e w' => e = .returned (.int .u64 (rnd x : Nat)) ∧ w = w' := by
  have hb : bits .and .u64 ((x : Int) / 4) 1 = ((x / 4 % 2 : Nat) : Int) := by
    have h := and_u (x / 4) 1 (by omega) (by decide)
    rw [Nat.and_one_is_mod] at h
    rw [← h]; congr 1
  go_enter Tryz.func172, Tryz.ntmps172
  go_wp2
  go_ret
  refine ⟨ret_u ?_, rfl⟩
  obtain ⟨q, hq⟩ : ∃ q : Nat, q = x / 4 := ⟨_, rfl⟩
  have hx : (x : Int) / 4 = (q : Int) := by omega
  rw [IntKind.wrap_u64, IntKind.wrap_u64]
  unfold rnd
  rw [← hq]
  (try rw [hx])
  (try rw [hb])
  omega
theorem nudge_any (x : Nat) (d : Int) (w : World) : Calls Tryz.prog 169 #[.int .u64 x, .int .i64 d] w fun e w' => e = .returned (.int .u64 (nudge x d : Nat)) ∧ w = w' := by
  go_enter Tryz.func169, Tryz.ntmps169
  go_wp2
  go_ret
  exact ⟨ret_u (by rw [IntKind.wrap_u64, IntKind.wrap_u64]; unfold nudge; omega), rfl⟩
/-- the table of powers of ten, as it lies -/
def Pow (w : World) : Prop := ∀ i, i < 696 → w.cell? ⟨16, i * 2, none⟩ = some (.int .u64 (hiT i : Nat)) ∧ w.cell? ⟨16, i * 2 + 1, none⟩ = some (.int .u64 (loT i : Nat))
theorem Pow.lt {w : World} (h : Pow w) : 16 < w.heap.size := World.block_lt_of_cell? _ _ (h 0 (by decide)).1
theorem Pow.below {w w' : World} (h : Pow w) (hb : Below w.heap.size w w') : Pow w' := fun i hi =>
  ⟨(hb.cell (p := ⟨16, i * 2, none⟩) h.lt).trans (h i hi).1, (hb.cell (p := ⟨16, i * 2 + 1, none⟩) h.lt).trans (h i hi).2⟩
set_option maxHeartbeats 1000000 in
theorem prescale_any (E p lp : Int) (i : Nat) (hi : p + 348 = i) (hi2 : i < 696) (hE : -100000 ≤ E) (hE2 : E ≤ 100000) (hl : -100000 ≤ lp) (hl2 : lp ≤ 100000) (w : World) (hp : Pow w) :
    Calls Tryz.prog 166 #[.pointer (some ⟨w.heap.size, 0, none⟩), .int .i64 E, .int .i64 p, .int .i64 lp] (w.alloc (.cells #[.int .u64 0, .int .u64 0, .int .i64 0] 199)) fun e w' =>
      e = .returned (.tuple #[]) ∧ w' = w.alloc (.cells #[.int .u64 (hiT i : Nat), .int .u64 (loT i : Nat), .int .i64 (-(E + lp + 3))] 199) := by
  obtain ⟨c0, c1⟩ := hp i hi2
  have hlt := hp.lt
  have hpi : p = (i : Int) - 348 := by omega
  subst hpi
  clear hp hi
  have i0 : (0 : Int) ≤ (i : Int) := by omega
  have i1 : (i : Int) < 696 := by omega
  go_enter Tryz.func166, Tryz.ntmps166
  go_wp2
  go_end0
  exact ⟨rfl, rfl⟩
theorem or_lt {a b : Nat} (ha : a < 18446744073709551616) (hb : b < 18446744073709551616) : a ||| b < 18446744073709551616 := Nat.or_lt_two_pow (n := 64) ha hb
end Go.Proofs.YtnccpddjdgndcaaGreatDoor.Fmt
