/- The statement OrderChains is proved: for every three float64 numbers the law returns true. Conditions: none beyond the given row's own. -/
import Derived.Test.YtglnjgpdaaibkaaOrdLaw1
import Derived.Test.YtglnjgpdaaibkaaFrame
namespace Go.Proofs.Ytglnjgpdaaibkaa.Ord
open Go.RowKit Flt Go.ChangeShapes Go.WideShapes Go.ChangeAt
attribute [local go_sem] ford_eq ford_lt ford_gt
/-- how many of the first are none -/
def tally (a b c : Bool) (i : Int) : Int := (if a && decide (0 < i) then 1 else 0) + (if b && decide (1 < i) then 1 else 0) + (if c && decide (2 < i) then 1 else 0)
def Tal (a b c : Bool) (l i : Value) : Prop := ∃ k : Int, 0 ≤ k ∧ k ≤ 3 ∧ i = .int .i64 k ∧ l = .int .i64 (tally a b c k)
theorem tal_mk {a b c : Bool} {l i : Value} (k : Int) (h0 : 0 ≤ k) (h1 : k ≤ 3) (hi : i = .int .i64 k) (hl : l = .int .i64 (tally a b c k)) : Tal a b c l i := ⟨k, h0, h1, hi, hl⟩
theorem tally_bd (a b c : Bool) (k : Int) : 0 ≤ tally a b c k ∧ tally a b c k ≤ 3 := by
  unfold tally; constructor <;> (repeat' split) <;> omega
theorem key_most (x : Nat) (hx : x < 18446744073709551616) : ((key x : Int) == 18446744073709551615) = nan x := by
  rw [none_most]
  cases h : nan x with
  | true => rw [key_nan h]; simp
  | false => have := key_ne_most hx h; simp; omega
theorem up1 {a b c : Bool} (h : a = true) : Value.int .i64 (wrap64 (tally true b c 0 + 1)) = .int .i64 (tally a b c 1) := by
  subst h; exact congrArg _ ((IntWalk.wrap64_in _ (by cases b <;> cases c <;> decide)).trans (by cases b <;> cases c <;> decide))
theorem up2 {a b c : Bool} (h : b = true) : Value.int .i64 (wrap64 (tally a true c 1 + 1)) = .int .i64 (tally a b c 2) := by
  subst h; exact congrArg _ ((IntWalk.wrap64_in _ (by cases a <;> cases c <;> decide)).trans (by cases a <;> cases c <;> decide))
theorem up3 {a b c : Bool} (h : c = true) : Value.int .i64 (wrap64 (tally a b true 2 + 1)) = .int .i64 (tally a b c 3) := by
  subst h; exact congrArg _ ((IntWalk.wrap64_in _ (by cases a <;> cases b <;> decide)).trans (by cases a <;> cases b <;> decide))
theorem no1 {a b c : Bool} (h : a = false) : Value.int .i64 (tally a b c 0) = .int .i64 (tally a b c 1) := by
  subst h; exact congrArg _ (by cases b <;> cases c <;> decide)
theorem no2 {a b c : Bool} (h : b = false) : Value.int .i64 (tally a b c 1) = .int .i64 (tally a b c 2) := by
  subst h; exact congrArg _ (by cases a <;> cases c <;> decide)
theorem no3 {a b c : Bool} (h : c = false) : Value.int .i64 (tally a b c 2) = .int .i64 (tally a b c 3) := by
  subst h; exact congrArg _ (by cases a <;> cases b <;> decide)
theorem less3 : 3 - (intOf (.int .i64 1)).toNat < 3 - (intOf (.int .i64 0)).toNat ∧ 3 - (intOf (.int .i64 2)).toNat < 3 - (intOf (.int .i64 1)).toNat ∧ 3 - (intOf (.int .i64 3)).toNat < 3 - (intOf (.int .i64 2)).toNat := by decide
def Pass (a b c : Nat) : Prop := (key b ≤ key a) ∨ (key a < key b ∧ key c ≤ key b) ∨ (key a < key b ∧ key b < key c ∧ Flt.lt b a = false ∧ Flt.eq a b = false ∧ Flt.lt c b = false ∧ Flt.eq b c = false)
theorem pass (a b c : Nat) (ha : a < 18446744073709551616) (hb : b < 18446744073709551616) (hc : c < 18446744073709551616) : Pass a b c := by
  unfold Pass
  by_cases h1 : key b ≤ key a
  · exact Or.inl h1
  by_cases h2 : key c ≤ key b
  · exact Or.inr (Or.inl ⟨by omega, h2⟩)
  refine Or.inr (Or.inr ⟨by omega, by omega, ?_⟩)
  have kb := key_lt b hb
  have kc := key_lt c hc
  cases na : nan a with
  | true => have := key_nan na; unfold most at this; omega
  | false => cases nb : nan b with
    | true => have := key_nan nb; unfold most at this; omega
    | false =>
      have i1 := (key_lt_iff ha hb na nb).1 (by omega)
      unfold Flt.lt Flt.eq
      rw [na, nb]
      cases nc : nan c with
      | true => simp; omega
      | false =>
        have i2 := (key_lt_iff hb hc nb nc).1 (by omega)
        simp; omega
set_option maxHeartbeats 2000000 in
theorem chains_any (a b c : Nat) (ha : a < 18446744073709551616) (hb : b < 18446744073709551616) (hc : c < 18446744073709551616) (w : World) :
    Calls Try.prog 5 #[.float .f64 a, .float .f64 b, .float .f64 c] w fun e w' => e = .returned (.bool true) ∧ Below w.heap.size w w' := by
  have hp := pass a b c ha hb hc
  have m1 := key_most a ha
  have m2 := key_most b hb
  have m3 := key_most c hc
  have i0 : ∀ (x y z : Value) (w : World), (Instr.index 29 (.agg #[x, y, z]) (.int .i64 0)).run Try.prog w = .ok x w := fun _ _ _ _ => by kernel_rfl
  have i1 : ∀ (x y z : Value) (w : World), (Instr.index 29 (.agg #[x, y, z]) (.int .i64 1)).run Try.prog w = .ok y w := fun _ _ _ _ => by kernel_rfl
  have i2 : ∀ (x y z : Value) (w : World), (Instr.index 29 (.agg #[x, y, z]) (.int .i64 2)).run Try.prog w = .ok z w := fun _ _ _ _ => by kernel_rfl
  have j0 : ∀ (x y z : Value) (w : World), (Instr.index 30 (.agg #[x, y, z]) (.int .i64 0)).run Try.prog w = .ok x w := fun _ _ _ _ => by kernel_rfl
  have j1 : ∀ (x y z : Value) (w : World), (Instr.index 30 (.agg #[x, y, z]) (.int .i64 1)).run Try.prog w = .ok y w := fun _ _ _ _ => by kernel_rfl
  have j2 : ∀ (x y z : Value) (w : World), (Instr.index 30 (.agg #[x, y, z]) (.int .i64 2)).run Try.prog w = .ok z w := fun _ _ _ _ => by kernel_rfl
  rcases hp with h | ⟨h, h'⟩ | ⟨h, h', g1, g2, g3, g4⟩
  all_goals
    go_enter Try.func5, Try.ntmps5
    go_wp2_with (first | (go_at_call 9; refine (fit_any _).mono ?_; rintro e w' ⟨rfl, rfl⟩) | (go_at_call 10; refine (key_any _ (by assumption) _).mono ?_; rintro e w' ⟨rfl, rfl⟩))
  all_goals
    go_loop [10, 56] (fun l i => Tal (nan a) (nan b) (nan c) l i) (fun _ i => 3 - (intOf i).toNat)
    case atStart => exact tal_mk 0 (by omega) (by omega) rfl (by simp [tally])
    case round =>
      obtain ⟨k, hk0, hk3, rfl, rfl⟩ := hrel
      have hk : k = 0 ∨ k = 1 ∨ k = 2 ∨ k = 3 := by omega
      rcases hk with rfl | rfl | rfl | rfl
      all_goals go_wp2
      all_goals try first | exact ⟨tal_mk 1 (by omega) (by omega) rfl (up1 (by assumption)), less3.1⟩ | exact ⟨tal_mk 1 (by omega) (by omega) rfl (no1 (by assumption)), less3.1⟩ | exact ⟨tal_mk 2 (by omega) (by omega) rfl (up2 (by assumption)), less3.2.1⟩ | exact ⟨tal_mk 2 (by omega) (by omega) rfl (no2 (by assumption)), less3.2.1⟩ | exact ⟨tal_mk 3 (by omega) (by omega) rfl (up3 (by assumption)), less3.2.2⟩ | exact ⟨tal_mk 3 (by omega) (by omega) rfl (no3 (by assumption)), less3.2.2⟩
      go_loop [13, 68] (fun l i => Tal (nan a) (nan b) (nan c) l i) (fun _ i => 3 - (intOf i).toNat)
      case atStart => exact tal_mk 0 (by omega) (by omega) rfl (by simp [tally])
      case round =>
        obtain ⟨k, hl0, hl3, rfl, rfl⟩ := hrel
        have hk : k = 0 ∨ k = 1 ∨ k = 2 ∨ k = 3 := by omega
        rcases hk with rfl | rfl | rfl | rfl
        all_goals go_wp2_with (go_at_call 14; refine (none_any _ _).mono ?_; rintro e w' ⟨rfl, rfl⟩)
        all_goals try first | exact ⟨tal_mk 1 (by omega) (by omega) rfl (up1 (by assumption)), less3.1⟩ | exact ⟨tal_mk 1 (by omega) (by omega) rfl (no1 (by assumption)), less3.1⟩ | exact ⟨tal_mk 2 (by omega) (by omega) rfl (up2 (by assumption)), less3.2.1⟩ | exact ⟨tal_mk 2 (by omega) (by omega) rfl (no2 (by assumption)), less3.2.1⟩ | exact ⟨tal_mk 3 (by omega) (by omega) rfl (up3 (by assumption)), less3.2.2⟩ | exact ⟨tal_mk 3 (by omega) (by omega) rfl (no3 (by assumption)), less3.2.2⟩
        go_ret
        exact ⟨ret_bool (by simp), below_drew _ _⟩
set_option maxRecDepth 100000 in
theorem chains_lifted (os : Os) (started : os.Started) (H : Type) (enc : TypeId × Value → H) :
    ReturnsInHanded {} Try.checked os 5 .any (Rows.orderChainsSpec.pre6 enc Try.prog Try.f5 Rows.orderChainsRow.domain false) (Rows.orderChainsSpec.post enc Try.prog Try.f5 false true false false) := by
  refine returnsInHanded_of_change (C := Try.checked) Frame.own started (by kernel_rfl) Try.func5
    (ChangeSpec.witness6 (enc := enc) (C := Try.checked) false ⟨#[], #[.float .f64 0, .float .f64 0, .float .f64 0], []⟩ 8 (by kernel_rfl) (by kernel_rfl) (by kernel_rfl) (by kernel_rfl)) ?_
  intro W base args ds gs before hval0 hW _ hsz
  have hval : ∀ (j : Nat) t v, Try.f5.params[j]? = some t → args[j]? = some v → Value.okWide Try.prog W .any base t v := hval0
  have hW' := hW
  obtain ⟨p, q, hA0, hV, rfl, hfz, hnd⟩ := hW
  have hA : DataW.TrodAll enc Try.prog W 0 (fun _ => true) true Try.f5.params.toList args.toList ds p := hA0
  rw [Try.params5] at hA hval
  obtain ⟨v0, vs0, d0, ds0, p0, q0, hargs, rfl, rfl, h0, r0⟩ := trodAll_cons hA
  obtain ⟨v1, vs1, d1, ds1, p1, q1, rfl, rfl, rfl, h1, r1⟩ := trodAll_cons r0
  obtain ⟨v2, vs2, d2, ds2, p2, q2, rfl, rfl, rfl, h2, r2⟩ := trodAll_cons r1
  obtain ⟨rfl, rfl, rfl⟩ := trodAll_nil r2
  obtain rfl : args = #[v0, v1, v2] := by cases args; simp_all
  obtain ⟨rfl, rfl⟩ := trodVars_none hV
  obtain ⟨a, rfl, rfl, rfl, wa⟩ := open_float Try.underlying22 (hval 0 22 v0 rfl rfl) h0
  obtain ⟨b, rfl, rfl, rfl, wb⟩ := open_float Try.underlying22 (hval 1 22 v1 rfl rfl) h1
  obtain ⟨c, rfl, rfl, rfl, wc⟩ := open_float Try.underlying22 (hval 2 22 v2 rfl rfl) h2
  clear hA0 hval0
  clear hsz
  refine (chains_any a b c (float_lt wa) (float_lt wb) (float_lt wc) W).mono fun e W' ⟨he, hw⟩ => ?_
  subst he
  exact ⟨_, rfl, Frame.law_post Frame.laidOut (by kernel_rfl) rfl (by kernel_rfl) Try.underlying4 rfl rfl rfl hW' hw⟩

theorem chains_holds : Rows.OrderChainsSaid :=
  OpenClaim.holds_of_wide 5 Try.f5 rfl rfl rfl rfl rfl rfl rfl ⟨rfl, rfl, rfl, rfl, rfl⟩ rfl rfl rfl rfl rfl (by kernel_rfl) Try.func5 (by kernel_rfl)
    (of_decide_eq_true (by kernel_rfl)) (by unfold Func.isWrapper; first | (rw [if_pos (by decide +kernel)]; kernel_rfl) | (rw [if_neg (by decide +kernel)]; exact ⟨rfl, rfl⟩))
    (fun os started H enc _ => chains_lifted os started H enc)
end Go.Proofs.Ytglnjgpdaaibkaa.Ord
