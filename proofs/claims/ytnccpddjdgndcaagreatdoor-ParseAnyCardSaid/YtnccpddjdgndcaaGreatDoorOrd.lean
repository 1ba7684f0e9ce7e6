/- THE WALKS OF package order: each function gives its plain function; the world stays as it was. -/
import Derived.Test.YtnccpddjdgndcaaGreatDoorRows
import Derived.Test.YtnccpddjdgndcaaGreatDoorOrdFn
import Derived.WalkKit
import Derived.WalkSpells
import Derived.WalkLawsBesides
import Derived.Lib.Hide
import Derived.Laws.BitsAllLaws
namespace Go.Proofs.YtnccpddjdgndcaaGreatDoor.Ord
open Go.RowKit Flt

theorem ford_ne_self (b : Nat) : (FloatKind.f64.format.order b b != some .eq) = nan b := by
  have : (FloatKind.f64.format.order b b == some .eq) = !nan b := Flt.eq_self b
  rw [bne, this, Bool.not_not]
theorem ford_eq (a b : Nat) : (FloatKind.f64.format.order a b == some .eq) = Flt.eq a b := order_eq a b
theorem ford_ne (a b : Nat) : (FloatKind.f64.format.order a b != some .eq) = !Flt.eq a b := by rw [bne, ford_eq]
theorem ford_lt (a b : Nat) : (FloatKind.f64.format.order a b == some .lt) = Flt.lt a b := order_lt a b
theorem ford_gt (a b : Nat) : (FloatKind.f64.format.order a b == some .gt) = Flt.lt b a := order_gt a b

theorem frombits_call (n : Int) (w : World) : (callFunc 84 #[.int .u64 n]).run Tryz.prog w = .ok (.value (.float .f64 n.toNat)) w :=
  run_callFunc_extern (e := Extern.MathFloatBits.float64frombits) Tryz.func84 (by kernel_rfl) (by kernel_rfl) (by kernel_rfl) (by kernel_rfl) _ w

set_option maxHeartbeats 400000 in
theorem nan_any (w : World) :
    Calls Tryz.prog 50 #[] w fun e w' => e = .returned (.float .f64 nan0) ∧ w = w' := by
  have hc := frombits_call
  go_enter Tryz.func50, Tryz.ntmps50
  go_wp2
  go_ret
  exact ⟨rfl, rfl⟩
attribute [local go_sem] ford_eq ford_lt ford_gt
set_option maxHeartbeats 400000 in
theorem canon_any (b : Nat) (w : World) :
    Calls Tryz.prog 32 #[.float .f64 b] w fun e w' => e = .returned (.float .f64 (canon b)) ∧ w = w' := by
  have h1 := ford_ne_self b
  have h2 : Flt.eq b 0 = zero b := rfl
  have E : Hid (canon b = if nan b then nan0 else if zero b then 0 else b) := Lib.hid rfl
  cases hn : nan b with
  | true =>
    rw [hn] at h1 E
    clear h2 hn
    rw [show canon b = nan0 from E.out]; clear E
    go_enter Tryz.func32, Tryz.ntmps32
    go_wp2_with (go_at_call 50; refine (nan_any _).mono ?_; rintro e w' ⟨rfl, rfl⟩)
    go_ret
    exact ⟨rfl, rfl⟩
  | false =>
    rw [hn] at h1 E
    clear hn
    cases hz : zero b with
    | true =>
      rw [hz] at E h2; clear hz
      rw [show canon b = 0 from E.out]; clear E
      go_enter Tryz.func32, Tryz.ntmps32
      go_wp2
      go_ret
      exact ⟨rfl, rfl⟩
    | false =>
      rw [hz] at E h2; clear hz
      rw [show canon b = b from E.out]; clear E
      go_enter Tryz.func32, Tryz.ntmps32
      go_wp2
      go_ret
      exact ⟨rfl, rfl⟩
theorem ret_bool {a b : Bool} (h : a = b) : Ending.returned (.bool a) = .returned (.bool b) := by rw [h]
set_option maxHeartbeats 400000 in
theorem less_any (a b : Nat) (w : World) :
    Calls Tryz.prog 28 #[.float .f64 a, .float .f64 b] w fun e w' => e = .returned (.bool (Flt.lt a b)) ∧ w = w' := by
  go_enter Tryz.func28, Tryz.ntmps28
  go_wp2
  go_ret
  exact ⟨rfl, rfl⟩
set_option maxHeartbeats 400000 in
theorem none_any (a : Nat) (w : World) :
    Calls Tryz.prog 38 #[.float .f64 a] w fun e w' => e = .returned (.bool (nan a)) ∧ w = w' := by
  go_enter Tryz.func38, Tryz.ntmps38
  go_wp2
  go_ret
  exact ⟨ret_bool (ford_ne_self a), rfl⟩
end Go.Proofs.YtnccpddjdgndcaaGreatDoor.Ord
