/- THE WALK OF strconv.ParseFloat AT ONE TEXT ("3.0"): the exact road, thirty divided by ten. -/
import Derived.Test.YthndlcgcmfhokaaGreatDoorTabs
import Derived.Handy
import Derived.Laws.Cover2
import Derived.WalkMore
namespace Go.Proofs.YthndlcgcmfhokaaGreatDoor.Pf
open Go.RowKit Go.Lib
/-- what the exact road reads -/
structure PfT (w : World) : Prop where
  opt : w.cell? ⟨5, 0, none⟩ = some (.bool true)
  inf : w.cell? ⟨10, 0, none⟩ = some (.int .u64 52)
  pow : ∃ R o c : Nat, w.cell? ⟨22, 0, none⟩ = some (.slice (some ⟨R, o, none⟩) 23 c) ∧ w.cell? ⟨R, o + 1, none⟩ = some (.float .f64 4621819117588971520)
theorem PfT.below {w w' : World} {B : Nat} (h : PfT w) (hb : Below B w w') (hB : w.heap.size ≤ B) : PfT w' := by
  obtain ⟨h1, h2, R, o, c, h3, h4⟩ := h
  exact ⟨Tab.cell_below hb hB h1, Tab.cell_below hb hB h2, R, o, c, Tab.cell_below hb hB h3, Tab.cell_below hb hB h4⟩
/-- "3.0" -/
abbrev t3 : Value := .string ⟨#[51, 46, 48]⟩
theorem g0 (h : 0 < (⟨#[51, 46, 48]⟩ : ByteArray).size) : ((⟨#[51, 46, 48]⟩ : ByteArray)[0]'h) = 51 := rfl
theorem g1 (h : 1 < (⟨#[51, 46, 48]⟩ : ByteArray).size) : ((⟨#[51, 46, 48]⟩ : ByteArray)[1]'h) = 46 := rfl
theorem g2 (h : 2 < (⟨#[51, 46, 48]⟩ : ByteArray).size) : ((⟨#[51, 46, 48]⟩ : ByteArray)[2]'h) = 48 := rfl
attribute [local go_sem] g0 g1 g2
set_option maxRecDepth 100000 in
set_option maxHeartbeats 2000000 in
theorem special_3 (w : World) : Calls Tryz.prog 200 #[t3] w fun e w' => e = .returned (.tuple #[.float .f64 0, .int .i64 0, .bool false]) ∧ w = w' := by
  go_enter Tryz.func200, Tryz.ntmps200
  go_wp2
  go_returns
  exact ⟨rfl, rfl⟩
set_option maxRecDepth 100000 in
set_option maxHeartbeats 8000000 in
theorem read_3 (w : World) : Calls Tryz.prog 201 #[t3] w fun e w' => e = .returned (.tuple #[.int .u64 30, .int .i64 (-1), .bool false, .bool false, .bool false, .int .i64 3, .bool true]) ∧ w = w' := by
  go_enter Tryz.func201, Tryz.ntmps201
  go_wp2
  go_step3
  go_wp2
  go_step3
  go_wp2
  go_rounds 4
  rw [Exit.noGoto_ret]
  refine bodyPost_ret (v := .tuple #[.int .u64 30, .int .i64 (-1), .bool false, .bool false, .bool false, .int .i64 3, .bool true]) (by simp [results, Tryz.results201, go_sem]; try rfl) rfl ?_
  exact ⟨rfl, rfl⟩
theorem f30 : floatOfInt .f64 30 = 4629137466983448576 := by decide +kernel
theorem d30 : FloatKind.f64.format.div 4629137466983448576 4621819117588971520 = some 4613937818241073152 := by decide +kernel
set_option maxRecDepth 100000 in
set_option maxHeartbeats 2000000 in
theorem exact_3 (w : World) (h : PfT w) : Calls Tryz.prog 211 #[.int .u64 30, .int .i64 (-1), .bool false] w fun e w' => e = .returned (.tuple #[.float .f64 4613937818241073152, .bool true]) ∧ w = w' := by
  obtain ⟨h1, h2, R, o, c, h3, h4⟩ := h
  have hru (w : World) : (binOp .quo 22 (.float .f64 (floatOfInt .f64 30)) (.float .f64 4621819117588971520)).run Tryz.prog w = .ok (.float .f64 4613937818241073152) w := by
    rw [f30]; simp [binOp, Op.floatArith, d30]
  go_enter Tryz.func211, Tryz.ntmps211
  go_wp2
  go_returns
  exact ⟨rfl, rfl⟩
set_option maxRecDepth 100000 in
set_option maxHeartbeats 2000000 in
theorem atof_3 (w : World) (h : PfT w) : Calls Tryz.prog 169 #[t3] w fun e w' => e = .returned (.tuple #[.float .f64 4613937818241073152, .int .i64 3, .nilIface]) ∧ w = w' := by
  have ho := h.opt
  have HP := Lib.hid h; clear h
  go_enter Tryz.func169, Tryz.ntmps169
  go_wp2_with (first
    | (go_at_call 200; refine (special_3 _).mono ?_; rintro e w' ⟨rfl, rfl⟩)
    | (go_at_call 201; refine (read_3 _).mono ?_; rintro e w' ⟨rfl, rfl⟩)
    | (go_at_call 209; refine (Fmt.bool2_any _ _).mono ?_; rintro e w' ⟨rfl, rfl⟩)
    | (go_at_call 211; refine (exact_3 _ HP.out).mono ?_; rintro e w' ⟨rfl, rfl⟩) | fail)
  go_returns
  exact ⟨rfl, rfl⟩
set_option maxHeartbeats 1000000 in
theorem prefix_3 (w : World) (h : PfT w) : Calls Tryz.prog 126 #[t3, .int .i64 64] w fun e w' => e = .returned (.tuple #[.float .f64 4613937818241073152, .int .i64 3, .nilIface]) ∧ w = w' := by
  have HP := Lib.hid h; clear h
  go_enter Tryz.func126, Tryz.ntmps126
  go_wp2_with (go_at_call 169; refine (atof_3 _ HP.out).mono ?_; rintro e w' ⟨rfl, rfl⟩)
  go_returns
  exact ⟨rfl, rfl⟩
set_option maxHeartbeats 1000000 in
theorem iparse_3 (w : World) (h : PfT w) : Calls Tryz.prog 89 #[t3, .int .i64 64] w fun e w' => e = .returned (.tuple #[.float .f64 4613937818241073152, .nilIface]) ∧ w = w' := by
  have HP := Lib.hid h; clear h
  go_enter Tryz.func89, Tryz.ntmps89
  go_wp2_with (go_at_call 126; refine (prefix_3 _ HP.out).mono ?_; rintro e w' ⟨rfl, rfl⟩)
  go_returns
  exact ⟨rfl, rfl⟩
set_option maxHeartbeats 1000000 in
theorem parse_3 (w : World) (h : PfT w) : Calls Tryz.prog 58 #[t3, .int .i64 64] w fun e w' => e = .returned (.tuple #[.float .f64 4613937818241073152, .nilIface]) ∧ w = w' := by
  have HP := Lib.hid h; clear h
  go_enter Tryz.func58, Tryz.ntmps58
  go_wp2_with (go_at_call 89; refine (iparse_3 _ HP.out).mono ?_; rintro e w' ⟨rfl, rfl⟩)
  go_returns
  exact ⟨rfl, rfl⟩
end Go.Proofs.YthndlcgcmfhokaaGreatDoor.Pf
