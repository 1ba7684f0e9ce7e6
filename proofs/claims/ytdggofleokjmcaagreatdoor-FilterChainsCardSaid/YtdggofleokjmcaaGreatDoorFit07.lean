/- THE WALK OF fit of chapter 07's laws. -/
import Derived.Test.YtdggofleokjmcaaGreatDoorFPrint
import Derived.Test.YtdggofleokjmcaaGreatDoorFilM
namespace Go.Proofs.YtdggofleokjmcaaGreatDoor.Val
open Go.RowKit Flt
attribute [local go_sem] run_store_flt
def cX (op n : Int) : C := ⟨[120], op, ⟨0, n, 0, [], false⟩⟩
set_option maxHeartbeats 1000000 in
theorem fitx_any (op n : Int) (w : World) : Calls Tryz.prog 62 #[.int .i64 op, .int .i64 n] w fun e w' =>
    ∃ g, e = .returned (ev [97] (some ⟨g, 0, none⟩) 1 1) ∧ Conds w' (some ⟨g, 0, none⟩) [cX op n] ∧ Below w.heap.size w w' := by
  go_enter Tryz.func62, Tryz.ntmps62
  go_wp2_with fail
  have hcn := conds_one (w.alloc (.cells #[.string ⟨#[97]⟩, .slice (some ⟨w.heap.size + 1, 0, none⟩) 1 1] 63)) (cX op n) 55
  rw [World.size_alloc] at hcn
  refine bodyPost_ret (v := ev [97] (some ⟨w.heap.size + 1, 0, none⟩) 1 1) (by simp [results, Tryz.results62, go_sem]; try rfl) rfl ?_
  exact ⟨_, rfl, hcn, balloc2 _ _ _⟩
theorem conds_op {op n : Int} (h : 0 ≤ op ∧ op ≤ 7) : ∀ c ∈ [cX op n], 0 ≤ c.op ∧ c.op ≤ 7 := fun c hc => by rw [List.mem_singleton.1 hc]; exact h
theorem conds_num {op n : Int} : ∀ c ∈ [cX op n], c.val.num < 18446744073709551616 := fun c hc => by rw [List.mem_singleton.1 hc]; show 0 < _; decide
theorem cov_yes : fCovers [97] [cX 4 3] [97] [cX 4 5] = true := by decide +kernel
theorem cov_no : fCovers [97] [cX 4 5] [97] [cX 4 3] = false := by decide +kernel
theorem cprint_x3 (w : World) (hw : Words w) : Calls Tryz.prog 59 #[cc (cX 4 3)] w fun e w' => e = .returned (.string ⟨#[120, 32, 62, 32, 51]⟩) ∧ Below w.heap.size w w' :=
  (cprint_of [120] 4 0 3 0 [] false [51] w hw rfl (by decide) (by decide) print_3).mono fun _ _ ⟨h1, h2⟩ => ⟨h1, h2⟩
theorem fprint_x3 (g : Nat) (w : World) (hw : Words w) (h : Conds w (some ⟨g, 0, none⟩) [cX 4 3]) : Calls Tryz.prog 63 #[ev [97] (some ⟨g, 0, none⟩) 1 1] w fun e w' => e = .returned (.string ⟨#[97, 58, 32, 120, 32, 62, 32, 51]⟩) ∧ Below w.heap.size w w' :=
  (fprint_any [97] (some ⟨g, 0, none⟩) 1 [cX 4 3] (fun _ => [120, 32, 62, 32, 51]) w hw h (by decide) (by decide) (fun _ _ => by decide) (fun c hc W hW _ => by rw [List.mem_singleton.1 hc]; exact cprint_x3 W hW)).mono fun _ _ ⟨h1, h2⟩ => ⟨h1, h2⟩
set_option maxHeartbeats 1000000 in
theorem fit07_any (w : World) (hw : Words w) : Calls Tryz.prog 34 #[] w fun e w' => e = .returned (.bool true) ∧ Below w.heap.size w w' := by
  have HW := Lib.hid hw; clear hw
  have hcy (g1 g2 : Nat) (W : World) (h1 : Conds W (some ⟨g1, 0, none⟩) [cX 4 3]) (h2 : Conds W (some ⟨g2, 0, none⟩) [cX 4 5]) := fcovers_any [97] (some ⟨g1, 0, none⟩) 1 [cX 4 3] [97] (some ⟨g2, 0, none⟩) 1 [cX 4 5] W h1 h2 (by decide) (by decide) (by decide) (by decide) (conds_op ⟨by decide, by decide⟩) conds_num conds_num
  have hcn (g1 g2 : Nat) (W : World) (h1 : Conds W (some ⟨g1, 0, none⟩) [cX 4 5]) (h2 : Conds W (some ⟨g2, 0, none⟩) [cX 4 3]) := fcovers_any [97] (some ⟨g1, 0, none⟩) 1 [cX 4 5] [97] (some ⟨g2, 0, none⟩) 1 [cX 4 3] W h1 h2 (by decide) (by decide) (by decide) (by decide) (conds_op ⟨by decide, by decide⟩) conds_num conds_num
  rw [cov_yes] at hcy
  rw [cov_no] at hcn
  have HCY := Lib.hid hcy; have HCN := Lib.hid hcn
  clear hcy hcn
  go_enter Tryz.func34, Tryz.ntmps34
  go_wp2_with fail
  refine (fitx_any 4 3 _).mono ?_
  rintro e w1 ⟨g1, rfl, hc1, hb1⟩
  go_wp2_with fail
  refine (fitx_any 4 5 _).mono ?_
  rintro e w2 ⟨g2, rfl, hc2, hb2⟩
  go_wp2_with fail
  refine (HCY.out g1 g2 _ (hc1.below hb2) hc2).mono ?_
  rintro e w3 ⟨rfl, hb3⟩
  have b3 := btrans (btrans hb1 hb2) hb3
  clear hc1 hc2 hb1 hb2 hb3
  go_wp2_with fail
  refine (fitx_any 4 5 _).mono ?_
  rintro e w4 ⟨g4, rfl, hc4, hb4⟩
  go_wp2_with fail
  refine (fitx_any 4 3 _).mono ?_
  rintro e w5 ⟨g5, rfl, hc5, hb5⟩
  go_wp2_with fail
  refine (HCN.out g4 g5 _ (hc4.below hb5) hc5).mono ?_
  rintro e w6 ⟨rfl, hb6⟩
  have b6 := btrans (btrans (btrans b3 hb4) hb5) hb6
  clear hc4 hc5 hb4 hb5 hb6 b3
  go_wp2_with fail
  refine (fitx_any 4 3 _).mono ?_
  rintro e w7 ⟨g7, rfl, hc7, hb7⟩
  have b7 := btrans b6 hb7
  go_wp2_with fail
  refine (fprint_x3 g7 _ (HW.out.below b7) hc7).mono ?_
  rintro e w8 ⟨rfl, hb8⟩
  have b8 := btrans b7 hb8
  clear b6 b7 hb7 hb8 hc7
  go_wp2_with (first | (go_at_call 64; refine (word_any _ _ (HW.out.below b8)).mono ?_; rintro e w' ⟨rfl, rfl⟩) | (go_at_call 35; refine (Sc.right_l [97] _ (by decide)).mono ?_; rintro e w9 ⟨rfl, ⟨nd, rfl⟩⟩))
  go_ret
  exact ⟨rfl, bdrewN b8 _⟩
end Go.Proofs.YtdggofleokjmcaaGreatDoor.Val
