/- THE WALK OF the fit of chapter 02's laws: it reads "3.0" and prints "a". -/
import Derived.Test.YthndlcgcmfhokaaGreatDoorParseFl
import Derived.Test.YthndlcgcmfhokaaGreatDoorPrint
import Derived.Test.YthndlcgcmfhokaaGreatDoorCondFit
namespace Go.Proofs.YthndlcgcmfhokaaGreatDoor.Val
open Go.RowKit Flt
attribute [local go_sem] run_store_flt
/-- three, as a number -/
abbrev F3 : Nat := 4613937818241073152
theorem vT_3 : vT ⟨1, 0, F3, [], false⟩ = [51, 46, 48] := by decide +kernel
theorem vT_a : vT ⟨2, 0, 0, [97], false⟩ = [34, 97, 34] := by decide +kernel
theorem any3 (W : World) : Calls Tryz.prog 31 #[Pf.t3, .string ⟨#[46, 101, 73, 78]⟩] W fun e w' => e = .returned (.bool true) ∧ Below W.heap.size W w' :=
  (any_at [51, 46, 48] W (by decide) (by decide)).mono fun _ _ ⟨h1, h2⟩ => ⟨h1, h2⟩
theorem right3 (W : World) : Calls Tryz.prog 23 #[val 1 0 F3 [] false] W fun e w' => e = .returned (.bool true) ∧ Below W.heap.size W w' :=
  (vright_any 1 0 F3 [] false W (by decide)).mono fun _ _ ⟨h1, h2⟩ => ⟨h1, h2⟩
theorem print3 (W : World) (hT : Tab.Tabs W) : Calls Tryz.prog 12 #[val 1 0 F3 [] false] W fun e w' => e = .returned (.string ⟨#[51, 46, 48]⟩) ∧ Below W.heap.size W w' :=
  (vprint_any 1 0 F3 [] false W (by decide) (by decide) (by decide) (by decide) hT).mono fun _ _ ⟨h1, h2⟩ => ⟨by rw [h1, vT_3], h2⟩
theorem printa (W : World) (hT : Tab.Tabs W) : Calls Tryz.prog 12 #[val 2 0 0 [97] false] W fun e w' => e = .returned (.string ⟨#[34, 97, 34]⟩) ∧ Below W.heap.size W w' :=
  (vprint_any 2 0 0 [97] false W (by decide) (by decide) (by decide) (by decide) hT).mono fun _ _ ⟨h1, h2⟩ => ⟨by rw [h1, vT_a], h2⟩
theorem canon3 (W : World) : Calls Tryz.prog 30 #[.float .f64 F3] W fun e w' => e = .returned (.float .f64 F3) ∧ W = w' :=
  (Ord.canon_any F3 W).mono fun _ _ ⟨h1, h2⟩ => ⟨by rw [h1, show Ord.canon F3 = F3 by decide +kernel], h2⟩
theorem set5_at (w : World) (b : Nat) (v0 v1 v2 v3 v4 : Value) (h : ∀ j, j < 5 → (w.cell? ⟨b, j, none⟩).isSome = true) :
    (((((w.setCell ⟨b, 0, none⟩ v0).setCell ⟨b, 1, none⟩ v1).setCell ⟨b, 2, none⟩ v2).setCell ⟨b, 3, none⟩ v3).setCell ⟨b, 4, none⟩ v4).cell? ⟨b, 0, none⟩ = some v0 ∧
    (((((w.setCell ⟨b, 0, none⟩ v0).setCell ⟨b, 1, none⟩ v1).setCell ⟨b, 2, none⟩ v2).setCell ⟨b, 3, none⟩ v3).setCell ⟨b, 4, none⟩ v4).cell? ⟨b, 1, none⟩ = some v1 ∧
    (((((w.setCell ⟨b, 0, none⟩ v0).setCell ⟨b, 1, none⟩ v1).setCell ⟨b, 2, none⟩ v2).setCell ⟨b, 3, none⟩ v3).setCell ⟨b, 4, none⟩ v4).cell? ⟨b, 2, none⟩ = some v2 ∧
    (((((w.setCell ⟨b, 0, none⟩ v0).setCell ⟨b, 1, none⟩ v1).setCell ⟨b, 2, none⟩ v2).setCell ⟨b, 3, none⟩ v3).setCell ⟨b, 4, none⟩ v4).cell? ⟨b, 3, none⟩ = some v3 ∧
    (((((w.setCell ⟨b, 0, none⟩ v0).setCell ⟨b, 1, none⟩ v1).setCell ⟨b, 2, none⟩ v2).setCell ⟨b, 3, none⟩ v3).setCell ⟨b, 4, none⟩ v4).cell? ⟨b, 4, none⟩ = some v4 ∧
    Below b w (((((w.setCell ⟨b, 0, none⟩ v0).setCell ⟨b, 1, none⟩ v1).setCell ⟨b, 2, none⟩ v2).setCell ⟨b, 3, none⟩ v3).setCell ⟨b, 4, none⟩ v4) := by
  have e := World.cell?_setCells_in b [v0, v1, v2, v3, v4] 0 w (fun j hj => by rw [Nat.zero_add]; exact h j hj)
  exact ⟨e 0 (by simp), e 1 (by simp), e 2 (by simp), e 3 (by simp), e 4 (by simp),
    (((((Below.refl b w).setCell (Nat.le_refl _) _).setCell (Nat.le_refl _) _).setCell (Nat.le_refl _) _).setCell (Nat.le_refl _) _).setCell (Nat.le_refl _) _⟩
/-- two boxes laid one behind the other, seen from a later world -/
theorem two_box {w w1 : World} {A B : Array Value} {T U : TypeId} (hb : Below ((w.alloc (.cells A T)).alloc (.cells B U)).heap.size ((w.alloc (.cells A T)).alloc (.cells B U)) w1) :
    (∀ o, w1.cell? ⟨w.heap.size, o, none⟩ = A[o]?) ∧ (∀ o, w1.cell? ⟨w.heap.size + 1, o, none⟩ = B[o]?) ∧ (∀ o, w1.frozen? ⟨w.heap.size, o, none⟩ = false) ∧ (∀ o, w1.frozen? ⟨w.heap.size + 1, o, none⟩ = false) ∧
      w.heap.size + 1 < w1.heap.size ∧ Below w.heap.size w w1 := by
  have hz := size2 hb
  have c : ∀ b o, b < w.heap.size + 2 → w1.cell? ⟨b, o, none⟩ = ((w.alloc (.cells A T)).alloc (.cells B U)).cell? ⟨b, o, none⟩ := fun b o h => hb.cell (p := ⟨b, o, none⟩) (by simp; omega)
  have f : ∀ b o, b < w.heap.size + 2 → w1.frozen? ⟨b, o, none⟩ = ((w.alloc (.cells A T)).alloc (.cells B U)).frozen? ⟨b, o, none⟩ := fun b o h => hb.frozen (p := ⟨b, o, none⟩) (by simp; omega)
  exact ⟨fun o => (c _ o (by omega)).trans (by simp), fun o => (c _ o (by omega)).trans (by simp), fun o => (f _ o (by omega)).trans (by simp), fun o => (f _ o (by omega)).trans (by simp), hz, btrans (balloc2 _ _ _) hb⟩
/-- the second one is written -/
theorem two_set {w w1 : World} {A B : Array Value} {T U : TypeId} (hb : Below ((w.alloc (.cells A T)).alloc (.cells B U)).heap.size ((w.alloc (.cells A T)).alloc (.cells B U)) w1) (hB : B.size = 5) (v0 v1 v2 v3 v4 : Value) :
    ∃ W2, W2 = (((((w1.setCell ⟨w.heap.size + 1, 0, none⟩ v0).setCell ⟨w.heap.size + 1, 1, none⟩ v1).setCell ⟨w.heap.size + 1, 2, none⟩ v2).setCell ⟨w.heap.size + 1, 3, none⟩ v3).setCell ⟨w.heap.size + 1, 4, none⟩ v4) ∧
      (∀ o, W2.cell? ⟨w.heap.size, o, none⟩ = A[o]?) ∧ (W2.cell? ⟨w.heap.size + 1, 0, none⟩ = some v0 ∧ W2.cell? ⟨w.heap.size + 1, 1, none⟩ = some v1 ∧ W2.cell? ⟨w.heap.size + 1, 2, none⟩ = some v2 ∧ W2.cell? ⟨w.heap.size + 1, 3, none⟩ = some v3 ∧ W2.cell? ⟨w.heap.size + 1, 4, none⟩ = some v4) ∧
      (∀ o, W2.frozen? ⟨w.heap.size, o, none⟩ = false) ∧ w.heap.size + 1 < W2.heap.size ∧ Below w.heap.size w W2 := by
  obtain ⟨c0, c1, f0, f1, hz, hl⟩ := two_box hb
  obtain ⟨e0, e1, e2, e3, e4, h2⟩ := set5_at w1 (w.heap.size + 1) v0 v1 v2 v3 v4 (fun j hj => by rw [c1, Array.getElem?_eq_getElem (by omega)]; rfl)
  exact ⟨_, rfl, fun o => (h2.cell (p := ⟨w.heap.size, o, none⟩) (Nat.lt_succ_self _)).trans (c0 o), ⟨e0, e1, e2, e3, e4⟩, fun o => (h2.frozen (p := ⟨w.heap.size, o, none⟩) (Nat.lt_succ_self _)).trans (f0 o), Nat.lt_of_lt_of_le hz h2.size, hl.trans (h2.mono (by omega))⟩
set_option maxRecDepth 20000 in
set_option maxHeartbeats 4000000 in
theorem read3_any (w : World) (hT : Tab.Tabs w) (hP : Pf.PfT w) : Calls Tryz.prog 22 #[Pf.t3] w fun e w' => e = .returned (.tuple #[val 1 0 F3 [] false, .bool true]) ∧ Below w.heap.size w w' := by
  have HT := Lib.hid hT; have HP := Lib.hid hP; clear hT hP
  go_enter Tryz.func22, Tryz.ntmps22
  go_wp2_with (first
    | (go_at_call 31; refine (any3 _).mono ?_; rintro e w1 ⟨rfl, hb1⟩; have HB1 := Lib.hid hb1; obtain ⟨c0, c1, f0, f1, hz1, hl1⟩ := two_box hb1; clear hb1)
    | (go_at_call 58; refine (Pf.parse_3 _ (HP.out.below hl1 (Nat.le_refl _))).mono ?_; rintro e w' ⟨rfl, rfl⟩)
    | (go_at_call 30; refine (canon3 _).mono ?_; rintro e w' ⟨rfl, rfl⟩) | fail)
  obtain ⟨W2, hW2, d0, ⟨e0, e1, e2, e3, e4⟩, g0, hz2, hl2⟩ := two_set HB1.out rfl (.int .i64 1) (.int .i64 0) (.float .f64 F3) (.string ⟨#[]⟩) (.bool false)
  rw [← hW2]
  clear c0 c1 f0 f1 hz1 hl1 HB1 hW2
  have HB := Lib.hid hl2; clear hl2
  go_wp2_with (first
    | (go_at_call 23; refine (right3 _).mono ?_; rintro e w3 ⟨rfl, hb3⟩; obtain ⟨hc3, hf3⟩ := bcell hb3; have hs3 := Nat.lt_of_lt_of_le hz2 hb3.size; have hs3' : w.heap.size < W2.heap.size := by omega)
    | (go_at_call 12; refine (print3 _ (HT.out.below (btrans HB.out hb3) (Nat.le_refl _))).mono ?_; rintro e w4 ⟨rfl, hb4⟩; obtain ⟨hc4, hf4⟩ := bcell hb4; have hs4' : w.heap.size < w3.heap.size := by omega) | fail)
  obtain ⟨r0, r1, r2, r3, r4, hb5⟩ := set5_at w4 w.heap.size (.int .i64 1) (.int .i64 0) (.float .f64 F3) (.string ⟨#[]⟩) (.bool false) (fun j hj => by
    rw [hc4 _ _ (by omega), hc3 _ _ (by omega), d0, Array.getElem?_eq_getElem (by exact hj)]; rfl)
  generalize World.setCell _ _ _ = W5 at *
  refine bodyPost_ret (v := .tuple #[val 1 0 F3 [] false, .bool true]) (by simp [results, Tryz.results22, go_sem, r0, r1, r2, r3, r4]; try rfl) rfl ?_
  exact ⟨rfl, (btrans (btrans HB.out hb3) hb4).trans hb5⟩
set_option maxRecDepth 20000 in
theorem of_a (w : World) : Calls Tryz.prog 25 #[.iface 9 (.string ⟨#[97]⟩)] w fun e w' => e = .returned (.tuple #[val 2 0 0 [97] false, .bool true]) ∧ Below w.heap.size w w' := by
  have t0 : ∀ w, (Instr.typeAssert (.iface 9 (.string ⟨#[97]⟩)) 20 3 true).run Tryz.prog w = .ok (.tuple #[.int .i64 0, .bool false]) w := fun _ => by kernel_rfl
  have t1 : ∀ w, (Instr.typeAssert (.iface 9 (.string ⟨#[97]⟩)) 20 2 true).run Tryz.prog w = .ok (.tuple #[.int .i64 0, .bool false]) w := fun _ => by kernel_rfl
  have t2 : ∀ w, (Instr.typeAssert (.iface 9 (.string ⟨#[97]⟩)) 20 22 true).run Tryz.prog w = .ok (.tuple #[.float .f64 0, .bool false]) w := fun _ => by kernel_rfl
  have t3 : ∀ w, (Instr.typeAssert (.iface 9 (.string ⟨#[97]⟩)) 20 9 true).run Tryz.prog w = .ok (.tuple #[.string ⟨#[97]⟩, .bool true]) w := fun _ => by kernel_rfl
  go_enter Tryz.func25, Tryz.ntmps25
  go_wp2_with fail
  go_returns
  exact ⟨rfl, by repeat (first | assumption | (with_reducible exact Below.refl _ _) | exact balloc _ _ | exact balloc2 _ _ _ | refine btrans ?_ (by assumption) | refine btrans ?_ (balloc _ _))⟩
theorem less12 (W : World) : Calls Tryz.prog 26 #[.float .f64 4607182418800017408, .float .f64 4611686018427387904] W fun e w' => e = .returned (.bool true) ∧ W = w' :=
  (Ord.less_any _ _ W).mono fun _ _ ⟨h1, h2⟩ => ⟨by rw [h1, show Flt.lt 4607182418800017408 4611686018427387904 = true by decide +kernel], h2⟩
set_option maxRecDepth 20000 in
set_option maxHeartbeats 4000000 in
theorem fit02_any (w : World) (hT : Tab.Tabs w) (hP : Pf.PfT w) : Calls Tryz.prog 9 #[] w fun e w' => e = .returned (.bool true) ∧ Below w.heap.size w w' := by
  have q3 : (FloatKind.f64.format.order F3 F3 == some .eq) = true := by decide +kernel
  have HT := Lib.hid hT; have HP := Lib.hid hP; clear hT hP
  go_enter Tryz.func9, Tryz.ntmps9
  go_wp2_with (first
    | (go_at_call 22; refine (read3_any _ HT.out HP.out).mono ?_; rintro e w1 ⟨rfl, hb1⟩)
    | (go_at_call 25; refine (of_a _).mono ?_; rintro e w2 ⟨rfl, hb2⟩; obtain ⟨hc2, hf2⟩ := bcell hb2; have hs2 := size1 hb2)
    | (go_at_call 12; refine (printa _ (HT.out.below (by repeat (first | assumption | (with_reducible exact Below.refl _ _) | exact balloc _ _ | exact balloc2 _ _ _ | refine btrans ?_ (by assumption) | refine btrans ?_ (balloc _ _))) (Nat.le_refl _))).mono ?_; rintro e w3 ⟨rfl, hb3⟩)
    | (go_at_call 26; refine (less12 _).mono ?_; rintro e w' ⟨rfl, rfl⟩) | fail)
  go_ret
  exact ⟨rfl, by repeat (first | assumption | (with_reducible exact Below.refl _ _) | exact balloc _ _ | exact balloc2 _ _ _ | refine btrans ?_ (by assumption) | refine btrans ?_ (balloc _ _))⟩
theorem light_v (k n : Int) (x : Nat) (t : List UInt8) (y : Bool) (w : World) (ht : t.length ≤ 140737488351232) : Calls Tryz.prog 10 #[val k n x t y] w fun e w' => e = .returned (.bool (decide (t.length ≤ 300))) ∧ Below w.heap.size w w' := by
  by_cases h : t.length ≤ 300
  · have s1 : decide ((t.length : Int) ≤ 300) = true := by rw [decide_eq_true_iff]; omega
    go_enter Tryz.func10, Tryz.ntmps10
    go_wp2
    go_ret
    exact ⟨ret_bool (by rw [decide_eq_true h]), balloc _ _⟩
  · have s1 : decide ((t.length : Int) ≤ 300) = false := by rw [decide_eq_false_iff_not]; omega
    go_enter Tryz.func10, Tryz.ntmps10
    go_wp2
    go_ret
    exact ⟨ret_bool (by rw [decide_eq_false h]), balloc _ _⟩
end Go.Proofs.YthndlcgcmfhokaaGreatDoor.Val
