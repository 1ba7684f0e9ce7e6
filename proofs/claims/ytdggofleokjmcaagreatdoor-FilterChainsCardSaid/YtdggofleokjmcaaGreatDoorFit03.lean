/- THE WALK OF the fit of chapter 03's laws. -/
import Derived.Test.YtdggofleokjmcaaGreatDoorNew
import Derived.Test.YtdggofleokjmcaaGreatDoorCondFit
namespace Go.Proofs.YtdggofleokjmcaaGreatDoor.Val
open Go.RowKit Flt
attribute [local go_sem] run_store_flt
set_option maxRecDepth 20000 in
theorem of_3 (w : World) : Calls Tryz.prog 45 #[.iface 3 (.int .i64 3)] w fun e w' => e = .returned (.tuple #[val 0 3 0 [] false, .bool true]) ∧ Below w.heap.size w w' := by
  have hta : ∀ w, (Instr.typeAssert (.iface 3 (.int .i64 3)) 20 3 true).run Tryz.prog w = .ok (.tuple #[.int .i64 3, .bool true]) w := fun _ => by kernel_rfl
  go_enter Tryz.func45, Tryz.ntmps45
  go_wp2_with fail
  go_returns
  exact ⟨rfl, by repeat (first | assumption | (with_reducible exact Below.refl _ _) | exact balloc _ _ | exact balloc2 _ _ _ | refine btrans ?_ (by assumption) | refine btrans ?_ (balloc _ _))⟩
/-- what the region of Print holds of the world: an attribute's box -/
theorem box_below {b : Nat} {v0 v1 v2 v3 v4 v5 : Value} {w w1 w2 : World} (hb : Below w1.heap.size w1 w2)
    (h : w1.cell? ⟨b, 0, none⟩ = some v0 ∧ w1.cell? ⟨b, 1, none⟩ = some v1 ∧ w1.cell? ⟨b, 2, none⟩ = some v2 ∧ w1.cell? ⟨b, 3, none⟩ = some v3 ∧ w1.cell? ⟨b, 4, none⟩ = some v4 ∧ w1.cell? ⟨b, 5, none⟩ = some v5 ∧ Below w.heap.size w w1 ∧ b < w1.heap.size) :
    w2.cell? ⟨b, 0, none⟩ = some v0 ∧ w2.cell? ⟨b, 1, none⟩ = some v1 ∧ w2.cell? ⟨b, 2, none⟩ = some v2 ∧ w2.cell? ⟨b, 3, none⟩ = some v3 ∧ w2.cell? ⟨b, 4, none⟩ = some v4 ∧ w2.cell? ⟨b, 5, none⟩ = some v5 ∧ Below w.heap.size w w2 ∧ b < w2.heap.size := by
  obtain ⟨h0, h1, h2, h3, h4, h5, hB, hl⟩ := h
  have c : ∀ o, w2.cell? ⟨b, o, none⟩ = w1.cell? ⟨b, o, none⟩ := fun o => hb.cell (p := ⟨b, o, none⟩) hl
  exact ⟨by rw [c]; exact h0, by rw [c]; exact h1, by rw [c]; exact h2, by rw [c]; exact h3, by rw [c]; exact h4, by rw [c]; exact h5, btrans hB hb, Nat.lt_of_lt_of_le hl hb.size⟩
theorem box_start {v0 v1 v2 v3 v4 v5 : Value} {T : TypeId} {w wr : World} (hw : Below w.heap.size w wr) :
    (wr.alloc (.cells #[v0, v1, v2, v3, v4, v5] T)).drew.cell? ⟨wr.heap.size, 0, none⟩ = some v0 ∧ (wr.alloc (.cells #[v0, v1, v2, v3, v4, v5] T)).drew.cell? ⟨wr.heap.size, 1, none⟩ = some v1 ∧ (wr.alloc (.cells #[v0, v1, v2, v3, v4, v5] T)).drew.cell? ⟨wr.heap.size, 2, none⟩ = some v2 ∧ (wr.alloc (.cells #[v0, v1, v2, v3, v4, v5] T)).drew.cell? ⟨wr.heap.size, 3, none⟩ = some v3 ∧ (wr.alloc (.cells #[v0, v1, v2, v3, v4, v5] T)).drew.cell? ⟨wr.heap.size, 4, none⟩ = some v4 ∧ (wr.alloc (.cells #[v0, v1, v2, v3, v4, v5] T)).drew.cell? ⟨wr.heap.size, 5, none⟩ = some v5 ∧
    Below w.heap.size w (wr.alloc (.cells #[v0, v1, v2, v3, v4, v5] T)).drew ∧ wr.heap.size < (wr.alloc (.cells #[v0, v1, v2, v3, v4, v5] T)).drew.heap.size := by
  have c : ∀ o, (wr.alloc (.cells #[v0, v1, v2, v3, v4, v5] T)).cell? ⟨wr.heap.size, o, none⟩ = #[v0, v1, v2, v3, v4, v5][o]? := fun o => World.cell?_alloc_at _ _ _ _ rfl
  exact ⟨c 0, c 1, c 2, c 3, c 4, c 5, bdrewN (btrans hw (balloc _ _)) 1, by show wr.heap.size < (wr.alloc _).heap.size; simp⟩
theorem box_own {b : Nat} {v0 v1 v2 v3 v4 v5 : Value} {w w1 : World}
    (h : w1.cell? ⟨b, 0, none⟩ = some v0 ∧ w1.cell? ⟨b, 1, none⟩ = some v1 ∧ w1.cell? ⟨b, 2, none⟩ = some v2 ∧ w1.cell? ⟨b, 3, none⟩ = some v3 ∧ w1.cell? ⟨b, 4, none⟩ = some v4 ∧ w1.cell? ⟨b, 5, none⟩ = some v5 ∧ Below w.heap.size w w1 ∧ b < w1.heap.size) : Below w.heap.size w w1 := h.2.2.2.2.2.2.1
set_option maxHeartbeats 400000 in
theorem eprint_fit (a0 : Option Addr) (cap : Nat) (w : World) (h : Attrs w a0 [⟨[120], 0, 3, 0, [], false⟩]) :
    Calls Tryz.prog 27 #[ev [97] a0 1 cap] w fun e w' => e = .returned (.string ⟨#[91, 97, 93, 32, 120, 61, 51]⟩) ∧ Below w.heap.size w w' := by
  have H := Lib.hid h; clear h
  have r1 : ∀ w, (Op.stringOp .add ⟨#[91]⟩ ⟨#[97]⟩).run Tryz.prog w = .ok (.string ⟨#[91, 97]⟩) w := fun w => run_string_add_lists w [91] [97] (by simp) (by simp)
  have r2 : ∀ w, (Op.stringOp .add ⟨#[91, 97]⟩ ⟨#[93]⟩).run Tryz.prog w = .ok (.string ⟨#[91, 97, 93]⟩) w := fun w => run_string_add_lists w [91, 97] [93] (by simp) (by simp)
  have r3 : ∀ w, (Op.stringOp .add ⟨#[32]⟩ ⟨#[120]⟩).run Tryz.prog w = .ok (.string ⟨#[32, 120]⟩) w := fun w => run_string_add_lists w [32] [120] (by simp) (by simp)
  have r4 : ∀ w, (Op.stringOp .add ⟨#[32, 120]⟩ ⟨#[61]⟩).run Tryz.prog w = .ok (.string ⟨#[32, 120, 61]⟩) w := fun w => run_string_add_lists w [32, 120] [61] (by simp) (by simp)
  have r5 : ∀ w, (Op.stringOp .add ⟨#[32, 120, 61]⟩ ⟨#[51]⟩).run Tryz.prog w = .ok (.string ⟨#[32, 120, 61, 51]⟩) w := fun w => run_string_add_lists w [32, 120, 61] [51] (by simp) (by simp)
  have r6 : ∀ w, (Op.stringOp .add ⟨#[91, 97, 93]⟩ ⟨#[32, 120, 61, 51]⟩).run Tryz.prog w = .ok (.string ⟨#[91, 97, 93, 32, 120, 61, 51]⟩) w := fun w => run_string_add_lists w [91, 97, 93] [32, 120, 61, 51] (by simp) (by simp)
  go_enter Tryz.func27, Tryz.ntmps27
  go_wp2_with fail
  go_loopw [3, 13] (fun vs vi wr => ((vi = .int .i64 0 ∧ vs = .string ⟨#[91, 97, 93]⟩) ∨ (vi = .int .i64 1 ∧ vs = .string ⟨#[91, 97, 93, 32, 120, 61, 51]⟩)) ∧ Below w.heap.size w wr) (fun _ vi _ => 1 - (intOf vi).toNat)
  case atStart => exact ⟨Or.inl ⟨rfl, rfl⟩, by repeat (first | assumption | (with_reducible exact Below.refl _ _) | exact balloc _ _ | exact balloc2 _ _ _ | refine btrans ?_ (by assumption) | refine btrans ?_ (balloc _ _))⟩
  case round =>
    obtain ⟨⟨rfl, rfl⟩ | ⟨rfl, rfl⟩, hbr⟩ := hrel
    · obtain ⟨a, rfl, v0, v1, v2, v3, v4, v5⟩ := (H.out.below hbr) 0 (by decide)
      have hz : a.add 0 = a := by simp [Addr.add]
      simp [hz] at v0 v1 v2 v3 v4 v5
      clear hz
      go_wp2_with fail
      go_region_held3 (fun w' => w'.cell? ⟨wr.heap.size, 0, none⟩ = some (.string ⟨#[120]⟩) ∧ w'.cell? ⟨wr.heap.size, 1, none⟩ = some (.int .i64 0) ∧ w'.cell? ⟨wr.heap.size, 2, none⟩ = some (.int .i64 3) ∧ w'.cell? ⟨wr.heap.size, 3, none⟩ = some (.float .f64 0) ∧ w'.cell? ⟨wr.heap.size, 4, none⟩ = some (.string ⟨#[]⟩) ∧ w'.cell? ⟨wr.heap.size, 5, none⟩ = some (.bool false) ∧ Below w.heap.size w w' ∧ wr.heap.size < w'.heap.size)
        (first | exact box_start hbr | assumption | exact box_below (by assumption) (by assumption))
        (first | (go_at_call 26; refine (print_3 _).mono ?_; rintro e w1 ⟨rfl, hb⟩))
      all_goals
        go_wp2
        exact ⟨⟨Or.inr ⟨rfl, rfl⟩, box_own (by assumption)⟩, by simp [intOf]⟩
    · go_wp2_with fail
      go_ret
      exact ⟨rfl, hbr⟩
theorem newB_one (a : A) (h : canonV a.val = a.val) : newB [a] = [a] := newB_self (by simp [Rising]) (by intro b hb; rw [List.mem_singleton.1 hb]; exact h)
/-- one attribute in a block of its own -/
theorem one_attrs (w : World) (a : A) (e : TypeId) : Attrs (w.alloc (.cells #[.string ⟨a.name.toArray⟩, .int .i64 a.val.kind, .int .i64 a.val.int, .float .f64 a.val.num, .string ⟨a.val.text.toArray⟩, .bool a.val.yes] e)) (some ⟨w.heap.size, 0, none⟩) [a] := by
  intro i hi
  have : i = 0 := by simpa using hi
  subst this
  refine ⟨_, rfl, ?_⟩
  have c : ∀ o, (w.alloc (.cells #[.string ⟨a.name.toArray⟩, .int .i64 a.val.kind, .int .i64 a.val.int, .float .f64 a.val.num, .string ⟨a.val.text.toArray⟩, .bool a.val.yes] e)).cell? ⟨w.heap.size, o, none⟩ = #[.string ⟨a.name.toArray⟩, .int .i64 a.val.kind, .int .i64 a.val.int, .float .f64 a.val.num, .string ⟨a.val.text.toArray⟩, .bool a.val.yes][o]? := fun o => World.cell?_alloc_at _ _ _ _ rfl
  exact ⟨c 0, c 1, c 2, c 3, c 4, c 5⟩
theorem new_fit (w : World) (b : Nat) (hb : b = w.heap.size) : Calls Tryz.prog 17 #[.string ⟨#[97]⟩, .slice (some ⟨b, 0, none⟩) 1 1] (w.alloc (.cells #[.string ⟨#[120]⟩, .int .i64 0, .int .i64 3, .float .f64 0, .string ⟨#[]⟩, .bool false] 32)) fun e w' =>
    ∃ b0 cp, e = .returned (ev [97] b0 1 cp) ∧ Attrs w' b0 [⟨[120], 0, 3, 0, [], false⟩] ∧ Below w.heap.size w w' := by
  subst hb
  have h := new_any [97] (some ⟨w.heap.size, 0, none⟩) 1 [⟨[120], 0, 3, 0, [], false⟩] _ (one_attrs w ⟨[120], 0, 3, 0, [], false⟩ 32) (by decide)
  rw [newB_one ⟨[120], 0, 3, 0, [], false⟩ (by simp [canonV])] at h
  refine h.mono ?_
  rintro e w' ⟨b0, cp, h1, h2, h3, h4⟩
  exact ⟨b0, cp, h1, h2, btrans (balloc _ _) h4⟩
set_option maxHeartbeats 400000 in
theorem fit03_any (w : World) : Calls Tryz.prog 15 #[] w fun e w' => e = .returned (.bool true) ∧ Below w.heap.size w w' := by
  have n1 : Sc.nameB [97, 49] = true := by decide
  have n2 : Sc.nameB [49, 97] = false := by decide
  go_enter Tryz.func15, Tryz.ntmps15
  go_wp2_with fail
  refine (of_3 _).mono ?_
  rintro e w1 ⟨rfl, hb1⟩
  go_wp2_with fail
  refine (new_fit _ _ (by simp)).mono ?_
  rintro e w2 ⟨b0, cp, rfl, hat, hb2⟩
  have HAT := Lib.hid hat; clear hat
  go_wp2_with (first | (go_at_call 27; refine (eprint_fit _ _ _ HAT.out).mono ?_; rintro e w3 ⟨rfl, hb3⟩) | (go_at_call 18; refine (Sc.name_l _ _ (by decide)).mono ?_; rintro e w' ⟨rfl, rfl⟩))
  go_ret
  exact ⟨rfl, by repeat (first | assumption | (with_reducible exact Below.refl _ _) | exact balloc _ _ | exact balloc2 _ _ _ | refine btrans ?_ (by assumption) | refine btrans ?_ (balloc _ _))⟩
end Go.Proofs.YtdggofleokjmcaaGreatDoor.Val
