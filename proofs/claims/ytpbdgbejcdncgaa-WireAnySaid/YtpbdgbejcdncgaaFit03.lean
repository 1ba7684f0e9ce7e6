/- THE WALK OF the fit of chapter 03's laws. -/
import Derived.Test.YtpbdgbejcdncgaaNew
import Derived.Test.YtpbdgbejcdncgaaCondFit
namespace Go.Proofs.Ytpbdgbejcdncgaa.Val
open Go.RowKit Flt
attribute [local go_sem] run_store_flt
/-- what the region of Print holds of the world: an attribute's box -/
theorem box_below {b : Nat} {v0 v1 v2 v3 v4 v5 : Value} {w w1 w2 : World} (hb : Below w1.heap.size w1 w2)
    (h : w1.cell? ⟨b, 0, none⟩ = some v0 ∧ w1.cell? ⟨b, 1, none⟩ = some v1 ∧ w1.cell? ⟨b, 2, none⟩ = some v2 ∧ w1.cell? ⟨b, 3, none⟩ = some v3 ∧ w1.cell? ⟨b, 4, none⟩ = some v4 ∧ w1.cell? ⟨b, 5, none⟩ = some v5 ∧ Below w.heap.size w w1 ∧ b < w1.heap.size) :
    w2.cell? ⟨b, 0, none⟩ = some v0 ∧ w2.cell? ⟨b, 1, none⟩ = some v1 ∧ w2.cell? ⟨b, 2, none⟩ = some v2 ∧ w2.cell? ⟨b, 3, none⟩ = some v3 ∧ w2.cell? ⟨b, 4, none⟩ = some v4 ∧ w2.cell? ⟨b, 5, none⟩ = some v5 ∧ Below w.heap.size w w2 ∧ b < w2.heap.size := by
  obtain ⟨h0, h1, h2, h3, h4, h5, hB, hl⟩ := h
  have c : ∀ o, w2.cell? ⟨b, o, none⟩ = w1.cell? ⟨b, o, none⟩ := fun o => hb.cell (p := ⟨b, o, none⟩) hl
  exact ⟨by rw [c]; exact h0, by rw [c]; exact h1, by rw [c]; exact h2, by rw [c]; exact h3, by rw [c]; exact h4, by rw [c]; exact h5, btrans hB hb, Nat.lt_of_lt_of_le hl hb.size⟩
theorem box_start {v0 v1 v2 v3 v4 v5 : Value} {T : TypeId} {w wr : World} (hw : Below w.heap.size w wr) :
    (wr.alloc (.cells #[v0, v1, v2, v3, v4, v5] T)).drew.cell? ⟨wr.heap.size, 0, none⟩ = some v0 ∧ (wr.alloc (.cells #[v0, v1, v2, v3, v4, v5] T)).drew.cell? ⟨wr.heap.size, 1, none⟩ = some v1 ∧ (wr.alloc (.cells #[v0, v1, v2, v3, v4, v5] T)).drew.cell? ⟨wr.heap.size, 2, none⟩ = some v2 ∧ (wr.alloc (.cells #[v0, v1, v2, v3, v4, v5] T)).drew.cell? ⟨wr.heap.size, 3, none⟩ = some v3 ∧ (wr.alloc (.cells #[v0, v1, v2, v3, v4, v5] T)).drew.cell? ⟨wr.heap.size, 4, none⟩ = some v4 ∧ (wr.alloc (.cells #[v0, v1, v2, v3, v4, v5] T)).drew.cell? ⟨wr.heap.size, 5, none⟩ = some v5 ∧
    Below w.heap.size w (wr.alloc (.cells #[v0, v1, v2, v3, v4, v5] T)).drew ∧ wr.heap.size < (wr.alloc (.cells #[v0, v1, v2, v3, v4, v5] T)).drew.heap.size := by
  have c : ∀ o, (wr.alloc (.cells #[v0, v1, v2, v3, v4, v5] T)).cell? ⟨wr.heap.size, o, none⟩ = #[v0, v1, v2, v3, v4, v5][o]? := fun o => World.cell?_alloc_at _ _ _ _ rfl
  exact ⟨c 0, c 1, c 2, c 3, c 4, c 5, bdrewN (btrans hw (balloc _ _)) 1, by show wr.heap.size < (wr.alloc _).heap.size; simp⟩
theorem box_own {b : Nat} {v0 v1 v2 v3 v4 v5 : Value} {w w1 : World}
    (h : w1.cell? ⟨b, 0, none⟩ = some v0 ∧ w1.cell? ⟨b, 1, none⟩ = some v1 ∧ w1.cell? ⟨b, 2, none⟩ = some v2 ∧ w1.cell? ⟨b, 3, none⟩ = some v3 ∧ w1.cell? ⟨b, 4, none⟩ = some v4 ∧ w1.cell? ⟨b, 5, none⟩ = some v5 ∧ Below w.heap.size w w1 ∧ b < w1.heap.size) : Below w.heap.size w w1 := h.2.2.2.2.2.2.1
theorem newB_one (a : A) (h : canonV a.val = a.val) : newB [a] = [a] := newB_self (by simp [Rising]) (by intro b hb; rw [List.mem_singleton.1 hb]; exact h)
/-- one attribute in a block of its own -/
theorem one_attrs (w : World) (a : A) (e : TypeId) : Attrs (w.alloc (.cells #[.string ⟨a.name.toArray⟩, .int .i64 a.val.kind, .int .i64 a.val.int, .float .f64 a.val.num, .string ⟨a.val.text.toArray⟩, .bool a.val.yes] e)) (some ⟨w.heap.size, 0, none⟩) [a] := by
  intro i hi
  have : i = 0 := by simpa using hi
  subst this
  refine ⟨_, rfl, ?_⟩
  have c : ∀ o, (w.alloc (.cells #[.string ⟨a.name.toArray⟩, .int .i64 a.val.kind, .int .i64 a.val.int, .float .f64 a.val.num, .string ⟨a.val.text.toArray⟩, .bool a.val.yes] e)).cell? ⟨w.heap.size, o, none⟩ = #[.string ⟨a.name.toArray⟩, .int .i64 a.val.kind, .int .i64 a.val.int, .float .f64 a.val.num, .string ⟨a.val.text.toArray⟩, .bool a.val.yes][o]? := fun o => World.cell?_alloc_at _ _ _ _ rfl
  exact ⟨c 0, c 1, c 2, c 3, c 4, c 5⟩
theorem new_fit (w : World) (b : Nat) (hb : b = w.heap.size) : Calls Try.prog 35 #[.string ⟨#[97]⟩, .slice (some ⟨b, 0, none⟩) 1 1] (w.alloc (.cells #[.string ⟨#[120]⟩, .int .i64 0, .int .i64 3, .float .f64 0, .string ⟨#[]⟩, .bool false] 76)) fun e w' =>
    ∃ b0 cp, e = .returned (ev [97] b0 1 cp) ∧ Attrs w' b0 [⟨[120], 0, 3, 0, [], false⟩] ∧ Below w.heap.size w w' := by
  subst hb
  have h := new_any [97] (some ⟨w.heap.size, 0, none⟩) 1 [⟨[120], 0, 3, 0, [], false⟩] _ (one_attrs w ⟨[120], 0, 3, 0, [], false⟩ 76) (by decide)
  rw [newB_one ⟨[120], 0, 3, 0, [], false⟩ (by simp [canonV])] at h
  refine h.mono ?_
  rintro e w' ⟨b0, cp, h1, h2, h3, h4⟩
  exact ⟨b0, cp, h1, h2, btrans (balloc _ _) h4⟩
end Go.Proofs.Ytpbdgbejcdncgaa.Val
