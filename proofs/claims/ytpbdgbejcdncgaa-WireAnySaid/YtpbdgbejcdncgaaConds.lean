/- CONDITIONS IN MEMORY: seven cells each. -/
import Derived.Test.YtpbdgbejcdncgaaMatch
namespace Go.Proofs.Ytpbdgbejcdncgaa.Val
open Go.RowKit Flt
instance : Inhabited C := ⟨⟨[], 0, 0, 0, 0, [], false⟩⟩
def CAt (w : World) (p : Addr) (c : C) : Prop :=
  w.cell? p = some (.string ⟨c.name.toArray⟩) ∧ w.cell? ⟨p.block, p.off + 1, none⟩ = some (.int .i64 c.op) ∧ w.cell? ⟨p.block, p.off + 2, none⟩ = some (.int .i64 c.val.kind) ∧ w.cell? ⟨p.block, p.off + 3, none⟩ = some (.int .i64 c.val.int) ∧ w.cell? ⟨p.block, p.off + 4, none⟩ = some (.float .f64 c.val.num) ∧ w.cell? ⟨p.block, p.off + 5, none⟩ = some (.string ⟨c.val.text.toArray⟩) ∧ w.cell? ⟨p.block, p.off + 6, none⟩ = some (.bool c.val.yes)
def Conds (w : World) (a0 : Option Addr) (l : List C) : Prop := ∀ i (h : i < l.length), ∃ a, a0 = some a ∧ CAt w (a.add (i * 7)) l[i]
theorem CAt.below {w w2 : World} {p : Addr} {c : C} (h : CAt w p c) (hb : Below w.heap.size w w2) : CAt w2 p c := by
  obtain ⟨h0, h1, h2, h3, h4, h5, h6⟩ := h
  exact ⟨(hb.cell (World.block_lt_of_cell? _ _ h0)).trans h0, (hb.cell (World.block_lt_of_cell? _ _ h1)).trans h1, (hb.cell (World.block_lt_of_cell? _ _ h2)).trans h2, (hb.cell (World.block_lt_of_cell? _ _ h3)).trans h3, (hb.cell (World.block_lt_of_cell? _ _ h4)).trans h4, (hb.cell (World.block_lt_of_cell? _ _ h5)).trans h5, (hb.cell (World.block_lt_of_cell? _ _ h6)).trans h6⟩
theorem Conds.below {w w2 : World} {a0 : Option Addr} {l : List C} (h : Conds w a0 l) (hb : Below w.heap.size w w2) : Conds w2 a0 l := fun i hi => by
  obtain ⟨a, e, h1⟩ := h i hi
  exact ⟨a, e, h1.below hb⟩
theorem conds_nil (w : World) (a0 : Option Addr) : Conds w a0 [] := fun _ hi => absurd hi (Nat.not_lt_zero _)
theorem conds_one (w : World) (c : C) (e : TypeId) : Conds (w.alloc (.cells #[.string ⟨c.name.toArray⟩, .int .i64 c.op, .int .i64 c.val.kind, .int .i64 c.val.int, .float .f64 c.val.num, .string ⟨c.val.text.toArray⟩, .bool c.val.yes] e)) (some ⟨w.heap.size, 0, none⟩) [c] := by
  intro i hi
  have hi0 : i = 0 := by simpa using hi
  subst hi0
  have hc : ∀ o, (w.alloc (.cells #[.string ⟨c.name.toArray⟩, .int .i64 c.op, .int .i64 c.val.kind, .int .i64 c.val.int, .float .f64 c.val.num, .string ⟨c.val.text.toArray⟩, .bool c.val.yes] e)).cell? ⟨w.heap.size, o, none⟩ = #[.string ⟨c.name.toArray⟩, .int .i64 c.op, .int .i64 c.val.kind, .int .i64 c.val.int, .float .f64 c.val.num, .string ⟨c.val.text.toArray⟩, .bool c.val.yes][o]? := fun o => World.cell?_alloc_at _ _ _ _ rfl
  exact ⟨_, rfl, hc 0, hc 1, hc 2, hc 3, hc 4, hc 5, hc 6⟩
theorem cat_new (w : World) (c : C) (e : TypeId) : CAt (w.alloc (.cells #[.string ⟨c.name.toArray⟩, .int .i64 c.op, .int .i64 c.val.kind, .int .i64 c.val.int, .float .f64 c.val.num, .string ⟨c.val.text.toArray⟩, .bool c.val.yes] e)) ⟨w.heap.size, 0, none⟩ c := by
  have hc : ∀ o, (w.alloc (.cells #[.string ⟨c.name.toArray⟩, .int .i64 c.op, .int .i64 c.val.kind, .int .i64 c.val.int, .float .f64 c.val.num, .string ⟨c.val.text.toArray⟩, .bool c.val.yes] e)).cell? ⟨w.heap.size, o, none⟩ = #[.string ⟨c.name.toArray⟩, .int .i64 c.op, .int .i64 c.val.kind, .int .i64 c.val.int, .float .f64 c.val.num, .string ⟨c.val.text.toArray⟩, .bool c.val.yes][o]? := fun o => World.cell?_alloc_at _ _ _ _ rfl
  exact ⟨hc 0, hc 1, hc 2, hc 3, hc 4, hc 5, hc 6⟩
end Go.Proofs.Ytpbdgbejcdncgaa.Val
