/- MAPS OF STRINGS THAT A LAW MAKES ITSELF, as functions of names: a reader of one's own (each element reads as itself). -/
import Derived.Maps.OwnOps
import Derived.Maps.OwnSet
import Derived.Test.YtdggofleokjmcaaGreatDoorAttr
namespace Go.Proofs.YtdggofleokjmcaaGreatDoor.Val
def RV (v : Value) : Option (DataW Value × List MemPlace) := some (.held v, [])
theorem kstr : Go.Maps.Keyed Tryz.prog 9 := Go.Maps.string_keyed Tryz.underlying9
def MapR (w : World) (b n : Nat) (f : List UInt8 → Option Value) (c : Nat) : Prop :=
  ∃ D, w.ownsMap Tryz.prog 9 RV b n D ∧ (∀ k, Maps.has D (.string k) = (f k).isSome) ∧ (∀ k z, D.atKey (.string k) z = match f k with | some v => .held v | none => z) ∧ Maps.size D = c
theorem mapR_made (w : World) : MapR (w.alloc (.map #[] 0)) w.heap.size 0 (fun _ => none) 0 :=
  ⟨_, World.ownsMap_made w _ _ _, fun _ => rfl, fun _ _ => rfl, rfl⟩
theorem MapR.kept {w w' : World} {b n c : Nat} {f : List UInt8 → Option Value} {row : Option Nat} (h : MapR w b n f c) (hg : w.grownBy w' row) (hne : some b ≠ row) : MapR w' b n f c := by
  obtain ⟨D, h1, h2⟩ := h
  exact ⟨D, h1.kept hg hne, h2⟩
theorem MapR.alloc {w : World} {b n c : Nat} {f : List UInt8 → Option Value} (h : MapR w b n f c) (o : Obj) : MapR (w.alloc o) b n f c := by
  obtain ⟨D, h1, h2⟩ := h
  exact ⟨D, h1.alloc o, h2⟩
theorem key_str (nm : List UInt8) (hn : nm.length ≤ maxLen) : keyOf Tryz.prog 9 (.string ⟨nm.toArray⟩) = some (.string nm) := by
  have h : (⟨nm.toArray⟩ : ByteArray).size ≤ maxLen := by show nm.toArray.size ≤ maxLen; simpa using hn
  simp [keyOf, Tryz.underlying9, mapKey, h]
theorem MapR.update {w : World} {b n c : Nat} {f : List UInt8 → Option Value} {t e : TypeId} (h : MapR w b n f c) (ht : Tryz.prog.underlying t = some (.map 9 e)) (hn : n < maxLen) (nm : List UInt8) (hnm : nm.length ≤ maxLen) (v : Value) :
    ∃ w', (Instr.mapUpdate t (.map (some b)) (.string ⟨nm.toArray⟩) v).run Tryz.prog w = .ok () w' ∧ MapR w' b (n + 1) (fun k => if k = nm then some v else f k) (if (f nm).isSome then c else c + 1) ∧ w.grownBy w' (some b) := by
  obtain ⟨D, h1, h2, h3, h4⟩ := h
  obtain ⟨w', hrun, how, hg⟩ := h1.update kstr ht hn (key_str nm hnm) (d := .held v) (ps := []) rfl
  have hk : WideAt.IsKeyLit (.string nm) := trivial
  refine ⟨w', hrun, ⟨_, how, fun k => ?_, fun k z => ?_, ?_⟩, hg⟩
  · by_cases e : k = nm
    · subst e; rw [Maps.has_put_same h1.isMap hk]; simp
    · rw [Maps.has_put_other (by simpa using e), h2 k]; simp [e]
  · by_cases e : k = nm
    · subst e; rw [Maps.atKey_put_same h1.isMap hk]; simp
    · rw [Maps.atKey_put_other (by simpa using e), h3 k z]; simp [e]
  · rw [Maps.size_put (h1.tidy kstr), h2 nm, h4]
theorem MapR.look {w : World} {b n c : Nat} {f : List UInt8 → Option Value} {t e : TypeId} {z : Value} (h : MapR w b n f c) (ht : Tryz.prog.underlying t = some (.map 9 e)) (hz : (zeroValue e).run Tryz.prog w = .ok z w) (nm : List UInt8) (hnm : nm.length ≤ maxLen) :
    (Instr.lookup t (.map (some b)) (.string ⟨nm.toArray⟩) false).run Tryz.prog w = .ok ((f nm).getD z) w := by
  obtain ⟨D, h1, h2, h3, h4⟩ := h
  obtain ⟨v, ps, hrun, hR⟩ := h1.lookup kstr ht hz (zd := .held z) (zp := []) rfl (key_str nm hnm)
  rw [hrun]
  unfold RV at hR
  rw [h3 nm] at hR
  cases hf : f nm <;> rw [hf] at hR <;> simp at hR <;> simp [hR]
theorem MapR.look_ok {w : World} {b n c : Nat} {f : List UInt8 → Option Value} {t e : TypeId} {z : Value} (h : MapR w b n f c) (ht : Tryz.prog.underlying t = some (.map 9 e)) (hz : (zeroValue e).run Tryz.prog w = .ok z w) (nm : List UInt8) (hnm : nm.length ≤ maxLen) :
    (Instr.lookup t (.map (some b)) (.string ⟨nm.toArray⟩) true).run Tryz.prog w = .ok (.tuple #[(f nm).getD z, .bool (f nm).isSome]) w := by
  obtain ⟨D, h1, h2, h3, h4⟩ := h
  obtain ⟨v, ps, hrun, hR⟩ := h1.look_ok kstr ht hz (zd := .held z) (zp := []) rfl (key_str nm hnm)
  rw [hrun, h2 nm]
  unfold RV at hR
  rw [h3 nm] at hR
  cases hf : f nm <;> rw [hf] at hR <;> simp at hR <;> simp [hR]
theorem MapR.len {w : World} {b n c : Nat} {f : List UInt8 → Option Value} {t e : TypeId} (h : MapR w b n f c) (ht : Tryz.prog.underlying t = some (.map 9 e)) (ty : TypeId) :
    (Builtin.len_ #[t] ty #[.map (some b)]).run Tryz.prog w = .ok (.int .i64 c) w := by
  obtain ⟨D, h1, h2, h3, h4⟩ := h
  rw [h1.len ht ty, h4]
end Go.Proofs.YtdggofleokjmcaaGreatDoor.Val
