/- ATTRIBUTES in a row: their cells one behind the other. -/
import Derived.Test.YtpbdgbejcdncgaaAttr
import Derived.Laws.AppendOwn
import Derived.Lib.SlicesS
namespace Go.Proofs.Ytpbdgbejcdncgaa.Val
open Go.RowKit Flt
def cells6 (a : A) : List Value := [.string ⟨a.name.toArray⟩, .int .i64 a.val.kind, .int .i64 a.val.int, .float .f64 a.val.num, .string ⟨a.val.text.toArray⟩, .bool a.val.yes]
def flatA (l : List A) : List Value := l.flatMap cells6
theorem flatA_len (l : List A) : (flatA l).length = l.length * 6 := by
  induction l with
  | nil => rfl
  | cons v l ih => unfold flatA at *; rw [List.flatMap_cons, List.length_append, ih]; simp [cells6]; omega
theorem flatA_at : ∀ (l : List A) (i j : Nat) (hi : i < l.length), j < 6 → (flatA l)[i * 6 + j]? = (cells6 l[i])[j]?
  | v :: l, 0, j, _, hj => by
    unfold flatA; rw [List.flatMap_cons, List.getElem?_append_left (by simp [cells6]; omega)]; simp
  | v :: l, i + 1, j, hi, hj => by
    unfold flatA; rw [List.flatMap_cons, List.getElem?_append_right (by simp [cells6]; omega)]
    have e : (i + 1) * 6 + j - (cells6 v).length = i * 6 + j := by simp [cells6]; omega
    rw [e]
    exact flatA_at l i j (by simpa using hi) hj
theorem flatA_one (l : List A) : ∀ u ∈ flatA l, u.oneCell' = true := by
  intro u hu
  obtain ⟨v, _, hv⟩ := List.mem_flatMap.1 hu
  simp only [cells6, List.mem_cons, List.not_mem_nil, or_false] at hv
  rcases hv with rfl | rfl | rfl | rfl | rfl | rfl <;> rfl
theorem flatA_app (l : List A) (a : A) : flatA (l ++ [a]) = flatA l ++ flatA [a] := by simp [flatA]
theorem info_attr : (Try.prog.info? 76).map (fun i => (i.zero, i.size, i.bytes)) = some (some (.agg #[.string .empty, .int .i64 0, .int .i64 0, .float .f64 0, .string .empty, .bool false]), 6, 64) := by kernel_rfl
theorem liesA {w : World} {g : Nat} {l : List A} (h : ∀ j u, (flatA l)[j]? = some u → w.cell? ((⟨g, 0, none⟩ : Addr).add j) = some u) : Attrs w (some ⟨g, 0, none⟩) l := by
  intro i hi
  refine ⟨_, rfl, ?_⟩
  have k : ∀ j (hj : j < 6), w.cell? (((⟨g, 0, none⟩ : Addr).add (i * 6)).add j) = (cells6 l[i])[j]? := by
    intro j hj
    rw [Deep.add_add]
    have : (flatA l)[i * 6 + j]? = some ((cells6 l[i])[j]'(by simpa [cells6] using hj)) := by rw [flatA_at l i j hi hj]; simp
    rw [h _ _ this]; simp
  exact ⟨k 0 (by decide), k 1 (by decide), k 2 (by decide), k 3 (by decide), k 4 (by decide), k 5 (by decide)⟩
/-- what the call's own row holds, as attributes; nil too -/
theorem own_attrs {w : World} {e : TypeId} {v : Value} {l : List A} {base : Nat} (h : w.ownsRow base e 6 v l.length (flatA l)) :
    ∃ a0 cap, v = .slice a0 l.length cap ∧ Attrs w a0 l := by
  rcases h.2 with ⟨rfl, h0⟩ | ⟨g, cp, cur, rfl, hb, _⟩
  · have : l = [] := List.eq_nil_of_length_eq_zero h0
    subst this
    exact ⟨none, 0, rfl, fun i hi => absurd hi (Nat.not_lt_zero _)⟩
  · exact ⟨some ⟨g, 0, none⟩, cp, rfl, liesA (h.cells rfl)⟩
theorem new_attr (w : World) (a : A) (e : TypeId) : ∀ j u, (flatA [a])[j]? = some u → (w.alloc (.cells #[.string ⟨a.name.toArray⟩, .int .i64 a.val.kind, .int .i64 a.val.int, .float .f64 a.val.num, .string ⟨a.val.text.toArray⟩, .bool a.val.yes] e)).cell? ((⟨w.heap.size, 0, none⟩ : Addr).add j) = some u := by
  intro j u hj
  have hadd : (⟨w.heap.size, 0, none⟩ : Addr).add j = ⟨w.heap.size, j, none⟩ := by unfold Addr.add; split <;> simp_all
  rw [hadd]
  simpa [flatA, cells6, go_sem] using hj
theorem new_attr2 (w : World) (g : Nat) (hg : g = w.heap.size) (a : A) (e : TypeId) : ∀ j u, (flatA [a])[j]? = some u → (w.alloc (.cells #[.string ⟨a.name.toArray⟩, .int .i64 a.val.kind, .int .i64 a.val.int, .float .f64 a.val.num, .string ⟨a.val.text.toArray⟩, .bool a.val.yes] e)).cell? ((⟨g, 0, none⟩ : Addr).add j) = some u := by
  subst hg; exact new_attr w a e
theorem keep_blk {wr w1 w3 : World} {base : Nat} {e : TypeId} {v : Value} {n : Nat} {xs : List Value} (hown : wr.ownsRow base e 6 v n xs) (hg : w1.grownBy w3 v.ownBlock) {p : Nat} (hp : p < base) (hp2 : p < w1.heap.size) : w3.heap[p]? = w1.heap[p]? :=
  hg.block p hp2 (fun h => by have := (hown.lt p h.symm).1; omega)
def keepB (zs : List ByteArray) (l : List A) : List A := l.filter fun a => !Lib.containsS zs ⟨a.name.toArray⟩
theorem keep_succ (zs : List ByteArray) (l : List A) (k : Nat) (h : k < l.length) : keepB zs (l.take (k + 1)) = keepB zs (l.take k) ++ (if Lib.containsS zs ⟨l[k].name.toArray⟩ then [] else [l[k]]) := by
  unfold keepB
  rw [List.take_succ_eq_append_getElem h, List.filter_append]
  cases hc : Lib.containsS zs ⟨l[k].name.toArray⟩ <;> simp [hc]
theorem keep_len (zs : List ByteArray) (l : List A) (k : Nat) : (keepB zs (l.take k)).length ≤ l.length :=
  Nat.le_trans (List.length_filter_le _ _) (by rw [List.length_take]; omega)
end Go.Proofs.Ytpbdgbejcdncgaa.Val
