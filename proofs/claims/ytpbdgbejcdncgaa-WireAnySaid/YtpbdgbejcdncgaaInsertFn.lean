/- COPIES OF ELEMENTS OF SEVERAL CELLS INTO A ROW THAT IS KNOWN WHOLE; what an insertion leaves of a row. No walk. -/
import Derived.Test.YtpbdgbejcdncgaaInsert
import Derived.Laws.CopyRow
import Derived.Laws.CopyOwn
import Derived.Lib.AppendZerosOnto
import Derived.Lib.Overlaps
import Derived.Laws.OwnMore
import Derived.Deep.RegionLaw
namespace Go.Proofs.Ytpbdgbejcdncgaa.Val
open Go.RowKit Flt
theorem run_copy_rowN {P : Program} (w : World) (dT sT ty elem : TypeId) (size g o dLen dCap : Nat) (a : Addr) (sLen sCap : Nat) (cur : List Value) (t : TypeId) (cs : List Value)
    (hu : P.underlying dT = some (.slice elem)) (hs : (P.info? elem).map (·.size) = some size)
    (hg : w.heap[g]? = some (.cells cur.toArray t (0, 0))) (hn : cs.length = Nat.min sLen dLen * size)
    (hsrc : ∀ j v, cs[j]? = some v → w.cell? (a.add j) = some v) (hfit : o + cs.length ≤ cur.length) (h1 : ∀ v ∈ cs, v.oneCell' = true) :
    (Builtin.copy_ #[dT, sT] ty #[.slice (some ⟨g, o, none⟩) dLen dCap, .slice (some a) sLen sCap]).run P w =
      .ok (goInt (Nat.min sLen dLen : Nat)) (w.setRow g (splice cur o cs).toArray) := by
  have hl := run_loadCells_list (P := P) w a cs hsrc
  have hst := run_storeCells_at P g o t cs 0 cur.toArray w hg (by simpa using hfit) h1
  cases hq : P.info? elem with
  | none => simp [hq] at hs
  | some i =>
    have hi : i.size = size := by simpa [hq] using hs
    simp [Builtin.copy_, run_underlying hu, Builtin.lenOf, Builtin.firstCells, sizeOf, typeInfo, hq, hi, ← hn, hl, hst, splice]
theorem splice_take {α : Type} (L : List α) (off : Nat) (cs : List α) (j : Nat) (h : j ≤ off) (ho : off ≤ L.length) : (splice L off cs).take j = L.take j := by
  unfold splice
  rw [List.take_append_of_le_length (by rw [List.length_take]; omega), List.take_take]
  congr 1; omega
theorem splice_drop {α : Type} (L : List α) (off : Nat) (cs : List α) (ho : off ≤ L.length) : (splice L off cs).drop off = cs ++ L.drop (off + cs.length) := by
  unfold splice
  exact List.drop_left' (by rw [List.length_take]; omega)
theorem flatA_split (l : List A) (i : Nat) : flatA (l.take i) ++ flatA (l.drop i) = flatA l := by
  rw [← flatA_app2, List.take_append_drop]
where flatA_app2 : ∀ {l m : List A}, flatA (l ++ m) = flatA l ++ flatA m := by intro l m; simp [flatA]
theorem flatA_apps (l m : List A) : flatA (l ++ m) = flatA l ++ flatA m := by simp [flatA]
theorem flatA_take (l : List A) (i : Nat) (hi : i ≤ l.length) : (flatA l).take (i * 6) = flatA (l.take i) := by
  rw [← flatA_split l i]
  exact List.take_left' (by rw [flatA_len, List.length_take]; congr 1; omega)
theorem flatA_drop (l : List A) (i : Nat) (hi : i ≤ l.length) : (flatA l).drop (i * 6) = flatA (l.drop i) := by
  rw [← flatA_split l i]
  exact List.drop_left' (by rw [flatA_len, List.length_take]; congr 1; omega)
/-- there is room: what stands from i on is moved, the new one laid -/
theorem row_shift (l : List A) (a : A) (i cap : Nat) (cur : List Value) (hi : i < l.length) (hroom : l.length + 1 ≤ cap) (hcur : cur.length = cap * 6) (ht : cur.take (l.length * 6) = flatA l) :
    (splice (splice cur ((i + 1) * 6) (flatA (l.drop i))) (i * 6) (flatA [a])).length = cap * 6 ∧
    (splice (splice cur ((i + 1) * 6) (flatA (l.drop i))) (i * 6) (flatA [a])).take ((l.take i ++ a :: l.drop i).length * 6) = flatA (l.take i ++ a :: l.drop i) := by
  have hdl : (flatA (l.drop i)).length = (l.length - i) * 6 := by rw [flatA_len, List.length_drop]
  have h1l : (flatA [a]).length = 6 := by rw [flatA_len]; rfl
  have e1 : (splice cur ((i + 1) * 6) (flatA (l.drop i))).length = cap * 6 := by rw [length_splice _ _ _ (by rw [hdl, hcur]; omega), hcur]
  refine ⟨by rw [length_splice _ _ _ (by rw [e1, h1l]; omega), e1], ?_⟩
  have ea : (l.take i ++ a :: l.drop i).length * 6 = i * 6 + 6 + (l.length - i) * 6 := by
    simp only [List.length_append, List.length_take, List.length_cons, List.length_drop]; omega
  rw [ea]
  have f1 := splice_take cur ((i + 1) * 6) (flatA (l.drop i)) (i * 6) (by omega) (by rw [hcur]; omega)
  have f2 : (splice cur ((i + 1) * 6) (flatA (l.drop i))).drop (i * 6 + 6) = flatA (l.drop i) ++ cur.drop ((i + 1) * 6 + (flatA (l.drop i)).length) := by
    rw [show i * 6 + 6 = (i + 1) * 6 by omega]; exact splice_drop _ _ _ (by rw [hcur]; omega)
  generalize splice cur ((i + 1) * 6) (flatA (l.drop i)) = X at *
  unfold splice
  rw [f1, h1l, f2]
  have e3 : cur.take (i * 6) = flatA (l.take i) := by
    rw [← flatA_take l i (by omega), ← ht, List.take_take]; congr 1; omega
  rw [e3, show flatA (l.take i ++ a :: l.drop i) = flatA (l.take i) ++ (flatA [a] ++ flatA (l.drop i)) by rw [flatA_apps, show a :: l.drop i = [a] ++ l.drop i from rfl, flatA_apps]]
  rw [← List.append_assoc, ← List.append_assoc, ← List.append_assoc]
  refine List.take_left' ?_
  simp only [List.length_append, hdl, h1l, flatA_len, List.length_take]
  omega
/-- there is no room: a new row -/
theorem row_grow (l : List A) (a : A) (i G : Nat) (Z : List Value) (hi : i < l.length) (hG : l.length + 1 ≤ G) (hZ : (flatA (l.take i) ++ Z).length = G * 6) :
    (splice (splice (flatA (l.take i) ++ Z) (i * 6) (flatA [a])) ((i + 1) * 6) (flatA (l.drop i))).length = G * 6 ∧
    (splice (splice (flatA (l.take i) ++ Z) (i * 6) (flatA [a])) ((i + 1) * 6) (flatA (l.drop i))).take ((l.take i ++ a :: l.drop i).length * 6) = flatA (l.take i ++ a :: l.drop i) := by
  have hdl : (flatA (l.drop i)).length = (l.length - i) * 6 := by rw [flatA_len, List.length_drop]
  have htl : (flatA (l.take i)).length = i * 6 := by rw [flatA_len, List.length_take]; congr 1; omega
  have h1l : (flatA [a]).length = 6 := by rw [flatA_len]; rfl
  have e1 : (splice (flatA (l.take i) ++ Z) (i * 6) (flatA [a])).length = G * 6 := by rw [length_splice _ _ _ (by rw [h1l, hZ]; omega), hZ]
  refine ⟨by rw [length_splice _ _ _ (by rw [e1, hdl]; omega), e1], ?_⟩
  have ea : (l.take i ++ a :: l.drop i).length * 6 = i * 6 + 6 + (l.length - i) * 6 := by
    simp only [List.length_append, List.length_take, List.length_cons, List.length_drop]; omega
  rw [ea]
  have e3 : (splice (flatA (l.take i) ++ Z) (i * 6) (flatA [a])).take ((i + 1) * 6) = flatA (l.take i) ++ flatA [a] := by
    unfold splice
    rw [← List.append_assoc]
    have e4 : (flatA (l.take i) ++ Z).take (i * 6) = flatA (l.take i) := List.take_left' htl
    rw [e4]
    refine List.take_left' ?_
    rw [List.length_append, htl, h1l]; omega
  generalize splice (flatA (l.take i) ++ Z) (i * 6) (flatA [a]) = X at *
  unfold splice
  rw [e3, show flatA (l.take i ++ a :: l.drop i) = flatA (l.take i) ++ flatA [a] ++ flatA (l.drop i) by rw [flatA_apps, show a :: l.drop i = [a] ++ l.drop i from rfl, flatA_apps, List.append_assoc]]
  rw [← List.append_assoc]
  refine List.take_left' ?_
  simp only [List.length_append, hdl, h1l, htl]
end Go.Proofs.Ytpbdgbejcdncgaa.Val
