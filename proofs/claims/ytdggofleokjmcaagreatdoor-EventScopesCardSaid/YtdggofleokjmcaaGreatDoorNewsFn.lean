/- PLAIN LAW OF EventNews: the last value of a name, as a map of the law's own holds it. No walk. -/
import Derived.Test.YtdggofleokjmcaaGreatDoorMapR
import Derived.Test.YtdggofleokjmcaaGreatDoorNewOk
namespace Go.Proofs.YtdggofleokjmcaaGreatDoor.Val
open Flt
def rawV (l : List A) (t : List UInt8) : Option V := l.foldl (fun o a => if a.name = t then some a.val else o) none
theorem rawV_snoc (l : List A) (a : A) (t : List UInt8) : rawV (l ++ [a]) t = if a.name = t then some a.val else rawV l t := by unfold rawV; rw [List.foldl_append]; rfl
theorem lastV_raw (t : List UInt8) (l : List A) : lastV l t = (rawV l t).map canonV := by
  have key : ∀ (l : List A) (o : Option V), l.foldl (fun o a => if a.name = t then some (canonV a.val) else o) (o.map canonV) = (l.foldl (fun o a => if a.name = t then some a.val else o) o).map canonV := by
    intro l
    induction l with
    | nil => intro o; rfl
    | cons x l ih =>
      intro o
      rw [List.foldl_cons, List.foldl_cons, ← ih]
      by_cases e : x.name = t
      · rw [if_pos e, if_pos e]; rfl
      · rw [if_neg e, if_neg e]
  exact key l none
theorem raw_take (l : List A) (k : Nat) (h : k < l.length) (t : List UInt8) : rawV (l.take (k + 1)) t = if l[k].name = t then some l[k].val else rawV (l.take k) t := by
  rw [List.take_succ_eq_append_getElem h, rawV_snoc]
def mapOf (l : List A) : List UInt8 → Option Value := fun t => (rawV l t).map vv
theorem mapOf_step (l : List A) (k : Nat) (h : k < l.length) : (fun t => if t = l[k].name then some (vv l[k].val) else mapOf (l.take k) t) = mapOf (l.take (k + 1)) := by
  funext t
  unfold mapOf
  rw [raw_take l k h]
  by_cases e : t = l[k].name
  · rw [if_pos e, if_pos e.symm]; rfl
  · rw [if_neg e, if_neg (fun h => e h.symm)]
theorem newB_count (l : List A) (k : Nat) (h : k < l.length) : (newB (l.take (k + 1))).length = if (mapOf (l.take k) l[k].name).isSome then (newB (l.take k)).length else (newB (l.take k)).length + 1 := by
  rw [List.take_succ_eq_append_getElem h, newB_snoc, step_ins (newB_rising _)]
  rcases insL_len (a := canonA l[k]) (l := newB (l.take k)) with h1 | h1
  · rw [h1]
    have e : (getL (newB (l.take k)) (canonA l[k]).name).isSome = (mapOf (l.take k) l[k].name).isSome := by
      rw [newB_get, lastV_raw]
      unfold mapOf
      rw [Option.isSome_map, Option.isSome_map]
      rfl
    rw [e]
    cases (mapOf (l.take k) l[k].name).isSome <;> rfl
  · exact absurd (newB_rising _) h1
/-- each attribute that is kept: what the map holds of its name is, in canonical form, its own value. -/
theorem raw_of_mem {l : List A} {a : A} (h : a ∈ newB l) : ∃ v, rawV l a.name = some v ∧ canonV v = a.val := by
  have h1 := getL_mem (newB_rising l) h
  rw [newB_get, lastV_raw] at h1
  cases hr : rawV l a.name with
  | none => rw [hr] at h1; cases h1
  | some v => rw [hr] at h1; exact ⟨v, rfl, Option.some.inj h1⟩
theorem get_of_mem {l : List A} {a : A} (h : a ∈ newB l) : foundB (newB l) a.name = true ∧ (newB l)[bs (newB l) a.name 0 (newB l).length]!.val = a.val := by
  have h1 := getL_mem (newB_rising l) h
  rw [found_get (newB_rising l)] at h1
  cases hf : foundB (newB l) a.name
  · rw [hf] at h1; cases h1
  · rw [hf] at h1; exact ⟨rfl, Option.some.inj h1⟩
theorem found_raw (l : List A) (t : List UInt8) : foundB (newB l) t = (mapOf l t).isSome := by
  have h1 := newB_get l t
  rw [found_get (newB_rising l), lastV_raw] at h1
  unfold mapOf
  cases hf : foundB (newB l) t <;> rw [hf] at h1 <;> cases hr : rawV l t <;> rw [hr] at h1 <;> first | rfl | cases h1
theorem newB_less (l : List A) (j : Nat) (h : j + 1 < (newB l).length) : Lib.compareBytes ((newB l)[j]'(by omega)).name (newB l)[j + 1].name < 0 := by
  have hris := List.pairwise_iff_getElem.1 (newB_rising l)
  simpa using hris j (j + 1) (by omega) h (by omega)
end Go.Proofs.YtdggofleokjmcaaGreatDoor.Val
