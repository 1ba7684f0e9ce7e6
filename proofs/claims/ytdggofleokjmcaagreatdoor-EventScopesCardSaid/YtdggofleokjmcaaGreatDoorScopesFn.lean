/- PLAIN LAW OF EventScopes: a list of distinct names, turned, gives the same event. No walk. -/
import Derived.Test.YtdggofleokjmcaaGreatDoorNewsFn
namespace Go.Proofs.YtdggofleokjmcaaGreatDoor.Val
open Flt
theorem raw_none {l : List A} {t : List UInt8} (h : rawV l t = none) : ∀ a ∈ l, a.name ≠ t := by
  have key : ∀ (l : List A) (o : Option V), l.foldl (fun o a => if a.name = t then some a.val else o) o = none → o = none ∧ ∀ a ∈ l, a.name ≠ t := by
    intro l
    induction l with
    | nil => intro o h; exact ⟨h, fun a ha => absurd ha (by simp)⟩
    | cons x l ih =>
      intro o h
      rw [List.foldl_cons] at h
      obtain ⟨h1, h2⟩ := ih _ h
      by_cases e : x.name = t
      · rw [if_pos e] at h1; cases h1
      · rw [if_neg e] at h1
        refine ⟨h1, fun a ha => ?_⟩
        rcases List.mem_cons.1 ha with rfl | ha
        · exact e
        · exact h2 a ha
  exact (key l none h).2
theorem raw_of_none {l : List A} {t : List UInt8} (h : ∀ a ∈ l, a.name ≠ t) : rawV l t = none := by
  have key : ∀ (l : List A), (∀ a ∈ l, a.name ≠ t) → l.foldl (fun (o : Option V) a => if a.name = t then some a.val else o) none = none := by
    intro l
    induction l with
    | nil => intro _; rfl
    | cons x l ih =>
      intro h
      rw [List.foldl_cons, if_neg (h x (by simp))]
      exact ih fun a ha => h a (by simp [ha])
  exact key l h
theorem raw_append (t : List UInt8) (a b : List A) : rawV (a ++ b) t = (rawV b t).or (rawV a t) := by
  have key : ∀ (b : List A) (o : Option V), b.foldl (fun o a => if a.name = t then some a.val else o) o = (b.foldl (fun o a => if a.name = t then some a.val else o) none).or o := by
    intro b
    induction b with
    | nil => intro o; rfl
    | cons x b ih =>
      intro o
      rw [List.foldl_cons, List.foldl_cons, ih, ih (if x.name = t then some x.val else none)]
      by_cases e : x.name = t
      · rw [if_pos e, if_pos e]
        cases b.foldl (fun (o : Option V) a => if a.name = t then some a.val else o) none <;> rfl
      · rw [if_neg e, if_neg e]
        cases b.foldl (fun (o : Option V) a => if a.name = t then some a.val else o) none <;> rfl
  unfold rawV
  rw [List.foldl_append]
  exact key b _
def Dist (l : List A) : Prop := l.Pairwise fun a b => a.name ≠ b.name
theorem dist_step {l : List A} {k : Nat} (h : k < l.length) (hd : Dist (l.take k)) (hr : rawV (l.take k) l[k].name = none) : Dist (l.take (k + 1)) := by
  unfold Dist
  rw [List.take_succ_eq_append_getElem h, List.pairwise_append]
  refine ⟨hd, by simp, fun a ha b hb => ?_⟩
  have : b = l[k] := by simpa using hb
  subst this
  exact raw_none hr a ha
theorem rot_raw {a b : List A} (hd : Dist (a ++ b)) (t : List UInt8) : rawV (b ++ a) t = rawV (a ++ b) t := by
  rw [raw_append, raw_append]
  cases ha : rawV a t with
  | none => cases rawV b t <;> rfl
  | some v =>
    have hb : rawV b t = none := raw_of_none fun y hy e => by
      have hna : rawV a t = none := raw_of_none fun x hx ex => (List.pairwise_append.1 hd).2.2 x hx y hy (ex.trans e.symm)
      rw [hna] at ha; cases ha
    rw [hb]; rfl
theorem rot_new {l : List A} (hd : Dist l) (k : Nat) : newB (l.drop k ++ l.take k) = newB l := by
  refine rising_ext (newB_rising _) (newB_rising _) fun t => ?_
  have hd2 : Dist (l.take k ++ l.drop k) := by rw [List.take_append_drop]; exact hd
  rw [newB_get, newB_get, lastV_raw, lastV_raw, rot_raw hd2, List.take_append_drop]
def seenOf (l : List A) : List UInt8 → Option Value := fun t => if (rawV l t).isSome then some (.bool true) else none
theorem seenOf_step (l : List A) (k : Nat) (h : k < l.length) : (fun t => if t = l[k].name then some (.bool true) else seenOf (l.take k) t) = seenOf (l.take (k + 1)) := by
  funext t
  unfold seenOf
  rw [raw_take l k h]
  by_cases e : t = l[k].name
  · rw [if_pos e, if_pos e.symm]; rfl
  · have e2 : ¬ l[k].name = t := fun h => e h.symm
    rw [if_neg e, if_neg e2]
end Go.Proofs.YtdggofleokjmcaaGreatDoor.Val
