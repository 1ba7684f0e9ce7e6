/- WHAT New LEAVES of attributes that may be read: names, bounds. No walk. -/
import Derived.Test.YtpbdgbejcdncgaaLight03
import Derived.Test.YtpbdgbejcdncgaaESame
namespace Go.Proofs.Ytpbdgbejcdncgaa.Val
open Flt
theorem lastV_some {t : List UInt8} {v : V} : ∀ {l : List A} {o : Option V}, l.foldl (fun o a => if a.name = t then some (canonV a.val) else o) o = some v → o = some v ∨ ∃ x ∈ l, x.name = t ∧ v = canonV x.val
  | [], o, h => Or.inl h
  | a :: l, o, h => by
    rw [List.foldl_cons] at h
    rcases lastV_some h with h1 | ⟨x, hx, h1, h2⟩
    · by_cases e : a.name = t
      · rw [if_pos e] at h1; exact Or.inr ⟨a, by simp, e, (Option.some.inj h1).symm⟩
      · rw [if_neg e] at h1; exact Or.inl h1
    · exact Or.inr ⟨x, by simp [hx], h1, h2⟩
theorem mem_newB {l : List A} {a : A} (h : a ∈ newB l) : ∃ x ∈ l, x.name = a.name ∧ a.val = canonV x.val := by
  have h1 := getL_mem (newB_rising l) h
  rw [newB_get] at h1
  rcases lastV_some (show l.foldl _ none = _ from h1) with h2 | h2
  · cases h2
  · exact h2
theorem canonV_num {v : V} (h : v.num < 18446744073709551616) : (canonV v).num < 18446744073709551616 := by
  unfold canonV
  rcases kind_ways v.kind with h0 | ⟨h0, h1⟩ | ⟨h0, h1, h2⟩ | ⟨h0, h1, h2, h3⟩ | ⟨h0, h1, h2, h3⟩ <;> simp [*, Ord.canon_lt]
theorem newB_num {l : List A} (h : ∀ x ∈ l, Open.AOk x) : NumOk (newB l) := fun a ha => by
  obtain ⟨x, hx, _, h2⟩ := mem_newB ha
  rw [h2]; exact canonV_num (h x hx).2.2.2.1
theorem keepB_num {zs : List ByteArray} {l : List A} (h : NumOk l) : NumOk (keepB zs l) := fun a ha => h a (List.mem_filter.1 ha).1
/-- what Get answers of an event that New made -/
theorem get_new (l : List A) (t : List UInt8) : (if foundB (newB l) t then some (newB l)[bs (newB l) t 0 (newB l).length]!.val else none) = lastV l t := by
  rw [← newB_get]; exact (found_get (newB_rising l) t).symm
end Go.Proofs.Ytpbdgbejcdncgaa.Val
