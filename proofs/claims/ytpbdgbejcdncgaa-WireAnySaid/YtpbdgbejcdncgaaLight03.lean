/- THE WALK OF light of chapter 03's laws; of a name the last attribute. -/
import Derived.Test.YtpbdgbejcdncgaaFit03
import Derived.Test.YtpbdgbejcdncgaaOpenA
namespace Go.Proofs.Ytpbdgbejcdncgaa.Val
open Go.RowKit Flt
attribute [local go_sem] run_store_flt
def lit1 (a : A) : Bool := decide (a.name.length + a.val.text.length ≤ 300)
def lightB (l : List A) : Bool := l.all lit1 && decide (l.length ≤ 30)
theorem all_take_succ (l : List A) (k : Nat) (h : k < l.length) : (l.take (k + 1)).all lit1 = ((l.take k).all lit1 && lit1 l[k]) := by
  rw [List.take_succ_eq_append_getElem h]; simp only [List.all_append, List.all_cons, List.all_nil, Bool.and_true]
theorem all_no (l : List A) (k : Nat) (h : k < l.length) (hk : lit1 l[k] = false) : l.all lit1 = false := by
  rw [Bool.eq_false_iff]; intro ha
  have := List.all_eq_true.1 ha l[k] (List.getElem_mem h)
  rw [hk] at this; cases this
theorem fold_skip (t : List UInt8) : ∀ (l : List A) (o : Option V), (∀ a ∈ l, a.name ≠ t) → l.foldl (fun o a => if a.name = t then some (canonV a.val) else o) o = o
  | [], _, _ => rfl
  | a :: l, o, h => by rw [List.foldl_cons, if_neg (h a (by simp))]; exact fold_skip t l o fun b hb => h b (by simp [hb])
theorem last_at {l : List A} {t : List UInt8} {i : Nat} (hi : i < l.length) (he : l[i].name = t) (h : ∀ j (hj : j < l.length), i + 1 ≤ j → l[j].name ≠ t) : lastV l t = some (canonV l[i].val) := by
  have e : l = l.take (i + 1) ++ l.drop (i + 1) := (List.take_append_drop _ _).symm
  have hs : lastV l t = lastV (l.take (i + 1)) t := by
    conv => lhs; rw [e]
    unfold lastV
    rw [List.foldl_append]
    refine fold_skip t _ _ fun a ha => ?_
    obtain ⟨k, hk, hak⟩ := List.mem_iff_getElem.1 ha
    rw [List.getElem_drop] at hak
    rw [← hak]
    exact h _ _ (by omega)
  rw [hs, List.take_succ_eq_append_getElem hi, lastV_snoc, if_pos he]
theorem last_no {l : List A} {t : List UInt8} (h : ∀ j (hj : j < l.length), 0 ≤ j → l[j].name ≠ t) : lastV l t = none :=
  lastV_none fun a ha => by
    obtain ⟨k, hk, rfl⟩ := List.mem_iff_getElem.1 ha
    exact h k hk (Nat.zero_le _)
end Go.Proofs.Ytpbdgbejcdncgaa.Val
