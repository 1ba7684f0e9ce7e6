/- THE WALK OF event.Same. -/
import Derived.Test.YtpbdgbejcdncgaaAttr
import Derived.Test.YtpbdgbejcdncgaaSame
namespace Go.Proofs.Ytpbdgbejcdncgaa.Val
open Go.RowKit Flt
attribute [local go_sem] run_store_flt
def NumOk (l : List A) : Prop := ∀ a ∈ l, a.val.num < 18446744073709551616
def sameA (x y : A) : Bool := x.name == y.name && sameB x.val y.val
def sameN (l m : List A) : Nat → Bool
  | 0 => true
  | k + 1 => sameN l m k && sameA l[k]! m[k]!
def sameL (l m : List A) : Bool := l.length == m.length && sameN l m l.length
theorem sameN_no (l m : List A) (k n : Nat) (h : k < n) (hk : sameA l[k]! m[k]! = false) : sameN l m n = false := by
  induction n with
  | zero => omega
  | succ n ih =>
    unfold sameN
    by_cases e : k = n
    · subst e; rw [hk]; simp
    · rw [ih (by omega)]; rfl
theorem sameA_self (x : A) : sameA x x = true := by
  unfold sameA sameB
  simp [Ord.same]
theorem sameN_self (l : List A) : ∀ k, sameN l l k = true
  | 0 => rfl
  | k + 1 => by unfold sameN; rw [sameN_self l k, sameA_self]; rfl
theorem sameL_self (l : List A) : sameL l l = true := by unfold sameL; rw [sameN_self]; simp
end Go.Proofs.Ytpbdgbejcdncgaa.Val
