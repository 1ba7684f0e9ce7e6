/- THE WALKS OF value.Same, cond.below, cond.above. -/
import Derived.Test.YtpbdgbejcdncgaaImplFn
import Derived.Test.YtpbdgbejcdncgaaOrdKey
namespace Go.Proofs.Ytpbdgbejcdncgaa.Val
open Go.RowKit Flt
def sameB (a b : V) : Bool := a.kind == b.kind && (if a.kind == 0 then a.int == b.int else if a.kind == 1 then Ord.same a.num b.num else if a.kind == 2 then a.text == b.text else a.yes == b.yes)
theorem same_cmp (a b : V) (hk : a.kind = b.kind) (v1 : voidB a = false) (v2 : voidB b = false) (h1 : a.num < 18446744073709551616) (h2 : b.num < 18446744073709551616) : sameB a b = (cmp1 a b == 0) := by
  have ok := cmpOk_of hk v1 v2
  have e : cmp1 a b = cmp a b := by unfold cmp1; rw [ok]; rfl
  rw [e]
  unfold sameB cmp
  have hkk : (a.kind == b.kind) = true := by rw [beq_iff_eq]; exact hk
  rw [hkk]
  unfold voidB at v1 v2
  rw [← hk] at v2
  by_cases k0 : a.kind = 0
  · have := (sgn_spec a.int b.int).2
    simp only [k0]
    rw [Bool.eq_iff_iff]
    simpa using this.symm
  by_cases k1 : a.kind = 1
  · have n1 : nan a.num = false := by simpa [k1] using v1
    have n2 : nan b.num = false := by simpa [k1] using v2
    have hs := (sgn_spec (sk a.num) (sk b.num)).2
    have hq := Ord.key_eq_iff h1 h2 n1 n2
    simp only [k1, Flt.lt, n1, n2, Ord.same]
    rw [Bool.eq_iff_iff]
    simp only [Bool.not_false, Bool.and_self, Bool.true_and]
    simp
    rw [hs, hq]
  by_cases k2 : a.kind = 2
  · have := cb_zero a.text b.text
    simp only [k2]
    rw [Bool.eq_iff_iff]
    simpa using this.symm
  have e0 : (a.kind == 0) = false := by simpa using k0
  have e1 : (a.kind == 1) = false := by simpa using k1
  have e2 : (a.kind == 2) = false := by simpa using k2
  simp only [e0, e1, e2, Bool.false_eq_true, if_false]
  unfold sgn
  cases a.yes <;> cases b.yes <;> rfl
theorem side_ways (op p q : Int) (h : p ≠ q) : (op == p) = true ∧ (op == q) = false ∨ (op == p) = false ∧ (op == q) = true ∨ (op == p) = false ∧ (op == q) = false := by
  cases h1 : (op == p) <;> cases h2 : (op == q) <;> simp_all
end Go.Proofs.Ytpbdgbejcdncgaa.Val
