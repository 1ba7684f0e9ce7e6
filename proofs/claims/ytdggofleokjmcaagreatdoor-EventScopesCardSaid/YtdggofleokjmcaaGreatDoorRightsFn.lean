/- PLAIN LAW OF EventRights: the law's own tests are those of Right. No walk. -/
import Derived.Test.YtdggofleokjmcaaGreatDoorNameR
import Derived.Test.YtdggofleokjmcaaGreatDoorMatchFn
namespace Go.Proofs.YtdggofleokjmcaaGreatDoor.Val
open Flt
def P4 (v : V) : Bool := (v.kind == 0 || v.int == 0) && (v.kind == 1 || Flt.eq v.num 0) && (v.kind == 2 || v.text.isEmpty) && (v.kind == 3 || !v.yes)
theorem eq_canon (x : Nat) (h : nan x = false) : Flt.eq (Ord.canon x) x = true := by
  unfold Flt.eq; rw [Ord.canon_nan, h, sk_canon h]; simp
theorem eq_comm0 (x : Nat) : Flt.eq 0 x = Flt.eq x 0 := by
  have e : decide (sk 0 = sk x) = decide (sk x = sk 0) := by rw [Bool.eq_iff_iff, decide_eq_true_iff, decide_eq_true_iff]; exact ⟨Eq.symm, Eq.symm⟩
  unfold Flt.eq
  rw [e]
  cases nan x <;> cases nan 0 <;> rfl
theorem kept_p4 (v : V) (h : vRight v = true) : keptB v = P4 v := by
  unfold vRight at h
  simp only [Bool.and_eq_true, decide_eq_true_eq] at h
  obtain ⟨k, n, x, t, y⟩ := v
  simp only at h
  have hk : k = 0 ∨ k = 1 ∨ k = 2 ∨ k = 3 := by omega
  have h00 : Flt.eq 0 0 = true := by decide
  have hn : ((0 : Int) == n) = (n == 0) := by rw [Bool.eq_iff_iff, beq_iff_eq, beq_iff_eq]; exact ⟨Eq.symm, Eq.symm⟩
  have ht : (([] : List UInt8) == t) = t.isEmpty := by cases t <;> rfl
  have hy : (false == y) = !y := by cases y <;> rfl
  rcases hk with rfl | rfl | rfl | rfl
  · simp [keptB, P4, voidB, canonV, eqV, ht, hy, eq_comm0]
  · cases hx : nan x
    · simp [keptB, P4, voidB, canonV, eqV, ht, hy, hn, hx, eq_canon]
    · simp [keptB, P4, voidB, canonV, eqV, ht, hy, hn, hx, h00]
  · simp [keptB, P4, voidB, canonV, eqV, hy, hn, eq_comm0]
  · simp [keptB, P4, voidB, canonV, eqV, ht, hn, eq_comm0]
def ok0B (nm : List UInt8) : Bool := !nm.isEmpty && decide (nm.length ≤ 12) && decide (97 ≤ (nm.headD 0).toNat)
def chL (c : UInt8) : Bool := (decide (97 ≤ c.toNat) && decide (c.toNat ≤ 122)) || (decide (48 ≤ c.toNat) && decide (c.toNat ≤ 57))
theorem chs_all : ∀ (l : List UInt8) (i : Nat), 0 < i → Sc.chsOk i l = l.all chL
  | [], _, _ => rfl
  | c :: l, i, h => by
    unfold Sc.chsOk
    rw [chs_all l (i + 1) (by omega), List.all_cons]
    unfold Sc.chOk chL
    simp [h]
theorem ok_name (nm : List UInt8) : (ok0B nm && nm.all chL) = Sc.nameB nm := by
  cases nm with
  | nil => rfl
  | cons c l =>
    unfold ok0B Sc.nameB Sc.chsOk
    rw [chs_all l 1 (by omega), List.all_cons]
    unfold Sc.chOk chL
    simp only [List.isEmpty_cons, Bool.not_false, Bool.true_and, List.headD_cons]
    by_cases h1 : 97 ≤ c.toNat
    · have h2 : ¬ c.toNat ≤ 57 := by omega
      by_cases h3 : c.toNat ≤ 122 <;> cases decide ((c :: l).length ≤ 12) <;> cases l.all chL <;> simp [h1, h2, h3]
    · cases decide ((c :: l).length ≤ 12) <;> cases l.all chL <;> simp [h1]
theorem all_ch_succ (l : List UInt8) (k : Nat) (h : k < l.length) : (l.take (k + 1)).all chL = ((l.take k).all chL && chL l[k]) := by
  rw [List.take_succ_eq_append_getElem h]; simp only [List.all_append, List.all_cons, List.all_nil, Bool.and_true]
theorem new_text {l : List A} (h : ∀ x ∈ l, Open.AOk x) : ∀ x ∈ newB l, x.name.length ≤ 140737488351232 ∧ x.val.text.length ≤ 140737488351232 := fun x hx => by
  obtain ⟨y, hy, h1, h2⟩ := mem_newB hx
  have h3 := h y hy
  refine ⟨by rw [← h1]; exact h3.1, ?_⟩
  rw [h2]
  have ht : y.val.text.length ≤ 140737488351232 := h3.2.2.2.2
  have : (canonV y.val).text = y.val.text ∨ (canonV y.val).text = [] := by
    unfold canonV
    rcases kind_ways y.val.kind with h | ⟨h, h1⟩ | ⟨h, h1, h2⟩ | ⟨h, h1, h2, h3⟩ | ⟨h, h1, h2, h3⟩ <;> simp [*]
  rcases this with e | e <;> rw [e]
  · exact ht
  · simp
end Go.Proofs.YtdggofleokjmcaaGreatDoor.Val
