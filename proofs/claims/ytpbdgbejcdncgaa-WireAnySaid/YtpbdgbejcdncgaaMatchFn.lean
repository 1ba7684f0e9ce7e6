/- PLAIN LAW OF Match: by the value of the attribute of that name alone; the kept form of a condition holds for the same values. No walk. -/
import Derived.Test.YtpbdgbejcdncgaaNewOk
import Derived.Test.YtpbdgbejcdncgaaMatch
namespace Go.Proofs.Ytpbdgbejcdncgaa.Val
open Flt
def wantB (c : C) (l : List A) : Bool := l.any fun a => a.name == c.name && holdsB c a.val
theorem want_succ (c : C) (l : List A) (k : Nat) (h : k < l.length) : wantB c (l.take (k + 1)) = (wantB c (l.take k) || (l[k].name == c.name && holdsB c l[k].val)) := by
  unfold wantB
  rw [List.take_succ_eq_append_getElem h]; simp only [List.any_append, List.any_cons, List.any_nil, Bool.or_false]
theorem want_match (c : C) {l : List A} (hr : Rising l) : wantB c l = matchB c l := by
  have hg := found_get hr c.name
  unfold matchB wantB
  rw [Bool.eq_iff_iff, List.any_eq_true]
  constructor
  · rintro ⟨a, ha, h⟩
    simp only [Bool.and_eq_true, beq_iff_eq] at h
    have hf := found_of hr ha h.1
    have hm := getL_mem hr ha
    rw [h.1, hg, hf, if_pos rfl] at hm
    rw [hf, Option.some.inj hm, h.2]; rfl
  · intro h
    simp only [Bool.and_eq_true] at h
    obtain ⟨hR, hn⟩ := found_at h.1
    refine ⟨_, List.getElem_mem hR, ?_⟩
    rw [getElem!_pos l _ hR] at h
    simp only [Bool.and_eq_true, beq_iff_eq]
    exact ⟨hn, h.2⟩
theorem match_none (c : C) {l : List A} (hr : Rising l) (h : ∀ a ∈ l, a.name ≠ c.name) : matchB c l = false := by
  rw [← want_match c hr]
  unfold wantB
  rw [List.any_eq_false]
  intro a ha
  have : (a.name == c.name) = false := by simpa using h a ha
  rw [this]; simp
theorem keep_gone {t : List UInt8} (l : List A) : ∀ a ∈ keepB [⟨t.toArray⟩] l, a.name ≠ t := by
  intro a ha e
  have h := (List.mem_filter.1 ha).2
  rw [e] at h
  rw [(Lib.containsS_iff _ _).2 (by simp)] at h
  cases h
theorem sk_canon {y : Nat} (h : nan y = false) : sk (Ord.canon y) = sk y := by
  unfold Ord.canon
  rw [h]
  cases hz : Ord.zero y
  · rfl
  · have h0 : rung y = 0 := by rw [Ord.zero_iff] at hz; simpa using hz
    simp only [Bool.false_eq_true, if_false, if_true]
    unfold sk
    rw [h0]
    cases neg y <;> decide
theorem lt_canon_r (x y : Nat) : Flt.lt x (Ord.canon y) = Flt.lt x y := by
  unfold Flt.lt
  rw [Ord.canon_nan]
  cases hy : nan y
  · rw [sk_canon hy]
  · simp
theorem lt_canon_l (x y : Nat) : Flt.lt (Ord.canon x) y = Flt.lt x y := by
  unfold Flt.lt
  rw [Ord.canon_nan]
  cases hy : nan x
  · rw [sk_canon hy]
  · simp
theorem cmp_canon (v u : V) (hk : v.kind = u.kind) (h0 : 0 ≤ u.kind) (h3 : u.kind ≤ 3) : cmp v (canonV u) = cmp v u := by
  unfold cmp
  rw [hk]
  unfold canonV
  rcases kind_ways u.kind with h | ⟨h, h1⟩ | ⟨h, h1, h2⟩ | ⟨h, h1, h2, h3'⟩ | ⟨h, h1, h2, h3'⟩
  · simp [h]
  · simp [h, h1, lt_canon_r, lt_canon_l]
  · simp [h, h1, h2]
  · simp [h, h1, h2, h3']
  · simp at h h1 h2 h3'; omega
theorem holds_canon (c : C) (v : V) (h0 : 0 ≤ c.val.kind) (h3 : c.val.kind ≤ 3) : holdsB (canonC c) v = holdsB c v := by
  unfold canonC
  cases h7 : (c.op == 7)
  · simp only [Bool.false_eq_true, if_false]
    have e1 : cmpOk v (canonV c.val) = cmpOk v c.val := by unfold cmpOk; rw [canonV_kind _ h0 h3, canonV_void]
    have e2 : cmp1 v (canonV c.val) = cmp1 v c.val := by
      unfold cmp1
      rw [e1]
      cases hc : cmpOk v c.val
      · rfl
      · simp only [if_true]
        refine cmp_canon v c.val ?_ h0 h3
        unfold cmpOk at hc
        simp only [Bool.and_eq_true, beq_iff_eq] at hc
        exact hc.1.1
    unfold holdsB
    simp only [h7, e1, e2, Bool.false_eq_true, if_false]
    by_cases h6 : c.op = 6
    · simp only [h6, beq_self_eq_true, if_true]
      cases hk : (cmpOk v c.val && v.kind == 2)
      · simp
      · simp only [Bool.true_and]
        simp only [Bool.and_eq_true, beq_iff_eq] at hk
        have hk2 : c.val.kind = 2 := by
          have := hk.1
          unfold cmpOk at this
          simp only [Bool.and_eq_true, beq_iff_eq] at this
          rw [← this.1.1]; exact hk.2
        have : (canonV c.val).text = c.val.text := by unfold canonV; rw [hk2]; rfl
        rw [this]
    · have : (c.op == 6) = false := by simpa using h6
      simp only [this, Bool.false_eq_true, if_false]
  · simp only [if_true]
    unfold holdsB
    simp [h7]
theorem match_canon (c : C) (l : List A) (h0 : 0 ≤ c.val.kind) (h3 : c.val.kind ≤ 3) : matchB (canonC c) l = matchB c l := by
  have hn : (canonC c).name = c.name := by unfold canonC; split <;> rfl
  unfold matchB
  rw [hn, holds_canon c _ h0 h3]
end Go.Proofs.Ytpbdgbejcdncgaa.Val
