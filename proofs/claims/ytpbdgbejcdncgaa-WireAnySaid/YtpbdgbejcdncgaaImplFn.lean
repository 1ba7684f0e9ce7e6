/- PLAIN LAW OF Implies: what it answers, that it is sound, that it is handed on. No program in sight. -/
import Derived.Test.YtpbdgbejcdncgaaCondLaw
import Derived.Test.YtpbdgbejcdncgaaCondVoid
namespace Go.Proofs.Ytpbdgbejcdncgaa.Val
open Flt
theorem cb_zero : ∀ (a b : List UInt8), Lib.compareBytes a b = 0 ↔ a = b
  | [], [] => by simp [Lib.compareBytes]
  | [], _ :: _ => by simp [Lib.compareBytes]
  | _ :: _, [] => by simp [Lib.compareBytes]
  | a :: ar, b :: bs => by
    unfold Lib.compareBytes
    by_cases h : a < b
    · rw [if_pos h]; constructor
      · intro h'; omega
      · intro h'; injection h' with h1 h2; subst h1; exact absurd h (UInt8.lt_irrefl _)
    · rw [if_neg h]
      by_cases h' : b < a
      · rw [if_pos h']; constructor
        · intro h'; omega
        · intro h2; injection h2 with h1 h3; subst h1; exact absurd h' (UInt8.lt_irrefl _)
      · rw [if_neg h', cb_zero ar bs]
        have e : a = b := by
          rw [UInt8.lt_iff_toNat_lt] at h h'
          exact UInt8.toNat_inj.1 (by omega)
        subst e; simp
theorem cb_lt : ∀ (a b c : List UInt8), (Lib.compareBytes a b < 0 → Lib.compareBytes b c < 0 → Lib.compareBytes a c < 0) ∧ (0 < Lib.compareBytes a b → 0 < Lib.compareBytes b c → 0 < Lib.compareBytes a c)
  | [], [], _ => by simp [Lib.compareBytes]
  | [], _ :: _, [] => by simp [Lib.compareBytes]
  | [], _ :: _, _ :: _ => by simp [Lib.compareBytes]
  | _ :: _, [], [] => by simp [Lib.compareBytes]
  | _ :: _, [], _ :: _ => by simp [Lib.compareBytes]
  | _ :: _, _ :: _, [] => by simp [Lib.compareBytes]
  | a :: ar, b :: bs, c :: cs => by
    have ih := cb_lt ar bs cs
    unfold Lib.compareBytes
    simp only [UInt8.lt_iff_toNat_lt]
    by_cases h1 : a.toNat < b.toNat <;> by_cases h2 : b.toNat < a.toNat <;> by_cases h3 : b.toNat < c.toNat <;> by_cases h4 : c.toNat < b.toNat <;> by_cases h5 : a.toNat < c.toNat <;> by_cases h6 : c.toNat < a.toNat <;> simp only [h1, h2, h3, h4, h5, h6, if_true, if_false] <;> first | exact ih | omega
/-- how three comparisons hang together -/
def Ord3 (p q r : Int) : Prop := (p < 0 → q ≤ 0 → r < 0) ∧ (p ≤ 0 → q < 0 → r < 0) ∧ (p = 0 → q = 0 → r = 0) ∧ (0 < p → 0 ≤ q → 0 < r) ∧ (0 ≤ p → 0 < q → 0 < r)
theorem cb_ord (a b c : List UInt8) : Ord3 (Lib.compareBytes a b) (Lib.compareBytes b c) (Lib.compareBytes a c) := by
  have h := cb_lt a b c
  have h1 := cb_zero a b
  have h2 := cb_zero b c
  unfold Ord3
  by_cases e1 : a = b
  · subst e1; rw [(cb_zero a a).2 rfl] at *; omega
  by_cases e2 : b = c
  · subst e2; rw [(cb_zero b b).2 rfl] at *; omega
  simp only [e1, iff_false] at h1
  simp only [e2, iff_false] at h2
  omega
theorem sgn_spec (a b : Int) : (sgn (decide (a < b)) (decide (b < a)) < 0 ↔ a < b) ∧ (sgn (decide (a < b)) (decide (b < a)) = 0 ↔ a = b) := by
  unfold sgn
  by_cases h : a < b
  · simp [h]; omega
  · by_cases h2 : b < a
    · simp [h, h2]; omega
    · simp [h, h2]; omega
theorem sgn_ord (a b c : Int) : Ord3 (sgn (decide (a < b)) (decide (b < a))) (sgn (decide (b < c)) (decide (c < b))) (sgn (decide (a < c)) (decide (c < a))) := by
  have h1 := sgn_spec a b
  have h2 := sgn_spec b c
  have h3 := sgn_spec a c
  unfold Ord3
  generalize sgn (decide (a < b)) (decide (b < a)) = p at *
  generalize sgn (decide (b < c)) (decide (c < b)) = q at *
  generalize sgn (decide (a < c)) (decide (c < a)) = r at *
  omega
theorem cmp_ord (x y z : V) (h1 : x.kind = y.kind) (h2 : y.kind = z.kind) (v1 : voidB x = false) (v2 : voidB y = false) (v3 : voidB z = false) : Ord3 (cmp x y) (cmp y z) (cmp x z) := by
  unfold cmp
  unfold voidB at v1 v2 v3
  rw [h1, h2] at v1; rw [h2] at v2; rw [h1, h2]
  by_cases k0 : z.kind = 0
  · simp only [k0]; exact sgn_ord _ _ _
  by_cases k1 : z.kind = 1
  · have n1 : nan x.num = false := by simpa [k1] using v1
    have n2 : nan y.num = false := by simpa [k1] using v2
    have n3 : nan z.num = false := by simpa [k1] using v3
    simp only [k1, Flt.lt, n1, n2, n3]
    exact sgn_ord _ _ _
  by_cases k2 : z.kind = 2
  · simp only [k2]; exact cb_ord _ _ _
  have e0 : (z.kind == 0) = false := by simpa using k0
  have e1 : (z.kind == 1) = false := by simpa using k1
  have e2 : (z.kind == 2) = false := by simpa using k2
  simp only [e0, e1, e2, Bool.false_eq_true, if_false]
  cases x.yes <;> cases y.yes <;> cases z.yes <;> (unfold Ord3 sgn; simp)
def relB (op n : Int) (p : Bool) : Bool :=
  if op == 7 then true else if op == 6 then p else if op == 0 then n == 0 else if op == 1 then n != 0 else if op == 2 then decide (n < 0) else if op == 3 then decide (n ≤ 0) else if op == 4 then decide (0 < n) else if op == 5 then decide (0 ≤ n) else false
theorem holds_rel (c : C) (v : V) (h : cmpOk v c.val = true) : holdsB c v = relB c.op (cmp v c.val) (v.kind == 2 && pre v.text c.val.text) := by
  unfold holdsB relB cmp1
  simp [h]
def lowB (n a b : Int) : Bool := ((b == 2 || b == 3) && (decide (n < 0) || (n == 0 && (b == 3 || a != 3)))) || (b == 1 && (decide (n < 0) || (n == 0 && a != 3)))
def uppB (n a b : Int) : Bool := ((b == 4 || b == 5) && (decide (0 < n) || (n == 0 && (b == 5 || a != 5)))) || (b == 1 && (decide (0 < n) || (n == 0 && a != 5)))
/-- the rule for two conditions on one kind, none void, neither Has -/
def ruleB (a b : C) : Bool :=
  if a.op == 0 then holdsB b a.val
  else if a.op == 1 then b.op == 1 && cmp1 a.val b.val == 0
  else if a.op == 6 then (b.op == 6 && pre a.val.text b.val.text) || (b.op == 1 && !pre b.val.text a.val.text)
  else if a.op == 2 || a.op == 3 then lowB (cmp1 a.val b.val) a.op b.op
  else uppB (cmp1 a.val b.val) a.op b.op
def impliesB (a b : C) : Bool :=
  if a.name != b.name then false
  else if cvoidB a || b.op == 7 then true
  else if a.op == 7 || cvoidB b || a.val.kind != b.val.kind then false
  else ruleB a b
theorem eight {o : Int} (h1 : 0 ≤ o) (h2 : o ≤ 7) (h : o ≠ 7) : o = 0 ∨ o = 1 ∨ o = 2 ∨ o = 3 ∨ o = 4 ∨ o = 5 ∨ o = 6 := by omega
theorem cvoid_at {c : C} (h : cvoidB c = false) (h7 : c.op ≠ 7) : voidB c.val = false := by
  unfold cvoidB at h
  have : (c.op != 7) = true := by simpa using h7
  rw [this] at h
  simp at h
  exact h.1
/-- a condition that holds and isn't Has can be held against -/
theorem holds_ok {c : C} {v : V} (h : holdsB c v = true) (h7 : c.op ≠ 7) : cmpOk v c.val = true := by
  cases hh : cmpOk v c.val
  · unfold holdsB at h; simp [hh, h7] at h
  · rfl
theorem cmpOk_parts {x y : V} (h : cmpOk x y = true) : x.kind = y.kind ∧ voidB x = false ∧ voidB y = false := by
  unfold cmpOk at h; simp at h; exact ⟨h.1.1, h.1.2, h.2⟩
theorem cmpOk_of {x y : V} (h : x.kind = y.kind) (h1 : voidB x = false) (h2 : voidB y = false) : cmpOk x y = true := by
  unfold cmpOk; simp [h, h1, h2]
theorem pre_iff (s p : List UInt8) : pre s p = true ↔ p <+: s := by unfold pre Lib.hasPrefix; exact List.isPrefixOf_iff_prefix
theorem pre_trans {s t u : List UInt8} (h1 : pre s t = true) (h2 : pre t u = true) : pre s u = true := (pre_iff _ _).2 (((pre_iff _ _).1 h2).trans ((pre_iff _ _).1 h1))
theorem cmp_text {x y : V} (hx : x.kind = 2) (h : cmp x y = 0) : x.text = y.text := by
  unfold cmp at h; simp [hx] at h; exact (cb_zero _ _).1 h
/-- THE RULE IS SOUND. -/
theorem rule_sound (a b : C) (v : V) (a0 : 0 ≤ a.op) (a7 : a.op ≤ 7) (b0 : 0 ≤ b.op) (b7 : b.op ≤ 7) (ha : a.op ≠ 7) (hb : b.op ≠ 7) (nb : cvoidB b = false) (hk : a.val.kind = b.val.kind)
    (h : ruleB a b = true) (hv : holdsB a v = true) : holdsB b v = true := by
  have ok := holds_ok hv ha
  obtain ⟨k1, v1, v2⟩ := cmpOk_parts ok
  have v3 := cvoid_at nb hb
  have ok2 := cmpOk_of (k1.trans hk) v1 v3
  have ok3 := cmpOk_of hk v2 v3
  have ho := cmp_ord v a.val b.val k1 hk v1 v2 v3
  rw [holds_rel _ _ ok2]
  rw [holds_rel _ _ ok] at hv
  unfold ruleB at h
  rw [holds_rel _ _ ok3] at h
  have hc : cmp1 a.val b.val = cmp a.val b.val := by unfold cmp1; rw [ok3]; rfl
  rw [hc] at h
  have t1 := @cmp_text v a.val
  have t2 := @cmp_text v b.val
  have p1 := @pre_trans v.text a.val.text b.val.text
  have hk2 : (b.op == 6) = true → b.val.kind = 2 := by
    intro e; unfold cvoidB at nb; rw [e] at nb; simp at nb; exact nb.2
  have hs := pre_self v.text
  unfold lowB uppB at h
  unfold Ord3 at ho
  generalize cmp v a.val = p at *
  generalize cmp a.val b.val = q at *
  generalize cmp v b.val = r at *
  rcases eight a0 a7 ha with e | e | e | e | e | e | e <;> rcases eight b0 b7 hb with f | f | f | f | f | f | f <;>
    simp [e, f, relB] at h hv hk2 ⊢ <;> (try omega)
  · rw [k1, hk, hk2]; exact ⟨rfl, by rw [t1 (by rw [k1, hk, hk2]) hv]; exact h.2⟩
  · intro hr
    have := t2 hv.1 hr
    rw [← this, hv.2] at h
    exact absurd h (by simp)
  · exact ⟨hv.1, p1 hv.2 h⟩
theorem implies_sound (a b : C) (v : V) (a0 : 0 ≤ a.op) (a7 : a.op ≤ 7) (b0 : 0 ≤ b.op) (b7 : b.op ≤ 7) (h : impliesB a b = true) (hv : holdsB a v = true) : holdsB b v = true := by
  unfold impliesB at h
  by_cases hn : a.name = b.name
  · by_cases va : cvoidB a = true
    · rw [void_holds a v va] at hv; exact absurd hv (by simp)
    · by_cases hb : b.op = 7
      · unfold holdsB; simp [hb]
      · by_cases ha : a.op = 7
        · simp [hn, va, hb, ha] at h
        · by_cases vb : cvoidB b = true
          · simp [hn, va, hb, vb] at h
          · by_cases hk : a.val.kind = b.val.kind
            · simp [hn, va, hb, ha, vb, hk] at h
              exact rule_sound a b v a0 a7 b0 b7 ha hb (by simpa using vb) hk h hv
            · simp [hn, va, hb, hk] at h
  · simp [hn] at h
theorem rule_self (a : C) (a0 : 0 ≤ a.op) (a7 : a.op ≤ 7) (ha : a.op ≠ 7) (na : cvoidB a = false) : ruleB a a = true := by
  have v := cvoid_at na ha
  have hk2 : (a.op == 6) = true → a.val.kind = 2 := by
    intro e; unfold cvoidB at na; rw [e] at na; simp at na; exact na.2
  have hs : holdsB a a.val = sideB a.op (voidB a.val) (a.val.kind == 2) := side_eq a.name a.op a.val
  unfold ruleB
  rw [hs, cmp1_self, pre_self]
  unfold lowB uppB sideB
  rcases eight a0 a7 ha with e | e | e | e | e | e | e <;> simp [e, v]
theorem implies_self (a : C) (a0 : 0 ≤ a.op) (a7 : a.op ≤ 7) : impliesB a a = true := by
  unfold impliesB
  by_cases va : cvoidB a = true
  · simp [va]
  by_cases ha : a.op = 7
  · simp [ha]
  have na : cvoidB a = false := by simpa using va
  simp [na, ha, rule_self a a0 a7 ha na]
/-- THE RULE IS HANDED ON. -/
theorem rule_trans (a b c : C) (a0 : 0 ≤ a.op) (a7 : a.op ≤ 7) (b0 : 0 ≤ b.op) (b7 : b.op ≤ 7) (c0 : 0 ≤ c.op) (c7 : c.op ≤ 7) (ha : a.op ≠ 7) (hb : b.op ≠ 7) (hc : c.op ≠ 7)
    (na : cvoidB a = false) (nb : cvoidB b = false) (nc : cvoidB c = false) (k1 : a.val.kind = b.val.kind) (k2 : b.val.kind = c.val.kind)
    (h1 : ruleB a b = true) (h2 : ruleB b c = true) : ruleB a c = true := by
  have v1 := cvoid_at na ha
  have v2 := cvoid_at nb hb
  have v3 := cvoid_at nc hc
  by_cases hz : a.op = 0
  · have e : ∀ d, ruleB a d = holdsB d a.val := fun d => by unfold ruleB; simp [hz]
    rw [e] at h1 ⊢
    exact rule_sound b c a.val b0 b7 c0 c7 hb hc nc k2 h2 h1
  have ok1 := cmpOk_of k1 v1 v2
  have ok2 := cmpOk_of k2 v2 v3
  have ok3 := cmpOk_of (k1.trans k2) v1 v3
  have ho := cmp_ord a.val b.val c.val k1 k2 v1 v2 v3
  have e1 : cmp1 a.val b.val = cmp a.val b.val := by unfold cmp1; rw [ok1]; rfl
  have e2 : cmp1 b.val c.val = cmp b.val c.val := by unfold cmp1; rw [ok2]; rfl
  have e3 : cmp1 a.val c.val = cmp a.val c.val := by unfold cmp1; rw [ok3]; rfl
  have ka : (a.op == 6) = true → a.val.kind = 2 := by
    intro e; unfold cvoidB at na; rw [e] at na; simp at na; exact na.2
  have kb : (b.op == 6) = true → b.val.kind = 2 := by
    intro e; unfold cvoidB at nb; rw [e] at nb; simp at nb; exact nb.2
  have t2 := @cmp_text b.val c.val
  have p1 := @pre_trans a.val.text b.val.text c.val.text
  have p2 := @pre_trans c.val.text a.val.text b.val.text
  unfold ruleB lowB uppB at *
  rw [e1] at h1; rw [e2] at h2; rw [e3]
  unfold Ord3 at ho
  generalize holdsB b a.val = x1 at *
  generalize holdsB c b.val = x2 at *
  generalize holdsB c a.val = x3 at *
  generalize cmp a.val b.val = p at *
  generalize cmp b.val c.val = q at *
  generalize cmp a.val c.val = r at *
  rcases eight a0 a7 ha with e | e | e | e | e | e | e <;> rcases eight b0 b7 hb with f | f | f | f | f | f | f <;> (try (simp [e, f] at h1; done)) <;> (try omega) <;>
    rcases eight c0 c7 hc with g | g | g | g | g | g | g <;> (try (simp [f, g] at h2; done)) <;>
    simp [e, f, g] at h1 h2 ka kb ⊢ <;> (try omega)
  · rw [t2 (by rw [← k1, ka]) h2] at h1; exact h1
  · cases hh : pre c.val.text a.val.text
    · rfl
    · have := p2 hh h1; rw [this] at h2; exact absurd h2 (by simp)
  · exact p1 h1 h2
theorem implies_trans (a b c : C) (a0 : 0 ≤ a.op) (a7 : a.op ≤ 7) (b0 : 0 ≤ b.op) (b7 : b.op ≤ 7) (c0 : 0 ≤ c.op) (c7 : c.op ≤ 7) (h1 : impliesB a b = true) (h2 : impliesB b c = true) : impliesB a c = true := by
  unfold impliesB at *
  by_cases n1 : a.name = b.name
  · by_cases n2 : b.name = c.name
    · by_cases va : cvoidB a = true
      · simp [n1, n2, va]
      by_cases hc : c.op = 7
      · simp [n1, n2, hc]
      have na : cvoidB a = false := by simpa using va
      by_cases hb : b.op = 7
      · have nb : cvoidB b = false := by unfold cvoidB; simp [hb]
        simp [n2, hb, nb, hc] at h2
      by_cases ha : a.op = 7
      · simp [n1, na, ha, hb] at h1
      by_cases vb : cvoidB b = true
      · simp [n1, na, vb, hb] at h1
      have nb : cvoidB b = false := by simpa using vb
      by_cases vc : cvoidB c = true
      · simp [n2, nb, vc, hc] at h2
      have nc : cvoidB c = false := by simpa using vc
      by_cases k1 : a.val.kind = b.val.kind
      · by_cases k2 : b.val.kind = c.val.kind
        · simp [n1, na, ha, hb, nb, k1] at h1
          simp [n2, nb, hb, hc, nc, k2] at h2
          simp [n1, n2, na, ha, hc, nc, k1, k2]
          exact rule_trans a b c a0 a7 b0 b7 c0 c7 ha hb hc na nb nc k1 k2 h1 h2
        · simp [n2, nb, hc, k2] at h2
      · simp [n1, na, hb, k1] at h1
    · simp [n2] at h2
  · simp [n1] at h1
end Go.Proofs.Ytpbdgbejcdncgaa.Val
