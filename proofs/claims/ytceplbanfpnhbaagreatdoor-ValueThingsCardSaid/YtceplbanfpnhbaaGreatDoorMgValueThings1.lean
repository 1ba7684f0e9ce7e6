/- MERGED BY A PROGRAM OF MINE (mg.py) out of my own texts, in their order: CondLaw, CondVoid, ImplFn, OrdKey, Same, ValLaw, Canon, VOf, VThings. -/
import Derived.Test.YtceplbanfpnhbaaGreatDoorValFn
import Derived.Test.YtceplbanfpnhbaaGreatDoorCond
import Derived.Test.YtceplbanfpnhbaaGreatDoorName
import Derived.Test.YtceplbanfpnhbaaGreatDoorOrd
import Derived.Test.YtceplbanfpnhbaaGreatDoorCondFit
import Derived.Handy
import Derived.Laws.IdiomCopy
import Derived.Test.YtceplbanfpnhbaaGreatDoorFit02
import Derived.Laws.IdiomStrings

section
/- PLAIN LAWS OF VALUES AND CONDITIONS. No program in sight. -/
namespace Go.Proofs.YtceplbanfpnhbaaGreatDoor.Val
open Flt
theorem bytes_self (t : List UInt8) : Lib.compareBytes t t = 0 := by
  induction t with
  | nil => rfl
  | cons c t ih => simp [Lib.compareBytes, ih]
theorem lt_self (x : Nat) : Flt.lt x x = false := by simp [Flt.lt]
theorem cmp_self (v : V) : cmp v v = 0 := by
  unfold cmp sgn
  rw [lt_self, bytes_self]
  cases v.yes <;> simp
theorem pre_self (t : List UInt8) : pre t t = true := by
  unfold pre Lib.hasPrefix; rw [List.isPrefixOf_iff_prefix]; exact List.prefix_refl t
theorem cmp1_self (v : V) : cmp1 v v = 0 := by unfold cmp1; rw [cmp_self]; simp
/-- what Holds answers of a value and its own -/
def sideB (op : Int) (void text : Bool) : Bool := if op == 0 || op == 3 || op == 5 then !void else if op == 6 then text && !void else op == 7
theorem side_eq (nm : List UInt8) (op : Int) (v : V) : holdsB ⟨nm, op, v⟩ v = sideB op (voidB v) (v.kind == 2) := by
  have e : cmpOk v v = !voidB v := by unfold cmpOk; cases voidB v <;> simp
  unfold holdsB sideB
  simp only [cmp1_self, pre_self, e]
  by_cases h7 : op = 7
  · subst h7; rfl
  by_cases h6 : op = 6
  · subst h6; cases voidB v <;> simp
  by_cases h0 : op = 0
  · subst h0; simp
  by_cases h1 : op = 1
  · subst h1; simp
  by_cases h2 : op = 2
  · subst h2; simp
  by_cases h3 : op = 3
  · subst h3; simp
  by_cases h4 : op = 4
  · subst h4; simp
  by_cases h5 : op = 5
  · subst h5; simp
  simp [h0, h1, h2, h3, h4, h5, h6, h7]
end Go.Proofs.YtceplbanfpnhbaaGreatDoor.Val
end

section
/- THE WALKS OF cond.Void and cond.Right, the laws' light. -/
namespace Go.Proofs.YtceplbanfpnhbaaGreatDoor.Val
open Go.RowKit Flt
def cvoidB (c : C) : Bool := (c.op != 7 && voidB c.val) || (c.op == 6 && c.val.kind != 2)
def cRight (c : C) : Bool := Sc.nameB c.name && decide (0 ≤ c.op) && decide (c.op ≤ 7) && vRight c.val
set_option maxHeartbeats 400000 in
theorem cvoid_any (nm : List UInt8) (op k n : Int) (x : Nat) (t : List UInt8) (y : Bool) (w : World) :
    Calls Tryz.prog 68 #[cond nm op k n x t y] w fun e w' => e = .returned (.bool (cvoidB ⟨nm, op, k, n, x, t, y⟩)) ∧ Below w.heap.size w w' := by
  have hr : cvoidB ⟨nm, op, k, n, x, t, y⟩ = ((op != 7 && voidB ⟨k, n, x, t, y⟩) || (op == 6 && k != 2)) := rfl
  have hv (w : World) := void_any k n x t y w
  generalize voidB ⟨k, n, x, t, y⟩ = vb at *
  have HR := Lib.hid hr; have HV := Lib.hid hv; clear hr hv
  by_cases h7 : op = 7
  · subst h7
    go_enter Tryz.func68, Tryz.ntmps68
    go_wp2
    go_ret
    exact ⟨ret_bool (by rw [HR.out]; simp [*]), balloc _ _⟩
  by_cases h6 : op = 6
  · subst h6
    clear h7
    cases vb
    all_goals
      go_enter Tryz.func68, Tryz.ntmps68
      go_wp2_with (go_at_call 82; refine (HV.out _).mono ?_; rintro e w1 ⟨rfl, hb⟩; obtain ⟨hc, hf⟩ := bcell hb)
      go_ret
      exact ⟨ret_bool (by rw [HR.out]; simp [*]), btrans (balloc _ _) hb⟩
  cases vb
  all_goals
    go_enter Tryz.func68, Tryz.ntmps68
    go_wp2_with (go_at_call 82; refine (HV.out _).mono ?_; rintro e w1 ⟨rfl, hb⟩; obtain ⟨hc, hf⟩ := bcell hb)
    go_ret
    exact ⟨ret_bool (by rw [HR.out]; simp [*]), btrans (balloc _ _) hb⟩
theorem right_ways3 (op : Int) (n : Bool) : n = false ∨ (n = true ∧ decide (0 ≤ op) = false) ∨ (n = true ∧ decide (0 ≤ op) = true ∧ decide (op ≤ 7) = false) ∨ (n = true ∧ decide (0 ≤ op) = true ∧ decide (op ≤ 7) = true) := by
  cases n <;> cases decide (0 ≤ op) <;> cases decide (op ≤ 7) <;> simp
set_option maxHeartbeats 400000 in
theorem cright_any (nm : List UInt8) (op k n : Int) (x : Nat) (t : List UInt8) (y : Bool) (w : World) (hn : nm.length ≤ 140737488351232) (ht : t.length ≤ 140737488351232) :
    Calls Tryz.prog 50 #[cond nm op k n x t y] w fun e w' => e = .returned (.bool (cRight ⟨nm, op, k, n, x, t, y⟩)) ∧ Below w.heap.size w w' := by
  have hr : cRight ⟨nm, op, k, n, x, t, y⟩ = (Sc.nameB nm && decide (0 ≤ op) && decide (op ≤ 7) && vRight ⟨k, n, x, t, y⟩) := rfl
  have hv (w : World) := vright_any k n x t y w ht
  have hm (w : World) := Sc.name_l nm w hn
  generalize vRight ⟨k, n, x, t, y⟩ = vb at *
  generalize Sc.nameB nm = nb at *
  have HR := Lib.hid hr; have HV := Lib.hid hv; have HM := Lib.hid hm; clear hr hv hm
  rcases right_ways3 op nb with rfl | ⟨rfl, h1⟩ | ⟨rfl, h1, h2⟩ | ⟨rfl, h1, h2⟩
  · have HQ : Hid (cRight ⟨nm, op, k, n, x, t, y⟩ = false) := Lib.hid (by rw [HR.out]; rfl)
    go_enter Tryz.func50, Tryz.ntmps50
    go_wp2_with (first | (go_at_call 86; refine (HM.out _).mono ?_; rintro e w' ⟨rfl, rfl⟩) | (go_at_call 39; refine (HV.out _).mono ?_; rintro e w1 ⟨rfl, hb⟩; obtain ⟨hc, hf⟩ := bcell hb))
    go_ret
    exact ⟨ret_bool HQ.out.symm, by repeat (first | assumption | (with_reducible exact Below.refl _ _) | exact balloc _ _ | exact balloc2 _ _ _ | refine btrans ?_ (by assumption) | refine btrans ?_ (balloc _ _))⟩
  · have HQ : Hid (cRight ⟨nm, op, k, n, x, t, y⟩ = false) := Lib.hid (by rw [HR.out, h1]; rfl)
    go_enter Tryz.func50, Tryz.ntmps50
    go_wp2_with (first | (go_at_call 86; refine (HM.out _).mono ?_; rintro e w' ⟨rfl, rfl⟩) | (go_at_call 39; refine (HV.out _).mono ?_; rintro e w1 ⟨rfl, hb⟩; obtain ⟨hc, hf⟩ := bcell hb))
    go_ret
    exact ⟨ret_bool HQ.out.symm, by repeat (first | assumption | (with_reducible exact Below.refl _ _) | exact balloc _ _ | exact balloc2 _ _ _ | refine btrans ?_ (by assumption) | refine btrans ?_ (balloc _ _))⟩
  · have HQ : Hid (cRight ⟨nm, op, k, n, x, t, y⟩ = false) := Lib.hid (by rw [HR.out, h1, h2]; rfl)
    go_enter Tryz.func50, Tryz.ntmps50
    go_wp2_with (first | (go_at_call 86; refine (HM.out _).mono ?_; rintro e w' ⟨rfl, rfl⟩) | (go_at_call 39; refine (HV.out _).mono ?_; rintro e w1 ⟨rfl, hb⟩; obtain ⟨hc, hf⟩ := bcell hb))
    go_ret
    exact ⟨ret_bool HQ.out.symm, by repeat (first | assumption | (with_reducible exact Below.refl _ _) | exact balloc _ _ | exact balloc2 _ _ _ | refine btrans ?_ (by assumption) | refine btrans ?_ (balloc _ _))⟩
  · have HQ : Hid (cRight ⟨nm, op, k, n, x, t, y⟩ = vb) := Lib.hid (by rw [HR.out, h1, h2]; rfl)
    go_enter Tryz.func50, Tryz.ntmps50
    go_wp2_with (first | (go_at_call 86; refine (HM.out _).mono ?_; rintro e w' ⟨rfl, rfl⟩) | (go_at_call 39; refine (HV.out _).mono ?_; rintro e w1 ⟨rfl, hb⟩; obtain ⟨hc, hf⟩ := bcell hb))
    go_ret
    exact ⟨ret_bool HQ.out.symm, by repeat (first | assumption | (with_reducible exact Below.refl _ _) | exact balloc _ _ | exact balloc2 _ _ _ | refine btrans ?_ (by assumption) | refine btrans ?_ (balloc _ _))⟩
theorem void_holds (c : C) (v : V) (h : cvoidB c = true) : holdsB c v = false := by
  unfold cvoidB at h
  have h' : ((c.op = 7) = False ∧ voidB c.val = true) ∨ (c.op = 6 ∧ c.val.kind ≠ 2) := by
    simp at h
    rcases h with h | h
    · exact Or.inl ⟨by simpa using h.1, h.2⟩
    · exact Or.inr h
  rcases h' with ⟨h7, hv⟩ | ⟨h6, hk⟩
  · have e : cmpOk v c.val = false := by unfold cmpOk; rw [hv]; simp
    unfold holdsB; rw [e]; simp [h7]
  · have e : (cmpOk v c.val && v.kind == 2) = false := by
      unfold cmpOk
      cases hh : (v.kind == c.val.kind)
      · rfl
      · have : (v.kind == 2) = false := by
          rw [beq_eq_false_iff_ne]; rw [beq_iff_eq] at hh; rw [hh]; exact hk
        rw [this]; simp
    unfold holdsB; rw [h6, e]; rfl
end Go.Proofs.YtceplbanfpnhbaaGreatDoor.Val
end

section
/- PLAIN LAW OF Implies: what it answers, that it is sound, that it is handed on. No program in sight. -/
namespace Go.Proofs.YtceplbanfpnhbaaGreatDoor.Val
open Flt
theorem cb_zero : ∀ (a b : List UInt8), Lib.compareBytes a b = 0 ↔ a = b
  | [], [] => by simp [Lib.compareBytes]
  | [], _ :: _ => by simp [Lib.compareBytes]
  | _ :: _, [] => by simp [Lib.compareBytes]
  | a :: ar, b :: bs => by
    unfold Lib.compareBytes
    by_cases h : a < b
    · rw [if_pos h]; constructor
      · intro h'; omega
      · intro h'; injection h' with h1 h2; subst h1; exact absurd h (UInt8.lt_irrefl _)
    · rw [if_neg h]
      by_cases h' : b < a
      · rw [if_pos h']; constructor
        · intro h'; omega
        · intro h2; injection h2 with h1 h3; subst h1; exact absurd h' (UInt8.lt_irrefl _)
      · rw [if_neg h', cb_zero ar bs]
        have e : a = b := by
          rw [UInt8.lt_iff_toNat_lt] at h h'
          exact UInt8.toNat_inj.1 (by omega)
        subst e; simp
theorem cb_lt : ∀ (a b c : List UInt8), (Lib.compareBytes a b < 0 → Lib.compareBytes b c < 0 → Lib.compareBytes a c < 0) ∧ (0 < Lib.compareBytes a b → 0 < Lib.compareBytes b c → 0 < Lib.compareBytes a c)
  | [], [], _ => by simp [Lib.compareBytes]
  | [], _ :: _, [] => by simp [Lib.compareBytes]
  | [], _ :: _, _ :: _ => by simp [Lib.compareBytes]
  | _ :: _, [], [] => by simp [Lib.compareBytes]
  | _ :: _, [], _ :: _ => by simp [Lib.compareBytes]
  | _ :: _, _ :: _, [] => by simp [Lib.compareBytes]
  | a :: ar, b :: bs, c :: cs => by
    have ih := cb_lt ar bs cs
    unfold Lib.compareBytes
    simp only [UInt8.lt_iff_toNat_lt]
    by_cases h1 : a.toNat < b.toNat <;> by_cases h2 : b.toNat < a.toNat <;> by_cases h3 : b.toNat < c.toNat <;> by_cases h4 : c.toNat < b.toNat <;> by_cases h5 : a.toNat < c.toNat <;> by_cases h6 : c.toNat < a.toNat <;> simp only [h1, h2, h3, h4, h5, h6, if_true, if_false] <;> first | exact ih | omega
/-- how three comparisons hang together -/
def Ord3 (p q r : Int) : Prop := (p < 0 → q ≤ 0 → r < 0) ∧ (p ≤ 0 → q < 0 → r < 0) ∧ (p = 0 → q = 0 → r = 0) ∧ (0 < p → 0 ≤ q → 0 < r) ∧ (0 ≤ p → 0 < q → 0 < r)
theorem cb_ord (a b c : List UInt8) : Ord3 (Lib.compareBytes a b) (Lib.compareBytes b c) (Lib.compareBytes a c) := by
  have h := cb_lt a b c
  have h1 := cb_zero a b
  have h2 := cb_zero b c
  unfold Ord3
  by_cases e1 : a = b
  · subst e1; rw [(cb_zero a a).2 rfl] at *; omega
  by_cases e2 : b = c
  · subst e2; rw [(cb_zero b b).2 rfl] at *; omega
  simp only [e1, iff_false] at h1
  simp only [e2, iff_false] at h2
  omega
theorem sgn_spec (a b : Int) : (sgn (decide (a < b)) (decide (b < a)) < 0 ↔ a < b) ∧ (sgn (decide (a < b)) (decide (b < a)) = 0 ↔ a = b) := by
  unfold sgn
  by_cases h : a < b
  · simp [h]; omega
  · by_cases h2 : b < a
    · simp [h, h2]; omega
    · simp [h, h2]; omega
theorem sgn_ord (a b c : Int) : Ord3 (sgn (decide (a < b)) (decide (b < a))) (sgn (decide (b < c)) (decide (c < b))) (sgn (decide (a < c)) (decide (c < a))) := by
  have h1 := sgn_spec a b
  have h2 := sgn_spec b c
  have h3 := sgn_spec a c
  unfold Ord3
  generalize sgn (decide (a < b)) (decide (b < a)) = p at *
  generalize sgn (decide (b < c)) (decide (c < b)) = q at *
  generalize sgn (decide (a < c)) (decide (c < a)) = r at *
  omega
theorem cmp_ord (x y z : V) (h1 : x.kind = y.kind) (h2 : y.kind = z.kind) (v1 : voidB x = false) (v2 : voidB y = false) (v3 : voidB z = false) : Ord3 (cmp x y) (cmp y z) (cmp x z) := by
  unfold cmp
  unfold voidB at v1 v2 v3
  rw [h1, h2] at v1; rw [h2] at v2; rw [h1, h2]
  by_cases k0 : z.kind = 0
  · simp only [k0]; exact sgn_ord _ _ _
  by_cases k1 : z.kind = 1
  · have n1 : nan x.num = false := by simpa [k1] using v1
    have n2 : nan y.num = false := by simpa [k1] using v2
    have n3 : nan z.num = false := by simpa [k1] using v3
    simp only [k1, Flt.lt, n1, n2, n3]
    exact sgn_ord _ _ _
  by_cases k2 : z.kind = 2
  · simp only [k2]; exact cb_ord _ _ _
  have e0 : (z.kind == 0) = false := by simpa using k0
  have e1 : (z.kind == 1) = false := by simpa using k1
  have e2 : (z.kind == 2) = false := by simpa using k2
  simp only [e0, e1, e2, Bool.false_eq_true, if_false]
  cases x.yes <;> cases y.yes <;> cases z.yes <;> (unfold Ord3 sgn; simp)
def relB (op n : Int) (p : Bool) : Bool :=
  if op == 7 then true else if op == 6 then p else if op == 0 then n == 0 else if op == 1 then n != 0 else if op == 2 then decide (n < 0) else if op == 3 then decide (n ≤ 0) else if op == 4 then decide (0 < n) else if op == 5 then decide (0 ≤ n) else false
theorem holds_rel (c : C) (v : V) (h : cmpOk v c.val = true) : holdsB c v = relB c.op (cmp v c.val) (v.kind == 2 && pre v.text c.val.text) := by
  unfold holdsB relB cmp1
  simp [h]
def lowB (n a b : Int) : Bool := ((b == 2 || b == 3) && (decide (n < 0) || (n == 0 && (b == 3 || a != 3)))) || (b == 1 && (decide (n < 0) || (n == 0 && a != 3)))
def uppB (n a b : Int) : Bool := ((b == 4 || b == 5) && (decide (0 < n) || (n == 0 && (b == 5 || a != 5)))) || (b == 1 && (decide (0 < n) || (n == 0 && a != 5)))
/-- the rule for two conditions on one kind, none void, neither Has -/
def ruleB (a b : C) : Bool :=
  if a.op == 0 then holdsB b a.val
  else if a.op == 1 then b.op == 1 && cmp1 a.val b.val == 0
  else if a.op == 6 then (b.op == 6 && pre a.val.text b.val.text) || (b.op == 1 && !pre b.val.text a.val.text)
  else if a.op == 2 || a.op == 3 then lowB (cmp1 a.val b.val) a.op b.op
  else uppB (cmp1 a.val b.val) a.op b.op
def impliesB (a b : C) : Bool :=
  if a.name != b.name then false
  else if cvoidB a || b.op == 7 then true
  else if a.op == 7 || cvoidB b || a.val.kind != b.val.kind then false
  else ruleB a b
theorem eight {o : Int} (h1 : 0 ≤ o) (h2 : o ≤ 7) (h : o ≠ 7) : o = 0 ∨ o = 1 ∨ o = 2 ∨ o = 3 ∨ o = 4 ∨ o = 5 ∨ o = 6 := by omega
theorem cvoid_at {c : C} (h : cvoidB c = false) (h7 : c.op ≠ 7) : voidB c.val = false := by
  unfold cvoidB at h
  have : (c.op != 7) = true := by simpa using h7
  rw [this] at h
  simp at h
  exact h.1
/-- a condition that holds and isn't Has can be held against -/
theorem holds_ok {c : C} {v : V} (h : holdsB c v = true) (h7 : c.op ≠ 7) : cmpOk v c.val = true := by
  cases hh : cmpOk v c.val
  · unfold holdsB at h; simp [hh, h7] at h
  · rfl
theorem cmpOk_parts {x y : V} (h : cmpOk x y = true) : x.kind = y.kind ∧ voidB x = false ∧ voidB y = false := by
  unfold cmpOk at h; simp at h; exact ⟨h.1.1, h.1.2, h.2⟩
theorem cmpOk_of {x y : V} (h : x.kind = y.kind) (h1 : voidB x = false) (h2 : voidB y = false) : cmpOk x y = true := by
  unfold cmpOk; simp [h, h1, h2]
theorem pre_iff (s p : List UInt8) : pre s p = true ↔ p <+: s := by unfold pre Lib.hasPrefix; exact List.isPrefixOf_iff_prefix
theorem pre_trans {s t u : List UInt8} (h1 : pre s t = true) (h2 : pre t u = true) : pre s u = true := (pre_iff _ _).2 (((pre_iff _ _).1 h2).trans ((pre_iff _ _).1 h1))
theorem cmp_text {x y : V} (hx : x.kind = 2) (h : cmp x y = 0) : x.text = y.text := by
  unfold cmp at h; simp [hx] at h; exact (cb_zero _ _).1 h
/-- THE RULE IS SOUND. -/
theorem rule_sound (a b : C) (v : V) (a0 : 0 ≤ a.op) (a7 : a.op ≤ 7) (b0 : 0 ≤ b.op) (b7 : b.op ≤ 7) (ha : a.op ≠ 7) (hb : b.op ≠ 7) (nb : cvoidB b = false) (hk : a.val.kind = b.val.kind)
    (h : ruleB a b = true) (hv : holdsB a v = true) : holdsB b v = true := by
  have ok := holds_ok hv ha
  obtain ⟨k1, v1, v2⟩ := cmpOk_parts ok
  have v3 := cvoid_at nb hb
  have ok2 := cmpOk_of (k1.trans hk) v1 v3
  have ok3 := cmpOk_of hk v2 v3
  have ho := cmp_ord v a.val b.val k1 hk v1 v2 v3
  rw [holds_rel _ _ ok2]
  rw [holds_rel _ _ ok] at hv
  unfold ruleB at h
  rw [holds_rel _ _ ok3] at h
  have hc : cmp1 a.val b.val = cmp a.val b.val := by unfold cmp1; rw [ok3]; rfl
  rw [hc] at h
  have t1 := @cmp_text v a.val
  have t2 := @cmp_text v b.val
  have p1 := @pre_trans v.text a.val.text b.val.text
  have hk2 : (b.op == 6) = true → b.val.kind = 2 := by
    intro e; unfold cvoidB at nb; rw [e] at nb; simp at nb; exact nb.2
  have hs := pre_self v.text
  unfold lowB uppB at h
  unfold Ord3 at ho
  generalize cmp v a.val = p at *
  generalize cmp a.val b.val = q at *
  generalize cmp v b.val = r at *
  rcases eight a0 a7 ha with e | e | e | e | e | e | e <;> rcases eight b0 b7 hb with f | f | f | f | f | f | f <;>
    simp [e, f, relB] at h hv hk2 ⊢ <;> (try omega)
  · rw [k1, hk, hk2]; exact ⟨rfl, by rw [t1 (by rw [k1, hk, hk2]) hv]; exact h.2⟩
  · intro hr
    have := t2 hv.1 hr
    rw [← this, hv.2] at h
    exact absurd h (by simp)
  · exact ⟨hv.1, p1 hv.2 h⟩
theorem implies_sound (a b : C) (v : V) (a0 : 0 ≤ a.op) (a7 : a.op ≤ 7) (b0 : 0 ≤ b.op) (b7 : b.op ≤ 7) (h : impliesB a b = true) (hv : holdsB a v = true) : holdsB b v = true := by
  unfold impliesB at h
  by_cases hn : a.name = b.name
  · by_cases va : cvoidB a = true
    · rw [void_holds a v va] at hv; exact absurd hv (by simp)
    · by_cases hb : b.op = 7
      · unfold holdsB; simp [hb]
      · by_cases ha : a.op = 7
        · simp [hn, va, hb, ha] at h
        · by_cases vb : cvoidB b = true
          · simp [hn, va, hb, vb] at h
          · by_cases hk : a.val.kind = b.val.kind
            · simp [hn, va, hb, ha, vb, hk] at h
              exact rule_sound a b v a0 a7 b0 b7 ha hb (by simpa using vb) hk h hv
            · simp [hn, va, hb, hk] at h
  · simp [hn] at h
theorem rule_self (a : C) (a0 : 0 ≤ a.op) (a7 : a.op ≤ 7) (ha : a.op ≠ 7) (na : cvoidB a = false) : ruleB a a = true := by
  have v := cvoid_at na ha
  have hk2 : (a.op == 6) = true → a.val.kind = 2 := by
    intro e; unfold cvoidB at na; rw [e] at na; simp at na; exact na.2
  have hs : holdsB a a.val = sideB a.op (voidB a.val) (a.val.kind == 2) := side_eq a.name a.op a.val
  unfold ruleB
  rw [hs, cmp1_self, pre_self]
  unfold lowB uppB sideB
  rcases eight a0 a7 ha with e | e | e | e | e | e | e <;> simp [e, v]
theorem implies_self (a : C) (a0 : 0 ≤ a.op) (a7 : a.op ≤ 7) : impliesB a a = true := by
  unfold impliesB
  by_cases va : cvoidB a = true
  · simp [va]
  by_cases ha : a.op = 7
  · simp [ha]
  have na : cvoidB a = false := by simpa using va
  simp [na, ha, rule_self a a0 a7 ha na]
/-- THE RULE IS HANDED ON. -/
theorem rule_trans (a b c : C) (a0 : 0 ≤ a.op) (a7 : a.op ≤ 7) (b0 : 0 ≤ b.op) (b7 : b.op ≤ 7) (c0 : 0 ≤ c.op) (c7 : c.op ≤ 7) (ha : a.op ≠ 7) (hb : b.op ≠ 7) (hc : c.op ≠ 7)
    (na : cvoidB a = false) (nb : cvoidB b = false) (nc : cvoidB c = false) (k1 : a.val.kind = b.val.kind) (k2 : b.val.kind = c.val.kind)
    (h1 : ruleB a b = true) (h2 : ruleB b c = true) : ruleB a c = true := by
  have v1 := cvoid_at na ha
  have v2 := cvoid_at nb hb
  have v3 := cvoid_at nc hc
  by_cases hz : a.op = 0
  · have e : ∀ d, ruleB a d = holdsB d a.val := fun d => by unfold ruleB; simp [hz]
    rw [e] at h1 ⊢
    exact rule_sound b c a.val b0 b7 c0 c7 hb hc nc k2 h2 h1
  have ok1 := cmpOk_of k1 v1 v2
  have ok2 := cmpOk_of k2 v2 v3
  have ok3 := cmpOk_of (k1.trans k2) v1 v3
  have ho := cmp_ord a.val b.val c.val k1 k2 v1 v2 v3
  have e1 : cmp1 a.val b.val = cmp a.val b.val := by unfold cmp1; rw [ok1]; rfl
  have e2 : cmp1 b.val c.val = cmp b.val c.val := by unfold cmp1; rw [ok2]; rfl
  have e3 : cmp1 a.val c.val = cmp a.val c.val := by unfold cmp1; rw [ok3]; rfl
  have ka : (a.op == 6) = true → a.val.kind = 2 := by
    intro e; unfold cvoidB at na; rw [e] at na; simp at na; exact na.2
  have kb : (b.op == 6) = true → b.val.kind = 2 := by
    intro e; unfold cvoidB at nb; rw [e] at nb; simp at nb; exact nb.2
  have t2 := @cmp_text b.val c.val
  have p1 := @pre_trans a.val.text b.val.text c.val.text
  have p2 := @pre_trans c.val.text a.val.text b.val.text
  unfold ruleB lowB uppB at *
  rw [e1] at h1; rw [e2] at h2; rw [e3]
  unfold Ord3 at ho
  generalize holdsB b a.val = x1 at *
  generalize holdsB c b.val = x2 at *
  generalize holdsB c a.val = x3 at *
  generalize cmp a.val b.val = p at *
  generalize cmp b.val c.val = q at *
  generalize cmp a.val c.val = r at *
  rcases eight a0 a7 ha with e | e | e | e | e | e | e <;> rcases eight b0 b7 hb with f | f | f | f | f | f | f <;> (try (simp [e, f] at h1; done)) <;> (try omega) <;>
    rcases eight c0 c7 hc with g | g | g | g | g | g | g <;> (try (simp [f, g] at h2; done)) <;>
    simp [e, f, g] at h1 h2 ka kb ⊢ <;> (try omega)
  · rw [t2 (by rw [← k1, ka]) h2] at h1; exact h1
  · cases hh : pre c.val.text a.val.text
    · rfl
    · have := p2 hh h1; rw [this] at h2; exact absurd h2 (by simp)
  · exact p1 h1 h2
theorem implies_trans (a b c : C) (a0 : 0 ≤ a.op) (a7 : a.op ≤ 7) (b0 : 0 ≤ b.op) (b7 : b.op ≤ 7) (c0 : 0 ≤ c.op) (c7 : c.op ≤ 7) (h1 : impliesB a b = true) (h2 : impliesB b c = true) : impliesB a c = true := by
  unfold impliesB at *
  by_cases n1 : a.name = b.name
  · by_cases n2 : b.name = c.name
    · by_cases va : cvoidB a = true
      · simp [n1, n2, va]
      by_cases hc : c.op = 7
      · simp [n1, n2, hc]
      have na : cvoidB a = false := by simpa using va
      by_cases hb : b.op = 7
      · have nb : cvoidB b = false := by unfold cvoidB; simp [hb]
        simp [n2, hb, nb, hc] at h2
      by_cases ha : a.op = 7
      · simp [n1, na, ha, hb] at h1
      by_cases vb : cvoidB b = true
      · simp [n1, na, vb, hb] at h1
      have nb : cvoidB b = false := by simpa using vb
      by_cases vc : cvoidB c = true
      · simp [n2, nb, vc, hc] at h2
      have nc : cvoidB c = false := by simpa using vc
      by_cases k1 : a.val.kind = b.val.kind
      · by_cases k2 : b.val.kind = c.val.kind
        · simp [n1, na, ha, hb, nb, k1] at h1
          simp [n2, nb, hb, hc, nc, k2] at h2
          simp [n1, n2, na, ha, hc, nc, k1, k2]
          exact rule_trans a b c a0 a7 b0 b7 c0 c7 ha hb hc na nb nc k1 k2 h1 h2
        · simp [n2, nb, hc, k2] at h2
      · simp [n1, na, hb, k1] at h1
    · simp [n2] at h2
  · simp [n1] at h1
end Go.Proofs.YtceplbanfpnhbaaGreatDoor.Val
end

section
/- THE WALKS OF package order: Key, Same. -/
namespace Go.Proofs.YtceplbanfpnhbaaGreatDoor.Ord
open Go.RowKit Flt
attribute [local go_sem] ford_eq ford_lt ford_gt
theorem bits_call (b : Nat) (w : World) : (callFunc 114 #[.float .f64 b]).run Tryz.prog w = .ok (.value (.int .u64 b)) w :=
  run_callFunc_extern (e := Extern.MathFloatBits.float64bits) Tryz.func114 (by kernel_rfl) (by kernel_rfl) (by kernel_rfl) (by kernel_rfl) _ w
theorem umax_xor (b : Nat) (hb : b < 18446744073709551616) : bits .xor .u64 IntKind.u64.max (b : Int) = ((most - b : Nat) : Int) := by
  have h := u64_xor 18446744073709551615 (b : Int) (by decide) (by decide) (by omega) (by omega)
  have e : IntKind.u64.max = 18446744073709551615 := by decide
  rw [e, h]
  have e2 : (18446744073709551615 : Int).toNat = most := by decide
  rw [e2, Int.toNat_natCast, xor_most hb]
theorem top_or (b : Nat) (hb : b < 18446744073709551616) : bits .or .u64 (b : Int) 9223372036854775808 = ((b ||| top : Nat) : Int) := by
  have h := u64_or (b : Int) 9223372036854775808 (by omega) (by omega) (by decide) (by decide)
  rw [h, Int.toNat_natCast]; rfl
theorem top_off (b : Nat) (hb : b < 18446744073709551616) : bits .andNot .u64 (b : Int) 9223372036854775808 = ((b % 9223372036854775808 : Nat) : Int) := by
  have h := u64_andNot (b : Int) 9223372036854775808 (by omega) (by omega) (by decide) (by decide)
  rw [h, Int.toNat_natCast]
  have e2 : (9223372036854775808 : Int).toNat = 9223372036854775808 := by decide
  rw [e2, and_low]

theorem ret_u64 {a b : Int} (h : a = b) : Ending.returned (.int .u64 a) = .returned (.int .u64 b) := by rw [h]
set_option maxHeartbeats 400000 in
theorem key_any (b : Nat) (hb : b < 18446744073709551616) (w : World) :
    Calls Tryz.prog 84 #[.float .f64 b] w fun e w' => e = .returned (.int .u64 (key b)) ∧ w = w' := by
  have hc := bits_call
  have h1 := ford_ne_self (canon b)
  rw [canon_nan] at h1
  cases hn : nan b with
  | true =>
    rw [key_nan hn]
    rw [hn] at h1; clear hn hb
    go_enter Tryz.func84, Tryz.ntmps84
    go_wp2_with (go_at_call 77; refine (canon_any _ _).mono ?_; rintro e w' ⟨rfl, rfl⟩)
    go_ret
    exact ⟨rfl, rfl⟩
  | false =>
    rw [hn] at h1
    have hk := key_of_canon b hb hn
    have hl := canon_lt b hb
    clear hn hb
    by_cases h : canon b / 9223372036854775808 = 1
    · rw [if_pos h] at hk
      have HK := Lib.hid hk; clear hk
      have h' : ((canon b : Int) / 9223372036854775808 == 1) = true := by rw [beq_iff_eq]; omega
      clear h
      go_enter Tryz.func84, Tryz.ntmps84
      go_wp2_with (go_at_call 77; refine (canon_any _ _).mono ?_; rintro e w' ⟨rfl, rfl⟩)
      go_ret
      exact ⟨ret_u64 (by rw [HK.out, umax_xor _ hl]), rfl⟩
    · rw [if_neg h] at hk
      have HK := Lib.hid hk; clear hk
      have h' : ((canon b : Int) / 9223372036854775808 == 1) = false := by rw [beq_eq_false_iff_ne]; omega
      clear h
      go_enter Tryz.func84, Tryz.ntmps84
      go_wp2_with (go_at_call 77; refine (canon_any _ _).mono ?_; rintro e w' ⟨rfl, rfl⟩)
      go_ret
      exact ⟨ret_u64 (by rw [HK.out, top_or _ hl]), rfl⟩
def same (a b : Nat) : Bool := key a == key b
theorem beq_cast (a b : Nat) : ((a : Int) == (b : Int)) = (a == b) := by
  rw [Bool.eq_iff_iff]; simp; omega
set_option maxHeartbeats 400000 in
theorem same_any (a b : Nat) (ha : a < 18446744073709551616) (hb : b < 18446744073709551616) (w : World) :
    Calls Tryz.prog 45 #[.float .f64 a, .float .f64 b] w fun e w' => e = .returned (.bool (same a b)) ∧ w = w' := by
  go_enter Tryz.func45, Tryz.ntmps45
  go_wp2_with (go_at_call 84; refine (key_any _ (by assumption) _).mono ?_; rintro e w' ⟨rfl, rfl⟩)
  go_ret
  exact ⟨ret_bool (beq_cast _ _), rfl⟩
end Go.Proofs.YtceplbanfpnhbaaGreatDoor.Ord
end

section
/- THE WALKS OF value.Same, cond.below, cond.above. -/
namespace Go.Proofs.YtceplbanfpnhbaaGreatDoor.Val
open Go.RowKit Flt
def sameB (a b : V) : Bool := a.kind == b.kind && (if a.kind == 0 then a.int == b.int else if a.kind == 1 then Ord.same a.num b.num else if a.kind == 2 then a.text == b.text else a.yes == b.yes)
set_option maxHeartbeats 400000 in
theorem same_any (k1 n1 : Int) (x1 : Nat) (t1 : List UInt8) (y1 : Bool) (k2 n2 : Int) (x2 : Nat) (t2 : List UInt8) (y2 : Bool) (w : World) (h1 : x1 < 18446744073709551616) (h2 : x2 < 18446744073709551616) :
    Calls Tryz.prog 44 #[val k1 n1 x1 t1 y1, val k2 n2 x2 t2 y2] w fun e w' => e = .returned (.bool (sameB ⟨k1, n1, x1, t1, y1⟩ ⟨k2, n2, x2, t2, y2⟩)) ∧ Below w.heap.size w w' := by
  have hr : sameB ⟨k1, n1, x1, t1, y1⟩ ⟨k2, n2, x2, t2, y2⟩ = (k1 == k2 && (if k1 == 0 then n1 == n2 else if k1 == 1 then Ord.same x1 x2 else if k1 == 2 then t1 == t2 else y1 == y2)) := rfl
  have ho (w : World) := Ord.same_any x1 x2 h1 h2 w
  generalize Ord.same x1 x2 = sb at *
  have HR := Lib.hid hr; have HO := Lib.hid ho; clear hr ho h1 h2
  cases hk : (k1 == k2)
  · have hk' : (k1 != k2) = true := by rw [bne, hk]; rfl
    go_enter Tryz.func44, Tryz.ntmps44
    go_wp2
    go_ret
    exact ⟨ret_bool (by rw [HR.out, hk]; rfl), balloc2 _ _ _⟩
  have hk' : (k1 != k2) = false := by rw [bne, hk]; rfl
  cases q0 : (k1 == 0)
  · cases q1 : (k1 == 1)
    · cases q2 : (k1 == 2)
      all_goals
        go_enter Tryz.func44, Tryz.ntmps44
        go_wp2
        go_ret
        exact ⟨ret_bool (by rw [HR.out, hk, q0, q1, q2]; rfl), balloc2 _ _ _⟩
    · go_enter Tryz.func44, Tryz.ntmps44
      go_wp2_with (go_at_call 45; refine (HO.out _).mono ?_; rintro e w' ⟨rfl, rfl⟩)
      go_ret
      exact ⟨ret_bool (by rw [HR.out, hk, q0, q1]; rfl), balloc2 _ _ _⟩
  · go_enter Tryz.func44, Tryz.ntmps44
    go_wp2
    go_ret
    exact ⟨ret_bool (by rw [HR.out, hk, q0]; rfl), balloc2 _ _ _⟩
theorem same_cmp (a b : V) (hk : a.kind = b.kind) (v1 : voidB a = false) (v2 : voidB b = false) (h1 : a.num < 18446744073709551616) (h2 : b.num < 18446744073709551616) : sameB a b = (cmp1 a b == 0) := by
  have ok := cmpOk_of hk v1 v2
  have e : cmp1 a b = cmp a b := by unfold cmp1; rw [ok]; rfl
  rw [e]
  unfold sameB cmp
  have hkk : (a.kind == b.kind) = true := by rw [beq_iff_eq]; exact hk
  rw [hkk]
  unfold voidB at v1 v2
  rw [← hk] at v2
  by_cases k0 : a.kind = 0
  · have := (sgn_spec a.int b.int).2
    simp only [k0]
    rw [Bool.eq_iff_iff]
    simpa using this.symm
  by_cases k1 : a.kind = 1
  · have n1 : nan a.num = false := by simpa [k1] using v1
    have n2 : nan b.num = false := by simpa [k1] using v2
    have hs := (sgn_spec (sk a.num) (sk b.num)).2
    have hq := Ord.key_eq_iff h1 h2 n1 n2
    simp only [k1, Flt.lt, n1, n2, Ord.same]
    rw [Bool.eq_iff_iff]
    simp only [Bool.not_false, Bool.and_self, Bool.true_and]
    simp
    rw [hs, hq]
  by_cases k2 : a.kind = 2
  · have := cb_zero a.text b.text
    simp only [k2]
    rw [Bool.eq_iff_iff]
    simpa using this.symm
  have e0 : (a.kind == 0) = false := by simpa using k0
  have e1 : (a.kind == 1) = false := by simpa using k1
  have e2 : (a.kind == 2) = false := by simpa using k2
  simp only [e0, e1, e2, Bool.false_eq_true, if_false]
  unfold sgn
  cases a.yes <;> cases b.yes <;> rfl
theorem side_ways (op p q : Int) (h : p ≠ q) : (op == p) = true ∧ (op == q) = false ∨ (op == p) = false ∧ (op == q) = true ∨ (op == p) = false ∧ (op == q) = false := by
  cases h1 : (op == p) <;> cases h2 : (op == q) <;> simp_all
theorem below_any (op : Int) (w : World) :
    Calls Tryz.prog 71 #[.int .i64 op] w fun e w' => e = .returned (.tuple #[.bool (op == 2 || op == 3), .bool (op == 3)]) ∧ w = w' := by
  rcases side_ways op 2 3 (by decide) with ⟨h1, h2⟩ | ⟨h1, h2⟩ | ⟨h1, h2⟩
  all_goals
    go_enter Tryz.func71, Tryz.ntmps71
    go_wp2
    go_ret2
    exact ⟨by rw [h1, h2]; rfl, rfl⟩
theorem above_any (op : Int) (w : World) :
    Calls Tryz.prog 72 #[.int .i64 op] w fun e w' => e = .returned (.tuple #[.bool (op == 4 || op == 5), .bool (op == 5)]) ∧ w = w' := by
  rcases side_ways op 4 5 (by decide) with ⟨h1, h2⟩ | ⟨h1, h2⟩ | ⟨h1, h2⟩
  all_goals
    go_enter Tryz.func72, Tryz.ntmps72
    go_wp2
    go_ret2
    exact ⟨by rw [h1, h2]; rfl, rfl⟩
end Go.Proofs.YtceplbanfpnhbaaGreatDoor.Val
end

section
/- PLAIN LAW OF Compare: what it answers both ways round, and of three values. No program in sight. -/
namespace Go.Proofs.YtceplbanfpnhbaaGreatDoor.Val
open Flt
theorem cb_range : ∀ (a b : List UInt8), Lib.compareBytes a b = -1 ∨ Lib.compareBytes a b = 0 ∨ Lib.compareBytes a b = 1
  | [], [] => by simp [Lib.compareBytes]
  | [], _ :: _ => by simp [Lib.compareBytes]
  | _ :: _, [] => by simp [Lib.compareBytes]
  | a :: ar, b :: bs => by
    unfold Lib.compareBytes
    by_cases h : a < b
    · rw [if_pos h]; simp
    · rw [if_neg h]
      by_cases h' : b < a
      · rw [if_pos h']; simp
      · rw [if_neg h']; exact cb_range ar bs
theorem cb_swap : ∀ (a b : List UInt8), Lib.compareBytes b a = -Lib.compareBytes a b
  | [], [] => by simp [Lib.compareBytes]
  | [], _ :: _ => by simp [Lib.compareBytes]
  | _ :: _, [] => by simp [Lib.compareBytes]
  | a :: ar, b :: bs => by
    unfold Lib.compareBytes
    have h0 : a < b → ¬ b < a := fun h h' => by rw [UInt8.lt_iff_toNat_lt] at h h'; omega
    by_cases h : a < b
    · rw [if_pos h, if_neg (h0 h), if_pos h]; rfl
    · by_cases h' : b < a
      · simp only [if_neg h, if_pos h']
      · rw [if_neg h, if_neg h', if_neg h', if_neg h]; exact cb_swap ar bs
theorem sgn_range (a b : Bool) : sgn a b = -1 ∨ sgn a b = 0 ∨ sgn a b = 1 := by
  unfold sgn; cases a <;> cases b <;> simp
theorem sgn_swap (a b : Bool) (h : (a && b) = false) : sgn b a = -sgn a b := by
  unfold sgn; cases a <;> cases b <;> simp_all
theorem cmp_range (a b : V) : cmp a b = -1 ∨ cmp a b = 0 ∨ cmp a b = 1 := by
  unfold cmp
  split
  · exact sgn_range _ _
  · split
    · exact sgn_range _ _
    · split
      · exact cb_range _ _
      · exact sgn_range _ _
theorem dec_apart (p q : Prop) [Decidable p] [Decidable q] (h : ¬ (p ∧ q)) : (decide p && decide q) = false := by
  rw [Bool.eq_false_iff]; intro h'; simp only [Bool.and_eq_true, decide_eq_true_eq] at h'; exact h h'
theorem cmp_swap (a b : V) (hk : a.kind = b.kind) : cmp b a = -cmp a b := by
  unfold cmp
  rw [← hk]
  split
  · exact sgn_swap _ _ (dec_apart _ _ (by omega))
  · split
    · refine sgn_swap _ _ ?_
      unfold Flt.lt
      cases nan a.num <;> cases nan b.num <;> simp
      omega
    · split
      · exact cb_swap _ _
      · unfold sgn; cases a.yes <;> cases b.yes <;> rfl
theorem cmpOk_comm (a b : V) : cmpOk b a = cmpOk a b := by
  unfold cmpOk
  have : (b.kind == a.kind) = (a.kind == b.kind) := by rw [Bool.eq_iff_iff]; simp only [beq_iff_eq]; exact eq_comm
  rw [this]
  cases (a.kind == b.kind) <;> cases voidB a <;> cases voidB b <;> rfl
/-- what the document asks -/
def wantB (a b : V) : Bool := a.kind == b.kind && !(a.kind == 1 && (nan a.num || nan b.num))
theorem cmpOk_want (a b : V) : cmpOk a b = wantB a b := by
  unfold cmpOk wantB voidB
  cases h : (a.kind == b.kind)
  · rfl
  · have : b.kind = a.kind := by simpa using (beq_iff_eq.1 h).symm
    rw [this]
    cases (a.kind == 1) <;> cases nan a.num <;> cases nan b.num <;> rfl
def lessB (a b : V) : Bool := if a.kind == 0 then decide (a.int < b.int) else if a.kind == 1 then Flt.lt a.num b.num else if a.kind == 2 then decide (Lib.compareBytes a.text b.text < 0) else (!a.yes && b.yes)
def eqB (a b : V) : Bool := if a.kind == 0 then a.int == b.int else if a.kind == 1 then Flt.eq a.num b.num else if a.kind == 2 then a.text == b.text else a.yes == b.yes
/-- the three ways of two values that may be held against one another -/
theorem cmp_three (a b : V) (hk : a.kind = b.kind) (v1 : voidB a = false) (v2 : voidB b = false) (h1 : a.num < 18446744073709551616) (h2 : b.num < 18446744073709551616) :
    (cmp1 a b = -1 ∧ cmp1 b a = 1 ∧ lessB a b = true ∧ eqB a b = false ∧ sameB a b = false) ∨
    (cmp1 a b = 0 ∧ cmp1 b a = 0 ∧ lessB a b = false ∧ eqB a b = true ∧ sameB a b = true) ∨
    (cmp1 a b = 1 ∧ cmp1 b a = -1 ∧ lessB a b = false ∧ eqB a b = false ∧ sameB a b = false) := by
  have ok := cmpOk_of hk v1 v2
  have ok2 : cmpOk b a = true := by rw [cmpOk_comm]; exact ok
  have e1 : cmp1 a b = cmp a b := by unfold cmp1; rw [ok]; rfl
  have e2 : cmp1 b a = cmp b a := by unfold cmp1; rw [ok2]; rfl
  have hs := same_cmp a b hk v1 v2 h1 h2
  have hw := cmp_swap a b hk
  have hr := cmp_range a b
  have hl : lessB a b = decide (cmp a b < 0) := by
    unfold lessB cmp
    unfold voidB at v1 v2
    rw [← hk] at v2
    by_cases k0 : a.kind = 0
    · have := (sgn_spec a.int b.int).1
      simp only [k0]
      rw [Bool.eq_iff_iff]; simpa using this.symm
    by_cases k1 : a.kind = 1
    · have n1 : nan a.num = false := by simpa [k1] using v1
      have n2 : nan b.num = false := by simpa [k1] using v2
      have := (sgn_spec (sk a.num) (sk b.num)).1
      simp only [k1, Flt.lt, n1, n2]
      rw [Bool.eq_iff_iff]
      simpa using this.symm
    by_cases k2 : a.kind = 2
    · simp only [k2]; rfl
    have q0 : (a.kind == 0) = false := by simpa using k0
    have q1 : (a.kind == 1) = false := by simpa using k1
    have q2 : (a.kind == 2) = false := by simpa using k2
    simp only [q0, q1, q2, Bool.false_eq_true, if_false]
    unfold sgn
    cases a.yes <;> cases b.yes <;> rfl
  have he : eqB a b = sameB a b := by
    unfold eqB sameB
    unfold voidB at v1 v2
    rw [← hk] at v2
    have hkk : (a.kind == b.kind) = true := by rw [beq_iff_eq]; exact hk
    rw [hkk, Bool.true_and]
    by_cases k1 : a.kind = 1
    · have n1 : nan a.num = false := by simpa [k1] using v1
      have n2 : nan b.num = false := by simpa [k1] using v2
      have hq := Ord.key_eq_iff h1 h2 n1 n2
      simp only [k1, Flt.eq, n1, n2, Ord.same]
      rw [Bool.eq_iff_iff]
      simp [hq]
    · have q1 : (a.kind == 1) = false := by simpa using k1
      simp only [q1]
      rfl
  rw [e1] at hs
  rw [e1, e2, hw, hl, he, hs]
  rcases hr with h | h | h <;> rw [h] <;> decide
/-- of three values -/
theorem cmp_triple (a b c : V) (h1 : cmpOk a b = true) (h2 : cmpOk b c = true) : cmpOk a c = true ∧ Ord3 (cmp1 a b) (cmp1 b c) (cmp1 a c) := by
  obtain ⟨k1, a1, b1⟩ := cmpOk_parts h1
  obtain ⟨k2, b2, c2⟩ := cmpOk_parts h2
  have h3 := cmpOk_of (k1.trans k2) a1 c2
  refine ⟨h3, ?_⟩
  have e1 : cmp1 a b = cmp a b := by unfold cmp1; rw [h1]; rfl
  have e2 : cmp1 b c = cmp b c := by unfold cmp1; rw [h2]; rfl
  have e3 : cmp1 a c = cmp a c := by unfold cmp1; rw [h3]; rfl
  rw [e1, e2, e3]
  exact cmp_ord a b c k1 k2 a1 b1 c2
/-- what the law of three values asks -/
theorem triple_ways (a b c : V) (h1 : cmpOk a b = true) (h2 : cmpOk b c = true) :
    ∃ x y z : Int, cmp1 a b = x ∧ cmp1 b c = y ∧ cmp1 a c = z ∧ (x = -1 ∨ x = 0 ∨ x = 1) ∧ (y = -1 ∨ y = 0 ∨ y = 1) ∧ (z = -1 ∨ z = 0 ∨ z = 1) ∧ (x ≤ 0 → y ≤ 0 → z ≤ 0 ∧ (z < 0 ↔ (x < 0 ∨ y < 0))) := by
  obtain ⟨h3, o1, o2, o3, o4, o5⟩ := cmp_triple a b c h1 h2
  have e1 : cmp1 a b = cmp a b := by unfold cmp1; rw [h1]; rfl
  have e2 : cmp1 b c = cmp b c := by unfold cmp1; rw [h2]; rfl
  have e3 : cmp1 a c = cmp a c := by unfold cmp1; rw [h3]; rfl
  refine ⟨_, _, _, rfl, rfl, rfl, by rw [e1]; exact cmp_range _ _, by rw [e2]; exact cmp_range _ _, by rw [e3]; exact cmp_range _ _, fun p q => ?_⟩
  omega
theorem ok_false {a b : V} (h : cmpOk a b = false) : cmp1 a b = 0 := by unfold cmp1; rw [h]; rfl
theorem bless_cmp : ∀ (a b : List UInt8), Op.bytesLess a b = decide (Lib.compareBytes a b < 0)
  | [], [] => by simp [Op.bytesLess, Lib.compareBytes]
  | _ :: _, [] => by simp [Op.bytesLess, Lib.compareBytes]
  | [], _ :: _ => by simp [Op.bytesLess, Lib.compareBytes]
  | a :: x, b :: y => by
    have ih := bless_cmp x y
    unfold Op.bytesLess Lib.compareBytes
    by_cases h : a < b
    · simp [h]
    · by_cases h2 : b < a
      · have hne : (a == b) = false := by
          rw [beq_eq_false_iff_ne]; intro e; subst e; exact absurd h2 (UInt8.lt_irrefl _)
        simp [h, h2, hne]
      · have e : a = b := by
          rw [UInt8.lt_iff_toNat_lt] at h h2
          exact UInt8.toNat_inj.1 (by omega)
        subst e
        simp [h, ih]
end Go.Proofs.YtceplbanfpnhbaaGreatDoor.Val
end

section
/- THE WALKS OF value.Canon and cond.Canon. -/
namespace Go.Proofs.YtceplbanfpnhbaaGreatDoor.Val
open Go.RowKit Flt
attribute [local go_sem] run_store_flt
def canonV (v : V) : V := if v.kind == 0 then ⟨0, v.int, 0, [], false⟩ else if v.kind == 1 then ⟨1, 0, Ord.canon v.num, [], false⟩ else if v.kind == 2 then ⟨2, 0, 0, v.text, false⟩ else if v.kind == 3 then ⟨3, 0, 0, [], v.yes⟩ else ⟨0, 0, 0, [], false⟩
/-- a value's own form -/
abbrev vv (v : V) : Value := val v.kind v.int v.num v.text v.yes
abbrev cc (c : C) : Value := cond c.name c.op c.val.kind c.val.int c.val.num c.val.text c.val.yes
def canonC (c : C) : C := if c.op == 7 then ⟨c.name, 7, 0, 0, 0, [], false⟩ else ⟨c.name, c.op, canonV c.val⟩
theorem kind_ways (k : Int) : (k == 0) = true ∨ ((k == 0) = false ∧ (k == 1) = true) ∨ ((k == 0) = false ∧ (k == 1) = false ∧ (k == 2) = true) ∨ ((k == 0) = false ∧ (k == 1) = false ∧ (k == 2) = false ∧ (k == 3) = true) ∨ ((k == 0) = false ∧ (k == 1) = false ∧ (k == 2) = false ∧ (k == 3) = false) := by
  cases h0 : (k == 0) <;> cases h1 : (k == 1) <;> cases h2 : (k == 2) <;> cases h3 : (k == 3) <;> simp
theorem ret_vv {a b : V} (h : a = b) : Ending.returned (vv a) = .returned (vv b) := by rw [h]
theorem ret_cc {a b : C} (h : a = b) : Ending.returned (cc a) = .returned (cc b) := by rw [h]
set_option maxHeartbeats 400000 in
theorem vcanon_any (k n : Int) (x : Nat) (t : List UInt8) (y : Bool) (w : World) :
    Calls Tryz.prog 43 #[val k n x t y] w fun e w' => e = .returned (vv (canonV ⟨k, n, x, t, y⟩)) ∧ Below w.heap.size w w' := by
  have hr : canonV ⟨k, n, x, t, y⟩ = if k == 0 then ⟨0, n, 0, [], false⟩ else if k == 1 then ⟨1, 0, Ord.canon x, [], false⟩ else if k == 2 then ⟨2, 0, 0, t, false⟩ else if k == 3 then ⟨3, 0, 0, [], y⟩ else ⟨0, 0, 0, [], false⟩ := rfl
  have HR := Lib.hid hr; clear hr
  rcases kind_ways k with h0 | ⟨h0, h1⟩ | ⟨h0, h1, h2⟩ | ⟨h0, h1, h2, h3⟩ | ⟨h0, h1, h2, h3⟩
  all_goals
    go_enter Tryz.func43, Tryz.ntmps43
    go_wp2_with (go_at_call 77; refine (Ord.canon_any _ _).mono ?_; rintro e w' ⟨rfl, rfl⟩)
    go_returns
    exact ⟨by rw [HR.out]; simp only [*, Bool.false_eq_true, if_false, if_true], by repeat (first | assumption | (with_reducible exact Below.refl _ _) | exact balloc _ _ | exact balloc2 _ _ _ | refine btrans ?_ (by assumption) | refine btrans ?_ (balloc _ _))⟩
theorem bdrew0 {w a : World} (h : Below w.drew.heap.size w.drew a) : Below w.heap.size w a := (bdrewN (Below.refl _ _) 1).trans h
theorem set7_far (w : World) (b b' o : Nat) (v0 v1 v2 v3 v4 v5 v6 : Value) (h : b ≠ b') : (((((((w.setCell ⟨b, 0, none⟩ v0).setCell ⟨b, 1, none⟩ v1).setCell ⟨b, 2, none⟩ v2).setCell ⟨b, 3, none⟩ v3).setCell ⟨b, 4, none⟩ v4).setCell ⟨b, 5, none⟩ v5).setCell ⟨b, 6, none⟩ v6).cell? ⟨b', o, none⟩ = w.cell? ⟨b', o, none⟩ :=
  World.cell?_setCells_out b [v0, v1, v2, v3, v4, v5, v6] 0 w ⟨b', o, none⟩ (fun h1 => absurd h1.symm h)
theorem set7_at (w : World) (b : Nat) (v0 v1 v2 v3 v4 v5 v6 : Value) (h : ∀ j, j < 7 → (w.cell? ⟨b, j, none⟩).isSome = true) :
    (((((((w.setCell ⟨b, 0, none⟩ v0).setCell ⟨b, 1, none⟩ v1).setCell ⟨b, 2, none⟩ v2).setCell ⟨b, 3, none⟩ v3).setCell ⟨b, 4, none⟩ v4).setCell ⟨b, 5, none⟩ v5).setCell ⟨b, 6, none⟩ v6).cell? ⟨b, 0, none⟩ = some v0 ∧
    (((((((w.setCell ⟨b, 0, none⟩ v0).setCell ⟨b, 1, none⟩ v1).setCell ⟨b, 2, none⟩ v2).setCell ⟨b, 3, none⟩ v3).setCell ⟨b, 4, none⟩ v4).setCell ⟨b, 5, none⟩ v5).setCell ⟨b, 6, none⟩ v6).cell? ⟨b, 1, none⟩ = some v1 ∧
    (((((((w.setCell ⟨b, 0, none⟩ v0).setCell ⟨b, 1, none⟩ v1).setCell ⟨b, 2, none⟩ v2).setCell ⟨b, 3, none⟩ v3).setCell ⟨b, 4, none⟩ v4).setCell ⟨b, 5, none⟩ v5).setCell ⟨b, 6, none⟩ v6).cell? ⟨b, 2, none⟩ = some v2 ∧
    (((((((w.setCell ⟨b, 0, none⟩ v0).setCell ⟨b, 1, none⟩ v1).setCell ⟨b, 2, none⟩ v2).setCell ⟨b, 3, none⟩ v3).setCell ⟨b, 4, none⟩ v4).setCell ⟨b, 5, none⟩ v5).setCell ⟨b, 6, none⟩ v6).cell? ⟨b, 3, none⟩ = some v3 ∧
    (((((((w.setCell ⟨b, 0, none⟩ v0).setCell ⟨b, 1, none⟩ v1).setCell ⟨b, 2, none⟩ v2).setCell ⟨b, 3, none⟩ v3).setCell ⟨b, 4, none⟩ v4).setCell ⟨b, 5, none⟩ v5).setCell ⟨b, 6, none⟩ v6).cell? ⟨b, 4, none⟩ = some v4 ∧
    (((((((w.setCell ⟨b, 0, none⟩ v0).setCell ⟨b, 1, none⟩ v1).setCell ⟨b, 2, none⟩ v2).setCell ⟨b, 3, none⟩ v3).setCell ⟨b, 4, none⟩ v4).setCell ⟨b, 5, none⟩ v5).setCell ⟨b, 6, none⟩ v6).cell? ⟨b, 5, none⟩ = some v5 ∧
    (((((((w.setCell ⟨b, 0, none⟩ v0).setCell ⟨b, 1, none⟩ v1).setCell ⟨b, 2, none⟩ v2).setCell ⟨b, 3, none⟩ v3).setCell ⟨b, 4, none⟩ v4).setCell ⟨b, 5, none⟩ v5).setCell ⟨b, 6, none⟩ v6).cell? ⟨b, 6, none⟩ = some v6 ∧
    Below b w (((((((w.setCell ⟨b, 0, none⟩ v0).setCell ⟨b, 1, none⟩ v1).setCell ⟨b, 2, none⟩ v2).setCell ⟨b, 3, none⟩ v3).setCell ⟨b, 4, none⟩ v4).setCell ⟨b, 5, none⟩ v5).setCell ⟨b, 6, none⟩ v6) := by
  have e := World.cell?_setCells_in b [v0, v1, v2, v3, v4, v5, v6] 0 w (fun j hj => by rw [Nat.zero_add]; exact h j hj)
  exact ⟨e 0 (by simp), e 1 (by simp), e 2 (by simp), e 3 (by simp), e 4 (by simp), e 5 (by simp), e 6 (by simp),
    (((((((Below.refl b w).setCell (Nat.le_refl _) _).setCell (Nat.le_refl _) _).setCell (Nat.le_refl _) _).setCell (Nat.le_refl _) _).setCell (Nat.le_refl _) _).setCell (Nat.le_refl _) _).setCell (Nat.le_refl _) _⟩
set_option maxHeartbeats 400000 in
theorem ccanon_any (nm : List UInt8) (op k n : Int) (x : Nat) (t : List UInt8) (y : Bool) (w : World) :
    Calls Tryz.prog 63 #[cond nm op k n x t y] w fun e w' => e = .returned (cc (canonC ⟨nm, op, k, n, x, t, y⟩)) ∧ Below w.heap.size w w' := by
  have hr : canonC ⟨nm, op, k, n, x, t, y⟩ = if op == 7 then ⟨nm, 7, 0, 0, 0, [], false⟩ else ⟨nm, op, canonV ⟨k, n, x, t, y⟩⟩ := rfl
  have hv (w : World) := vcanon_any k n x t y w
  generalize canonV ⟨k, n, x, t, y⟩ = cv at *
  obtain ⟨k', n', x', t', y'⟩ := cv
  have HR := Lib.hid hr; have HV := Lib.hid hv; clear hr hv
  cases h7 : (op == 7)
  rotate_left
  · go_enter Tryz.func63, Tryz.ntmps63
    go_wp2
    go_returns
    exact ⟨by rw [HR.out, h7]; rfl, by repeat (first | assumption | (with_reducible exact Below.refl _ _) | exact balloc _ _ | exact balloc2 _ _ _ | refine btrans ?_ (by assumption) | refine btrans ?_ (balloc _ _))⟩
  · go_enter Tryz.func63, Tryz.ntmps63
    go_wp2_with fail
    refine wp_region_held_drew (S := (fun w' => ∀ o, w'.cell? ⟨w.heap.size, o, none⟩ = #[(.string ⟨nm.toArray⟩), (.int .i64 op), (.int .i64 k), (.int .i64 n), (.float .f64 x), (.string ⟨t.toArray⟩), (.bool y)][o]?)) (by kernel_rfl) ?_ (fun hq0 => ?_)
    · ((try dsimp only); (first | (intro o; simp; done) | (intro o; rw [hc _ _ (by simp; omega)]; simp; done) | (intro o; refine (set7_far _ _ _ _ _ _ _ _ _ _ _ (by simp)).trans ?_; rw [hc _ _ (by simp; omega)]; simp)))
    (refine wpAnyH_take (i := 0) (oi := ?_) (v := ?_) ?_ (by kernel_rfl) (by kernel_rfl) (by kernel_rfl) ?_ (Or.inl ⟨?_, ?_⟩) (by assumption) ?_; rotate_left 2; (· (simp only [List.getElem?_toArray, List.getElem?_cons_zero]; first | done | rfl)); (· exact (fun _ _ _ h => h)); (· rfl); (· (intro w hSw; (try dsimp only at hSw); go_simp; (try with_reducible rfl))))
    (try simp only [Act.put, List.setIfInBounds_toArray, List.set_cons_zero, List.set_cons_succ])
    (refine wpAnyH_take (i := 1) (oi := ?_) (v := ?_) ?_ (by kernel_rfl) (by kernel_rfl) (by kernel_rfl) ?_ (Or.inl ⟨?_, ?_⟩) (by assumption) ?_; rotate_left 2; (· (simp only [List.getElem?_toArray, List.getElem?_cons_succ, List.getElem?_cons_zero]; first | done | rfl)); (· exact (fun _ _ _ h => h)); (· rfl); (· (intro w hSw; (try dsimp only at hSw); go_simp; (try with_reducible rfl))))
    (try simp only [Act.put, List.setIfInBounds_toArray, List.set_cons_zero, List.set_cons_succ])
    (refine wpAnyH_take (i := 2) (oi := ?_) (v := ?_) ?_ (by kernel_rfl) (by kernel_rfl) (by kernel_rfl) ?_ (Or.inl ⟨?_, ?_⟩) (by assumption) ?_; rotate_left 2; (· (simp only [List.getElem?_toArray, List.getElem?_cons_succ, List.getElem?_cons_zero]; first | done | rfl)); (· exact (fun _ _ _ h => h)); (· rfl); (· (intro w hSw; (try dsimp only at hSw); go_simp; (try with_reducible rfl))))
    (try simp only [Act.put, List.setIfInBounds_toArray, List.set_cons_zero, List.set_cons_succ])
    (refine wpAnyH_take (i := 3) (oi := ?_) (v := ?_) ?_ (by kernel_rfl) (by kernel_rfl) (by kernel_rfl) ?_ (Or.inl ⟨?_, ?_⟩) (by assumption) ?_; rotate_left 2; (· (simp only [List.getElem?_toArray, List.getElem?_cons_succ, List.getElem?_cons_zero]; first | done | rfl)); (· exact (fun _ _ _ h => h)); (· rfl); (· (intro w hSw; (try dsimp only at hSw); go_simp; (try with_reducible rfl))))
    (try simp only [Act.put, List.setIfInBounds_toArray, List.set_cons_zero, List.set_cons_succ])
    (refine wpAnyH_take (i := 4) (oi := ?_) (v := ?_) ?_ (by kernel_rfl) (by kernel_rfl) (by kernel_rfl) ?_ (Or.inl ⟨?_, ?_⟩) (by assumption) ?_; rotate_left 2; (· (simp only [List.getElem?_toArray, List.getElem?_cons_succ, List.getElem?_cons_zero]; first | done | rfl)); (· exact (fun _ _ _ h => h)); (· rfl); (· (intro w hSw; (try dsimp only at hSw); go_simp; (try with_reducible rfl))))
    (try simp only [Act.put, List.setIfInBounds_toArray, List.set_cons_zero, List.set_cons_succ])
    (refine wpAnyH_take (i := 5) (oi := ?_) (v := ?_) ?_ (by kernel_rfl) (by kernel_rfl) (by kernel_rfl) ?_ (Or.inl ⟨?_, ?_⟩) (by assumption) ?_; rotate_left 2; (· (simp only [List.getElem?_toArray, List.getElem?_cons_succ, List.getElem?_cons_zero]; first | done | rfl)); (· exact (fun _ _ _ h => h)); (· rfl); (· (intro w hSw; (try dsimp only at hSw); go_simp; (try with_reducible rfl))))
    (try simp only [Act.put, List.setIfInBounds_toArray, List.set_cons_zero, List.set_cons_succ])
    refine wpAnyH_ready (rs := [6]) (by kernel_rfl) (by simp) ?_
    refine AllReadyH.cons (o := ?_) ?_ (fun K hK => ?_) AllReadyH.nil
    rotate_left 1
    · (simp only [List.getElem?_toArray, List.getElem?_cons_succ, List.getElem?_cons_zero]; first | done | rfl)
    go_simp
    first | (refine hK.out _ _ ?_ (fun hq1 => ?_)) | ((go_at_call 43; refine (HV.out _).mono ?_; rintro e w1 ⟨rfl, hb⟩; obtain ⟨hc, hf⟩ := bcell hb); refine hK.out _ _ ?_ (fun hq1 => ?_)) | ((go_at_call 43; refine (HV.out _).mono ?_; rintro e w1 ⟨rfl, hb⟩; obtain ⟨hc, hf⟩ := bcell hb); go_wp2_with fail; refine hK.out _ _ ?_ (fun hq1 => ?_)) | fail
    · ((try dsimp only); (first | (intro o; simp; done) | (intro o; rw [hc _ _ (by simp; omega)]; simp; done) | (intro o; refine (set7_far _ _ _ _ _ _ _ _ _ _ _ (by simp)).trans ?_; rw [hc _ _ (by simp; omega)]; simp)))
    clear hK K
    (try simp only [Act.put, List.setIfInBounds_toArray, List.set_cons_zero, List.set_cons_succ])
    clear hq0
    (refine wpAnyH_take (i := 7) (oi := ?_) (v := ?_) ?_ (by kernel_rfl) (by kernel_rfl) (by kernel_rfl) ?_ (Or.inl ⟨?_, ?_⟩) (by assumption) ?_; rotate_left 2; (· (simp only [List.getElem?_toArray, List.getElem?_cons_succ, List.getElem?_cons_zero]; first | done | rfl)); (· exact (fun _ _ _ h => h)); (· rfl); (· (intro w hSw; (try dsimp only at hSw); go_simp; (try with_reducible rfl))))
    (try simp only [Act.put, List.setIfInBounds_toArray, List.set_cons_zero, List.set_cons_succ])
    refine wpAnyH_ready (rs := [8]) (by kernel_rfl) (by simp) ?_
    refine AllReadyH.cons (o := ?_) ?_ (fun K hK => ?_) AllReadyH.nil
    rotate_left 1
    · (simp only [List.getElem?_toArray, List.getElem?_cons_succ, List.getElem?_cons_zero]; first | done | rfl)
    go_simp
    first | (refine hK.out _ _ ?_ (fun hq2 => ?_)) | ((go_at_call 43; refine (HV.out _).mono ?_; rintro e w1 ⟨rfl, hb⟩; obtain ⟨hc, hf⟩ := bcell hb); refine hK.out _ _ ?_ (fun hq2 => ?_)) | ((go_at_call 43; refine (HV.out _).mono ?_; rintro e w1 ⟨rfl, hb⟩; obtain ⟨hc, hf⟩ := bcell hb); go_wp2_with fail; refine hK.out _ _ ?_ (fun hq2 => ?_)) | fail
    · ((try dsimp only); (first | (intro o; simp; done) | (intro o; rw [hc _ _ (by simp; omega)]; simp; done) | (intro o; refine (set7_far _ _ _ _ _ _ _ _ _ _ _ (by simp)).trans ?_; rw [hc _ _ (by simp; omega)]; simp)))
    clear hK K
    (try simp only [Act.put, List.setIfInBounds_toArray, List.set_cons_zero, List.set_cons_succ])
    clear hq1
    refine wpAnyH_done (by kernel_rfl) ?_ _
    go_wp2
    obtain ⟨e0, e1, e2, e3, e4, e5, e6, hb2⟩ := set7_at w1 (w.heap.size + 1) (.string ⟨nm.toArray⟩) (.int .i64 op) (.int .i64 k') (.int .i64 n') (.float .f64 x') (.string ⟨t'.toArray⟩) (.bool y') (fun j hj => by rw [hc _ _ (by simp)]; simp; omega)
    generalize World.setCell _ _ _ = W2 at *
    refine bodyPost_ret (v := cond nm op k' n' x' t' y') (by simp [results, Tryz.results63, go_sem, e0, e1, e2, e3, e4, e5, e6]; try rfl) rfl ?_
    exact ⟨by rw [HR.out, h7]; rfl, (btrans (balloc2 _ _ _) (bdrew0 hb)).trans (hb2.mono (by omega))⟩
theorem canonV_kind (v : V) (h0 : 0 ≤ v.kind) (h3 : v.kind ≤ 3) : (canonV v).kind = v.kind := by
  unfold canonV
  rcases kind_ways v.kind with h | ⟨h, h1⟩ | ⟨h, h1, h2⟩ | ⟨h, h1, h2, h3⟩ | ⟨h, h1, h2, h3⟩
  · simp only [h, if_true]; exact (beq_iff_eq.1 h).symm
  · simp only [h, h1, Bool.false_eq_true, if_false, if_true]; exact (beq_iff_eq.1 h1).symm
  · simp only [h, h1, h2, Bool.false_eq_true, if_false, if_true]; exact (beq_iff_eq.1 h2).symm
  · simp only [h, h1, h2, h3, Bool.false_eq_true, if_false, if_true]; exact (beq_iff_eq.1 h3).symm
  · simp at h h1 h2 h3; omega
theorem canonV_void (v : V) : voidB (canonV v) = voidB v := by
  unfold canonV voidB
  rcases kind_ways v.kind with h | ⟨h, h1⟩ | ⟨h, h1, h2⟩ | ⟨h, h1, h2, h3⟩ | ⟨h, h1, h2, h3⟩
  · have : (v.kind == 1) = false := by rw [beq_iff_eq] at h; rw [h]; rfl
    simp [h, this]
  · simp [h, h1, Ord.canon_nan]
  · simp [h, h1, h2]
  · simp [h, h1, h2, h3]
  · simp [h, h1, h2, h3]
theorem canonC_void (c : C) (h0 : 0 ≤ c.val.kind) (h3 : c.val.kind ≤ 3) : cvoidB (canonC c) = cvoidB c := by
  unfold canonC cvoidB
  cases h7 : (c.op == 7)
  · have : (c.op != 7) = true := by rw [bne, h7]; rfl
    simp [this, canonV_void, canonV_kind _ h0 h3]
  · have : c.op = 7 := by simpa using h7
    simp [this]
end Go.Proofs.YtceplbanfpnhbaaGreatDoor.Val
end

section
/- THE WALKS OF value.Of, at things of each kind and at others; '==' on values. -/
namespace Go.Proofs.YtceplbanfpnhbaaGreatDoor.Val
open Go.RowKit Flt
attribute [local go_sem] run_store_flt Ord.ford_eq
namespace Vt
theorem run_equalIn_flt {P : Program} (w : World) (d : Nat) (t : TypeId) (a b : Nat) (h : P.underlying t = some (.float .f64)) : (Op.equalIn (d + 1) t (.float .f64 a) (.float .f64 b)).run P w = .ok (Flt.eq a b) w := by
  simp [Op.equalIn, run_underlying h, Op.floatEq, Ord.ford_eq]
theorem eqF0 (w : World) : (Op.equalIn 9999 27 (.float .f64 0) (.float .f64 0)).run Tryz.prog w = .ok true w := by
  rw [run_equalIn_flt w 9998 _ 0 0 Tryz.underlying27, show Flt.eq 0 0 = true by decide +kernel]
set_option maxRecDepth 20000 in
theorem eq_int (n : Int) (w : World) : (Op.equalIn 10000 29 (val 0 n 0 [] false) (val 0 n 0 [] false)).run Tryz.prog w = .ok true w := by
  have hS : Tryz.prog.underlying 29 = some (.struct (Tryz.prog.fieldsOf 29)) := by kernel_rfl
  have hp : Tryz.prog.stoodInHeld 29 = false := by kernel_rfl
  have hf := eqF0
  rw [show (10000 : Nat) = 9999 + 1 from rfl, run_equalIn_agg w 9999 29 _ _ hS hp]
  simp only [Program.fieldsOf, Tryz.underlying29]
  go_simp
end Vt
set_option maxRecDepth 20000 in
theorem of_int (n : Int) (w : World) : Calls Tryz.prog 42 #[.iface 3 (.int .i64 n)] w fun e w' => e = .returned (.tuple #[val 0 n 0 [] false, .bool true]) ∧ Below w.heap.size w w' := by
  have h0 : ∀ w, (Instr.typeAssert (.iface 3 (.int .i64 n)) 20 3 true).run Tryz.prog w = .ok (.tuple #[.int .i64 n, .bool true]) w := fun _ => by kernel_rfl
  (go_enter Tryz.func42, Tryz.ntmps42; go_wp2_with (go_at_call 77; refine (Ord.canon_any _ _).mono ?_; rintro e w' ⟨rfl, rfl⟩); go_returns; exact ⟨rfl, by repeat (first | assumption | (with_reducible exact Below.refl _ _) | exact balloc _ _ | exact balloc2 _ _ _ | refine btrans ?_ (by assumption) | refine btrans ?_ (balloc _ _))⟩)
set_option maxRecDepth 20000 in
theorem of_int64 (n : Int) (w : World) : Calls Tryz.prog 42 #[.iface 2 (.int .i64 n)] w fun e w' => e = .returned (.tuple #[val 0 n 0 [] false, .bool true]) ∧ Below w.heap.size w w' := by
  have h0 : ∀ w, (Instr.typeAssert (.iface 2 (.int .i64 n)) 20 3 true).run Tryz.prog w = .ok (.tuple #[.int .i64 0, .bool false]) w := fun _ => by kernel_rfl
  have h1 : ∀ w, (Instr.typeAssert (.iface 2 (.int .i64 n)) 20 2 true).run Tryz.prog w = .ok (.tuple #[.int .i64 n, .bool true]) w := fun _ => by kernel_rfl
  (go_enter Tryz.func42, Tryz.ntmps42; go_wp2_with (go_at_call 77; refine (Ord.canon_any _ _).mono ?_; rintro e w' ⟨rfl, rfl⟩); go_returns; exact ⟨rfl, by repeat (first | assumption | (with_reducible exact Below.refl _ _) | exact balloc _ _ | exact balloc2 _ _ _ | refine btrans ?_ (by assumption) | refine btrans ?_ (balloc _ _))⟩)
set_option maxRecDepth 20000 in
theorem of_float (x : Nat) (w : World) : Calls Tryz.prog 42 #[.iface 27 (.float .f64 x)] w fun e w' => e = .returned (.tuple #[val 1 0 (Ord.canon x) [] false, .bool true]) ∧ Below w.heap.size w w' := by
  have h0 : ∀ w, (Instr.typeAssert (.iface 27 (.float .f64 x)) 20 3 true).run Tryz.prog w = .ok (.tuple #[.int .i64 0, .bool false]) w := fun _ => by kernel_rfl
  have h1 : ∀ w, (Instr.typeAssert (.iface 27 (.float .f64 x)) 20 2 true).run Tryz.prog w = .ok (.tuple #[.int .i64 0, .bool false]) w := fun _ => by kernel_rfl
  have h2 : ∀ w, (Instr.typeAssert (.iface 27 (.float .f64 x)) 20 27 true).run Tryz.prog w = .ok (.tuple #[.float .f64 x, .bool true]) w := fun _ => by kernel_rfl
  (go_enter Tryz.func42, Tryz.ntmps42; go_wp2_with (go_at_call 77; refine (Ord.canon_any _ _).mono ?_; rintro e w' ⟨rfl, rfl⟩); go_returns; exact ⟨rfl, by repeat (first | assumption | (with_reducible exact Below.refl _ _) | exact balloc _ _ | exact balloc2 _ _ _ | refine btrans ?_ (by assumption) | refine btrans ?_ (balloc _ _))⟩)
set_option maxRecDepth 20000 in
theorem of_text (s : ByteArray) (w : World) : Calls Tryz.prog 42 #[.iface 9 (.string s)] w fun e w' => e = .returned (.tuple #[.agg #[.int .i64 2, .int .i64 0, .float .f64 0, .string s, .bool false], .bool true]) ∧ Below w.heap.size w w' := by
  have h0 : ∀ w, (Instr.typeAssert (.iface 9 (.string s)) 20 3 true).run Tryz.prog w = .ok (.tuple #[.int .i64 0, .bool false]) w := fun _ => by kernel_rfl
  have h1 : ∀ w, (Instr.typeAssert (.iface 9 (.string s)) 20 2 true).run Tryz.prog w = .ok (.tuple #[.int .i64 0, .bool false]) w := fun _ => by kernel_rfl
  have h2 : ∀ w, (Instr.typeAssert (.iface 9 (.string s)) 20 27 true).run Tryz.prog w = .ok (.tuple #[.float .f64 0, .bool false]) w := fun _ => by kernel_rfl
  have h3 : ∀ w, (Instr.typeAssert (.iface 9 (.string s)) 20 9 true).run Tryz.prog w = .ok (.tuple #[.string s, .bool true]) w := fun _ => by kernel_rfl
  (go_enter Tryz.func42, Tryz.ntmps42; go_wp2_with (go_at_call 77; refine (Ord.canon_any _ _).mono ?_; rintro e w' ⟨rfl, rfl⟩); go_returns; exact ⟨rfl, by repeat (first | assumption | (with_reducible exact Below.refl _ _) | exact balloc _ _ | exact balloc2 _ _ _ | refine btrans ?_ (by assumption) | refine btrans ?_ (balloc _ _))⟩)
set_option maxRecDepth 20000 in
theorem of_bool (b : Bool) (w : World) : Calls Tryz.prog 42 #[.iface 4 (.bool b)] w fun e w' => e = .returned (.tuple #[val 3 0 0 [] b, .bool true]) ∧ Below w.heap.size w w' := by
  have h0 : ∀ w, (Instr.typeAssert (.iface 4 (.bool b)) 20 3 true).run Tryz.prog w = .ok (.tuple #[.int .i64 0, .bool false]) w := fun _ => by kernel_rfl
  have h1 : ∀ w, (Instr.typeAssert (.iface 4 (.bool b)) 20 2 true).run Tryz.prog w = .ok (.tuple #[.int .i64 0, .bool false]) w := fun _ => by kernel_rfl
  have h2 : ∀ w, (Instr.typeAssert (.iface 4 (.bool b)) 20 27 true).run Tryz.prog w = .ok (.tuple #[.float .f64 0, .bool false]) w := fun _ => by kernel_rfl
  have h3 : ∀ w, (Instr.typeAssert (.iface 4 (.bool b)) 20 9 true).run Tryz.prog w = .ok (.tuple #[.string ⟨#[]⟩, .bool false]) w := fun _ => by kernel_rfl
  have h4 : ∀ w, (Instr.typeAssert (.iface 4 (.bool b)) 20 4 true).run Tryz.prog w = .ok (.tuple #[.bool b, .bool true]) w := fun _ => by kernel_rfl
  (go_enter Tryz.func42, Tryz.ntmps42; go_wp2_with (go_at_call 77; refine (Ord.canon_any _ _).mono ?_; rintro e w' ⟨rfl, rfl⟩); go_returns; exact ⟨rfl, by repeat (first | assumption | (with_reducible exact Below.refl _ _) | exact balloc _ _ | exact balloc2 _ _ _ | refine btrans ?_ (by assumption) | refine btrans ?_ (balloc _ _))⟩)
set_option maxRecDepth 20000 in
theorem of_none (v : Value) (w : World)
    (h0 : ∀ w, (Instr.typeAssert v 20 3 true).run Tryz.prog w = .ok (.tuple #[.int .i64 0, .bool false]) w)
    (h1 : ∀ w, (Instr.typeAssert v 20 2 true).run Tryz.prog w = .ok (.tuple #[.int .i64 0, .bool false]) w)
    (h2 : ∀ w, (Instr.typeAssert v 20 27 true).run Tryz.prog w = .ok (.tuple #[.float .f64 0, .bool false]) w)
    (h3 : ∀ w, (Instr.typeAssert v 20 9 true).run Tryz.prog w = .ok (.tuple #[.string ⟨#[]⟩, .bool false]) w)
    (h4 : ∀ w, (Instr.typeAssert v 20 4 true).run Tryz.prog w = .ok (.tuple #[.bool false, .bool false]) w) :
    Calls Tryz.prog 42 #[v] w fun e w' => e = .returned (.tuple #[val 0 0 0 [] false, .bool false]) ∧ Below w.heap.size w w' := by
  (go_enter Tryz.func42, Tryz.ntmps42; go_wp2_with (go_at_call 77; refine (Ord.canon_any _ _).mono ?_; rintro e w' ⟨rfl, rfl⟩); go_returns; exact ⟨rfl, by repeat (first | assumption | (with_reducible exact Below.refl _ _) | exact balloc _ _ | exact balloc2 _ _ _ | refine btrans ?_ (by assumption) | refine btrans ?_ (balloc _ _))⟩)
theorem of_nil (w : World) : Calls Tryz.prog 42 #[.nilIface] w fun e w' => e = .returned (.tuple #[val 0 0 0 [] false, .bool false]) ∧ Below w.heap.size w w' :=
  of_none _ w (fun _ => by kernel_rfl) (fun _ => by kernel_rfl) (fun _ => by kernel_rfl) (fun _ => by kernel_rfl) (fun _ => by kernel_rfl)
theorem of_bytes (a : Option Addr) (l c : Nat) (w : World) : Calls Tryz.prog 42 #[.iface 40 (.slice a l c)] w fun e w' => e = .returned (.tuple #[val 0 0 0 [] false, .bool false]) ∧ Below w.heap.size w w' :=
  of_none _ w (fun _ => by kernel_rfl) (fun _ => by kernel_rfl) (fun _ => by kernel_rfl) (fun _ => by kernel_rfl) (fun _ => by kernel_rfl)
theorem of_u8 (n : Int) (w : World) : Calls Tryz.prog 42 #[.iface 5 (.int .u8 n)] w fun e w' => e = .returned (.tuple #[val 0 0 0 [] false, .bool false]) ∧ Below w.heap.size w w' :=
  of_none _ w (fun _ => by kernel_rfl) (fun _ => by kernel_rfl) (fun _ => by kernel_rfl) (fun _ => by kernel_rfl) (fun _ => by kernel_rfl)
end Go.Proofs.YtceplbanfpnhbaaGreatDoor.Val
end

section
/- THE WALK OF the law ValueThings of chapter 02. -/
namespace Go.Proofs.YtceplbanfpnhbaaGreatDoor.Val
open Go.RowKit Flt
attribute [local go_sem] run_store_flt
/-- a box that holds a value -/
def Bx (W : World) (b : Nat) (v : V) : Prop := (W.cell? ⟨b, 0, none⟩ = some (.int .i64 v.kind) ∧ W.cell? ⟨b, 1, none⟩ = some (.int .i64 v.int) ∧ W.cell? ⟨b, 2, none⟩ = some (.float .f64 v.num) ∧ W.cell? ⟨b, 3, none⟩ = some (.string ⟨v.text.toArray⟩) ∧ W.cell? ⟨b, 4, none⟩ = some (.bool v.yes)) ∧ b < W.heap.size
theorem Bx.below {W W2 : World} {b : Nat} {v : V} (h : Bx W b v) (hb : Below W.heap.size W W2) : Bx W2 b v := by
  obtain ⟨⟨h0, h1, h2, h3, h4⟩, hz⟩ := h
  have c : ∀ o, W2.cell? ⟨b, o, none⟩ = W.cell? ⟨b, o, none⟩ := fun o => hb.cell (p := ⟨b, o, none⟩) hz
  exact ⟨⟨(c 0).trans h0, (c 1).trans h1, (c 2).trans h2, (c 3).trans h3, (c 4).trans h4⟩, Nat.lt_of_lt_of_le hz hb.size⟩
theorem bx_new (w : World) (v : V) (T : TypeId) : Bx (w.alloc (.cells #[.int .i64 v.kind, .int .i64 v.int, .float .f64 v.num, .string ⟨v.text.toArray⟩, .bool v.yes] T)) w.heap.size v := by
  have c : ∀ o, (w.alloc (.cells #[.int .i64 v.kind, .int .i64 v.int, .float .f64 v.num, .string ⟨v.text.toArray⟩, .bool v.yes] T)).cell? ⟨w.heap.size, o, none⟩ = #[.int .i64 v.kind, .int .i64 v.int, .float .f64 v.num, .string ⟨v.text.toArray⟩, .bool v.yes][o]? := fun o => World.cell?_alloc_at _ _ _ _ rfl
  exact ⟨⟨c 0, c 1, c 2, c 3, c 4⟩, by simp⟩
theorem conv2_bytes (nm : List UInt8) (w : World) : ∃ (cap : Nat) (W : World), (convert 9 40 (.string ⟨nm.toArray⟩)).run Tryz.prog w = .ok (.slice (some ⟨w.heap.size, 0, none⟩) nm.length cap) W ∧ Below w.heap.size w W := by
  have h := run_bytes_of_string (P := Tryz.prog) w 9 40 5 ⟨nm.toArray⟩ Tryz.underlying9 Tryz.underlying40 Tryz.underlying5
  exact ⟨_, _, h, ((Below.refl w.heap.size w).drew).alloc (Nat.le_refl _) _⟩
theorem and_low (a : Int) (k m : Nat) (hm : m = 2 ^ k - 1) (hk : k < 60) : ∃ A : Nat, A < 2 ^ k ∧ bits .and .i64 a (m : Int) = (A : Int) := by
  have h60 : 2 ^ k ≤ 2 ^ 60 := Nat.pow_le_pow_right (by decide) (by omega)
  have hp : 0 < 2 ^ k := Nat.two_pow_pos k
  refine ⟨(BitVec.ofInt 64 a).toNat &&& m, ?_, ?_⟩
  · rw [hm]; exact Nat.lt_of_le_of_lt Nat.and_le_right (by omega)
  · have hle : (BitVec.ofInt 64 a).toNat &&& m ≤ m := Nat.and_le_right
    have e : (BitVec.ofInt 64 (m : Int)).toNat = m := by
      rw [BitVec.ofInt_natCast, BitVec.toNat_ofNat]; exact Nat.mod_eq_of_lt (by omega)
    show IntKind.i64.wrap ((BitVec.ofInt 64 a &&& BitVec.ofInt 64 (m : Int)).toNat : Int) = _
    rw [BitVec.toNat_and, e]
    generalize (BitVec.ofInt 64 a).toNat &&& m = z at *
    simp only [IntKind.wrap, IntKind.bits, IntKind.signed]; simp; omega
theorem and_three (n : Int) : ∃ k : Nat, k < 4 ∧ bits .and .i64 n 3 = (k : Int) := and_low n 2 3 (by decide) (by decide)
theorem canon_twice (x : Nat) : Ord.canon (Ord.canon x) = Ord.canon x := by
  unfold Ord.canon
  cases h : nan x
  · cases h2 : Ord.zero x
    · simp only [h, h2, Bool.false_eq_true, if_false]
    · simp only [Bool.false_eq_true, if_false, if_true]
      rw [if_neg (by decide), if_pos (by decide)]
  · simp only [if_true]
    rw [if_pos (by decide)]
theorem same_canon (x : Nat) (hx : x < 18446744073709551616) : Ord.same (Ord.canon x) x = true := by
  unfold Ord.same
  rw [beq_iff_eq]
  cases hn : nan x
  · have h1 := Ord.key_of_canon x hx hn
    have h2 := Ord.key_of_canon (Ord.canon x) (Ord.canon_lt x hx) (by rw [Ord.canon_nan]; exact hn)
    rw [canon_twice] at h2
    rw [h1, h2]
  · rw [Ord.key_nan hn, Ord.key_nan (by rw [Ord.canon_nan]; exact hn)]
set_option maxRecDepth 100000 in
set_option maxHeartbeats 8000000 in
theorem things_main (n : Int) (x : Nat) (s : List UInt8) (w : World) (hT : Tab.Tabs w) (hP : Pf.PfT w) (hx : x < 18446744073709551616) (hl : s.length ≤ 300) :
    Calls Tryz.prog 12 #[.int .i64 n, .float .f64 x, .string ⟨s.toArray⟩] w fun e w' => e = .returned (.bool true) ∧ Below w.heap.size w w' := by
  have HT := Lib.hid hT; have HP := Lib.hid hP; clear hT hP
  have g1 : decide (300 < (s.length : Int)) = false := by rw [decide_eq_false_iff_not]; omega
  go_enter Tryz.func12, Tryz.ntmps12
  go_wp2_with fail
  refine (fit02_any _ HT.out HP.out).mono ?_; rintro e w1 ⟨rfl, hb1⟩
  have HB := Lib.hid hb1; clear hb1
  go_wp2_with fail
  refine (of_int _ _).mono ?_; rintro e w2 ⟨rfl, hb2⟩
  replace HB := Lib.hid (btrans HB.out hb2); clear hb2
  go_wp2_with fail
  refine (of_int64 _ _).mono ?_; rintro e w3 ⟨rfl, hb3⟩
  have b7 := (bx_new w2 ⟨0, n, 0, [], false⟩ _).below hb3
  replace HB := Lib.hid (btrans (btrans HB.out (balloc _ _)) hb3); clear hb3
  go_wp2_with fail
  refine (of_float _ _).mono ?_; rintro e w4 ⟨rfl, hb4⟩
  have b9 := (bx_new w3 ⟨0, n, 0, [], false⟩ _).below hb4
  replace b7 := (b7.below (balloc _ _)).below hb4
  replace HB := Lib.hid (btrans (btrans HB.out (balloc _ _)) hb4); clear hb4
  go_wp2_with fail
  refine (of_text _ _).mono ?_; rintro e w5 ⟨rfl, hb5⟩
  have b11 := (bx_new w4 ⟨1, 0, Ord.canon x, [], false⟩ _).below hb5
  replace b7 := (b7.below (balloc _ _)).below hb5
  replace b9 := (b9.below (balloc _ _)).below hb5
  replace HB := Lib.hid (btrans (btrans HB.out (balloc _ _)) hb5); clear hb5
  go_wp2_with fail
  refine (of_bool _ _).mono ?_; rintro e w6 ⟨rfl, hb6⟩
  have b13 := (bx_new w5 ⟨2, 0, 0, s, false⟩ _).below hb6
  replace b7 := (b7.below (balloc _ _)).below hb6
  replace b9 := (b9.below (balloc _ _)).below hb6
  replace b11 := (b11.below (balloc _ _)).below hb6
  replace HB := Lib.hid (btrans (btrans HB.out (balloc _ _)) hb6); clear hb6
  go_wp2_with fail
  refine (of_nil _).mono ?_; rintro e w7 ⟨rfl, hb7⟩
  have b15 := (bx_new w6 ⟨3, 0, 0, [], decide (0 < n)⟩ _).below hb7
  replace b7 := (b7.below (balloc _ _)).below hb7
  replace b9 := (b9.below (balloc _ _)).below hb7
  replace b11 := (b11.below (balloc _ _)).below hb7
  replace b13 := (b13.below (balloc _ _)).below hb7
  replace HB := Lib.hid (btrans (btrans HB.out (balloc _ _)) hb7); clear hb7
  obtain ⟨cap, w8, hrun, hb8⟩ := conv2_bytes s (w7.alloc (.cells #[.int .i64 0, .int .i64 0, .float .f64 0, .string ⟨#[]⟩, .bool false] 29))
  replace b7 := (b7.below (balloc _ _)).below hb8
  replace b9 := (b9.below (balloc _ _)).below hb8
  replace b11 := (b11.below (balloc _ _)).below hb8
  replace b13 := (b13.below (balloc _ _)).below hb8
  replace b15 := (b15.below (balloc _ _)).below hb8
  replace HB := Lib.hid (btrans (btrans HB.out (balloc _ _)) hb8); clear hb8
  go_wp2_with fail
  refine (of_bytes _ _ _ _).mono ?_; rintro e w9 ⟨rfl, hb9⟩
  clear hrun
  replace b7 := b7.below hb9
  replace b9 := b9.below hb9
  replace b11 := b11.below hb9
  replace b13 := b13.below hb9
  replace b15 := b15.below hb9
  replace HB := Lib.hid (btrans HB.out hb9); clear hb9
  go_wp2_with fail
  refine (of_u8 _ _).mono ?_; rintro e w10 ⟨rfl, hb10⟩
  replace b7 := (b7.below (balloc _ _)).below hb10
  replace b9 := (b9.below (balloc _ _)).below hb10
  replace b11 := (b11.below (balloc _ _)).below hb10
  replace b13 := (b13.below (balloc _ _)).below hb10
  replace b15 := (b15.below (balloc _ _)).below hb10
  replace HB := Lib.hid (btrans (btrans HB.out (balloc _ _)) hb10); clear hb10
  obtain ⟨kk, hk3, hk⟩ := and_three n
  have hos := fun w => Ord.same_any (Ord.canon x) x (Ord.canon_lt x hx) hx w
  rw [same_canon x hx] at hos
  have HOS := Lib.hid hos; clear hos
  have heq := Vt.eq_int n
  have hx0 : 0 < 18446744073709551616 := by decide
  obtain ⟨c, hc, hs⟩ : ∃ c : V, (∀ w, Calls Tryz.prog 43 #[val (kk : Int) n x s true] w fun e w' => e = .returned (val c.kind c.int c.num c.text c.yes) ∧ Below w.heap.size w w') ∧
      ((∀ w, Calls Tryz.prog 44 #[val c.kind c.int c.num c.text c.yes, val (kk : Int) n x s true] w fun e w' => e = .returned (.bool true) ∧ Below w.heap.size w w') ∧
      (kk = 0 ∧ c = ⟨0, n, 0, [], false⟩ ∨ kk = 1 ∧ c = ⟨1, 0, Ord.canon x, [], false⟩ ∨ kk = 2 ∧ c = ⟨2, 0, 0, s, false⟩ ∨ kk = 3 ∧ c = ⟨3, 0, 0, [], true⟩)) := by
    have hcl := Ord.canon_lt x hx
    have hsc := same_canon x hx
    have : kk = 0 ∨ kk = 1 ∨ kk = 2 ∨ kk = 3 := by omega
    rcases this with rfl | rfl | rfl | rfl
    · exact ⟨⟨0, n, 0, [], false⟩, fun w => vcanon_any 0 n x s true w, fun w => (same_any 0 n 0 [] false 0 n x s true w hx0 hx).mono fun _ _ ⟨h1, h2⟩ => ⟨by rw [h1]; exact ret_bool (by unfold sameB; simp), h2⟩, .inl ⟨rfl, rfl⟩⟩
    · exact ⟨⟨1, 0, Ord.canon x, [], false⟩, fun w => vcanon_any 1 n x s true w, fun w => (same_any 1 0 (Ord.canon x) [] false 1 n x s true w hcl hx).mono fun _ _ ⟨h1, h2⟩ => ⟨by rw [h1]; exact ret_bool (by unfold sameB; simpa using hsc), h2⟩, .inr (.inl ⟨rfl, rfl⟩)⟩
    · exact ⟨⟨2, 0, 0, s, false⟩, fun w => vcanon_any 2 n x s true w, fun w => (same_any 2 0 0 s false 2 n x s true w hx0 hx).mono fun _ _ ⟨h1, h2⟩ => ⟨by rw [h1]; exact ret_bool (by unfold sameB; simp), h2⟩, .inr (.inr (.inl ⟨rfl, rfl⟩))⟩
    · exact ⟨⟨3, 0, 0, [], true⟩, fun w => vcanon_any 3 n x s true w, fun w => (same_any 3 0 0 [] true 3 n x s true w hx0 hx).mono fun _ _ ⟨h1, h2⟩ => ⟨by rw [h1]; exact ret_bool (by unfold sameB; simp), h2⟩, .inr (.inr (.inr ⟨rfl, rfl⟩))⟩
  obtain ⟨hs, hcw⟩ := hs
  have HC := Lib.hid hc; have HS := Lib.hid hs; clear hc hs hx0
  go_wp2_with fail
  refine (HC.out _).mono ?_; rintro e w11 ⟨rfl, hb11⟩
  have b23 := (bx_new _ ⟨(kk : Int), n, x, s, true⟩ _).below hb11
  replace b7 := ((b7.below (balloc _ _)).below (balloc _ _)).below hb11
  replace b9 := ((b9.below (balloc _ _)).below (balloc _ _)).below hb11
  replace b11 := ((b11.below (balloc _ _)).below (balloc _ _)).below hb11
  replace b13 := ((b13.below (balloc _ _)).below (balloc _ _)).below hb11
  replace b15 := ((b15.below (balloc _ _)).below (balloc _ _)).below hb11
  replace HB := Lib.hid (btrans (btrans (btrans HB.out (balloc _ _)) (balloc _ _)) hb11); clear hb11
  obtain ⟨⟨p0, p1, p2, p3, p4⟩, pz⟩ := b23
  simp only [World.size_alloc] at p0 p1 p2 p3 p4 pz
  have hb24 := bx_new w11 c 29
  rcases hcw with ⟨rfl, rfl⟩ | ⟨rfl, rfl⟩ | ⟨rfl, rfl⟩ | ⟨rfl, rfl⟩
  all_goals
    go_wp2_with fail
    refine (HS.out _).mono ?_; rintro e w12 ⟨rfl, hb12⟩
    obtain ⟨⟨k0, k1, k2, k3, k4⟩, _⟩ := hb24.below hb12
    obtain ⟨⟨s0, s1, s2, s3, s4⟩, _⟩ := (b7.below (balloc _ _)).below hb12
    obtain ⟨⟨r0, r1, r2, r3, r4⟩, _⟩ := (b9.below (balloc _ _)).below hb12
    obtain ⟨⟨t0, t1, t2, t3, t4⟩, _⟩ := (b11.below (balloc _ _)).below hb12
    obtain ⟨⟨u0, u1, u2, u3, u4⟩, _⟩ := (b13.below (balloc _ _)).below hb12
    obtain ⟨⟨v0, v1, v2, v3, v4⟩, _⟩ := (b15.below (balloc _ _)).below hb12
    have HE := Lib.hid (btrans (btrans HB.out (balloc _ _)) hb12)
    clear hb12 hb24 HB b7 b9 b11 b13 b15 p0 p1 p2 p3 p4
    dsimp only at k0 k1 k2 k3 k4 s0 s1 s2 s3 s4 r0 r1 r2 r3 r4 t0 t1 t2 t3 t4 u0 u1 u2 u3 u4 v0 v1 v2 v3 v4
    go_wp2_with (go_at_call 45; refine (HOS.out _).mono ?_; rintro e w' ⟨rfl, rfl⟩)
    go_ret
    exact ⟨rfl, HE.out⟩
set_option maxRecDepth 100000 in
set_option maxHeartbeats 1000000 in
theorem things_any (n : Int) (x : Nat) (s : List UInt8) (w : World) (hT : Tab.Tabs w) (hP : Pf.PfT w) (hx : x < 18446744073709551616) (hls : s.length ≤ 140737488351232) :
    Calls Tryz.prog 12 #[.int .i64 n, .float .f64 x, .string ⟨s.toArray⟩] w fun e w' => e = .returned (.bool true) ∧ Below w.heap.size w w' := by
  by_cases hl : s.length ≤ 300
  · exact things_main n x s w hT hP hx hl
  · have g1 : decide (300 < (s.length : Int)) = true := by rw [decide_eq_true_iff]; omega
    have HT := Lib.hid hT; have HP := Lib.hid hP; clear hT hP
    go_enter Tryz.func12, Tryz.ntmps12
    go_wp2_with fail
    refine (fit02_any _ HT.out HP.out).mono ?_; rintro e w1 ⟨rfl, hb1⟩
    go_wp2
    go_ret
    exact ⟨rfl, hb1⟩
end Go.Proofs.YtceplbanfpnhbaaGreatDoor.Val
end
