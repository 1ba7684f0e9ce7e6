/- MERGED BY A PROGRAM OF MINE (mg.py) out of my own texts, in their order: CondLaw, CondVoid, ImplFn, OrdKey, Same, VInj, Canon, Sames02. -/
import Derived.Test.YthndlcgcmfhokaaGreatDoorValFn
import Derived.Test.YthndlcgcmfhokaaGreatDoorCond
import Derived.Test.YthndlcgcmfhokaaGreatDoorName
import Derived.Test.YthndlcgcmfhokaaGreatDoorOrd
import Derived.Test.YthndlcgcmfhokaaGreatDoorPrint
import Derived.Test.YthndlcgcmfhokaaGreatDoorCondFit
import Derived.Handy
import Derived.Laws.IdiomCopy
import Derived.Test.YthndlcgcmfhokaaGreatDoorFit02
import Derived.Deep.RegionHeld3

section
/- PLAIN LAWS OF VALUES AND CONDITIONS. No program in sight. -/
namespace Go.Proofs.YthndlcgcmfhokaaGreatDoor.Val
open Flt
theorem bytes_self (t : List UInt8) : Lib.compareBytes t t = 0 := by
  induction t with
  | nil => rfl
  | cons c t ih => simp [Lib.compareBytes, ih]
theorem lt_self (x : Nat) : Flt.lt x x = false := by simp [Flt.lt]
theorem cmp_self (v : V) : cmp v v = 0 := by
  unfold cmp sgn
  rw [lt_self, bytes_self]
  cases v.yes <;> simp
theorem pre_self (t : List UInt8) : pre t t = true := by
  unfold pre Lib.hasPrefix; rw [List.isPrefixOf_iff_prefix]; exact List.prefix_refl t
theorem cmp1_self (v : V) : cmp1 v v = 0 := by unfold cmp1; rw [cmp_self]; simp
/-- what Holds answers of a value and its own -/
def sideB (op : Int) (void text : Bool) : Bool := if op == 0 || op == 3 || op == 5 then !void else if op == 6 then text && !void else op == 7
theorem side_eq (nm : List UInt8) (op : Int) (v : V) : holdsB ⟨nm, op, v⟩ v = sideB op (voidB v) (v.kind == 2) := by
  have e : cmpOk v v = !voidB v := by unfold cmpOk; cases voidB v <;> simp
  unfold holdsB sideB
  simp only [cmp1_self, pre_self, e]
  by_cases h7 : op = 7
  · subst h7; rfl
  by_cases h6 : op = 6
  · subst h6; cases voidB v <;> simp
  by_cases h0 : op = 0
  · subst h0; simp
  by_cases h1 : op = 1
  · subst h1; simp
  by_cases h2 : op = 2
  · subst h2; simp
  by_cases h3 : op = 3
  · subst h3; simp
  by_cases h4 : op = 4
  · subst h4; simp
  by_cases h5 : op = 5
  · subst h5; simp
  simp [h0, h1, h2, h3, h4, h5, h6, h7]
end Go.Proofs.YthndlcgcmfhokaaGreatDoor.Val
end

section
/- THE WALKS OF cond.Void and cond.Right, the laws' light. -/
namespace Go.Proofs.YthndlcgcmfhokaaGreatDoor.Val
open Go.RowKit Flt
def cvoidB (c : C) : Bool := (c.op != 7 && voidB c.val) || (c.op == 6 && c.val.kind != 2)
def cRight (c : C) : Bool := Sc.nameB c.name && decide (0 ≤ c.op) && decide (c.op ≤ 7) && vRight c.val
set_option maxHeartbeats 400000 in
theorem cvoid_any (nm : List UInt8) (op k n : Int) (x : Nat) (t : List UInt8) (y : Bool) (w : World) :
    Calls Tryz.prog 110 #[cond nm op k n x t y] w fun e w' => e = .returned (.bool (cvoidB ⟨nm, op, k, n, x, t, y⟩)) ∧ Below w.heap.size w w' := by
  have hr : cvoidB ⟨nm, op, k, n, x, t, y⟩ = ((op != 7 && voidB ⟨k, n, x, t, y⟩) || (op == 6 && k != 2)) := rfl
  have hv (w : World) := void_any k n x t y w
  generalize voidB ⟨k, n, x, t, y⟩ = vb at *
  have HR := Lib.hid hr; have HV := Lib.hid hv; clear hr hv
  by_cases h7 : op = 7
  · subst h7
    go_enter Tryz.func110, Tryz.ntmps110
    go_wp2
    go_ret
    exact ⟨ret_bool (by rw [HR.out]; simp [*]), balloc _ _⟩
  by_cases h6 : op = 6
  · subst h6
    clear h7
    cases vb
    all_goals
      go_enter Tryz.func110, Tryz.ntmps110
      go_wp2_with (go_at_call 157; refine (HV.out _).mono ?_; rintro e w1 ⟨rfl, hb⟩; obtain ⟨hc, hf⟩ := bcell hb)
      go_ret
      exact ⟨ret_bool (by rw [HR.out]; simp [*]), btrans (balloc _ _) hb⟩
  cases vb
  all_goals
    go_enter Tryz.func110, Tryz.ntmps110
    go_wp2_with (go_at_call 157; refine (HV.out _).mono ?_; rintro e w1 ⟨rfl, hb⟩; obtain ⟨hc, hf⟩ := bcell hb)
    go_ret
    exact ⟨ret_bool (by rw [HR.out]; simp [*]), btrans (balloc _ _) hb⟩
theorem right_ways3 (op : Int) (n : Bool) : n = false ∨ (n = true ∧ decide (0 ≤ op) = false) ∨ (n = true ∧ decide (0 ≤ op) = true ∧ decide (op ≤ 7) = false) ∨ (n = true ∧ decide (0 ≤ op) = true ∧ decide (op ≤ 7) = true) := by
  cases n <;> cases decide (0 ≤ op) <;> cases decide (op ≤ 7) <;> simp
set_option maxHeartbeats 400000 in
theorem cright_any (nm : List UInt8) (op k n : Int) (x : Nat) (t : List UInt8) (y : Bool) (w : World) (hn : nm.length ≤ 140737488351232) (ht : t.length ≤ 140737488351232) :
    Calls Tryz.prog 38 #[cond nm op k n x t y] w fun e w' => e = .returned (.bool (cRight ⟨nm, op, k, n, x, t, y⟩)) ∧ Below w.heap.size w w' := by
  have hr : cRight ⟨nm, op, k, n, x, t, y⟩ = (Sc.nameB nm && decide (0 ≤ op) && decide (op ≤ 7) && vRight ⟨k, n, x, t, y⟩) := rfl
  have hv (w : World) := vright_any k n x t y w ht
  have hm (w : World) := Sc.name_l nm w hn
  generalize vRight ⟨k, n, x, t, y⟩ = vb at *
  generalize Sc.nameB nm = nb at *
  have HR := Lib.hid hr; have HV := Lib.hid hv; have HM := Lib.hid hm; clear hr hv hm
  rcases right_ways3 op nb with rfl | ⟨rfl, h1⟩ | ⟨rfl, h1, h2⟩ | ⟨rfl, h1, h2⟩
  · have HQ : Hid (cRight ⟨nm, op, k, n, x, t, y⟩ = false) := Lib.hid (by rw [HR.out]; rfl)
    go_enter Tryz.func38, Tryz.ntmps38
    go_wp2_with (first | (go_at_call 35; refine (HM.out _).mono ?_; rintro e w' ⟨rfl, rfl⟩) | (go_at_call 23; refine (HV.out _).mono ?_; rintro e w1 ⟨rfl, hb⟩; obtain ⟨hc, hf⟩ := bcell hb))
    go_ret
    exact ⟨ret_bool HQ.out.symm, by repeat (first | assumption | (with_reducible exact Below.refl _ _) | exact balloc _ _ | exact balloc2 _ _ _ | refine btrans ?_ (by assumption) | refine btrans ?_ (balloc _ _))⟩
  · have HQ : Hid (cRight ⟨nm, op, k, n, x, t, y⟩ = false) := Lib.hid (by rw [HR.out, h1]; rfl)
    go_enter Tryz.func38, Tryz.ntmps38
    go_wp2_with (first | (go_at_call 35; refine (HM.out _).mono ?_; rintro e w' ⟨rfl, rfl⟩) | (go_at_call 23; refine (HV.out _).mono ?_; rintro e w1 ⟨rfl, hb⟩; obtain ⟨hc, hf⟩ := bcell hb))
    go_ret
    exact ⟨ret_bool HQ.out.symm, by repeat (first | assumption | (with_reducible exact Below.refl _ _) | exact balloc _ _ | exact balloc2 _ _ _ | refine btrans ?_ (by assumption) | refine btrans ?_ (balloc _ _))⟩
  · have HQ : Hid (cRight ⟨nm, op, k, n, x, t, y⟩ = false) := Lib.hid (by rw [HR.out, h1, h2]; rfl)
    go_enter Tryz.func38, Tryz.ntmps38
    go_wp2_with (first | (go_at_call 35; refine (HM.out _).mono ?_; rintro e w' ⟨rfl, rfl⟩) | (go_at_call 23; refine (HV.out _).mono ?_; rintro e w1 ⟨rfl, hb⟩; obtain ⟨hc, hf⟩ := bcell hb))
    go_ret
    exact ⟨ret_bool HQ.out.symm, by repeat (first | assumption | (with_reducible exact Below.refl _ _) | exact balloc _ _ | exact balloc2 _ _ _ | refine btrans ?_ (by assumption) | refine btrans ?_ (balloc _ _))⟩
  · have HQ : Hid (cRight ⟨nm, op, k, n, x, t, y⟩ = vb) := Lib.hid (by rw [HR.out, h1, h2]; rfl)
    go_enter Tryz.func38, Tryz.ntmps38
    go_wp2_with (first | (go_at_call 35; refine (HM.out _).mono ?_; rintro e w' ⟨rfl, rfl⟩) | (go_at_call 23; refine (HV.out _).mono ?_; rintro e w1 ⟨rfl, hb⟩; obtain ⟨hc, hf⟩ := bcell hb))
    go_ret
    exact ⟨ret_bool HQ.out.symm, by repeat (first | assumption | (with_reducible exact Below.refl _ _) | exact balloc _ _ | exact balloc2 _ _ _ | refine btrans ?_ (by assumption) | refine btrans ?_ (balloc _ _))⟩
theorem void_holds (c : C) (v : V) (h : cvoidB c = true) : holdsB c v = false := by
  unfold cvoidB at h
  have h' : ((c.op = 7) = False ∧ voidB c.val = true) ∨ (c.op = 6 ∧ c.val.kind ≠ 2) := by
    simp at h
    rcases h with h | h
    · exact Or.inl ⟨by simpa using h.1, h.2⟩
    · exact Or.inr h
  rcases h' with ⟨h7, hv⟩ | ⟨h6, hk⟩
  · have e : cmpOk v c.val = false := by unfold cmpOk; rw [hv]; simp
    unfold holdsB; rw [e]; simp [h7]
  · have e : (cmpOk v c.val && v.kind == 2) = false := by
      unfold cmpOk
      cases hh : (v.kind == c.val.kind)
      · rfl
      · have : (v.kind == 2) = false := by
          rw [beq_eq_false_iff_ne]; rw [beq_iff_eq] at hh; rw [hh]; exact hk
        rw [this]; simp
    unfold holdsB; rw [h6, e]; rfl
end Go.Proofs.YthndlcgcmfhokaaGreatDoor.Val
end

section
/- PLAIN LAW OF Implies: what it answers, that it is sound, that it is handed on. No program in sight. -/
namespace Go.Proofs.YthndlcgcmfhokaaGreatDoor.Val
open Flt
theorem cb_zero : ∀ (a b : List UInt8), Lib.compareBytes a b = 0 ↔ a = b
  | [], [] => by simp [Lib.compareBytes]
  | [], _ :: _ => by simp [Lib.compareBytes]
  | _ :: _, [] => by simp [Lib.compareBytes]
  | a :: ar, b :: bs => by
    unfold Lib.compareBytes
    by_cases h : a < b
    · rw [if_pos h]; constructor
      · intro h'; omega
      · intro h'; injection h' with h1 h2; subst h1; exact absurd h (UInt8.lt_irrefl _)
    · rw [if_neg h]
      by_cases h' : b < a
      · rw [if_pos h']; constructor
        · intro h'; omega
        · intro h2; injection h2 with h1 h3; subst h1; exact absurd h' (UInt8.lt_irrefl _)
      · rw [if_neg h', cb_zero ar bs]
        have e : a = b := by
          rw [UInt8.lt_iff_toNat_lt] at h h'
          exact UInt8.toNat_inj.1 (by omega)
        subst e; simp
theorem cb_lt : ∀ (a b c : List UInt8), (Lib.compareBytes a b < 0 → Lib.compareBytes b c < 0 → Lib.compareBytes a c < 0) ∧ (0 < Lib.compareBytes a b → 0 < Lib.compareBytes b c → 0 < Lib.compareBytes a c)
  | [], [], _ => by simp [Lib.compareBytes]
  | [], _ :: _, [] => by simp [Lib.compareBytes]
  | [], _ :: _, _ :: _ => by simp [Lib.compareBytes]
  | _ :: _, [], [] => by simp [Lib.compareBytes]
  | _ :: _, [], _ :: _ => by simp [Lib.compareBytes]
  | _ :: _, _ :: _, [] => by simp [Lib.compareBytes]
  | a :: ar, b :: bs, c :: cs => by
    have ih := cb_lt ar bs cs
    unfold Lib.compareBytes
    simp only [UInt8.lt_iff_toNat_lt]
    by_cases h1 : a.toNat < b.toNat <;> by_cases h2 : b.toNat < a.toNat <;> by_cases h3 : b.toNat < c.toNat <;> by_cases h4 : c.toNat < b.toNat <;> by_cases h5 : a.toNat < c.toNat <;> by_cases h6 : c.toNat < a.toNat <;> simp only [h1, h2, h3, h4, h5, h6, if_true, if_false] <;> first | exact ih | omega
/-- how three comparisons hang together -/
def Ord3 (p q r : Int) : Prop := (p < 0 → q ≤ 0 → r < 0) ∧ (p ≤ 0 → q < 0 → r < 0) ∧ (p = 0 → q = 0 → r = 0) ∧ (0 < p → 0 ≤ q → 0 < r) ∧ (0 ≤ p → 0 < q → 0 < r)
theorem cb_ord (a b c : List UInt8) : Ord3 (Lib.compareBytes a b) (Lib.compareBytes b c) (Lib.compareBytes a c) := by
  have h := cb_lt a b c
  have h1 := cb_zero a b
  have h2 := cb_zero b c
  unfold Ord3
  by_cases e1 : a = b
  · subst e1; rw [(cb_zero a a).2 rfl] at *; omega
  by_cases e2 : b = c
  · subst e2; rw [(cb_zero b b).2 rfl] at *; omega
  simp only [e1, iff_false] at h1
  simp only [e2, iff_false] at h2
  omega
theorem sgn_spec (a b : Int) : (sgn (decide (a < b)) (decide (b < a)) < 0 ↔ a < b) ∧ (sgn (decide (a < b)) (decide (b < a)) = 0 ↔ a = b) := by
  unfold sgn
  by_cases h : a < b
  · simp [h]; omega
  · by_cases h2 : b < a
    · simp [h, h2]; omega
    · simp [h, h2]; omega
theorem sgn_ord (a b c : Int) : Ord3 (sgn (decide (a < b)) (decide (b < a))) (sgn (decide (b < c)) (decide (c < b))) (sgn (decide (a < c)) (decide (c < a))) := by
  have h1 := sgn_spec a b
  have h2 := sgn_spec b c
  have h3 := sgn_spec a c
  unfold Ord3
  generalize sgn (decide (a < b)) (decide (b < a)) = p at *
  generalize sgn (decide (b < c)) (decide (c < b)) = q at *
  generalize sgn (decide (a < c)) (decide (c < a)) = r at *
  omega
theorem cmp_ord (x y z : V) (h1 : x.kind = y.kind) (h2 : y.kind = z.kind) (v1 : voidB x = false) (v2 : voidB y = false) (v3 : voidB z = false) : Ord3 (cmp x y) (cmp y z) (cmp x z) := by
  unfold cmp
  unfold voidB at v1 v2 v3
  rw [h1, h2] at v1; rw [h2] at v2; rw [h1, h2]
  by_cases k0 : z.kind = 0
  · simp only [k0]; exact sgn_ord _ _ _
  by_cases k1 : z.kind = 1
  · have n1 : nan x.num = false := by simpa [k1] using v1
    have n2 : nan y.num = false := by simpa [k1] using v2
    have n3 : nan z.num = false := by simpa [k1] using v3
    simp only [k1, Flt.lt, n1, n2, n3]
    exact sgn_ord _ _ _
  by_cases k2 : z.kind = 2
  · simp only [k2]; exact cb_ord _ _ _
  have e0 : (z.kind == 0) = false := by simpa using k0
  have e1 : (z.kind == 1) = false := by simpa using k1
  have e2 : (z.kind == 2) = false := by simpa using k2
  simp only [e0, e1, e2, Bool.false_eq_true, if_false]
  cases x.yes <;> cases y.yes <;> cases z.yes <;> (unfold Ord3 sgn; simp)
def relB (op n : Int) (p : Bool) : Bool :=
  if op == 7 then true else if op == 6 then p else if op == 0 then n == 0 else if op == 1 then n != 0 else if op == 2 then decide (n < 0) else if op == 3 then decide (n ≤ 0) else if op == 4 then decide (0 < n) else if op == 5 then decide (0 ≤ n) else false
theorem holds_rel (c : C) (v : V) (h : cmpOk v c.val = true) : holdsB c v = relB c.op (cmp v c.val) (v.kind == 2 && pre v.text c.val.text) := by
  unfold holdsB relB cmp1
  simp [h]
def lowB (n a b : Int) : Bool := ((b == 2 || b == 3) && (decide (n < 0) || (n == 0 && (b == 3 || a != 3)))) || (b == 1 && (decide (n < 0) || (n == 0 && a != 3)))
def uppB (n a b : Int) : Bool := ((b == 4 || b == 5) && (decide (0 < n) || (n == 0 && (b == 5 || a != 5)))) || (b == 1 && (decide (0 < n) || (n == 0 && a != 5)))
/-- the rule for two conditions on one kind, none void, neither Has -/
def ruleB (a b : C) : Bool :=
  if a.op == 0 then holdsB b a.val
  else if a.op == 1 then b.op == 1 && cmp1 a.val b.val == 0
  else if a.op == 6 then (b.op == 6 && pre a.val.text b.val.text) || (b.op == 1 && !pre b.val.text a.val.text)
  else if a.op == 2 || a.op == 3 then lowB (cmp1 a.val b.val) a.op b.op
  else uppB (cmp1 a.val b.val) a.op b.op
def impliesB (a b : C) : Bool :=
  if a.name != b.name then false
  else if cvoidB a || b.op == 7 then true
  else if a.op == 7 || cvoidB b || a.val.kind != b.val.kind then false
  else ruleB a b
theorem eight {o : Int} (h1 : 0 ≤ o) (h2 : o ≤ 7) (h : o ≠ 7) : o = 0 ∨ o = 1 ∨ o = 2 ∨ o = 3 ∨ o = 4 ∨ o = 5 ∨ o = 6 := by omega
theorem cvoid_at {c : C} (h : cvoidB c = false) (h7 : c.op ≠ 7) : voidB c.val = false := by
  unfold cvoidB at h
  have : (c.op != 7) = true := by simpa using h7
  rw [this] at h
  simp at h
  exact h.1
/-- a condition that holds and isn't Has can be held against -/
theorem holds_ok {c : C} {v : V} (h : holdsB c v = true) (h7 : c.op ≠ 7) : cmpOk v c.val = true := by
  cases hh : cmpOk v c.val
  · unfold holdsB at h; simp [hh, h7] at h
  · rfl
theorem cmpOk_parts {x y : V} (h : cmpOk x y = true) : x.kind = y.kind ∧ voidB x = false ∧ voidB y = false := by
  unfold cmpOk at h; simp at h; exact ⟨h.1.1, h.1.2, h.2⟩
theorem cmpOk_of {x y : V} (h : x.kind = y.kind) (h1 : voidB x = false) (h2 : voidB y = false) : cmpOk x y = true := by
  unfold cmpOk; simp [h, h1, h2]
theorem pre_iff (s p : List UInt8) : pre s p = true ↔ p <+: s := by unfold pre Lib.hasPrefix; exact List.isPrefixOf_iff_prefix
theorem pre_trans {s t u : List UInt8} (h1 : pre s t = true) (h2 : pre t u = true) : pre s u = true := (pre_iff _ _).2 (((pre_iff _ _).1 h2).trans ((pre_iff _ _).1 h1))
theorem cmp_text {x y : V} (hx : x.kind = 2) (h : cmp x y = 0) : x.text = y.text := by
  unfold cmp at h; simp [hx] at h; exact (cb_zero _ _).1 h
/-- THE RULE IS SOUND. -/
theorem rule_sound (a b : C) (v : V) (a0 : 0 ≤ a.op) (a7 : a.op ≤ 7) (b0 : 0 ≤ b.op) (b7 : b.op ≤ 7) (ha : a.op ≠ 7) (hb : b.op ≠ 7) (nb : cvoidB b = false) (hk : a.val.kind = b.val.kind)
    (h : ruleB a b = true) (hv : holdsB a v = true) : holdsB b v = true := by
  have ok := holds_ok hv ha
  obtain ⟨k1, v1, v2⟩ := cmpOk_parts ok
  have v3 := cvoid_at nb hb
  have ok2 := cmpOk_of (k1.trans hk) v1 v3
  have ok3 := cmpOk_of hk v2 v3
  have ho := cmp_ord v a.val b.val k1 hk v1 v2 v3
  rw [holds_rel _ _ ok2]
  rw [holds_rel _ _ ok] at hv
  unfold ruleB at h
  rw [holds_rel _ _ ok3] at h
  have hc : cmp1 a.val b.val = cmp a.val b.val := by unfold cmp1; rw [ok3]; rfl
  rw [hc] at h
  have t1 := @cmp_text v a.val
  have t2 := @cmp_text v b.val
  have p1 := @pre_trans v.text a.val.text b.val.text
  have hk2 : (b.op == 6) = true → b.val.kind = 2 := by
    intro e; unfold cvoidB at nb; rw [e] at nb; simp at nb; exact nb.2
  have hs := pre_self v.text
  unfold lowB uppB at h
  unfold Ord3 at ho
  generalize cmp v a.val = p at *
  generalize cmp a.val b.val = q at *
  generalize cmp v b.val = r at *
  rcases eight a0 a7 ha with e | e | e | e | e | e | e <;> rcases eight b0 b7 hb with f | f | f | f | f | f | f <;>
    simp [e, f, relB] at h hv hk2 ⊢ <;> (try omega)
  · rw [k1, hk, hk2]; exact ⟨rfl, by rw [t1 (by rw [k1, hk, hk2]) hv]; exact h.2⟩
  · intro hr
    have := t2 hv.1 hr
    rw [← this, hv.2] at h
    exact absurd h (by simp)
  · exact ⟨hv.1, p1 hv.2 h⟩
theorem implies_sound (a b : C) (v : V) (a0 : 0 ≤ a.op) (a7 : a.op ≤ 7) (b0 : 0 ≤ b.op) (b7 : b.op ≤ 7) (h : impliesB a b = true) (hv : holdsB a v = true) : holdsB b v = true := by
  unfold impliesB at h
  by_cases hn : a.name = b.name
  · by_cases va : cvoidB a = true
    · rw [void_holds a v va] at hv; exact absurd hv (by simp)
    · by_cases hb : b.op = 7
      · unfold holdsB; simp [hb]
      · by_cases ha : a.op = 7
        · simp [hn, va, hb, ha] at h
        · by_cases vb : cvoidB b = true
          · simp [hn, va, hb, vb] at h
          · by_cases hk : a.val.kind = b.val.kind
            · simp [hn, va, hb, ha, vb, hk] at h
              exact rule_sound a b v a0 a7 b0 b7 ha hb (by simpa using vb) hk h hv
            · simp [hn, va, hb, hk] at h
  · simp [hn] at h
theorem rule_self (a : C) (a0 : 0 ≤ a.op) (a7 : a.op ≤ 7) (ha : a.op ≠ 7) (na : cvoidB a = false) : ruleB a a = true := by
  have v := cvoid_at na ha
  have hk2 : (a.op == 6) = true → a.val.kind = 2 := by
    intro e; unfold cvoidB at na; rw [e] at na; simp at na; exact na.2
  have hs : holdsB a a.val = sideB a.op (voidB a.val) (a.val.kind == 2) := side_eq a.name a.op a.val
  unfold ruleB
  rw [hs, cmp1_self, pre_self]
  unfold lowB uppB sideB
  rcases eight a0 a7 ha with e | e | e | e | e | e | e <;> simp [e, v]
theorem implies_self (a : C) (a0 : 0 ≤ a.op) (a7 : a.op ≤ 7) : impliesB a a = true := by
  unfold impliesB
  by_cases va : cvoidB a = true
  · simp [va]
  by_cases ha : a.op = 7
  · simp [ha]
  have na : cvoidB a = false := by simpa using va
  simp [na, ha, rule_self a a0 a7 ha na]
/-- THE RULE IS HANDED ON. -/
theorem rule_trans (a b c : C) (a0 : 0 ≤ a.op) (a7 : a.op ≤ 7) (b0 : 0 ≤ b.op) (b7 : b.op ≤ 7) (c0 : 0 ≤ c.op) (c7 : c.op ≤ 7) (ha : a.op ≠ 7) (hb : b.op ≠ 7) (hc : c.op ≠ 7)
    (na : cvoidB a = false) (nb : cvoidB b = false) (nc : cvoidB c = false) (k1 : a.val.kind = b.val.kind) (k2 : b.val.kind = c.val.kind)
    (h1 : ruleB a b = true) (h2 : ruleB b c = true) : ruleB a c = true := by
  have v1 := cvoid_at na ha
  have v2 := cvoid_at nb hb
  have v3 := cvoid_at nc hc
  by_cases hz : a.op = 0
  · have e : ∀ d, ruleB a d = holdsB d a.val := fun d => by unfold ruleB; simp [hz]
    rw [e] at h1 ⊢
    exact rule_sound b c a.val b0 b7 c0 c7 hb hc nc k2 h2 h1
  have ok1 := cmpOk_of k1 v1 v2
  have ok2 := cmpOk_of k2 v2 v3
  have ok3 := cmpOk_of (k1.trans k2) v1 v3
  have ho := cmp_ord a.val b.val c.val k1 k2 v1 v2 v3
  have e1 : cmp1 a.val b.val = cmp a.val b.val := by unfold cmp1; rw [ok1]; rfl
  have e2 : cmp1 b.val c.val = cmp b.val c.val := by unfold cmp1; rw [ok2]; rfl
  have e3 : cmp1 a.val c.val = cmp a.val c.val := by unfold cmp1; rw [ok3]; rfl
  have ka : (a.op == 6) = true → a.val.kind = 2 := by
    intro e; unfold cvoidB at na; rw [e] at na; simp at na; exact na.2
  have kb : (b.op == 6) = true → b.val.kind = 2 := by
    intro e; unfold cvoidB at nb; rw [e] at nb; simp at nb; exact nb.2
  have t2 := @cmp_text b.val c.val
  have p1 := @pre_trans a.val.text b.val.text c.val.text
  have p2 := @pre_trans c.val.text a.val.text b.val.text
  unfold ruleB lowB uppB at *
  rw [e1] at h1; rw [e2] at h2; rw [e3]
  unfold Ord3 at ho
  generalize holdsB b a.val = x1 at *
  generalize holdsB c b.val = x2 at *
  generalize holdsB c a.val = x3 at *
  generalize cmp a.val b.val = p at *
  generalize cmp b.val c.val = q at *
  generalize cmp a.val c.val = r at *
  rcases eight a0 a7 ha with e | e | e | e | e | e | e <;> rcases eight b0 b7 hb with f | f | f | f | f | f | f <;> (try (simp [e, f] at h1; done)) <;> (try omega) <;>
    rcases eight c0 c7 hc with g | g | g | g | g | g | g <;> (try (simp [f, g] at h2; done)) <;>
    simp [e, f, g] at h1 h2 ka kb ⊢ <;> (try omega)
  · rw [t2 (by rw [← k1, ka]) h2] at h1; exact h1
  · cases hh : pre c.val.text a.val.text
    · rfl
    · have := p2 hh h1; rw [this] at h2; exact absurd h2 (by simp)
  · exact p1 h1 h2
theorem implies_trans (a b c : C) (a0 : 0 ≤ a.op) (a7 : a.op ≤ 7) (b0 : 0 ≤ b.op) (b7 : b.op ≤ 7) (c0 : 0 ≤ c.op) (c7 : c.op ≤ 7) (h1 : impliesB a b = true) (h2 : impliesB b c = true) : impliesB a c = true := by
  unfold impliesB at *
  by_cases n1 : a.name = b.name
  · by_cases n2 : b.name = c.name
    · by_cases va : cvoidB a = true
      · simp [n1, n2, va]
      by_cases hc : c.op = 7
      · simp [n1, n2, hc]
      have na : cvoidB a = false := by simpa using va
      by_cases hb : b.op = 7
      · have nb : cvoidB b = false := by unfold cvoidB; simp [hb]
        simp [n2, hb, nb, hc] at h2
      by_cases ha : a.op = 7
      · simp [n1, na, ha, hb] at h1
      by_cases vb : cvoidB b = true
      · simp [n1, na, vb, hb] at h1
      have nb : cvoidB b = false := by simpa using vb
      by_cases vc : cvoidB c = true
      · simp [n2, nb, vc, hc] at h2
      have nc : cvoidB c = false := by simpa using vc
      by_cases k1 : a.val.kind = b.val.kind
      · by_cases k2 : b.val.kind = c.val.kind
        · simp [n1, na, ha, hb, nb, k1] at h1
          simp [n2, nb, hb, hc, nc, k2] at h2
          simp [n1, n2, na, ha, hc, nc, k1, k2]
          exact rule_trans a b c a0 a7 b0 b7 c0 c7 ha hb hc na nb nc k1 k2 h1 h2
        · simp [n2, nb, hc, k2] at h2
      · simp [n1, na, hb, k1] at h1
    · simp [n2] at h2
  · simp [n1] at h1
end Go.Proofs.YthndlcgcmfhokaaGreatDoor.Val
end

section
/- THE WALKS OF package order: Key, Same. -/
namespace Go.Proofs.YthndlcgcmfhokaaGreatDoor.Ord
open Go.RowKit Flt
attribute [local go_sem] ford_eq ford_lt ford_gt
theorem bits_call (b : Nat) (w : World) : (callFunc 92 #[.float .f64 b]).run Tryz.prog w = .ok (.value (.int .u64 b)) w :=
  run_callFunc_extern (e := Extern.MathFloatBits.float64bits) Tryz.func92 (by kernel_rfl) (by kernel_rfl) (by kernel_rfl) (by kernel_rfl) _ w
theorem umax_xor (b : Nat) (hb : b < 18446744073709551616) : bits .xor .u64 IntKind.u64.max (b : Int) = ((most - b : Nat) : Int) := by
  have h := u64_xor 18446744073709551615 (b : Int) (by decide) (by decide) (by omega) (by omega)
  have e : IntKind.u64.max = 18446744073709551615 := by decide
  rw [e, h]
  have e2 : (18446744073709551615 : Int).toNat = most := by decide
  rw [e2, Int.toNat_natCast, xor_most hb]
theorem top_or (b : Nat) (hb : b < 18446744073709551616) : bits .or .u64 (b : Int) 9223372036854775808 = ((b ||| top : Nat) : Int) := by
  have h := u64_or (b : Int) 9223372036854775808 (by omega) (by omega) (by decide) (by decide)
  rw [h, Int.toNat_natCast]; rfl
theorem top_off (b : Nat) (hb : b < 18446744073709551616) : bits .andNot .u64 (b : Int) 9223372036854775808 = ((b % 9223372036854775808 : Nat) : Int) := by
  have h := u64_andNot (b : Int) 9223372036854775808 (by omega) (by omega) (by decide) (by decide)
  rw [h, Int.toNat_natCast]
  have e2 : (9223372036854775808 : Int).toNat = 9223372036854775808 := by decide
  rw [e2, and_low]

theorem ret_u64 {a b : Int} (h : a = b) : Ending.returned (.int .u64 a) = .returned (.int .u64 b) := by rw [h]
set_option maxHeartbeats 400000 in
theorem key_any (b : Nat) (hb : b < 18446744073709551616) (w : World) :
    Calls Tryz.prog 60 #[.float .f64 b] w fun e w' => e = .returned (.int .u64 (key b)) ∧ w = w' := by
  have hc := bits_call
  have h1 := ford_ne_self (canon b)
  rw [canon_nan] at h1
  cases hn : nan b with
  | true =>
    rw [key_nan hn]
    rw [hn] at h1; clear hn hb
    go_enter Tryz.func60, Tryz.ntmps60
    go_wp2_with (go_at_call 30; refine (canon_any _ _).mono ?_; rintro e w' ⟨rfl, rfl⟩)
    go_ret
    exact ⟨rfl, rfl⟩
  | false =>
    rw [hn] at h1
    have hk := key_of_canon b hb hn
    have hl := canon_lt b hb
    clear hn hb
    by_cases h : canon b / 9223372036854775808 = 1
    · rw [if_pos h] at hk
      have HK := Lib.hid hk; clear hk
      have h' : ((canon b : Int) / 9223372036854775808 == 1) = true := by rw [beq_iff_eq]; omega
      clear h
      go_enter Tryz.func60, Tryz.ntmps60
      go_wp2_with (go_at_call 30; refine (canon_any _ _).mono ?_; rintro e w' ⟨rfl, rfl⟩)
      go_ret
      exact ⟨ret_u64 (by rw [HK.out, umax_xor _ hl]), rfl⟩
    · rw [if_neg h] at hk
      have HK := Lib.hid hk; clear hk
      have h' : ((canon b : Int) / 9223372036854775808 == 1) = false := by rw [beq_eq_false_iff_ne]; omega
      clear h
      go_enter Tryz.func60, Tryz.ntmps60
      go_wp2_with (go_at_call 30; refine (canon_any _ _).mono ?_; rintro e w' ⟨rfl, rfl⟩)
      go_ret
      exact ⟨ret_u64 (by rw [HK.out, top_or _ hl]), rfl⟩
def same (a b : Nat) : Bool := key a == key b
theorem beq_cast (a b : Nat) : ((a : Int) == (b : Int)) = (a == b) := by
  rw [Bool.eq_iff_iff]; simp; omega
set_option maxHeartbeats 400000 in
theorem same_any (a b : Nat) (ha : a < 18446744073709551616) (hb : b < 18446744073709551616) (w : World) :
    Calls Tryz.prog 27 #[.float .f64 a, .float .f64 b] w fun e w' => e = .returned (.bool (same a b)) ∧ w = w' := by
  go_enter Tryz.func27, Tryz.ntmps27
  go_wp2_with (go_at_call 60; refine (key_any _ (by assumption) _).mono ?_; rintro e w' ⟨rfl, rfl⟩)
  go_ret
  exact ⟨ret_bool (beq_cast _ _), rfl⟩
end Go.Proofs.YthndlcgcmfhokaaGreatDoor.Ord
end

section
/- THE WALKS OF value.Same, cond.below, cond.above. -/
namespace Go.Proofs.YthndlcgcmfhokaaGreatDoor.Val
open Go.RowKit Flt
def sameB (a b : V) : Bool := a.kind == b.kind && (if a.kind == 0 then a.int == b.int else if a.kind == 1 then Ord.same a.num b.num else if a.kind == 2 then a.text == b.text else a.yes == b.yes)
set_option maxHeartbeats 400000 in
theorem same_any (k1 n1 : Int) (x1 : Nat) (t1 : List UInt8) (y1 : Bool) (k2 n2 : Int) (x2 : Nat) (t2 : List UInt8) (y2 : Bool) (w : World) (h1 : x1 < 18446744073709551616) (h2 : x2 < 18446744073709551616) :
    Calls Tryz.prog 11 #[val k1 n1 x1 t1 y1, val k2 n2 x2 t2 y2] w fun e w' => e = .returned (.bool (sameB ⟨k1, n1, x1, t1, y1⟩ ⟨k2, n2, x2, t2, y2⟩)) ∧ Below w.heap.size w w' := by
  have hr : sameB ⟨k1, n1, x1, t1, y1⟩ ⟨k2, n2, x2, t2, y2⟩ = (k1 == k2 && (if k1 == 0 then n1 == n2 else if k1 == 1 then Ord.same x1 x2 else if k1 == 2 then t1 == t2 else y1 == y2)) := rfl
  have ho (w : World) := Ord.same_any x1 x2 h1 h2 w
  generalize Ord.same x1 x2 = sb at *
  have HR := Lib.hid hr; have HO := Lib.hid ho; clear hr ho h1 h2
  cases hk : (k1 == k2)
  · have hk' : (k1 != k2) = true := by rw [bne, hk]; rfl
    go_enter Tryz.func11, Tryz.ntmps11
    go_wp2
    go_ret
    exact ⟨ret_bool (by rw [HR.out, hk]; rfl), balloc2 _ _ _⟩
  have hk' : (k1 != k2) = false := by rw [bne, hk]; rfl
  cases q0 : (k1 == 0)
  · cases q1 : (k1 == 1)
    · cases q2 : (k1 == 2)
      all_goals
        go_enter Tryz.func11, Tryz.ntmps11
        go_wp2
        go_ret
        exact ⟨ret_bool (by rw [HR.out, hk, q0, q1, q2]; rfl), balloc2 _ _ _⟩
    · go_enter Tryz.func11, Tryz.ntmps11
      go_wp2_with (go_at_call 27; refine (HO.out _).mono ?_; rintro e w' ⟨rfl, rfl⟩)
      go_ret
      exact ⟨ret_bool (by rw [HR.out, hk, q0, q1]; rfl), balloc2 _ _ _⟩
  · go_enter Tryz.func11, Tryz.ntmps11
    go_wp2
    go_ret
    exact ⟨ret_bool (by rw [HR.out, hk, q0]; rfl), balloc2 _ _ _⟩
theorem same_cmp (a b : V) (hk : a.kind = b.kind) (v1 : voidB a = false) (v2 : voidB b = false) (h1 : a.num < 18446744073709551616) (h2 : b.num < 18446744073709551616) : sameB a b = (cmp1 a b == 0) := by
  have ok := cmpOk_of hk v1 v2
  have e : cmp1 a b = cmp a b := by unfold cmp1; rw [ok]; rfl
  rw [e]
  unfold sameB cmp
  have hkk : (a.kind == b.kind) = true := by rw [beq_iff_eq]; exact hk
  rw [hkk]
  unfold voidB at v1 v2
  rw [← hk] at v2
  by_cases k0 : a.kind = 0
  · have := (sgn_spec a.int b.int).2
    simp only [k0]
    rw [Bool.eq_iff_iff]
    simpa using this.symm
  by_cases k1 : a.kind = 1
  · have n1 : nan a.num = false := by simpa [k1] using v1
    have n2 : nan b.num = false := by simpa [k1] using v2
    have hs := (sgn_spec (sk a.num) (sk b.num)).2
    have hq := Ord.key_eq_iff h1 h2 n1 n2
    simp only [k1, Flt.lt, n1, n2, Ord.same]
    rw [Bool.eq_iff_iff]
    simp only [Bool.not_false, Bool.and_self, Bool.true_and]
    simp
    rw [hs, hq]
  by_cases k2 : a.kind = 2
  · have := cb_zero a.text b.text
    simp only [k2]
    rw [Bool.eq_iff_iff]
    simpa using this.symm
  have e0 : (a.kind == 0) = false := by simpa using k0
  have e1 : (a.kind == 1) = false := by simpa using k1
  have e2 : (a.kind == 2) = false := by simpa using k2
  simp only [e0, e1, e2, Bool.false_eq_true, if_false]
  unfold sgn
  cases a.yes <;> cases b.yes <;> rfl
theorem side_ways (op p q : Int) (h : p ≠ q) : (op == p) = true ∧ (op == q) = false ∨ (op == p) = false ∧ (op == q) = true ∨ (op == p) = false ∧ (op == q) = false := by
  cases h1 : (op == p) <;> cases h2 : (op == q) <;> simp_all
theorem below_any (op : Int) (w : World) :
    Calls Tryz.prog 114 #[.int .i64 op] w fun e w' => e = .returned (.tuple #[.bool (op == 2 || op == 3), .bool (op == 3)]) ∧ w = w' := by
  rcases side_ways op 2 3 (by decide) with ⟨h1, h2⟩ | ⟨h1, h2⟩ | ⟨h1, h2⟩
  all_goals
    go_enter Tryz.func114, Tryz.ntmps114
    go_wp2
    go_ret2
    exact ⟨by rw [h1, h2]; rfl, rfl⟩
theorem above_any (op : Int) (w : World) :
    Calls Tryz.prog 115 #[.int .i64 op] w fun e w' => e = .returned (.tuple #[.bool (op == 4 || op == 5), .bool (op == 5)]) ∧ w = w' := by
  rcases side_ways op 4 5 (by decide) with ⟨h1, h2⟩ | ⟨h1, h2⟩ | ⟨h1, h2⟩
  all_goals
    go_enter Tryz.func115, Tryz.ntmps115
    go_wp2
    go_ret2
    exact ⟨by rw [h1, h2]; rfl, rfl⟩
end Go.Proofs.YthndlcgcmfhokaaGreatDoor.Val
end

section
/- VALUES THAT ARE NOT THE SAME HAVE TEXTS THAT ARE NOT, whatever stands behind; those that are the same have one. No walk. -/
namespace Go.Proofs.YthndlcgcmfhokaaGreatDoor.Val
open Go.RowKit Flt
theorem nan_iff (b : Nat) : nan b = true ↔ 9218868437227405312 < b % 9223372036854775808 := by
  unfold nan rung inf
  rw [decide_eq_true_eq]
theorem zero_iff2 (b : Nat) : Ord.zero b = true ↔ b % 9223372036854775808 = 0 := by
  rw [Ord.zero_iff]
  unfold rung
  rw [decide_eq_true_eq]
/-- numbers with one key are kept alike, and others are not -/
theorem key_canon (a b : Nat) (ha : a < 18446744073709551616) (hb : b < 18446744073709551616) : Ord.key a = Ord.key b ↔ Ord.canon a = Ord.canon b := by
  unfold Ord.key Ord.canon Ord.most Ord.top Ord.nan0
  have na := nan_iff a; have nb := nan_iff b; have za := zero_iff2 a; have zb := zero_iff2 b
  cases h1 : nan a <;> cases h2 : nan b <;> cases h3 : Ord.zero a <;> cases h4 : Ord.zero b <;>
    rw [h1] at na <;> rw [h2] at nb <;> rw [h3] at za <;> rw [h4] at zb <;>
    simp only [Bool.false_eq_true, if_false, if_true] <;>
    (try split) <;> (try split) <;> simp at na nb za zb <;> omega
theorem canon_bits (x : Nat) (hx : x < 18446744073709551616) : Ord.canon x < 18446744073709551616 ∧
    ((Ord.canon x = 9221120237041090561) ∨ (Fmt.bexp (Ord.canon x) ≤ 2046) ∨ (Fmt.bexp (Ord.canon x) = 2047 ∧ Fmt.bman (Ord.canon x) = 0)) := by
  refine ⟨canon_lt x hx, ?_⟩
  have na := nan_iff x
  unfold Ord.canon Ord.nan0
  cases h1 : nan x
  · rw [h1] at na
    have : ¬ 9218868437227405312 < x % 9223372036854775808 := fun h => by have := na.2 h; cases this
    simp only [Bool.false_eq_true, if_false]
    split
    · right; left; decide
    · right
      unfold Fmt.bexp Fmt.bman
      omega
  · left; rfl
/-- a text without a blank and not quoted -/
def Bare (t : List UInt8) : Prop := t ≠ [] ∧ (∀ c ∈ t, c ≠ 32) ∧ ∀ r, t ≠ 34 :: r
/-- what may stand behind: nothing, or a blank first -/
def Tail (s : List UInt8) : Prop := s = [] ∨ ∃ r, s = 32 :: r
theorem bare_apart : ∀ (t u s r : List UInt8), (∀ c ∈ t, c ≠ 32) → (∀ c ∈ u, c ≠ 32) → Tail s → Tail r → t ++ s = u ++ r → t = u ∧ s = r
  | [], [], _, _, _, _, _, _, h => ⟨rfl, h⟩
  | [], c :: u, s, r, _, hu, hs, _, h => by
    exfalso
    rcases hs with rfl | ⟨q, rfl⟩
    · cases h
    · exact hu c (List.mem_cons_self ..) (List.cons.inj h).1.symm
  | c :: t, [], s, r, ht, _, _, hr, h => by
    exfalso
    rcases hr with rfl | ⟨q, rfl⟩
    · cases h
    · exact ht c (List.mem_cons_self ..) (List.cons.inj h).1
  | c :: t, d :: u, s, r, ht, hu, hs, hr, h => by
    obtain ⟨h1, h2⟩ := List.cons.inj h
    obtain ⟨i1, i2⟩ := bare_apart t u s r (fun x hx => ht x (List.mem_cons_of_mem _ hx)) (fun x hx => hu x (List.mem_cons_of_mem _ hx)) hs hr h2
    exact ⟨by rw [h1, i1], i2⟩
/-- a whole number's text: digits, a sign ahead -/
theorem itoa_chr (n : Int) : ∀ c ∈ Lib.itoa n, Fmt.IsD c ∨ c = 45 := by
  intro c hc
  unfold Lib.itoa at hc
  split at hc
  · rcases List.mem_cons.1 hc with rfl | hc
    · exact .inr rfl
    · exact .inl ((Fmt.decDigits_val _).2 c hc)
  · exact .inl ((Fmt.decDigits_val _).2 c hc)
theorem dec_ne (u : Nat) : Lib.decDigits u ≠ [] := by
  intro h
  have := Lib.decDigits_length u
  rw [h] at this
  have := Lib.nDigits_pos u
  simp at *
  omega
theorem itoa_ne (n : Int) : Lib.itoa n ≠ [] := by
  unfold Lib.itoa
  split
  · exact List.cons_ne_nil _ _
  · exact dec_ne _
theorem itoa_inj (n m : Int) (h : Lib.itoa n = Lib.itoa m) : n = m := by
  have dv := fun u => (Fmt.decDigits_val u).1
  have nod : ∀ u v, 45 :: Lib.decDigits u ≠ Lib.decDigits v := fun u v e => by
    have := (Fmt.decDigits_val v).2 45 (by rw [← e]; exact List.mem_cons_self ..)
    unfold Fmt.IsD at this
    simp at this
  unfold Lib.itoa at h
  split at h <;> split at h
  · have h2 := congrArg Fmt.dval (List.cons.inj h).2
    rw [dv, dv] at h2
    omega
  · exact absurd h (nod _ _)
  · exact absurd h.symm (nod _ _)
  · have h2 := congrArg Fmt.dval h
    rw [dv, dv] at h2
    omega
/-- what a number's text is, by its kind -/
theorem flt_ways (x : Nat) (hx : x < 18446744073709551616) :
    (Fmt.fltT (Ord.canon x) = [78, 97, 78] ∧ Ord.canon x = 9221120237041090561) ∨
    (Fmt.fltT (Ord.canon x) = [45, 73, 110, 102] ∧ Ord.canon x = 18442240474082181120) ∨ (Fmt.fltT (Ord.canon x) = [43, 73, 110, 102] ∧ Ord.canon x = 9218868437227405312) ∨
    (Fmt.bexp (Ord.canon x) ≤ 2046 ∧ ∃ X, Fmt.fltT (Ord.canon x) = Fmt.sgn (Fmt.bneg (Ord.canon x)) ++ X ∧ (∃ c r, X = c :: r ∧ Fmt.IsD c) ∧ ∀ c ∈ X, Fmt.IsN c) := by
  obtain ⟨hl, h⟩ := canon_bits x hx
  generalize Ord.canon x = b at *
  rcases h with rfl | h | ⟨h1, h2⟩
  · left
    exact ⟨Fmt.fltT_nan _ (by decide) (by decide), rfl⟩
  · right; right; right
    obtain ⟨X, hX⟩ := Fmt.body_fin b h
    exact ⟨h, X, hX.txt, hX.head, hX.chr⟩
  · have ht := Fmt.fltT_inf b h1 h2
    cases hn : Fmt.bneg b
    · right; right; left
      rw [hn] at ht
      refine ⟨ht, ?_⟩
      unfold Fmt.bneg at hn
      unfold Fmt.bexp at h1
      unfold Fmt.bman at h2
      simp at hn
      omega
    · right; left
      rw [hn] at ht
      refine ⟨ht, ?_⟩
      unfold Fmt.bneg at hn
      unfold Fmt.bexp at h1
      unfold Fmt.bman at h2
      simp at hn
      omega
theorem isN_ne {c : UInt8} (h : Fmt.IsN c) (k : UInt8) (hk : k.toNat < 43 ∨ (57 < k.toNat ∧ k.toNat ≠ 101)) : c ≠ k := by
  rintro rfl
  rcases h with h | h | h | h | h
  · unfold Fmt.IsD at h; omega
  all_goals (subst h; revert hk; decide)
theorem flt_bare (x : Nat) (hx : x < 18446744073709551616) : Bare (Fmt.fltT (Ord.canon x)) ∧ (∀ r, Fmt.fltT (Ord.canon x) ≠ 121 :: r) ∧ (∀ r, Fmt.fltT (Ord.canon x) ≠ 110 :: r) ∧ ∃ c ∈ Fmt.fltT (Ord.canon x), ¬ (Fmt.IsD c ∨ c = 45) := by
  have hmk : ∃ c ∈ Fmt.fltT (Ord.canon x), ¬ (Fmt.IsD c ∨ c = 45) := by
    have key : ∀ c : UInt8, c = 46 ∨ c = 101 ∨ c = 73 ∨ c = 78 → ¬ (Fmt.IsD c ∨ c = 45) := by
      intro c hc h
      rcases hc with rfl | rfl | rfl | rfl <;> rcases h with h | h <;> first | (unfold Fmt.IsD at h; simp at h) | (revert h; decide)
    unfold Fmt.fltT
    cases hm : Fmt.marked (Fmt.ftoaT (Ord.canon x))
    · simp only [Bool.false_eq_true, if_false]
      exact ⟨46, by simp, key 46 (.inl rfl)⟩
    · simp only [if_true]
      obtain ⟨c, hc, hk⟩ := (Fmt.marked_iff _).1 hm
      exact ⟨c, hc, key c hk⟩
  rcases flt_ways x hx with ⟨h, _⟩ | ⟨h, _⟩ | ⟨h, _⟩ | ⟨_, X, h, ⟨c, r, hX, hc⟩, hN⟩
  · refine ⟨⟨?_, ?_, ?_⟩, ?_, ?_, hmk⟩ <;> rw [h]
    · exact List.cons_ne_nil _ _
    · intro c hc; simp only [List.mem_cons, List.not_mem_nil, or_false] at hc; rcases hc with rfl | rfl | rfl <;> decide
    all_goals (intro r e; have := (List.cons.inj e).1; revert this; decide)
  · refine ⟨⟨?_, ?_, ?_⟩, ?_, ?_, hmk⟩ <;> rw [h]
    · exact List.cons_ne_nil _ _
    · intro c hc; simp only [List.mem_cons, List.not_mem_nil, or_false] at hc; rcases hc with rfl | rfl | rfl | rfl <;> decide
    all_goals (intro r e; have := (List.cons.inj e).1; revert this; decide)
  · refine ⟨⟨?_, ?_, ?_⟩, ?_, ?_, hmk⟩ <;> rw [h]
    · exact List.cons_ne_nil _ _
    · intro c hc; simp only [List.mem_cons, List.not_mem_nil, or_false] at hc; rcases hc with rfl | rfl | rfl | rfl <;> decide
    all_goals (intro r e; have := (List.cons.inj e).1; revert this; decide)
  · have hd : ∀ k : UInt8, k.toNat < 48 ∨ 57 < k.toNat → c ≠ k := fun k hk => Fmt.isD_ne hc k hk
    have hs : ∀ c ∈ Fmt.sgn (Fmt.bneg (Ord.canon x)), c = 45 := by
      intro c hc
      unfold Fmt.sgn at hc
      split at hc
      · exact List.mem_singleton.1 hc
      · cases hc
    have first : ∀ k : UInt8, k ≠ 45 → (k.toNat < 48 ∨ 57 < k.toNat) → ∀ r, Fmt.fltT (Ord.canon x) ≠ k :: r := by
      intro k h45 hk r e
      rw [h, hX] at e
      unfold Fmt.sgn at e
      split at e
      · exact h45 (List.cons.inj e).1.symm
      · exact hd k hk (List.cons.inj e).1
    refine ⟨⟨?_, ?_, first 34 (by decide) (by decide)⟩, first 121 (by decide) (by decide), first 110 (by decide) (by decide), hmk⟩
    · rw [h, hX]
      unfold Fmt.sgn
      split <;> exact List.cons_ne_nil _ _
    · intro d hd2
      rw [h] at hd2
      rcases List.mem_append.1 hd2 with hd2 | hd2
      · rw [hs d hd2]; decide
      · exact isN_ne (hN d hd2) 32 (by decide)
theorem flt_inj (x y : Nat) (hx : x < 18446744073709551616) (hy : y < 18446744073709551616) (h : Fmt.fltT (Ord.canon x) = Fmt.fltT (Ord.canon y)) : Ord.canon x = Ord.canon y := by
  have hd : ∀ {c : UInt8}, Fmt.IsD c → ∀ k : UInt8, k.toNat < 48 ∨ 57 < k.toNat → c ≠ k := fun hc k hk => Fmt.isD_ne hc k hk
  have fin : ∀ (b : Nat) (X : List UInt8) (c : UInt8) (r : List UInt8), X = c :: r → Fmt.IsD c → ∀ t, Fmt.fltT b = Fmt.sgn (Fmt.bneg b) ++ X → Fmt.fltT b = t → t ≠ [78, 97, 78] ∧ t ≠ [45, 73, 110, 102] ∧ t ≠ [43, 73, 110, 102] := by
    intro b X c r hX hc t ht e
    rw [ht, hX] at e
    unfold Fmt.sgn at e
    refine ⟨?_, ?_, ?_⟩ <;> rintro rfl <;> split at e
    · exact absurd (List.cons.inj e).1 (by decide)
    · exact hd hc 78 (by decide) (List.cons.inj e).1
    · exact hd hc 73 (by decide) (List.cons.inj (List.cons.inj e).2).1
    · exact hd hc 45 (by decide) (List.cons.inj e).1
    · exact absurd (List.cons.inj e).1 (by decide)
    · exact hd hc 43 (by decide) (List.cons.inj e).1
  rcases flt_ways x hx with ⟨h1, e1⟩ | ⟨h1, e1⟩ | ⟨h1, e1⟩ | ⟨f1, X, h1, ⟨c, r, hX, hc⟩, _⟩ <;>
    rcases flt_ways y hy with ⟨h2, e2⟩ | ⟨h2, e2⟩ | ⟨h2, e2⟩ | ⟨f2, Y, h2, ⟨d, q, hY, hd2⟩, _⟩
  · rw [e1, e2]
  · rw [h1, h2] at h; exact absurd h (by decide)
  · rw [h1, h2] at h; exact absurd h (by decide)
  · exact absurd h1 (fin _ Y d q hY hd2 _ h2 h.symm).1
  · rw [h1, h2] at h; exact absurd h (by decide)
  · rw [e1, e2]
  · rw [h1, h2] at h; exact absurd h (by decide)
  · exact absurd h1 (fin _ Y d q hY hd2 _ h2 h.symm).2.1
  · rw [h1, h2] at h; exact absurd h (by decide)
  · rw [h1, h2] at h; exact absurd h (by decide)
  · rw [e1, e2]
  · exact absurd h1 (fin _ Y d q hY hd2 _ h2 h.symm).2.2
  · exact absurd h2 (fin _ X c r hX hc _ h1 h).1
  · exact absurd h2 (fin _ X c r hX hc _ h1 h).2.1
  · exact absurd h2 (fin _ X c r hX hc _ h1 h).2.2
  · exact Fmt.fltT_fin _ _ (canon_lt x hx) (canon_lt y hy) f1 f2 h
/-- a value that may be -/
def VOk (v : V) : Prop := 0 ≤ v.kind ∧ v.kind ≤ 3 ∧ v.num < 18446744073709551616
theorem vT_ways (v : V) (h : VOk v) : (v.kind = 0 ∧ vT v = Lib.itoa v.int) ∨ (v.kind = 1 ∧ vT v = Fmt.fltT (Ord.canon v.num)) ∨ (v.kind = 2 ∧ vT v = Quo.quoteT Lib.goPrintTabs v.text) ∨ (v.kind = 3 ∧ vT v = if v.yes then yesT else noT) := by
  obtain ⟨k, n, x, t, y⟩ := v
  obtain ⟨h0, h3, _⟩ := h
  simp only at h0 h3
  rcases (show k = 0 ∨ k = 1 ∨ k = 2 ∨ k = 3 by omega) with rfl | rfl | rfl | rfl
  · exact .inl ⟨rfl, rfl⟩
  · exact .inr (.inl ⟨rfl, rfl⟩)
  · exact .inr (.inr (.inl ⟨rfl, rfl⟩))
  · exact .inr (.inr (.inr ⟨rfl, rfl⟩))
theorem itoa_bare (n : Int) : Bare (Lib.itoa n) ∧ (∀ r, Lib.itoa n ≠ 121 :: r) ∧ (∀ r, Lib.itoa n ≠ 110 :: r) := by
  have key : ∀ k : UInt8, k ≠ 45 → (k.toNat < 48 ∨ 57 < k.toNat) → ∀ c ∈ Lib.itoa n, c ≠ k := fun k h45 hk c hc => by
    rcases itoa_chr n c hc with h | h
    · exact Fmt.isD_ne h k hk
    · rw [h]; exact fun e => h45 e.symm
  have first : ∀ k : UInt8, k ≠ 45 → (k.toNat < 48 ∨ 57 < k.toNat) → ∀ r, Lib.itoa n ≠ k :: r := fun k h45 hk r e => key k h45 hk k (by rw [e]; exact List.mem_cons_self ..) rfl
  exact ⟨⟨itoa_ne n, key 32 (by decide) (by decide), first 34 (by decide) (by decide)⟩, first 121 (by decide) (by decide), first 110 (by decide) (by decide)⟩
theorem bool_bare (y : Bool) : Bare (if y then yesT else noT) ∧ ∃ c r, (if y then yesT else noT) = c :: r ∧ (c = 121 ∨ c = 110) := by
  cases y
  · refine ⟨⟨by decide, by decide, ?_⟩, 110, _, rfl, .inr rfl⟩
    intro r e; have := (List.cons.inj e).1; revert this; decide
  · refine ⟨⟨by decide, by decide, ?_⟩, 121, _, rfl, .inl rfl⟩
    intro r e; have := (List.cons.inj e).1; revert this; decide
/-- VALUES' TEXTS TELL THEM APART, whatever stands behind -/
theorem vT_apart (v u : V) (hv : VOk v) (hu : VOk u) (s r : List UInt8) (hs : Tail s) (hr : Tail r) (h : vT v ++ s = vT u ++ r) : sameB v u = true ∧ s = r := by
  have bb : ∀ t w : List UInt8, Bare t → Bare w → t ++ s = w ++ r → t = w ∧ s = r := fun t w ht hw e => bare_apart t w s r ht.2.1 hw.2.1 hs hr e
  have quo : ∀ (l : List UInt8) (w : List UInt8) (s r : List UInt8), Bare w → Quo.quoteT Lib.goPrintTabs l ++ s = w ++ r → False := by
    intro l w s r hw e
    obtain ⟨q, hq⟩ := Quo.quoteT_head Lib.goPrintTabs l
    cases w with
    | nil => exact hw.1 rfl
    | cons c w =>
      rw [hq] at e
      exact hw.2.2 w (by rw [(List.cons.inj e).1])
  rcases vT_ways v hv with ⟨k1, e1⟩ | ⟨k1, e1⟩ | ⟨k1, e1⟩ | ⟨k1, e1⟩ <;> rcases vT_ways u hu with ⟨k2, e2⟩ | ⟨k2, e2⟩ | ⟨k2, e2⟩ | ⟨k2, e2⟩ <;> rw [e1, e2] at h
  · obtain ⟨h1, h2⟩ := bb _ _ (itoa_bare _).1 (itoa_bare _).1 h
    refine ⟨?_, h2⟩
    have := itoa_inj _ _ h1
    unfold sameB; rw [k1, k2, this]; simp
  · exfalso
    obtain ⟨h1, _⟩ := bb _ _ (itoa_bare _).1 (flt_bare _ hu.2.2).1 h
    obtain ⟨c, hc, hn⟩ := (flt_bare _ hu.2.2).2.2.2
    exact hn (itoa_chr _ c (by rw [h1]; exact hc))
  · exact absurd h.symm (fun e => quo _ _ _ _ (itoa_bare _).1 e)
  · exfalso
    obtain ⟨h1, _⟩ := bb _ _ (itoa_bare _).1 (bool_bare _).1 h
    obtain ⟨c, q, e, hc⟩ := (bool_bare u.yes).2
    rw [e] at h1
    rcases hc with rfl | rfl
    · exact (itoa_bare _).2.1 _ h1
    · exact (itoa_bare _).2.2 _ h1
  · exfalso
    obtain ⟨h1, _⟩ := bb _ _ (flt_bare _ hv.2.2).1 (itoa_bare _).1 h
    obtain ⟨c, hc, hn⟩ := (flt_bare _ hv.2.2).2.2.2
    exact hn (itoa_chr _ c (by rw [← h1]; exact hc))
  · obtain ⟨h1, h2⟩ := bb _ _ (flt_bare _ hv.2.2).1 (flt_bare _ hu.2.2).1 h
    refine ⟨?_, h2⟩
    have := (key_canon _ _ hv.2.2 hu.2.2).2 (flt_inj _ _ hv.2.2 hu.2.2 h1)
    unfold sameB Ord.same; rw [k1, k2, this]; simp
  · exact absurd h.symm (fun e => quo _ _ _ _ (flt_bare _ hv.2.2).1 e)
  · exfalso
    obtain ⟨h1, _⟩ := bb _ _ (flt_bare _ hv.2.2).1 (bool_bare _).1 h
    obtain ⟨c, q, e, hc⟩ := (bool_bare u.yes).2
    rw [e] at h1
    rcases hc with rfl | rfl
    · exact (flt_bare _ hv.2.2).2.1 _ h1
    · exact (flt_bare _ hv.2.2).2.2.1 _ h1
  · exact absurd h (fun e => quo _ _ _ _ (itoa_bare _).1 e)
  · exact absurd h (fun e => quo _ _ _ _ (flt_bare _ hu.2.2).1 e)
  · obtain ⟨h1, h2⟩ := Quo.quoteT_apart _ _ _ _ _ h
    refine ⟨?_, h2⟩
    unfold sameB; rw [k1, k2, h1]; simp
  · exact absurd h (fun e => quo _ _ _ _ (bool_bare _).1 e)
  · exfalso
    obtain ⟨h1, _⟩ := bb _ _ (bool_bare _).1 (itoa_bare _).1 h
    obtain ⟨c, q, e, hc⟩ := (bool_bare v.yes).2
    rw [e] at h1
    rcases hc with rfl | rfl
    · exact (itoa_bare _).2.1 _ h1.symm
    · exact (itoa_bare _).2.2 _ h1.symm
  · exfalso
    obtain ⟨h1, _⟩ := bb _ _ (bool_bare _).1 (flt_bare _ hu.2.2).1 h
    obtain ⟨c, q, e, hc⟩ := (bool_bare v.yes).2
    rw [e] at h1
    rcases hc with rfl | rfl
    · exact (flt_bare _ hu.2.2).2.1 _ h1.symm
    · exact (flt_bare _ hu.2.2).2.2.1 _ h1.symm
  · exact absurd h.symm (fun e => quo _ _ _ _ (bool_bare _).1 e)
  · obtain ⟨h1, h2⟩ := bb _ _ (bool_bare _).1 (bool_bare _).1 h
    refine ⟨?_, h2⟩
    have : v.yes = u.yes := by
      cases hv2 : v.yes <;> cases hu2 : u.yes <;> rw [hv2, hu2] at h1 <;> first | rfl | (revert h1; decide)
    unfold sameB; rw [k1, k2, this]; simp
/-- values that are the same have one text -/
theorem vT_same (v u : V) (hv : VOk v) (hu : VOk u) (h : sameB v u = true) : vT v = vT u := by
  unfold sameB at h
  rw [Bool.and_eq_true, beq_iff_eq] at h
  obtain ⟨hk, h⟩ := h
  rcases vT_ways v hv with ⟨k1, e1⟩ | ⟨k1, e1⟩ | ⟨k1, e1⟩ | ⟨k1, e1⟩ <;> rcases vT_ways u hu with ⟨k2, e2⟩ | ⟨k2, e2⟩ | ⟨k2, e2⟩ | ⟨k2, e2⟩ <;> first | (exfalso; omega) | skip
  · rw [k1] at h
    rw [e1, e2]
    congr 1
    simpa using h
  · rw [k1] at h
    rw [e1, e2]
    unfold Ord.same at h
    rw [(key_canon _ _ hv.2.2 hu.2.2).1 (by simpa using h)]
  · rw [k1] at h
    rw [e1, e2]
    congr 1
    simpa using h
  · rw [k1] at h
    rw [e1, e2]
    have : v.yes = u.yes := by simpa using h
    rw [this]
end Go.Proofs.YthndlcgcmfhokaaGreatDoor.Val
end

section
/- THE WALKS OF value.Canon and cond.Canon. -/
namespace Go.Proofs.YthndlcgcmfhokaaGreatDoor.Val
open Go.RowKit Flt
attribute [local go_sem] run_store_flt
def canonV (v : V) : V := if v.kind == 0 then ⟨0, v.int, 0, [], false⟩ else if v.kind == 1 then ⟨1, 0, Ord.canon v.num, [], false⟩ else if v.kind == 2 then ⟨2, 0, 0, v.text, false⟩ else if v.kind == 3 then ⟨3, 0, 0, [], v.yes⟩ else ⟨0, 0, 0, [], false⟩
/-- a value's own form -/
abbrev vv (v : V) : Value := val v.kind v.int v.num v.text v.yes
abbrev cc (c : C) : Value := cond c.name c.op c.val.kind c.val.int c.val.num c.val.text c.val.yes
def canonC (c : C) : C := if c.op == 7 then ⟨c.name, 7, 0, 0, 0, [], false⟩ else ⟨c.name, c.op, canonV c.val⟩
theorem kind_ways (k : Int) : (k == 0) = true ∨ ((k == 0) = false ∧ (k == 1) = true) ∨ ((k == 0) = false ∧ (k == 1) = false ∧ (k == 2) = true) ∨ ((k == 0) = false ∧ (k == 1) = false ∧ (k == 2) = false ∧ (k == 3) = true) ∨ ((k == 0) = false ∧ (k == 1) = false ∧ (k == 2) = false ∧ (k == 3) = false) := by
  cases h0 : (k == 0) <;> cases h1 : (k == 1) <;> cases h2 : (k == 2) <;> cases h3 : (k == 3) <;> simp
theorem ret_vv {a b : V} (h : a = b) : Ending.returned (vv a) = .returned (vv b) := by rw [h]
theorem ret_cc {a b : C} (h : a = b) : Ending.returned (cc a) = .returned (cc b) := by rw [h]
set_option maxHeartbeats 400000 in
theorem vcanon_any (k n : Int) (x : Nat) (t : List UInt8) (y : Bool) (w : World) :
    Calls Tryz.prog 13 #[val k n x t y] w fun e w' => e = .returned (vv (canonV ⟨k, n, x, t, y⟩)) ∧ Below w.heap.size w w' := by
  have hr : canonV ⟨k, n, x, t, y⟩ = if k == 0 then ⟨0, n, 0, [], false⟩ else if k == 1 then ⟨1, 0, Ord.canon x, [], false⟩ else if k == 2 then ⟨2, 0, 0, t, false⟩ else if k == 3 then ⟨3, 0, 0, [], y⟩ else ⟨0, 0, 0, [], false⟩ := rfl
  have HR := Lib.hid hr; clear hr
  rcases kind_ways k with h0 | ⟨h0, h1⟩ | ⟨h0, h1, h2⟩ | ⟨h0, h1, h2, h3⟩ | ⟨h0, h1, h2, h3⟩
  all_goals
    go_enter Tryz.func13, Tryz.ntmps13
    go_wp2_with (go_at_call 30; refine (Ord.canon_any _ _).mono ?_; rintro e w' ⟨rfl, rfl⟩)
    go_returns
    exact ⟨by rw [HR.out]; simp only [*, Bool.false_eq_true, if_false, if_true], by repeat (first | assumption | (with_reducible exact Below.refl _ _) | exact balloc _ _ | exact balloc2 _ _ _ | refine btrans ?_ (by assumption) | refine btrans ?_ (balloc _ _))⟩
theorem bdrew0 {w a : World} (h : Below w.drew.heap.size w.drew a) : Below w.heap.size w a := (bdrewN (Below.refl _ _) 1).trans h
theorem set7_far (w : World) (b b' o : Nat) (v0 v1 v2 v3 v4 v5 v6 : Value) (h : b ≠ b') : (((((((w.setCell ⟨b, 0, none⟩ v0).setCell ⟨b, 1, none⟩ v1).setCell ⟨b, 2, none⟩ v2).setCell ⟨b, 3, none⟩ v3).setCell ⟨b, 4, none⟩ v4).setCell ⟨b, 5, none⟩ v5).setCell ⟨b, 6, none⟩ v6).cell? ⟨b', o, none⟩ = w.cell? ⟨b', o, none⟩ :=
  World.cell?_setCells_out b [v0, v1, v2, v3, v4, v5, v6] 0 w ⟨b', o, none⟩ (fun h1 => absurd h1.symm h)
theorem set7_at (w : World) (b : Nat) (v0 v1 v2 v3 v4 v5 v6 : Value) (h : ∀ j, j < 7 → (w.cell? ⟨b, j, none⟩).isSome = true) :
    (((((((w.setCell ⟨b, 0, none⟩ v0).setCell ⟨b, 1, none⟩ v1).setCell ⟨b, 2, none⟩ v2).setCell ⟨b, 3, none⟩ v3).setCell ⟨b, 4, none⟩ v4).setCell ⟨b, 5, none⟩ v5).setCell ⟨b, 6, none⟩ v6).cell? ⟨b, 0, none⟩ = some v0 ∧
    (((((((w.setCell ⟨b, 0, none⟩ v0).setCell ⟨b, 1, none⟩ v1).setCell ⟨b, 2, none⟩ v2).setCell ⟨b, 3, none⟩ v3).setCell ⟨b, 4, none⟩ v4).setCell ⟨b, 5, none⟩ v5).setCell ⟨b, 6, none⟩ v6).cell? ⟨b, 1, none⟩ = some v1 ∧
    (((((((w.setCell ⟨b, 0, none⟩ v0).setCell ⟨b, 1, none⟩ v1).setCell ⟨b, 2, none⟩ v2).setCell ⟨b, 3, none⟩ v3).setCell ⟨b, 4, none⟩ v4).setCell ⟨b, 5, none⟩ v5).setCell ⟨b, 6, none⟩ v6).cell? ⟨b, 2, none⟩ = some v2 ∧
    (((((((w.setCell ⟨b, 0, none⟩ v0).setCell ⟨b, 1, none⟩ v1).setCell ⟨b, 2, none⟩ v2).setCell ⟨b, 3, none⟩ v3).setCell ⟨b, 4, none⟩ v4).setCell ⟨b, 5, none⟩ v5).setCell ⟨b, 6, none⟩ v6).cell? ⟨b, 3, none⟩ = some v3 ∧
    (((((((w.setCell ⟨b, 0, none⟩ v0).setCell ⟨b, 1, none⟩ v1).setCell ⟨b, 2, none⟩ v2).setCell ⟨b, 3, none⟩ v3).setCell ⟨b, 4, none⟩ v4).setCell ⟨b, 5, none⟩ v5).setCell ⟨b, 6, none⟩ v6).cell? ⟨b, 4, none⟩ = some v4 ∧
    (((((((w.setCell ⟨b, 0, none⟩ v0).setCell ⟨b, 1, none⟩ v1).setCell ⟨b, 2, none⟩ v2).setCell ⟨b, 3, none⟩ v3).setCell ⟨b, 4, none⟩ v4).setCell ⟨b, 5, none⟩ v5).setCell ⟨b, 6, none⟩ v6).cell? ⟨b, 5, none⟩ = some v5 ∧
    (((((((w.setCell ⟨b, 0, none⟩ v0).setCell ⟨b, 1, none⟩ v1).setCell ⟨b, 2, none⟩ v2).setCell ⟨b, 3, none⟩ v3).setCell ⟨b, 4, none⟩ v4).setCell ⟨b, 5, none⟩ v5).setCell ⟨b, 6, none⟩ v6).cell? ⟨b, 6, none⟩ = some v6 ∧
    Below b w (((((((w.setCell ⟨b, 0, none⟩ v0).setCell ⟨b, 1, none⟩ v1).setCell ⟨b, 2, none⟩ v2).setCell ⟨b, 3, none⟩ v3).setCell ⟨b, 4, none⟩ v4).setCell ⟨b, 5, none⟩ v5).setCell ⟨b, 6, none⟩ v6) := by
  have e := World.cell?_setCells_in b [v0, v1, v2, v3, v4, v5, v6] 0 w (fun j hj => by rw [Nat.zero_add]; exact h j hj)
  exact ⟨e 0 (by simp), e 1 (by simp), e 2 (by simp), e 3 (by simp), e 4 (by simp), e 5 (by simp), e 6 (by simp),
    (((((((Below.refl b w).setCell (Nat.le_refl _) _).setCell (Nat.le_refl _) _).setCell (Nat.le_refl _) _).setCell (Nat.le_refl _) _).setCell (Nat.le_refl _) _).setCell (Nat.le_refl _) _).setCell (Nat.le_refl _) _⟩
set_option maxHeartbeats 400000 in
theorem ccanon_any (nm : List UInt8) (op k n : Int) (x : Nat) (t : List UInt8) (y : Bool) (w : World) :
    Calls Tryz.prog 39 #[cond nm op k n x t y] w fun e w' => e = .returned (cc (canonC ⟨nm, op, k, n, x, t, y⟩)) ∧ Below w.heap.size w w' := by
  have hr : canonC ⟨nm, op, k, n, x, t, y⟩ = if op == 7 then ⟨nm, 7, 0, 0, 0, [], false⟩ else ⟨nm, op, canonV ⟨k, n, x, t, y⟩⟩ := rfl
  have hv (w : World) := vcanon_any k n x t y w
  generalize canonV ⟨k, n, x, t, y⟩ = cv at *
  obtain ⟨k', n', x', t', y'⟩ := cv
  have HR := Lib.hid hr; have HV := Lib.hid hv; clear hr hv
  cases h7 : (op == 7)
  rotate_left
  · go_enter Tryz.func39, Tryz.ntmps39
    go_wp2
    go_returns
    exact ⟨by rw [HR.out, h7]; rfl, by repeat (first | assumption | (with_reducible exact Below.refl _ _) | exact balloc _ _ | exact balloc2 _ _ _ | refine btrans ?_ (by assumption) | refine btrans ?_ (balloc _ _))⟩
  · go_enter Tryz.func39, Tryz.ntmps39
    go_wp2_with fail
    refine wp_region_held_drew (S := (fun w' => ∀ o, w'.cell? ⟨w.heap.size, o, none⟩ = #[(.string ⟨nm.toArray⟩), (.int .i64 op), (.int .i64 k), (.int .i64 n), (.float .f64 x), (.string ⟨t.toArray⟩), (.bool y)][o]?)) (by kernel_rfl) ?_ (fun hq0 => ?_)
    · ((try dsimp only); (first | (intro o; simp; done) | (intro o; rw [hc _ _ (by simp; omega)]; simp; done) | (intro o; refine (set7_far _ _ _ _ _ _ _ _ _ _ _ (by simp)).trans ?_; rw [hc _ _ (by simp; omega)]; simp)))
    (refine wpAnyH_take (i := 0) (oi := ?_) (v := ?_) ?_ (by kernel_rfl) (by kernel_rfl) (by kernel_rfl) ?_ (Or.inl ⟨?_, ?_⟩) (by assumption) ?_; rotate_left 2; (· (simp only [List.getElem?_toArray, List.getElem?_cons_zero]; first | done | rfl)); (· exact (fun _ _ _ h => h)); (· rfl); (· (intro w hSw; (try dsimp only at hSw); go_simp; (try with_reducible rfl))))
    (try simp only [Act.put, List.setIfInBounds_toArray, List.set_cons_zero, List.set_cons_succ])
    (refine wpAnyH_take (i := 1) (oi := ?_) (v := ?_) ?_ (by kernel_rfl) (by kernel_rfl) (by kernel_rfl) ?_ (Or.inl ⟨?_, ?_⟩) (by assumption) ?_; rotate_left 2; (· (simp only [List.getElem?_toArray, List.getElem?_cons_succ, List.getElem?_cons_zero]; first | done | rfl)); (· exact (fun _ _ _ h => h)); (· rfl); (· (intro w hSw; (try dsimp only at hSw); go_simp; (try with_reducible rfl))))
    (try simp only [Act.put, List.setIfInBounds_toArray, List.set_cons_zero, List.set_cons_succ])
    (refine wpAnyH_take (i := 2) (oi := ?_) (v := ?_) ?_ (by kernel_rfl) (by kernel_rfl) (by kernel_rfl) ?_ (Or.inl ⟨?_, ?_⟩) (by assumption) ?_; rotate_left 2; (· (simp only [List.getElem?_toArray, List.getElem?_cons_succ, List.getElem?_cons_zero]; first | done | rfl)); (· exact (fun _ _ _ h => h)); (· rfl); (· (intro w hSw; (try dsimp only at hSw); go_simp; (try with_reducible rfl))))
    (try simp only [Act.put, List.setIfInBounds_toArray, List.set_cons_zero, List.set_cons_succ])
    (refine wpAnyH_take (i := 3) (oi := ?_) (v := ?_) ?_ (by kernel_rfl) (by kernel_rfl) (by kernel_rfl) ?_ (Or.inl ⟨?_, ?_⟩) (by assumption) ?_; rotate_left 2; (· (simp only [List.getElem?_toArray, List.getElem?_cons_succ, List.getElem?_cons_zero]; first | done | rfl)); (· exact (fun _ _ _ h => h)); (· rfl); (· (intro w hSw; (try dsimp only at hSw); go_simp; (try with_reducible rfl))))
    (try simp only [Act.put, List.setIfInBounds_toArray, List.set_cons_zero, List.set_cons_succ])
    (refine wpAnyH_take (i := 4) (oi := ?_) (v := ?_) ?_ (by kernel_rfl) (by kernel_rfl) (by kernel_rfl) ?_ (Or.inl ⟨?_, ?_⟩) (by assumption) ?_; rotate_left 2; (· (simp only [List.getElem?_toArray, List.getElem?_cons_succ, List.getElem?_cons_zero]; first | done | rfl)); (· exact (fun _ _ _ h => h)); (· rfl); (· (intro w hSw; (try dsimp only at hSw); go_simp; (try with_reducible rfl))))
    (try simp only [Act.put, List.setIfInBounds_toArray, List.set_cons_zero, List.set_cons_succ])
    (refine wpAnyH_take (i := 5) (oi := ?_) (v := ?_) ?_ (by kernel_rfl) (by kernel_rfl) (by kernel_rfl) ?_ (Or.inl ⟨?_, ?_⟩) (by assumption) ?_; rotate_left 2; (· (simp only [List.getElem?_toArray, List.getElem?_cons_succ, List.getElem?_cons_zero]; first | done | rfl)); (· exact (fun _ _ _ h => h)); (· rfl); (· (intro w hSw; (try dsimp only at hSw); go_simp; (try with_reducible rfl))))
    (try simp only [Act.put, List.setIfInBounds_toArray, List.set_cons_zero, List.set_cons_succ])
    refine wpAnyH_ready (rs := [6]) (by kernel_rfl) (by simp) ?_
    refine AllReadyH.cons (o := ?_) ?_ (fun K hK => ?_) AllReadyH.nil
    rotate_left 1
    · (simp only [List.getElem?_toArray, List.getElem?_cons_succ, List.getElem?_cons_zero]; first | done | rfl)
    go_simp
    first | (refine hK.out _ _ ?_ (fun hq1 => ?_)) | ((go_at_call 13; refine (HV.out _).mono ?_; rintro e w1 ⟨rfl, hb⟩; obtain ⟨hc, hf⟩ := bcell hb); refine hK.out _ _ ?_ (fun hq1 => ?_)) | ((go_at_call 13; refine (HV.out _).mono ?_; rintro e w1 ⟨rfl, hb⟩; obtain ⟨hc, hf⟩ := bcell hb); go_wp2_with fail; refine hK.out _ _ ?_ (fun hq1 => ?_)) | fail
    · ((try dsimp only); (first | (intro o; simp; done) | (intro o; rw [hc _ _ (by simp; omega)]; simp; done) | (intro o; refine (set7_far _ _ _ _ _ _ _ _ _ _ _ (by simp)).trans ?_; rw [hc _ _ (by simp; omega)]; simp)))
    clear hK K
    (try simp only [Act.put, List.setIfInBounds_toArray, List.set_cons_zero, List.set_cons_succ])
    clear hq0
    (refine wpAnyH_take (i := 7) (oi := ?_) (v := ?_) ?_ (by kernel_rfl) (by kernel_rfl) (by kernel_rfl) ?_ (Or.inl ⟨?_, ?_⟩) (by assumption) ?_; rotate_left 2; (· (simp only [List.getElem?_toArray, List.getElem?_cons_succ, List.getElem?_cons_zero]; first | done | rfl)); (· exact (fun _ _ _ h => h)); (· rfl); (· (intro w hSw; (try dsimp only at hSw); go_simp; (try with_reducible rfl))))
    (try simp only [Act.put, List.setIfInBounds_toArray, List.set_cons_zero, List.set_cons_succ])
    refine wpAnyH_ready (rs := [8]) (by kernel_rfl) (by simp) ?_
    refine AllReadyH.cons (o := ?_) ?_ (fun K hK => ?_) AllReadyH.nil
    rotate_left 1
    · (simp only [List.getElem?_toArray, List.getElem?_cons_succ, List.getElem?_cons_zero]; first | done | rfl)
    go_simp
    first | (refine hK.out _ _ ?_ (fun hq2 => ?_)) | ((go_at_call 13; refine (HV.out _).mono ?_; rintro e w1 ⟨rfl, hb⟩; obtain ⟨hc, hf⟩ := bcell hb); refine hK.out _ _ ?_ (fun hq2 => ?_)) | ((go_at_call 13; refine (HV.out _).mono ?_; rintro e w1 ⟨rfl, hb⟩; obtain ⟨hc, hf⟩ := bcell hb); go_wp2_with fail; refine hK.out _ _ ?_ (fun hq2 => ?_)) | fail
    · ((try dsimp only); (first | (intro o; simp; done) | (intro o; rw [hc _ _ (by simp; omega)]; simp; done) | (intro o; refine (set7_far _ _ _ _ _ _ _ _ _ _ _ (by simp)).trans ?_; rw [hc _ _ (by simp; omega)]; simp)))
    clear hK K
    (try simp only [Act.put, List.setIfInBounds_toArray, List.set_cons_zero, List.set_cons_succ])
    clear hq1
    refine wpAnyH_done (by kernel_rfl) ?_ _
    go_wp2
    obtain ⟨e0, e1, e2, e3, e4, e5, e6, hb2⟩ := set7_at w1 (w.heap.size + 1) (.string ⟨nm.toArray⟩) (.int .i64 op) (.int .i64 k') (.int .i64 n') (.float .f64 x') (.string ⟨t'.toArray⟩) (.bool y') (fun j hj => by rw [hc _ _ (by simp)]; simp; omega)
    generalize World.setCell _ _ _ = W2 at *
    refine bodyPost_ret (v := cond nm op k' n' x' t' y') (by simp [results, Tryz.results39, go_sem, e0, e1, e2, e3, e4, e5, e6]; try rfl) rfl ?_
    exact ⟨by rw [HR.out, h7]; rfl, (btrans (balloc2 _ _ _) (bdrew0 hb)).trans (hb2.mono (by omega))⟩
theorem canonV_kind (v : V) (h0 : 0 ≤ v.kind) (h3 : v.kind ≤ 3) : (canonV v).kind = v.kind := by
  unfold canonV
  rcases kind_ways v.kind with h | ⟨h, h1⟩ | ⟨h, h1, h2⟩ | ⟨h, h1, h2, h3⟩ | ⟨h, h1, h2, h3⟩
  · simp only [h, if_true]; exact (beq_iff_eq.1 h).symm
  · simp only [h, h1, Bool.false_eq_true, if_false, if_true]; exact (beq_iff_eq.1 h1).symm
  · simp only [h, h1, h2, Bool.false_eq_true, if_false, if_true]; exact (beq_iff_eq.1 h2).symm
  · simp only [h, h1, h2, h3, Bool.false_eq_true, if_false, if_true]; exact (beq_iff_eq.1 h3).symm
  · simp at h h1 h2 h3; omega
theorem canonV_void (v : V) : voidB (canonV v) = voidB v := by
  unfold canonV voidB
  rcases kind_ways v.kind with h | ⟨h, h1⟩ | ⟨h, h1, h2⟩ | ⟨h, h1, h2, h3⟩ | ⟨h, h1, h2, h3⟩
  · have : (v.kind == 1) = false := by rw [beq_iff_eq] at h; rw [h]; rfl
    simp [h, this]
  · simp [h, h1, Ord.canon_nan]
  · simp [h, h1, h2]
  · simp [h, h1, h2, h3]
  · simp [h, h1, h2, h3]
theorem canonC_void (c : C) (h0 : 0 ≤ c.val.kind) (h3 : c.val.kind ≤ 3) : cvoidB (canonC c) = cvoidB c := by
  unfold canonC cvoidB
  cases h7 : (c.op == 7)
  · have : (c.op != 7) = true := by rw [bne, h7]; rfl
    simp [this, canonV_void, canonV_kind _ h0 h3]
  · have : c.op = 7 := by simpa using h7
    simp [this]
end Go.Proofs.YthndlcgcmfhokaaGreatDoor.Val
end

section
/- THE WALK OF the law ValueSames of chapter 02. -/
namespace Go.Proofs.YthndlcgcmfhokaaGreatDoor.Val
open Go.RowKit Flt
theorem canon_two (x : Nat) : Ord.canon (Ord.canon x) = Ord.canon x := by
  unfold Ord.canon
  cases h : nan x
  · cases h2 : Ord.zero x
    · simp only [h, h2, Bool.false_eq_true, if_false]
    · simp only [Bool.false_eq_true, if_false, if_true]
      rw [if_neg (by decide), if_pos (by decide)]
  · simp only [if_true]
    rw [if_pos (by decide)]
/-- a value is the same as its canon, and is printed the same -/
theorem canon_ok (v : V) (hv : VOk v) : VOk (canonV v) ∧ sameB v (canonV v) = true := by
  obtain ⟨h0, h3, hx⟩ := hv
  have hk := canonV_kind v h0 h3
  have hw : v.kind = 0 ∨ v.kind = 1 ∨ v.kind = 2 ∨ v.kind = 3 := by omega
  obtain ⟨k, n, x, t, y⟩ := v
  dsimp only at h0 h3 hx hk hw
  rcases hw with rfl | rfl | rfl | rfl
  · exact ⟨⟨by simp [canonV], by simp [canonV], by simp [canonV]⟩, by simp [sameB, canonV]⟩
  · refine ⟨⟨by simp [canonV], by simp [canonV], (canon_bits x hx).1⟩, ?_⟩
    have e : canonV ⟨1, n, x, t, y⟩ = ⟨1, 0, Ord.canon x, [], false⟩ := rfl
    rw [e]
    show (true && Ord.same x (Ord.canon x)) = true
    unfold Ord.same
    rw [(key_canon x (Ord.canon x) hx (canon_bits x hx).1).2 (canon_two x).symm]
    simp
  · exact ⟨⟨by simp [canonV], by simp [canonV], by simp [canonV]⟩, by simp [sameB, canonV]⟩
  · exact ⟨⟨by simp [canonV], by simp [canonV], by simp [canonV]⟩, by simp [sameB, canonV]⟩
theorem canon_fits (v : V) (hn : -9223372036854775808 ≤ v.int ∧ v.int ≤ 9223372036854775807) : (-9223372036854775808 ≤ (canonV v).int ∧ (canonV v).int ≤ 9223372036854775807) ∧ (canonV v).text.length ≤ v.text.length := by
  unfold canonV
  split
  · exact ⟨hn, by simp⟩
  split
  · exact ⟨by simp, by simp⟩
  split
  · exact ⟨by simp, by simp⟩
  split <;> exact ⟨by simp, by simp⟩
theorem rs_below {w W W2 : World} {b c : Nat} {v0 v1 v2 v3 v4 u0 u1 u2 u3 u4 : Value} (hb : Below W.heap.size W W2)
    (h : W.cell? ⟨b, 0, none⟩ = some v0 ∧ W.cell? ⟨b, 1, none⟩ = some v1 ∧ W.cell? ⟨b, 2, none⟩ = some v2 ∧ W.cell? ⟨b, 3, none⟩ = some v3 ∧ W.cell? ⟨b, 4, none⟩ = some v4 ∧ W.cell? ⟨c, 0, none⟩ = some u0 ∧ W.cell? ⟨c, 1, none⟩ = some u1 ∧ W.cell? ⟨c, 2, none⟩ = some u2 ∧ W.cell? ⟨c, 3, none⟩ = some u3 ∧ W.cell? ⟨c, 4, none⟩ = some u4 ∧ Below w.heap.size w W ∧ b < W.heap.size ∧ c < W.heap.size) :
    W2.cell? ⟨b, 0, none⟩ = some v0 ∧ W2.cell? ⟨b, 1, none⟩ = some v1 ∧ W2.cell? ⟨b, 2, none⟩ = some v2 ∧ W2.cell? ⟨b, 3, none⟩ = some v3 ∧ W2.cell? ⟨b, 4, none⟩ = some v4 ∧ W2.cell? ⟨c, 0, none⟩ = some u0 ∧ W2.cell? ⟨c, 1, none⟩ = some u1 ∧ W2.cell? ⟨c, 2, none⟩ = some u2 ∧ W2.cell? ⟨c, 3, none⟩ = some u3 ∧ W2.cell? ⟨c, 4, none⟩ = some u4 ∧ Below w.heap.size w W2 ∧ b < W2.heap.size ∧ c < W2.heap.size := by
  obtain ⟨h0, h1, h2, h3, h4, g0, g1, g2, g3, g4, hB, hz, hz2⟩ := h
  have e : ∀ o, W2.cell? ⟨b, o, none⟩ = W.cell? ⟨b, o, none⟩ := fun o => hb.cell (p := ⟨b, o, none⟩) hz
  have f : ∀ o, W2.cell? ⟨c, o, none⟩ = W.cell? ⟨c, o, none⟩ := fun o => hb.cell (p := ⟨c, o, none⟩) hz2
  exact ⟨(e 0).trans h0, (e 1).trans h1, (e 2).trans h2, (e 3).trans h3, (e 4).trans h4, (f 0).trans g0, (f 1).trans g1, (f 2).trans g2, (f 3).trans g3, (f 4).trans g4, btrans hB hb, Nat.lt_of_lt_of_le hz hb.size, Nat.lt_of_lt_of_le hz2 hb.size⟩
theorem rs_own {w W : World} {b c : Nat} {v0 v1 v2 v3 v4 u0 u1 u2 u3 u4 : Value} (h : W.cell? ⟨b, 0, none⟩ = some v0 ∧ W.cell? ⟨b, 1, none⟩ = some v1 ∧ W.cell? ⟨b, 2, none⟩ = some v2 ∧ W.cell? ⟨b, 3, none⟩ = some v3 ∧ W.cell? ⟨b, 4, none⟩ = some v4 ∧ W.cell? ⟨c, 0, none⟩ = some u0 ∧ W.cell? ⟨c, 1, none⟩ = some u1 ∧ W.cell? ⟨c, 2, none⟩ = some u2 ∧ W.cell? ⟨c, 3, none⟩ = some u3 ∧ W.cell? ⟨c, 4, none⟩ = some u4 ∧ Below w.heap.size w W ∧ b < W.heap.size ∧ c < W.heap.size) : Below w.heap.size w W := by
  obtain ⟨_, _, _, _, _, _, _, _, _, _, hB, _, _⟩ := h; exact hB
theorem rs_start {w W : World} {v0 v1 v2 v3 v4 u0 u1 u2 u3 u4 : Value} {T U : TypeId} (h : Below ((w.alloc (.cells #[v0, v1, v2, v3, v4] T)).alloc (.cells #[u0, u1, u2, u3, u4] U)).heap.size ((w.alloc (.cells #[v0, v1, v2, v3, v4] T)).alloc (.cells #[u0, u1, u2, u3, u4] U)) W) :
    W.cell? ⟨w.heap.size, 0, none⟩ = some v0 ∧ W.cell? ⟨w.heap.size, 1, none⟩ = some v1 ∧ W.cell? ⟨w.heap.size, 2, none⟩ = some v2 ∧ W.cell? ⟨w.heap.size, 3, none⟩ = some v3 ∧ W.cell? ⟨w.heap.size, 4, none⟩ = some v4 ∧ W.cell? ⟨w.heap.size + 1, 0, none⟩ = some u0 ∧ W.cell? ⟨w.heap.size + 1, 1, none⟩ = some u1 ∧ W.cell? ⟨w.heap.size + 1, 2, none⟩ = some u2 ∧ W.cell? ⟨w.heap.size + 1, 3, none⟩ = some u3 ∧ W.cell? ⟨w.heap.size + 1, 4, none⟩ = some u4 ∧ Below w.heap.size w W ∧ w.heap.size < W.heap.size ∧ w.heap.size + 1 < W.heap.size := by
  obtain ⟨c0, c1, f0, f1, hz1, hl1⟩ := two_box h
  exact ⟨c0 0, c0 1, c0 2, c0 3, c0 4, c1 0, c1 1, c1 2, c1 3, c1 4, hl1, by omega, hz1⟩
set_option maxRecDepth 100000 in
set_option maxHeartbeats 8000000 in
theorem sames_any (k n : Int) (x : Nat) (t : List UInt8) (y : Bool) (k2 n2 : Int) (x2 : Nat) (t2 : List UInt8) (y2 : Bool) (w : World) (hT : Tab.Tabs w) (hP : Pf.PfT w) (hx : x < 18446744073709551616) (hx2 : x2 < 18446744073709551616) (ht : t.length ≤ 140737488351232) (ht2 : t2.length ≤ 140737488351232) (hn : -9223372036854775808 ≤ n ∧ n ≤ 9223372036854775807) (hn2 : -9223372036854775808 ≤ n2 ∧ n2 ≤ 9223372036854775807) :
    Calls Tryz.prog 3 #[val k n x t y, val k2 n2 x2 t2 y2] w fun e w' => e = .returned (.bool true) ∧ Below w.heap.size w w' := by
  have HT := Lib.hid hT; have HP := Lib.hid hP; clear hT hP
  have hl (w : World) := light_v k n x t y w ht
  have hl2 (w : World) := light_v k2 n2 x2 t2 y2 w ht2
  obtain ⟨lA, hlA⟩ : ∃ b, b = decide (t.length ≤ 300) := ⟨_, rfl⟩
  obtain ⟨lB, hlB⟩ : ∃ b, b = decide (t2.length ≤ 300) := ⟨_, rfl⟩
  rw [← hlA] at hl; rw [← hlB] at hl2
  have HL := Lib.hid hl; have HL2 := Lib.hid hl2; have HA := Lib.hid hlA; have HB := Lib.hid hlB; clear hl hl2 hlA hlB
  cases lA
  · go_enter Tryz.func3, Tryz.ntmps3
    go_wp2_with (first | (go_at_call 9; refine (fit02_any _ (HT.out.below (by repeat (first | assumption | (with_reducible exact Below.refl _ _) | exact balloc _ _ | exact balloc2 _ _ _ | refine btrans ?_ (by assumption) | refine btrans ?_ (balloc _ _))) (Nat.le_refl _)) (HP.out.below (by repeat (first | assumption | (with_reducible exact Below.refl _ _) | exact balloc _ _ | exact balloc2 _ _ _ | refine btrans ?_ (by assumption) | refine btrans ?_ (balloc _ _))) (Nat.le_refl _))).mono ?_; rintro e w1 ⟨rfl, hb1⟩; obtain ⟨hc1, hf1⟩ := bcell hb1) | (go_at_call 10; ((with_reducible refine (HL.out _).mono ?_); (rintro e w2 ⟨rfl, hb2⟩; replace hb1 := btrans hb1 hb2; clear hb2 hc1 hf1; obtain ⟨hc1, hf1⟩ := bcell hb1))) | (go_at_call 10; ((with_reducible refine (HL2.out _).mono ?_); (rintro e w2 ⟨rfl, hb2⟩; replace hb1 := btrans hb1 hb2; clear hb2 hc1 hf1; obtain ⟨hc1, hf1⟩ := bcell hb1))) | fail)
    all_goals first | omega | (go_ret; exact ⟨rfl, by repeat (first | assumption | (with_reducible exact Below.refl _ _) | exact balloc _ _ | exact balloc2 _ _ _ | refine btrans ?_ (by assumption) | refine btrans ?_ (balloc _ _))⟩)
  cases lB
  · go_enter Tryz.func3, Tryz.ntmps3
    go_wp2_with (first | (go_at_call 9; refine (fit02_any _ (HT.out.below (by repeat (first | assumption | (with_reducible exact Below.refl _ _) | exact balloc _ _ | exact balloc2 _ _ _ | refine btrans ?_ (by assumption) | refine btrans ?_ (balloc _ _))) (Nat.le_refl _)) (HP.out.below (by repeat (first | assumption | (with_reducible exact Below.refl _ _) | exact balloc _ _ | exact balloc2 _ _ _ | refine btrans ?_ (by assumption) | refine btrans ?_ (balloc _ _))) (Nat.le_refl _))).mono ?_; rintro e w1 ⟨rfl, hb1⟩; obtain ⟨hc1, hf1⟩ := bcell hb1) | (go_at_call 10; ((with_reducible refine (HL.out _).mono ?_); (rintro e w2 ⟨rfl, hb2⟩; replace hb1 := btrans hb1 hb2; clear hb2 hc1 hf1; obtain ⟨hc1, hf1⟩ := bcell hb1))) | (go_at_call 10; ((with_reducible refine (HL2.out _).mono ?_); (rintro e w2 ⟨rfl, hb2⟩; replace hb1 := btrans hb1 hb2; clear hb2 hc1 hf1; obtain ⟨hc1, hf1⟩ := bcell hb1))) | fail)
    all_goals first | omega | (go_ret; exact ⟨rfl, by repeat (first | assumption | (with_reducible exact Below.refl _ _) | exact balloc _ _ | exact balloc2 _ _ _ | refine btrans ?_ (by assumption) | refine btrans ?_ (balloc _ _))⟩)
  by_cases a0 : k < 0
  · go_enter Tryz.func3, Tryz.ntmps3
    go_wp2_with (first | (go_at_call 9; refine (fit02_any _ (HT.out.below (by repeat (first | assumption | (with_reducible exact Below.refl _ _) | exact balloc _ _ | exact balloc2 _ _ _ | refine btrans ?_ (by assumption) | refine btrans ?_ (balloc _ _))) (Nat.le_refl _)) (HP.out.below (by repeat (first | assumption | (with_reducible exact Below.refl _ _) | exact balloc _ _ | exact balloc2 _ _ _ | refine btrans ?_ (by assumption) | refine btrans ?_ (balloc _ _))) (Nat.le_refl _))).mono ?_; rintro e w1 ⟨rfl, hb1⟩; obtain ⟨hc1, hf1⟩ := bcell hb1) | (go_at_call 10; ((with_reducible refine (HL.out _).mono ?_); (rintro e w2 ⟨rfl, hb2⟩; replace hb1 := btrans hb1 hb2; clear hb2 hc1 hf1; obtain ⟨hc1, hf1⟩ := bcell hb1))) | (go_at_call 10; ((with_reducible refine (HL2.out _).mono ?_); (rintro e w2 ⟨rfl, hb2⟩; replace hb1 := btrans hb1 hb2; clear hb2 hc1 hf1; obtain ⟨hc1, hf1⟩ := bcell hb1))) | fail)
    all_goals first | omega | (go_ret; exact ⟨rfl, by repeat (first | assumption | (with_reducible exact Below.refl _ _) | exact balloc _ _ | exact balloc2 _ _ _ | refine btrans ?_ (by assumption) | refine btrans ?_ (balloc _ _))⟩)
  by_cases a3 : 3 < k
  · go_enter Tryz.func3, Tryz.ntmps3
    go_wp2_with (first | (go_at_call 9; refine (fit02_any _ (HT.out.below (by repeat (first | assumption | (with_reducible exact Below.refl _ _) | exact balloc _ _ | exact balloc2 _ _ _ | refine btrans ?_ (by assumption) | refine btrans ?_ (balloc _ _))) (Nat.le_refl _)) (HP.out.below (by repeat (first | assumption | (with_reducible exact Below.refl _ _) | exact balloc _ _ | exact balloc2 _ _ _ | refine btrans ?_ (by assumption) | refine btrans ?_ (balloc _ _))) (Nat.le_refl _))).mono ?_; rintro e w1 ⟨rfl, hb1⟩; obtain ⟨hc1, hf1⟩ := bcell hb1) | (go_at_call 10; ((with_reducible refine (HL.out _).mono ?_); (rintro e w2 ⟨rfl, hb2⟩; replace hb1 := btrans hb1 hb2; clear hb2 hc1 hf1; obtain ⟨hc1, hf1⟩ := bcell hb1))) | (go_at_call 10; ((with_reducible refine (HL2.out _).mono ?_); (rintro e w2 ⟨rfl, hb2⟩; replace hb1 := btrans hb1 hb2; clear hb2 hc1 hf1; obtain ⟨hc1, hf1⟩ := bcell hb1))) | fail)
    all_goals first | omega | (go_ret; exact ⟨rfl, by repeat (first | assumption | (with_reducible exact Below.refl _ _) | exact balloc _ _ | exact balloc2 _ _ _ | refine btrans ?_ (by assumption) | refine btrans ?_ (balloc _ _))⟩)
  by_cases b0 : k2 < 0
  · go_enter Tryz.func3, Tryz.ntmps3
    go_wp2_with (first | (go_at_call 9; refine (fit02_any _ (HT.out.below (by repeat (first | assumption | (with_reducible exact Below.refl _ _) | exact balloc _ _ | exact balloc2 _ _ _ | refine btrans ?_ (by assumption) | refine btrans ?_ (balloc _ _))) (Nat.le_refl _)) (HP.out.below (by repeat (first | assumption | (with_reducible exact Below.refl _ _) | exact balloc _ _ | exact balloc2 _ _ _ | refine btrans ?_ (by assumption) | refine btrans ?_ (balloc _ _))) (Nat.le_refl _))).mono ?_; rintro e w1 ⟨rfl, hb1⟩; obtain ⟨hc1, hf1⟩ := bcell hb1) | (go_at_call 10; ((with_reducible refine (HL.out _).mono ?_); (rintro e w2 ⟨rfl, hb2⟩; replace hb1 := btrans hb1 hb2; clear hb2 hc1 hf1; obtain ⟨hc1, hf1⟩ := bcell hb1))) | (go_at_call 10; ((with_reducible refine (HL2.out _).mono ?_); (rintro e w2 ⟨rfl, hb2⟩; replace hb1 := btrans hb1 hb2; clear hb2 hc1 hf1; obtain ⟨hc1, hf1⟩ := bcell hb1))) | fail)
    all_goals first | omega | (go_ret; exact ⟨rfl, by repeat (first | assumption | (with_reducible exact Below.refl _ _) | exact balloc _ _ | exact balloc2 _ _ _ | refine btrans ?_ (by assumption) | refine btrans ?_ (balloc _ _))⟩)
  by_cases b3 : 3 < k2
  · go_enter Tryz.func3, Tryz.ntmps3
    go_wp2_with (first | (go_at_call 9; refine (fit02_any _ (HT.out.below (by repeat (first | assumption | (with_reducible exact Below.refl _ _) | exact balloc _ _ | exact balloc2 _ _ _ | refine btrans ?_ (by assumption) | refine btrans ?_ (balloc _ _))) (Nat.le_refl _)) (HP.out.below (by repeat (first | assumption | (with_reducible exact Below.refl _ _) | exact balloc _ _ | exact balloc2 _ _ _ | refine btrans ?_ (by assumption) | refine btrans ?_ (balloc _ _))) (Nat.le_refl _))).mono ?_; rintro e w1 ⟨rfl, hb1⟩; obtain ⟨hc1, hf1⟩ := bcell hb1) | (go_at_call 10; ((with_reducible refine (HL.out _).mono ?_); (rintro e w2 ⟨rfl, hb2⟩; replace hb1 := btrans hb1 hb2; clear hb2 hc1 hf1; obtain ⟨hc1, hf1⟩ := bcell hb1))) | (go_at_call 10; ((with_reducible refine (HL2.out _).mono ?_); (rintro e w2 ⟨rfl, hb2⟩; replace hb1 := btrans hb1 hb2; clear hb2 hc1 hf1; obtain ⟨hc1, hf1⟩ := bcell hb1))) | fail)
    all_goals first | omega | (go_ret; exact ⟨rfl, by repeat (first | assumption | (with_reducible exact Below.refl _ _) | exact balloc _ _ | exact balloc2 _ _ _ | refine btrans ?_ (by assumption) | refine btrans ?_ (balloc _ _))⟩)
  have h300 : t.length ≤ 300 := of_decide_eq_true HA.out.symm
  have h3002 : t2.length ≤ 300 := of_decide_eq_true HB.out.symm
  have hvA : VOk ⟨k, n, x, t, y⟩ := ⟨by show 0 ≤ k; omega, by show k ≤ 3; omega, hx⟩
  have hvB : VOk ⟨k2, n2, x2, t2, y2⟩ := ⟨by show 0 ≤ k2; omega, by show k2 ≤ 3; omega, hx2⟩
  obtain ⟨hcA, hsA⟩ := canon_ok _ hvA
  have hpc := vT_same _ _ hvA hcA hsA
  have hcan (w : World) := vcanon_any k n x t y w
  have hcf := canon_fits ⟨k, n, x, t, y⟩ hn
  obtain ⟨c, hc⟩ : ∃ c, c = canonV ⟨k, n, x, t, y⟩ := ⟨_, rfl⟩
  rw [← hc] at hpc hcan hcA hsA hcf
  clear hc
  obtain ⟨kc, nc, xc, tc, yc⟩ := c
  have hp1 (w : World) (hW : Tab.Tabs w) := vprint_any k n x t y w hx hn.1 hn.2 (by omega) hW
  have hp2 (w : World) (hW : Tab.Tabs w) := vprint_any k2 n2 x2 t2 y2 w hx2 hn2.1 hn2.2 (by omega) hW
  have hp3 (w : World) (hW : Tab.Tabs w) := vprint_any kc nc xc tc yc w hcA.2.2 hcf.1.1 hcf.1.2 (by have := hcf.2; dsimp only at this; omega) hW
  have hs1 (w : World) := same_any k n x t y k2 n2 x2 t2 y2 w hx hx2
  have hs2 (w : World) := same_any k n x t y kc nc xc tc yc w hx hcA.2.2
  rw [← hpc] at hp3
  rw [hsA] at hs2
  have hone : (sameB ⟨k, n, x, t, y⟩ ⟨k2, n2, x2, t2, y2⟩ = true ∧ vT ⟨k2, n2, x2, t2, y2⟩ = vT ⟨k, n, x, t, y⟩) ∨ (sameB ⟨k, n, x, t, y⟩ ⟨k2, n2, x2, t2, y2⟩ = false ∧ (vT ⟨k, n, x, t, y⟩ == vT ⟨k2, n2, x2, t2, y2⟩) = false) := by
    cases hs : sameB ⟨k, n, x, t, y⟩ ⟨k2, n2, x2, t2, y2⟩ with
    | true => exact .inl ⟨rfl, (vT_same _ _ hvA hvB hs).symm⟩
    | false => exact .inr ⟨rfl, beq_eq_false_iff_ne.2 fun e => by
        have := (vT_apart _ _ hvA hvB [] [] (.inl rfl) (.inl rfl) (by rw [e])).1
        rw [hs] at this; cases this⟩
  clear hvA hvB hcA hsA hpc hcf h300 h3002
  generalize vT ⟨k, n, x, t, y⟩ = p at *
  generalize vT ⟨k2, n2, x2, t2, y2⟩ = q at *
  generalize sameB ⟨k, n, x, t, y⟩ ⟨k2, n2, x2, t2, y2⟩ = sb at *
  have HCAN := Lib.hid hcan; have HP1 := Lib.hid hp1; have HP2 := Lib.hid hp2; have HP3 := Lib.hid hp3; have HS1 := Lib.hid hs1; have HS2 := Lib.hid hs2
  clear hcan hp1 hp2 hp3 hs1 hs2
  have q1 : decide (k < 0) = false := by rw [decide_eq_false_iff_not]; omega
  have q2 : decide (3 < k) = false := by rw [decide_eq_false_iff_not]; omega
  have q3 : decide (k2 < 0) = false := by rw [decide_eq_false_iff_not]; omega
  have q4 : decide (3 < k2) = false := by rw [decide_eq_false_iff_not]; omega
  rcases hone with ⟨rfl, rfl⟩ | ⟨rfl, hne⟩
  all_goals
    go_enter Tryz.func3, Tryz.ntmps3
    go_wp2_with (first | (go_at_call 9; refine (fit02_any _ (HT.out.below (by repeat (first | assumption | (with_reducible exact Below.refl _ _) | exact balloc _ _ | exact balloc2 _ _ _ | refine btrans ?_ (by assumption) | refine btrans ?_ (balloc _ _))) (Nat.le_refl _)) (HP.out.below (by repeat (first | assumption | (with_reducible exact Below.refl _ _) | exact balloc _ _ | exact balloc2 _ _ _ | refine btrans ?_ (by assumption) | refine btrans ?_ (balloc _ _))) (Nat.le_refl _))).mono ?_; rintro e w1 ⟨rfl, hb1⟩; obtain ⟨hc1, hf1⟩ := bcell hb1) | (go_at_call 10; ((with_reducible refine (HL.out _).mono ?_); (rintro e w2 ⟨rfl, hb2⟩; replace hb1 := btrans hb1 hb2; clear hb2 hc1 hf1; obtain ⟨hc1, hf1⟩ := bcell hb1))) | (go_at_call 10; ((with_reducible refine (HL2.out _).mono ?_); (rintro e w2 ⟨rfl, hb2⟩; replace hb1 := btrans hb1 hb2; clear hb2 hc1 hf1; obtain ⟨hc1, hf1⟩ := bcell hb1))) | fail)
    have HSS := Lib.hid (rs_start hb1)
    clear hb1 hc1 hf1
    refine wp_region_held_drew (S := (fun w' => w'.cell? ⟨w.heap.size, 0, none⟩ = some (.int .i64 k) ∧ w'.cell? ⟨w.heap.size, 1, none⟩ = some (.int .i64 n) ∧ w'.cell? ⟨w.heap.size, 2, none⟩ = some (.float .f64 x) ∧ w'.cell? ⟨w.heap.size, 3, none⟩ = some (.string ⟨t.toArray⟩) ∧ w'.cell? ⟨w.heap.size, 4, none⟩ = some (.bool y) ∧ w'.cell? ⟨w.heap.size + 1, 0, none⟩ = some (.int .i64 k2) ∧ w'.cell? ⟨w.heap.size + 1, 1, none⟩ = some (.int .i64 n2) ∧ w'.cell? ⟨w.heap.size + 1, 2, none⟩ = some (.float .f64 x2) ∧ w'.cell? ⟨w.heap.size + 1, 3, none⟩ = some (.string ⟨t2.toArray⟩) ∧ w'.cell? ⟨w.heap.size + 1, 4, none⟩ = some (.bool y2) ∧ Below w.heap.size w w' ∧ w.heap.size < w'.heap.size ∧ w.heap.size + 1 < w'.heap.size)) (by kernel_rfl) ?_ (fun hq0 => ?_)
    · ((try dsimp only); (first | exact HSS.out | exact rs_below (bdrewN (Below.refl _ _) 1) HSS.out | assumption | exact rs_below (by assumption) (by assumption)))
    (refine wpAnyH_take (i := 0) (oi := ?_) (v := ?_) ?_ (by kernel_rfl) (by kernel_rfl) (by kernel_rfl) ?_ (Or.inl ⟨?_, ?_⟩) (by assumption) ?_; rotate_left 2; (· (simp only [List.getElem?_toArray, List.getElem?_cons_zero]; first | done | rfl)); (· exact (fun _ _ _ h => h)); (· rfl); (· (intro w hSw; (try dsimp only at hSw); go_simp; (try with_reducible rfl))))
    (try simp only [Act.put, List.setIfInBounds_toArray, List.set_cons_zero, List.set_cons_succ])
    (refine wpAnyH_take (i := 1) (oi := ?_) (v := ?_) ?_ (by kernel_rfl) (by kernel_rfl) (by kernel_rfl) ?_ (Or.inl ⟨?_, ?_⟩) (by assumption) ?_; rotate_left 2; (· (simp only [List.getElem?_toArray, List.getElem?_cons_succ, List.getElem?_cons_zero]; first | done | rfl)); (· exact (fun _ _ _ h => h)); (· rfl); (· (intro w hSw; (try dsimp only at hSw); go_simp; (try with_reducible rfl))))
    (try simp only [Act.put, List.setIfInBounds_toArray, List.set_cons_zero, List.set_cons_succ])
    (refine wpAnyH_take (i := 3) (oi := ?_) (v := ?_) ?_ (by kernel_rfl) (by kernel_rfl) (by kernel_rfl) ?_ (Or.inl ⟨?_, ?_⟩) (by assumption) ?_; rotate_left 2; (· (simp only [List.getElem?_toArray, List.getElem?_cons_succ, List.getElem?_cons_zero]; first | done | rfl)); (· exact (fun _ _ _ h => h)); (· rfl); (· (intro w hSw; (try dsimp only at hSw); go_simp; (try with_reducible rfl))))
    (try simp only [Act.put, List.setIfInBounds_toArray, List.set_cons_zero, List.set_cons_succ])
    (refine wpAnyH_take (i := 5) (oi := ?_) (v := ?_) ?_ (by kernel_rfl) (by kernel_rfl) (by kernel_rfl) ?_ (Or.inl ⟨?_, ?_⟩) (by assumption) ?_; rotate_left 2; (· (simp only [List.getElem?_toArray, List.getElem?_cons_succ, List.getElem?_cons_zero]; first | done | rfl)); (· exact (fun _ _ _ h => h)); (· rfl); (· (intro w hSw; (try dsimp only at hSw); go_simp; (try with_reducible rfl))))
    (try simp only [Act.put, List.setIfInBounds_toArray, List.set_cons_zero, List.set_cons_succ])
    refine wpAnyH_ready (rs := [2]) (by kernel_rfl) (by simp) ?_
    refine AllReadyH.cons (o := ?_) ?_ (fun K hK => ?_) AllReadyH.nil
    rotate_left 1
    · (simp only [List.getElem?_toArray, List.getElem?_cons_succ, List.getElem?_cons_zero]; first | done | rfl)
    go_simp
    first | (refine hK.out _ _ ?_ (fun hq1 => ?_)) | ((first | (go_at_call 11; first | (with_reducible refine (HS1.out _).mono ?_) | (with_reducible refine (HS2.out _).mono ?_)) | (go_at_call 12; first | (with_reducible refine (HP1.out _ (HT.out.below (rs_own (by assumption)) (Nat.le_refl _))).mono ?_) | (with_reducible refine (HP2.out _ (HT.out.below (rs_own (by assumption)) (Nat.le_refl _))).mono ?_) | (with_reducible refine (HP3.out _ (HT.out.below (rs_own (by assumption)) (Nat.le_refl _))).mono ?_)) | (go_at_call 13; refine (HCAN.out _).mono ?_)); (rintro e w9 ⟨rfl, hb9⟩); refine hK.out _ _ ?_ (fun hq1 => ?_)) | ((first | (go_at_call 11; first | (with_reducible refine (HS1.out _).mono ?_) | (with_reducible refine (HS2.out _).mono ?_)) | (go_at_call 12; first | (with_reducible refine (HP1.out _ (HT.out.below (rs_own (by assumption)) (Nat.le_refl _))).mono ?_) | (with_reducible refine (HP2.out _ (HT.out.below (rs_own (by assumption)) (Nat.le_refl _))).mono ?_) | (with_reducible refine (HP3.out _ (HT.out.below (rs_own (by assumption)) (Nat.le_refl _))).mono ?_)) | (go_at_call 13; refine (HCAN.out _).mono ?_)); (rintro e w9 ⟨rfl, hb9⟩); go_wp2_with fail; refine hK.out _ _ ?_ (fun hq1 => ?_)) | fail
    · ((try dsimp only); (first | exact HSS.out | exact rs_below (bdrewN (Below.refl _ _) 1) HSS.out | assumption | exact rs_below (by assumption) (by assumption)))
    clear hK K
    (try simp only [Act.put, List.setIfInBounds_toArray, List.set_cons_zero, List.set_cons_succ])
    clear hq0
    refine wpAnyH_ready (rs := [4]) (by kernel_rfl) (by simp) ?_
    refine AllReadyH.cons (o := ?_) ?_ (fun K hK => ?_) AllReadyH.nil
    rotate_left 1
    · (simp only [List.getElem?_toArray, List.getElem?_cons_succ, List.getElem?_cons_zero]; first | done | rfl)
    go_simp
    first | (refine hK.out _ _ ?_ (fun hq2 => ?_)) | ((first | (go_at_call 11; first | (with_reducible refine (HS1.out _).mono ?_) | (with_reducible refine (HS2.out _).mono ?_)) | (go_at_call 12; first | (with_reducible refine (HP1.out _ (HT.out.below (rs_own (by assumption)) (Nat.le_refl _))).mono ?_) | (with_reducible refine (HP2.out _ (HT.out.below (rs_own (by assumption)) (Nat.le_refl _))).mono ?_) | (with_reducible refine (HP3.out _ (HT.out.below (rs_own (by assumption)) (Nat.le_refl _))).mono ?_)) | (go_at_call 13; refine (HCAN.out _).mono ?_)); (rintro e w9 ⟨rfl, hb9⟩); refine hK.out _ _ ?_ (fun hq2 => ?_)) | ((first | (go_at_call 11; first | (with_reducible refine (HS1.out _).mono ?_) | (with_reducible refine (HS2.out _).mono ?_)) | (go_at_call 12; first | (with_reducible refine (HP1.out _ (HT.out.below (rs_own (by assumption)) (Nat.le_refl _))).mono ?_) | (with_reducible refine (HP2.out _ (HT.out.below (rs_own (by assumption)) (Nat.le_refl _))).mono ?_) | (with_reducible refine (HP3.out _ (HT.out.below (rs_own (by assumption)) (Nat.le_refl _))).mono ?_)) | (go_at_call 13; refine (HCAN.out _).mono ?_)); (rintro e w9 ⟨rfl, hb9⟩); go_wp2_with fail; refine hK.out _ _ ?_ (fun hq2 => ?_)) | fail
    · ((try dsimp only); (first | exact HSS.out | exact rs_below (bdrewN (Below.refl _ _) 1) HSS.out | assumption | exact rs_below (by assumption) (by assumption)))
    clear hK K
    (try simp only [Act.put, List.setIfInBounds_toArray, List.set_cons_zero, List.set_cons_succ])
    clear hq1
    refine wpAnyH_ready (rs := [6]) (by kernel_rfl) (by simp) ?_
    refine AllReadyH.cons (o := ?_) ?_ (fun K hK => ?_) AllReadyH.nil
    rotate_left 1
    · (simp only [List.getElem?_toArray, List.getElem?_cons_succ, List.getElem?_cons_zero]; first | done | rfl)
    go_simp
    first | (refine hK.out _ _ ?_ (fun hq3 => ?_)) | ((first | (go_at_call 11; first | (with_reducible refine (HS1.out _).mono ?_) | (with_reducible refine (HS2.out _).mono ?_)) | (go_at_call 12; first | (with_reducible refine (HP1.out _ (HT.out.below (rs_own (by assumption)) (Nat.le_refl _))).mono ?_) | (with_reducible refine (HP2.out _ (HT.out.below (rs_own (by assumption)) (Nat.le_refl _))).mono ?_) | (with_reducible refine (HP3.out _ (HT.out.below (rs_own (by assumption)) (Nat.le_refl _))).mono ?_)) | (go_at_call 13; refine (HCAN.out _).mono ?_)); (rintro e w9 ⟨rfl, hb9⟩); refine hK.out _ _ ?_ (fun hq3 => ?_)) | ((first | (go_at_call 11; first | (with_reducible refine (HS1.out _).mono ?_) | (with_reducible refine (HS2.out _).mono ?_)) | (go_at_call 12; first | (with_reducible refine (HP1.out _ (HT.out.below (rs_own (by assumption)) (Nat.le_refl _))).mono ?_) | (with_reducible refine (HP2.out _ (HT.out.below (rs_own (by assumption)) (Nat.le_refl _))).mono ?_) | (with_reducible refine (HP3.out _ (HT.out.below (rs_own (by assumption)) (Nat.le_refl _))).mono ?_)) | (go_at_call 13; refine (HCAN.out _).mono ?_)); (rintro e w9 ⟨rfl, hb9⟩); go_wp2_with fail; refine hK.out _ _ ?_ (fun hq3 => ?_)) | fail
    · ((try dsimp only); (first | exact HSS.out | exact rs_below (bdrewN (Below.refl _ _) 1) HSS.out | assumption | exact rs_below (by assumption) (by assumption)))
    clear hK K
    (try simp only [Act.put, List.setIfInBounds_toArray, List.set_cons_zero, List.set_cons_succ])
    clear hq2
    (refine wpAnyH_take (i := 7) (oi := ?_) (v := ?_) ?_ (by kernel_rfl) (by kernel_rfl) (by kernel_rfl) ?_ (Or.inl ⟨?_, ?_⟩) (by assumption) ?_; rotate_left 2; (· (simp only [List.getElem?_toArray, List.getElem?_cons_succ, List.getElem?_cons_zero]; first | done | rfl)); (· exact (fun _ _ _ h => h)); (· rfl); (· (intro w hSw; (try dsimp only at hSw); go_simp; (try with_reducible rfl))))
    (try simp only [Act.put, List.setIfInBounds_toArray, List.set_cons_zero, List.set_cons_succ])
    (refine wpAnyH_take (i := 8) (oi := ?_) (v := ?_) ?_ (by kernel_rfl) (by kernel_rfl) (by kernel_rfl) ?_ (Or.inl ⟨?_, ?_⟩) (by assumption) ?_; rotate_left 2; (· (simp only [List.getElem?_toArray, List.getElem?_cons_succ, List.getElem?_cons_zero]; first | done | rfl)); (· exact (fun _ _ _ h => h)); (· rfl); (· (intro w hSw; (try dsimp only at hSw); go_simp; (try with_reducible rfl))))
    (try simp only [Act.put, List.setIfInBounds_toArray, List.set_cons_zero, List.set_cons_succ])
    (refine wpAnyH_take (i := 9) (oi := ?_) (v := ?_) ?_ (by kernel_rfl) (by kernel_rfl) (by kernel_rfl) ?_ (Or.inl ⟨?_, ?_⟩) (by assumption) ?_; rotate_left 2; (· (simp only [List.getElem?_toArray, List.getElem?_cons_succ, List.getElem?_cons_zero]; first | done | rfl)); (· exact (fun _ _ _ h => h)); (· rfl); (· (intro w hSw; (try dsimp only at hSw); go_simp; (try with_reducible rfl))))
    (try simp only [Act.put, List.setIfInBounds_toArray, List.set_cons_zero, List.set_cons_succ])
    (refine wpAnyH_take (i := 10) (oi := ?_) (v := ?_) ?_ (by kernel_rfl) (by kernel_rfl) (by kernel_rfl) ?_ (Or.inl ⟨?_, ?_⟩) (by assumption) ?_; rotate_left 2; (· (simp only [List.getElem?_toArray, List.getElem?_cons_succ, List.getElem?_cons_zero]; first | done | rfl)); (· exact (fun _ _ _ h => h)); (· rfl); (· (intro w hSw; (try dsimp only at hSw); go_simp; (try with_reducible rfl))))
    (try simp only [Act.put, List.setIfInBounds_toArray, List.set_cons_zero, List.set_cons_succ])
    (refine wpAnyH_take (i := 11) (oi := ?_) (v := ?_) ?_ (by kernel_rfl) (by kernel_rfl) (by kernel_rfl) ?_ (Or.inl ⟨?_, ?_⟩) (by assumption) ?_; rotate_left 2; (· (simp only [List.getElem?_toArray, List.getElem?_cons_succ, List.getElem?_cons_zero]; first | done | rfl)); (· exact (fun _ _ _ h => h)); (· rfl); (· (intro w hSw; (try dsimp only at hSw); go_simp; (try with_reducible rfl))))
    (try simp only [Act.put, List.setIfInBounds_toArray, List.set_cons_zero, List.set_cons_succ])
    refine wpAnyH_ready (rs := [12]) (by kernel_rfl) (by simp) ?_
    refine AllReadyH.cons (o := ?_) ?_ (fun K hK => ?_) AllReadyH.nil
    rotate_left 1
    · (simp only [List.getElem?_toArray, List.getElem?_cons_succ, List.getElem?_cons_zero]; first | done | rfl)
    go_simp
    first | (refine hK.out _ _ ?_ (fun hq4 => ?_)) | ((first | (go_at_call 11; first | (with_reducible refine (HS1.out _).mono ?_) | (with_reducible refine (HS2.out _).mono ?_)) | (go_at_call 12; first | (with_reducible refine (HP1.out _ (HT.out.below (rs_own (by assumption)) (Nat.le_refl _))).mono ?_) | (with_reducible refine (HP2.out _ (HT.out.below (rs_own (by assumption)) (Nat.le_refl _))).mono ?_) | (with_reducible refine (HP3.out _ (HT.out.below (rs_own (by assumption)) (Nat.le_refl _))).mono ?_)) | (go_at_call 13; refine (HCAN.out _).mono ?_)); (rintro e w9 ⟨rfl, hb9⟩); refine hK.out _ _ ?_ (fun hq4 => ?_)) | ((first | (go_at_call 11; first | (with_reducible refine (HS1.out _).mono ?_) | (with_reducible refine (HS2.out _).mono ?_)) | (go_at_call 12; first | (with_reducible refine (HP1.out _ (HT.out.below (rs_own (by assumption)) (Nat.le_refl _))).mono ?_) | (with_reducible refine (HP2.out _ (HT.out.below (rs_own (by assumption)) (Nat.le_refl _))).mono ?_) | (with_reducible refine (HP3.out _ (HT.out.below (rs_own (by assumption)) (Nat.le_refl _))).mono ?_)) | (go_at_call 13; refine (HCAN.out _).mono ?_)); (rintro e w9 ⟨rfl, hb9⟩); go_wp2_with fail; refine hK.out _ _ ?_ (fun hq4 => ?_)) | fail
    · ((try dsimp only); (first | exact HSS.out | exact rs_below (bdrewN (Below.refl _ _) 1) HSS.out | assumption | exact rs_below (by assumption) (by assumption)))
    clear hK K
    (try simp only [Act.put, List.setIfInBounds_toArray, List.set_cons_zero, List.set_cons_succ])
    clear hq3
    refine wpAnyH_ready (rs := [13]) (by kernel_rfl) (by simp) ?_
    refine AllReadyH.cons (o := ?_) ?_ (fun K hK => ?_) AllReadyH.nil
    rotate_left 1
    · (simp only [List.getElem?_toArray, List.getElem?_cons_succ, List.getElem?_cons_zero]; first | done | rfl)
    go_simp
    first | (refine hK.out _ _ ?_ (fun hq5 => ?_)) | ((first | (go_at_call 11; first | (with_reducible refine (HS1.out _).mono ?_) | (with_reducible refine (HS2.out _).mono ?_)) | (go_at_call 12; first | (with_reducible refine (HP1.out _ (HT.out.below (rs_own (by assumption)) (Nat.le_refl _))).mono ?_) | (with_reducible refine (HP2.out _ (HT.out.below (rs_own (by assumption)) (Nat.le_refl _))).mono ?_) | (with_reducible refine (HP3.out _ (HT.out.below (rs_own (by assumption)) (Nat.le_refl _))).mono ?_)) | (go_at_call 13; refine (HCAN.out _).mono ?_)); (rintro e w9 ⟨rfl, hb9⟩); refine hK.out _ _ ?_ (fun hq5 => ?_)) | ((first | (go_at_call 11; first | (with_reducible refine (HS1.out _).mono ?_) | (with_reducible refine (HS2.out _).mono ?_)) | (go_at_call 12; first | (with_reducible refine (HP1.out _ (HT.out.below (rs_own (by assumption)) (Nat.le_refl _))).mono ?_) | (with_reducible refine (HP2.out _ (HT.out.below (rs_own (by assumption)) (Nat.le_refl _))).mono ?_) | (with_reducible refine (HP3.out _ (HT.out.below (rs_own (by assumption)) (Nat.le_refl _))).mono ?_)) | (go_at_call 13; refine (HCAN.out _).mono ?_)); (rintro e w9 ⟨rfl, hb9⟩); go_wp2_with fail; refine hK.out _ _ ?_ (fun hq5 => ?_)) | fail
    · ((try dsimp only); (first | exact HSS.out | exact rs_below (bdrewN (Below.refl _ _) 1) HSS.out | assumption | exact rs_below (by assumption) (by assumption)))
    clear hK K
    (try simp only [Act.put, List.setIfInBounds_toArray, List.set_cons_zero, List.set_cons_succ])
    clear hq4
    (refine wpAnyH_take (i := 14) (oi := ?_) (v := ?_) ?_ (by kernel_rfl) (by kernel_rfl) (by kernel_rfl) ?_ (Or.inl ⟨?_, ?_⟩) (by assumption) ?_; rotate_left 2; (· (simp only [List.getElem?_toArray, List.getElem?_cons_succ, List.getElem?_cons_zero]; first | done | rfl)); (· exact (fun _ _ _ h => h)); (· rfl); (· (intro w hSw; (try dsimp only at hSw); go_simp; (try with_reducible rfl))))
    (try simp only [Act.put, List.setIfInBounds_toArray, List.set_cons_zero, List.set_cons_succ])
    (refine wpAnyH_take (i := 15) (oi := ?_) (v := ?_) ?_ (by kernel_rfl) (by kernel_rfl) (by kernel_rfl) ?_ (Or.inl ⟨?_, ?_⟩) (by assumption) ?_; rotate_left 2; (· (simp only [List.getElem?_toArray, List.getElem?_cons_succ, List.getElem?_cons_zero]; first | done | rfl)); (· exact (fun _ _ _ h => h)); (· rfl); (· (intro w hSw; (try dsimp only at hSw); go_simp; (try with_reducible rfl))))
    (try simp only [Act.put, List.setIfInBounds_toArray, List.set_cons_zero, List.set_cons_succ])
    (refine wpAnyH_take (i := 16) (oi := ?_) (v := ?_) ?_ (by kernel_rfl) (by kernel_rfl) (by kernel_rfl) ?_ (Or.inl ⟨?_, ?_⟩) (by assumption) ?_; rotate_left 2; (· (simp only [List.getElem?_toArray, List.getElem?_cons_succ, List.getElem?_cons_zero]; first | done | rfl)); (· exact (fun _ _ _ h => h)); (· rfl); (· (intro w hSw; (try dsimp only at hSw); go_simp; (try with_reducible rfl))))
    (try simp only [Act.put, List.setIfInBounds_toArray, List.set_cons_zero, List.set_cons_succ])
    (refine wpAnyH_take (i := 18) (oi := ?_) (v := ?_) ?_ (by kernel_rfl) (by kernel_rfl) (by kernel_rfl) ?_ (Or.inl ⟨?_, ?_⟩) (by assumption) ?_; rotate_left 2; (· (simp only [List.getElem?_toArray, List.getElem?_cons_succ, List.getElem?_cons_zero]; first | done | rfl)); (· exact (fun _ _ _ h => h)); (· rfl); (· (intro w hSw; (try dsimp only at hSw); go_simp; (try with_reducible rfl))))
    (try simp only [Act.put, List.setIfInBounds_toArray, List.set_cons_zero, List.set_cons_succ])
    refine wpAnyH_ready (rs := [17]) (by kernel_rfl) (by simp) ?_
    refine AllReadyH.cons (o := ?_) ?_ (fun K hK => ?_) AllReadyH.nil
    rotate_left 1
    · (simp only [List.getElem?_toArray, List.getElem?_cons_succ, List.getElem?_cons_zero]; first | done | rfl)
    go_simp
    first | (refine hK.out _ _ ?_ (fun hq6 => ?_)) | ((first | (go_at_call 11; first | (with_reducible refine (HS1.out _).mono ?_) | (with_reducible refine (HS2.out _).mono ?_)) | (go_at_call 12; first | (with_reducible refine (HP1.out _ (HT.out.below (rs_own (by assumption)) (Nat.le_refl _))).mono ?_) | (with_reducible refine (HP2.out _ (HT.out.below (rs_own (by assumption)) (Nat.le_refl _))).mono ?_) | (with_reducible refine (HP3.out _ (HT.out.below (rs_own (by assumption)) (Nat.le_refl _))).mono ?_)) | (go_at_call 13; refine (HCAN.out _).mono ?_)); (rintro e w9 ⟨rfl, hb9⟩); refine hK.out _ _ ?_ (fun hq6 => ?_)) | ((first | (go_at_call 11; first | (with_reducible refine (HS1.out _).mono ?_) | (with_reducible refine (HS2.out _).mono ?_)) | (go_at_call 12; first | (with_reducible refine (HP1.out _ (HT.out.below (rs_own (by assumption)) (Nat.le_refl _))).mono ?_) | (with_reducible refine (HP2.out _ (HT.out.below (rs_own (by assumption)) (Nat.le_refl _))).mono ?_) | (with_reducible refine (HP3.out _ (HT.out.below (rs_own (by assumption)) (Nat.le_refl _))).mono ?_)) | (go_at_call 13; refine (HCAN.out _).mono ?_)); (rintro e w9 ⟨rfl, hb9⟩); go_wp2_with fail; refine hK.out _ _ ?_ (fun hq6 => ?_)) | fail
    · ((try dsimp only); (first | exact HSS.out | exact rs_below (bdrewN (Below.refl _ _) 1) HSS.out | assumption | exact rs_below (by assumption) (by assumption)))
    clear hK K
    (try simp only [Act.put, List.setIfInBounds_toArray, List.set_cons_zero, List.set_cons_succ])
    clear hq5
    refine wpAnyH_ready (rs := [19]) (by kernel_rfl) (by simp) ?_
    refine AllReadyH.cons (o := ?_) ?_ (fun K hK => ?_) AllReadyH.nil
    rotate_left 1
    · (simp only [List.getElem?_toArray, List.getElem?_cons_succ, List.getElem?_cons_zero]; first | done | rfl)
    go_simp
    first | (refine hK.out _ _ ?_ (fun hq7 => ?_)) | ((first | (go_at_call 11; first | (with_reducible refine (HS1.out _).mono ?_) | (with_reducible refine (HS2.out _).mono ?_)) | (go_at_call 12; first | (with_reducible refine (HP1.out _ (HT.out.below (rs_own (by assumption)) (Nat.le_refl _))).mono ?_) | (with_reducible refine (HP2.out _ (HT.out.below (rs_own (by assumption)) (Nat.le_refl _))).mono ?_) | (with_reducible refine (HP3.out _ (HT.out.below (rs_own (by assumption)) (Nat.le_refl _))).mono ?_)) | (go_at_call 13; refine (HCAN.out _).mono ?_)); (rintro e w9 ⟨rfl, hb9⟩); refine hK.out _ _ ?_ (fun hq7 => ?_)) | ((first | (go_at_call 11; first | (with_reducible refine (HS1.out _).mono ?_) | (with_reducible refine (HS2.out _).mono ?_)) | (go_at_call 12; first | (with_reducible refine (HP1.out _ (HT.out.below (rs_own (by assumption)) (Nat.le_refl _))).mono ?_) | (with_reducible refine (HP2.out _ (HT.out.below (rs_own (by assumption)) (Nat.le_refl _))).mono ?_) | (with_reducible refine (HP3.out _ (HT.out.below (rs_own (by assumption)) (Nat.le_refl _))).mono ?_)) | (go_at_call 13; refine (HCAN.out _).mono ?_)); (rintro e w9 ⟨rfl, hb9⟩); go_wp2_with fail; refine hK.out _ _ ?_ (fun hq7 => ?_)) | fail
    · ((try dsimp only); (first | exact HSS.out | exact rs_below (bdrewN (Below.refl _ _) 1) HSS.out | assumption | exact rs_below (by assumption) (by assumption)))
    clear hK K
    (try simp only [Act.put, List.setIfInBounds_toArray, List.set_cons_zero, List.set_cons_succ])
    clear hq6
    refine wpAnyH_ready (rs := [20]) (by kernel_rfl) (by simp) ?_
    refine AllReadyH.cons (o := ?_) ?_ (fun K hK => ?_) AllReadyH.nil
    rotate_left 1
    · (simp only [List.getElem?_toArray, List.getElem?_cons_succ, List.getElem?_cons_zero]; first | done | rfl)
    go_simp
    first | (refine hK.out _ _ ?_ (fun hq8 => ?_)) | ((first | (go_at_call 11; first | (with_reducible refine (HS1.out _).mono ?_) | (with_reducible refine (HS2.out _).mono ?_)) | (go_at_call 12; first | (with_reducible refine (HP1.out _ (HT.out.below (rs_own (by assumption)) (Nat.le_refl _))).mono ?_) | (with_reducible refine (HP2.out _ (HT.out.below (rs_own (by assumption)) (Nat.le_refl _))).mono ?_) | (with_reducible refine (HP3.out _ (HT.out.below (rs_own (by assumption)) (Nat.le_refl _))).mono ?_)) | (go_at_call 13; refine (HCAN.out _).mono ?_)); (rintro e w9 ⟨rfl, hb9⟩); refine hK.out _ _ ?_ (fun hq8 => ?_)) | ((first | (go_at_call 11; first | (with_reducible refine (HS1.out _).mono ?_) | (with_reducible refine (HS2.out _).mono ?_)) | (go_at_call 12; first | (with_reducible refine (HP1.out _ (HT.out.below (rs_own (by assumption)) (Nat.le_refl _))).mono ?_) | (with_reducible refine (HP2.out _ (HT.out.below (rs_own (by assumption)) (Nat.le_refl _))).mono ?_) | (with_reducible refine (HP3.out _ (HT.out.below (rs_own (by assumption)) (Nat.le_refl _))).mono ?_)) | (go_at_call 13; refine (HCAN.out _).mono ?_)); (rintro e w9 ⟨rfl, hb9⟩); go_wp2_with fail; refine hK.out _ _ ?_ (fun hq8 => ?_)) | fail
    · ((try dsimp only); (first | exact HSS.out | exact rs_below (bdrewN (Below.refl _ _) 1) HSS.out | assumption | exact rs_below (by assumption) (by assumption)))
    clear hK K
    (try simp only [Act.put, List.setIfInBounds_toArray, List.set_cons_zero, List.set_cons_succ])
    clear hq7
    (refine wpAnyH_take (i := 21) (oi := ?_) (v := ?_) ?_ (by kernel_rfl) (by kernel_rfl) (by kernel_rfl) ?_ (Or.inl ⟨?_, ?_⟩) (by assumption) ?_; rotate_left 2; (· (simp only [List.getElem?_toArray, List.getElem?_cons_succ, List.getElem?_cons_zero]; first | done | rfl)); (· exact (fun _ _ _ h => h)); (· rfl); (· (intro w hSw; (try dsimp only at hSw); go_simp; (try with_reducible rfl))))
    (try simp only [Act.put, List.setIfInBounds_toArray, List.set_cons_zero, List.set_cons_succ])
    (refine wpAnyH_take (i := 22) (oi := ?_) (v := ?_) ?_ (by kernel_rfl) (by kernel_rfl) (by kernel_rfl) ?_ (Or.inl ⟨?_, ?_⟩) (by assumption) ?_; rotate_left 2; (· (simp only [List.getElem?_toArray, List.getElem?_cons_succ, List.getElem?_cons_zero]; first | done | rfl)); (· exact (fun _ _ _ h => h)); (· rfl); (· (intro w hSw; (try dsimp only at hSw); go_simp; (try with_reducible rfl))))
    (try simp only [Act.put, List.setIfInBounds_toArray, List.set_cons_zero, List.set_cons_succ])
    (refine wpAnyH_take (i := 23) (oi := ?_) (v := ?_) ?_ (by kernel_rfl) (by kernel_rfl) (by kernel_rfl) ?_ (Or.inl ⟨?_, ?_⟩) (by assumption) ?_; rotate_left 2; (· (simp only [List.getElem?_toArray, List.getElem?_cons_succ, List.getElem?_cons_zero]; first | done | rfl)); (· exact (fun _ _ _ h => h)); (· rfl); (· (intro w hSw; (try dsimp only at hSw); go_simp; (try with_reducible rfl))))
    (try simp only [Act.put, List.setIfInBounds_toArray, List.set_cons_zero, List.set_cons_succ])
    refine wpAnyH_done (by kernel_rfl) ?_ _
    go_wp2
    go_ret
    exact ⟨rfl, rs_own (by assumption)⟩
end Go.Proofs.YthndlcgcmfhokaaGreatDoor.Val
end
