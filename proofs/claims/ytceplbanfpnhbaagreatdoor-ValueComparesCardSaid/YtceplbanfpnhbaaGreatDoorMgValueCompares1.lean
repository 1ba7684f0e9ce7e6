/- MERGED BY A PROGRAM OF MINE (mg.py) out of my own texts, in their order: CondLaw, CondVoid, ImplFn, OrdKey, Same, ValLaw, VComps. -/
import Derived.Test.YtceplbanfpnhbaaGreatDoorValFn
import Derived.Test.YtceplbanfpnhbaaGreatDoorCond
import Derived.Test.YtceplbanfpnhbaaGreatDoorName
import Derived.Test.YtceplbanfpnhbaaGreatDoorOrd
import Derived.Test.YtceplbanfpnhbaaGreatDoorFit02
import Derived.BigQuiet
import Derived.Deep.QuietTactic

section
/- PLAIN LAWS OF VALUES AND CONDITIONS. No program in sight. -/
namespace Go.Proofs.YtceplbanfpnhbaaGreatDoor.Val
open Flt
theorem bytes_self (t : List UInt8) : Lib.compareBytes t t = 0 := by
  induction t with
  | nil => rfl
  | cons c t ih => simp [Lib.compareBytes, ih]
theorem lt_self (x : Nat) : Flt.lt x x = false := by simp [Flt.lt]
theorem cmp_self (v : V) : cmp v v = 0 := by
  unfold cmp sgn
  rw [lt_self, bytes_self]
  cases v.yes <;> simp
theorem pre_self (t : List UInt8) : pre t t = true := by
  unfold pre Lib.hasPrefix; rw [List.isPrefixOf_iff_prefix]; exact List.prefix_refl t
theorem cmp1_self (v : V) : cmp1 v v = 0 := by unfold cmp1; rw [cmp_self]; simp
/-- what Holds answers of a value and its own -/
def sideB (op : Int) (void text : Bool) : Bool := if op == 0 || op == 3 || op == 5 then !void else if op == 6 then text && !void else op == 7
theorem side_eq (nm : List UInt8) (op : Int) (v : V) : holdsB ⟨nm, op, v⟩ v = sideB op (voidB v) (v.kind == 2) := by
  have e : cmpOk v v = !voidB v := by unfold cmpOk; cases voidB v <;> simp
  unfold holdsB sideB
  simp only [cmp1_self, pre_self, e]
  by_cases h7 : op = 7
  · subst h7; rfl
  by_cases h6 : op = 6
  · subst h6; cases voidB v <;> simp
  by_cases h0 : op = 0
  · subst h0; simp
  by_cases h1 : op = 1
  · subst h1; simp
  by_cases h2 : op = 2
  · subst h2; simp
  by_cases h3 : op = 3
  · subst h3; simp
  by_cases h4 : op = 4
  · subst h4; simp
  by_cases h5 : op = 5
  · subst h5; simp
  simp [h0, h1, h2, h3, h4, h5, h6, h7]
end Go.Proofs.YtceplbanfpnhbaaGreatDoor.Val
end

section
/- THE WALKS OF cond.Void and cond.Right, the laws' light. -/
namespace Go.Proofs.YtceplbanfpnhbaaGreatDoor.Val
open Go.RowKit Flt
def cvoidB (c : C) : Bool := (c.op != 7 && voidB c.val) || (c.op == 6 && c.val.kind != 2)
def cRight (c : C) : Bool := Sc.nameB c.name && decide (0 ≤ c.op) && decide (c.op ≤ 7) && vRight c.val
set_option maxHeartbeats 400000 in
theorem cvoid_any (nm : List UInt8) (op k n : Int) (x : Nat) (t : List UInt8) (y : Bool) (w : World) :
    Calls Tryz.prog 68 #[cond nm op k n x t y] w fun e w' => e = .returned (.bool (cvoidB ⟨nm, op, k, n, x, t, y⟩)) ∧ Below w.heap.size w w' := by
  have hr : cvoidB ⟨nm, op, k, n, x, t, y⟩ = ((op != 7 && voidB ⟨k, n, x, t, y⟩) || (op == 6 && k != 2)) := rfl
  have hv (w : World) := void_any k n x t y w
  generalize voidB ⟨k, n, x, t, y⟩ = vb at *
  have HR := Lib.hid hr; have HV := Lib.hid hv; clear hr hv
  by_cases h7 : op = 7
  · subst h7
    go_enter Tryz.func68, Tryz.ntmps68
    go_wp2
    go_ret
    exact ⟨ret_bool (by rw [HR.out]; simp [*]), balloc _ _⟩
  by_cases h6 : op = 6
  · subst h6
    clear h7
    cases vb
    all_goals
      go_enter Tryz.func68, Tryz.ntmps68
      go_wp2_with (go_at_call 82; refine (HV.out _).mono ?_; rintro e w1 ⟨rfl, hb⟩; obtain ⟨hc, hf⟩ := bcell hb)
      go_ret
      exact ⟨ret_bool (by rw [HR.out]; simp [*]), btrans (balloc _ _) hb⟩
  cases vb
  all_goals
    go_enter Tryz.func68, Tryz.ntmps68
    go_wp2_with (go_at_call 82; refine (HV.out _).mono ?_; rintro e w1 ⟨rfl, hb⟩; obtain ⟨hc, hf⟩ := bcell hb)
    go_ret
    exact ⟨ret_bool (by rw [HR.out]; simp [*]), btrans (balloc _ _) hb⟩
theorem right_ways3 (op : Int) (n : Bool) : n = false ∨ (n = true ∧ decide (0 ≤ op) = false) ∨ (n = true ∧ decide (0 ≤ op) = true ∧ decide (op ≤ 7) = false) ∨ (n = true ∧ decide (0 ≤ op) = true ∧ decide (op ≤ 7) = true) := by
  cases n <;> cases decide (0 ≤ op) <;> cases decide (op ≤ 7) <;> simp
set_option maxHeartbeats 400000 in
theorem cright_any (nm : List UInt8) (op k n : Int) (x : Nat) (t : List UInt8) (y : Bool) (w : World) (hn : nm.length ≤ 140737488351232) (ht : t.length ≤ 140737488351232) :
    Calls Tryz.prog 50 #[cond nm op k n x t y] w fun e w' => e = .returned (.bool (cRight ⟨nm, op, k, n, x, t, y⟩)) ∧ Below w.heap.size w w' := by
  have hr : cRight ⟨nm, op, k, n, x, t, y⟩ = (Sc.nameB nm && decide (0 ≤ op) && decide (op ≤ 7) && vRight ⟨k, n, x, t, y⟩) := rfl
  have hv (w : World) := vright_any k n x t y w ht
  have hm (w : World) := Sc.name_l nm w hn
  generalize vRight ⟨k, n, x, t, y⟩ = vb at *
  generalize Sc.nameB nm = nb at *
  have HR := Lib.hid hr; have HV := Lib.hid hv; have HM := Lib.hid hm; clear hr hv hm
  rcases right_ways3 op nb with rfl | ⟨rfl, h1⟩ | ⟨rfl, h1, h2⟩ | ⟨rfl, h1, h2⟩
  · have HQ : Hid (cRight ⟨nm, op, k, n, x, t, y⟩ = false) := Lib.hid (by rw [HR.out]; rfl)
    go_enter Tryz.func50, Tryz.ntmps50
    go_wp2_with (first | (go_at_call 86; refine (HM.out _).mono ?_; rintro e w' ⟨rfl, rfl⟩) | (go_at_call 39; refine (HV.out _).mono ?_; rintro e w1 ⟨rfl, hb⟩; obtain ⟨hc, hf⟩ := bcell hb))
    go_ret
    exact ⟨ret_bool HQ.out.symm, by repeat (first | assumption | (with_reducible exact Below.refl _ _) | exact balloc _ _ | exact balloc2 _ _ _ | refine btrans ?_ (by assumption) | refine btrans ?_ (balloc _ _))⟩
  · have HQ : Hid (cRight ⟨nm, op, k, n, x, t, y⟩ = false) := Lib.hid (by rw [HR.out, h1]; rfl)
    go_enter Tryz.func50, Tryz.ntmps50
    go_wp2_with (first | (go_at_call 86; refine (HM.out _).mono ?_; rintro e w' ⟨rfl, rfl⟩) | (go_at_call 39; refine (HV.out _).mono ?_; rintro e w1 ⟨rfl, hb⟩; obtain ⟨hc, hf⟩ := bcell hb))
    go_ret
    exact ⟨ret_bool HQ.out.symm, by repeat (first | assumption | (with_reducible exact Below.refl _ _) | exact balloc _ _ | exact balloc2 _ _ _ | refine btrans ?_ (by assumption) | refine btrans ?_ (balloc _ _))⟩
  · have HQ : Hid (cRight ⟨nm, op, k, n, x, t, y⟩ = false) := Lib.hid (by rw [HR.out, h1, h2]; rfl)
    go_enter Tryz.func50, Tryz.ntmps50
    go_wp2_with (first | (go_at_call 86; refine (HM.out _).mono ?_; rintro e w' ⟨rfl, rfl⟩) | (go_at_call 39; refine (HV.out _).mono ?_; rintro e w1 ⟨rfl, hb⟩; obtain ⟨hc, hf⟩ := bcell hb))
    go_ret
    exact ⟨ret_bool HQ.out.symm, by repeat (first | assumption | (with_reducible exact Below.refl _ _) | exact balloc _ _ | exact balloc2 _ _ _ | refine btrans ?_ (by assumption) | refine btrans ?_ (balloc _ _))⟩
  · have HQ : Hid (cRight ⟨nm, op, k, n, x, t, y⟩ = vb) := Lib.hid (by rw [HR.out, h1, h2]; rfl)
    go_enter Tryz.func50, Tryz.ntmps50
    go_wp2_with (first | (go_at_call 86; refine (HM.out _).mono ?_; rintro e w' ⟨rfl, rfl⟩) | (go_at_call 39; refine (HV.out _).mono ?_; rintro e w1 ⟨rfl, hb⟩; obtain ⟨hc, hf⟩ := bcell hb))
    go_ret
    exact ⟨ret_bool HQ.out.symm, by repeat (first | assumption | (with_reducible exact Below.refl _ _) | exact balloc _ _ | exact balloc2 _ _ _ | refine btrans ?_ (by assumption) | refine btrans ?_ (balloc _ _))⟩
theorem void_holds (c : C) (v : V) (h : cvoidB c = true) : holdsB c v = false := by
  unfold cvoidB at h
  have h' : ((c.op = 7) = False ∧ voidB c.val = true) ∨ (c.op = 6 ∧ c.val.kind ≠ 2) := by
    simp at h
    rcases h with h | h
    · exact Or.inl ⟨by simpa using h.1, h.2⟩
    · exact Or.inr h
  rcases h' with ⟨h7, hv⟩ | ⟨h6, hk⟩
  · have e : cmpOk v c.val = false := by unfold cmpOk; rw [hv]; simp
    unfold holdsB; rw [e]; simp [h7]
  · have e : (cmpOk v c.val && v.kind == 2) = false := by
      unfold cmpOk
      cases hh : (v.kind == c.val.kind)
      · rfl
      · have : (v.kind == 2) = false := by
          rw [beq_eq_false_iff_ne]; rw [beq_iff_eq] at hh; rw [hh]; exact hk
        rw [this]; simp
    unfold holdsB; rw [h6, e]; rfl
end Go.Proofs.YtceplbanfpnhbaaGreatDoor.Val
end

section
/- PLAIN LAW OF Implies: what it answers, that it is sound, that it is handed on. No program in sight. -/
namespace Go.Proofs.YtceplbanfpnhbaaGreatDoor.Val
open Flt
theorem cb_zero : ∀ (a b : List UInt8), Lib.compareBytes a b = 0 ↔ a = b
  | [], [] => by simp [Lib.compareBytes]
  | [], _ :: _ => by simp [Lib.compareBytes]
  | _ :: _, [] => by simp [Lib.compareBytes]
  | a :: ar, b :: bs => by
    unfold Lib.compareBytes
    by_cases h : a < b
    · rw [if_pos h]; constructor
      · intro h'; omega
      · intro h'; injection h' with h1 h2; subst h1; exact absurd h (UInt8.lt_irrefl _)
    · rw [if_neg h]
      by_cases h' : b < a
      · rw [if_pos h']; constructor
        · intro h'; omega
        · intro h2; injection h2 with h1 h3; subst h1; exact absurd h' (UInt8.lt_irrefl _)
      · rw [if_neg h', cb_zero ar bs]
        have e : a = b := by
          rw [UInt8.lt_iff_toNat_lt] at h h'
          exact UInt8.toNat_inj.1 (by omega)
        subst e; simp
theorem cb_lt : ∀ (a b c : List UInt8), (Lib.compareBytes a b < 0 → Lib.compareBytes b c < 0 → Lib.compareBytes a c < 0) ∧ (0 < Lib.compareBytes a b → 0 < Lib.compareBytes b c → 0 < Lib.compareBytes a c)
  | [], [], _ => by simp [Lib.compareBytes]
  | [], _ :: _, [] => by simp [Lib.compareBytes]
  | [], _ :: _, _ :: _ => by simp [Lib.compareBytes]
  | _ :: _, [], [] => by simp [Lib.compareBytes]
  | _ :: _, [], _ :: _ => by simp [Lib.compareBytes]
  | _ :: _, _ :: _, [] => by simp [Lib.compareBytes]
  | a :: ar, b :: bs, c :: cs => by
    have ih := cb_lt ar bs cs
    unfold Lib.compareBytes
    simp only [UInt8.lt_iff_toNat_lt]
    by_cases h1 : a.toNat < b.toNat <;> by_cases h2 : b.toNat < a.toNat <;> by_cases h3 : b.toNat < c.toNat <;> by_cases h4 : c.toNat < b.toNat <;> by_cases h5 : a.toNat < c.toNat <;> by_cases h6 : c.toNat < a.toNat <;> simp only [h1, h2, h3, h4, h5, h6, if_true, if_false] <;> first | exact ih | omega
/-- how three comparisons hang together -/
def Ord3 (p q r : Int) : Prop := (p < 0 → q ≤ 0 → r < 0) ∧ (p ≤ 0 → q < 0 → r < 0) ∧ (p = 0 → q = 0 → r = 0) ∧ (0 < p → 0 ≤ q → 0 < r) ∧ (0 ≤ p → 0 < q → 0 < r)
theorem cb_ord (a b c : List UInt8) : Ord3 (Lib.compareBytes a b) (Lib.compareBytes b c) (Lib.compareBytes a c) := by
  have h := cb_lt a b c
  have h1 := cb_zero a b
  have h2 := cb_zero b c
  unfold Ord3
  by_cases e1 : a = b
  · subst e1; rw [(cb_zero a a).2 rfl] at *; omega
  by_cases e2 : b = c
  · subst e2; rw [(cb_zero b b).2 rfl] at *; omega
  simp only [e1, iff_false] at h1
  simp only [e2, iff_false] at h2
  omega
theorem sgn_spec (a b : Int) : (sgn (decide (a < b)) (decide (b < a)) < 0 ↔ a < b) ∧ (sgn (decide (a < b)) (decide (b < a)) = 0 ↔ a = b) := by
  unfold sgn
  by_cases h : a < b
  · simp [h]; omega
  · by_cases h2 : b < a
    · simp [h, h2]; omega
    · simp [h, h2]; omega
theorem sgn_ord (a b c : Int) : Ord3 (sgn (decide (a < b)) (decide (b < a))) (sgn (decide (b < c)) (decide (c < b))) (sgn (decide (a < c)) (decide (c < a))) := by
  have h1 := sgn_spec a b
  have h2 := sgn_spec b c
  have h3 := sgn_spec a c
  unfold Ord3
  generalize sgn (decide (a < b)) (decide (b < a)) = p at *
  generalize sgn (decide (b < c)) (decide (c < b)) = q at *
  generalize sgn (decide (a < c)) (decide (c < a)) = r at *
  omega
theorem cmp_ord (x y z : V) (h1 : x.kind = y.kind) (h2 : y.kind = z.kind) (v1 : voidB x = false) (v2 : voidB y = false) (v3 : voidB z = false) : Ord3 (cmp x y) (cmp y z) (cmp x z) := by
  unfold cmp
  unfold voidB at v1 v2 v3
  rw [h1, h2] at v1; rw [h2] at v2; rw [h1, h2]
  by_cases k0 : z.kind = 0
  · simp only [k0]; exact sgn_ord _ _ _
  by_cases k1 : z.kind = 1
  · have n1 : nan x.num = false := by simpa [k1] using v1
    have n2 : nan y.num = false := by simpa [k1] using v2
    have n3 : nan z.num = false := by simpa [k1] using v3
    simp only [k1, Flt.lt, n1, n2, n3]
    exact sgn_ord _ _ _
  by_cases k2 : z.kind = 2
  · simp only [k2]; exact cb_ord _ _ _
  have e0 : (z.kind == 0) = false := by simpa using k0
  have e1 : (z.kind == 1) = false := by simpa using k1
  have e2 : (z.kind == 2) = false := by simpa using k2
  simp only [e0, e1, e2, Bool.false_eq_true, if_false]
  cases x.yes <;> cases y.yes <;> cases z.yes <;> (unfold Ord3 sgn; simp)
def relB (op n : Int) (p : Bool) : Bool :=
  if op == 7 then true else if op == 6 then p else if op == 0 then n == 0 else if op == 1 then n != 0 else if op == 2 then decide (n < 0) else if op == 3 then decide (n ≤ 0) else if op == 4 then decide (0 < n) else if op == 5 then decide (0 ≤ n) else false
theorem holds_rel (c : C) (v : V) (h : cmpOk v c.val = true) : holdsB c v = relB c.op (cmp v c.val) (v.kind == 2 && pre v.text c.val.text) := by
  unfold holdsB relB cmp1
  simp [h]
def lowB (n a b : Int) : Bool := ((b == 2 || b == 3) && (decide (n < 0) || (n == 0 && (b == 3 || a != 3)))) || (b == 1 && (decide (n < 0) || (n == 0 && a != 3)))
def uppB (n a b : Int) : Bool := ((b == 4 || b == 5) && (decide (0 < n) || (n == 0 && (b == 5 || a != 5)))) || (b == 1 && (decide (0 < n) || (n == 0 && a != 5)))
/-- the rule for two conditions on one kind, none void, neither Has -/
def ruleB (a b : C) : Bool :=
  if a.op == 0 then holdsB b a.val
  else if a.op == 1 then b.op == 1 && cmp1 a.val b.val == 0
  else if a.op == 6 then (b.op == 6 && pre a.val.text b.val.text) || (b.op == 1 && !pre b.val.text a.val.text)
  else if a.op == 2 || a.op == 3 then lowB (cmp1 a.val b.val) a.op b.op
  else uppB (cmp1 a.val b.val) a.op b.op
def impliesB (a b : C) : Bool :=
  if a.name != b.name then false
  else if cvoidB a || b.op == 7 then true
  else if a.op == 7 || cvoidB b || a.val.kind != b.val.kind then false
  else ruleB a b
theorem eight {o : Int} (h1 : 0 ≤ o) (h2 : o ≤ 7) (h : o ≠ 7) : o = 0 ∨ o = 1 ∨ o = 2 ∨ o = 3 ∨ o = 4 ∨ o = 5 ∨ o = 6 := by omega
theorem cvoid_at {c : C} (h : cvoidB c = false) (h7 : c.op ≠ 7) : voidB c.val = false := by
  unfold cvoidB at h
  have : (c.op != 7) = true := by simpa using h7
  rw [this] at h
  simp at h
  exact h.1
/-- a condition that holds and isn't Has can be held against -/
theorem holds_ok {c : C} {v : V} (h : holdsB c v = true) (h7 : c.op ≠ 7) : cmpOk v c.val = true := by
  cases hh : cmpOk v c.val
  · unfold holdsB at h; simp [hh, h7] at h
  · rfl
theorem cmpOk_parts {x y : V} (h : cmpOk x y = true) : x.kind = y.kind ∧ voidB x = false ∧ voidB y = false := by
  unfold cmpOk at h; simp at h; exact ⟨h.1.1, h.1.2, h.2⟩
theorem cmpOk_of {x y : V} (h : x.kind = y.kind) (h1 : voidB x = false) (h2 : voidB y = false) : cmpOk x y = true := by
  unfold cmpOk; simp [h, h1, h2]
theorem pre_iff (s p : List UInt8) : pre s p = true ↔ p <+: s := by unfold pre Lib.hasPrefix; exact List.isPrefixOf_iff_prefix
theorem pre_trans {s t u : List UInt8} (h1 : pre s t = true) (h2 : pre t u = true) : pre s u = true := (pre_iff _ _).2 (((pre_iff _ _).1 h2).trans ((pre_iff _ _).1 h1))
theorem cmp_text {x y : V} (hx : x.kind = 2) (h : cmp x y = 0) : x.text = y.text := by
  unfold cmp at h; simp [hx] at h; exact (cb_zero _ _).1 h
/-- THE RULE IS SOUND. -/
theorem rule_sound (a b : C) (v : V) (a0 : 0 ≤ a.op) (a7 : a.op ≤ 7) (b0 : 0 ≤ b.op) (b7 : b.op ≤ 7) (ha : a.op ≠ 7) (hb : b.op ≠ 7) (nb : cvoidB b = false) (hk : a.val.kind = b.val.kind)
    (h : ruleB a b = true) (hv : holdsB a v = true) : holdsB b v = true := by
  have ok := holds_ok hv ha
  obtain ⟨k1, v1, v2⟩ := cmpOk_parts ok
  have v3 := cvoid_at nb hb
  have ok2 := cmpOk_of (k1.trans hk) v1 v3
  have ok3 := cmpOk_of hk v2 v3
  have ho := cmp_ord v a.val b.val k1 hk v1 v2 v3
  rw [holds_rel _ _ ok2]
  rw [holds_rel _ _ ok] at hv
  unfold ruleB at h
  rw [holds_rel _ _ ok3] at h
  have hc : cmp1 a.val b.val = cmp a.val b.val := by unfold cmp1; rw [ok3]; rfl
  rw [hc] at h
  have t1 := @cmp_text v a.val
  have t2 := @cmp_text v b.val
  have p1 := @pre_trans v.text a.val.text b.val.text
  have hk2 : (b.op == 6) = true → b.val.kind = 2 := by
    intro e; unfold cvoidB at nb; rw [e] at nb; simp at nb; exact nb.2
  have hs := pre_self v.text
  unfold lowB uppB at h
  unfold Ord3 at ho
  generalize cmp v a.val = p at *
  generalize cmp a.val b.val = q at *
  generalize cmp v b.val = r at *
  rcases eight a0 a7 ha with e | e | e | e | e | e | e <;> rcases eight b0 b7 hb with f | f | f | f | f | f | f <;>
    simp [e, f, relB] at h hv hk2 ⊢ <;> (try omega)
  · rw [k1, hk, hk2]; exact ⟨rfl, by rw [t1 (by rw [k1, hk, hk2]) hv]; exact h.2⟩
  · intro hr
    have := t2 hv.1 hr
    rw [← this, hv.2] at h
    exact absurd h (by simp)
  · exact ⟨hv.1, p1 hv.2 h⟩
theorem implies_sound (a b : C) (v : V) (a0 : 0 ≤ a.op) (a7 : a.op ≤ 7) (b0 : 0 ≤ b.op) (b7 : b.op ≤ 7) (h : impliesB a b = true) (hv : holdsB a v = true) : holdsB b v = true := by
  unfold impliesB at h
  by_cases hn : a.name = b.name
  · by_cases va : cvoidB a = true
    · rw [void_holds a v va] at hv; exact absurd hv (by simp)
    · by_cases hb : b.op = 7
      · unfold holdsB; simp [hb]
      · by_cases ha : a.op = 7
        · simp [hn, va, hb, ha] at h
        · by_cases vb : cvoidB b = true
          · simp [hn, va, hb, vb] at h
          · by_cases hk : a.val.kind = b.val.kind
            · simp [hn, va, hb, ha, vb, hk] at h
              exact rule_sound a b v a0 a7 b0 b7 ha hb (by simpa using vb) hk h hv
            · simp [hn, va, hb, hk] at h
  · simp [hn] at h
theorem rule_self (a : C) (a0 : 0 ≤ a.op) (a7 : a.op ≤ 7) (ha : a.op ≠ 7) (na : cvoidB a = false) : ruleB a a = true := by
  have v := cvoid_at na ha
  have hk2 : (a.op == 6) = true → a.val.kind = 2 := by
    intro e; unfold cvoidB at na; rw [e] at na; simp at na; exact na.2
  have hs : holdsB a a.val = sideB a.op (voidB a.val) (a.val.kind == 2) := side_eq a.name a.op a.val
  unfold ruleB
  rw [hs, cmp1_self, pre_self]
  unfold lowB uppB sideB
  rcases eight a0 a7 ha with e | e | e | e | e | e | e <;> simp [e, v]
theorem implies_self (a : C) (a0 : 0 ≤ a.op) (a7 : a.op ≤ 7) : impliesB a a = true := by
  unfold impliesB
  by_cases va : cvoidB a = true
  · simp [va]
  by_cases ha : a.op = 7
  · simp [ha]
  have na : cvoidB a = false := by simpa using va
  simp [na, ha, rule_self a a0 a7 ha na]
/-- THE RULE IS HANDED ON. -/
theorem rule_trans (a b c : C) (a0 : 0 ≤ a.op) (a7 : a.op ≤ 7) (b0 : 0 ≤ b.op) (b7 : b.op ≤ 7) (c0 : 0 ≤ c.op) (c7 : c.op ≤ 7) (ha : a.op ≠ 7) (hb : b.op ≠ 7) (hc : c.op ≠ 7)
    (na : cvoidB a = false) (nb : cvoidB b = false) (nc : cvoidB c = false) (k1 : a.val.kind = b.val.kind) (k2 : b.val.kind = c.val.kind)
    (h1 : ruleB a b = true) (h2 : ruleB b c = true) : ruleB a c = true := by
  have v1 := cvoid_at na ha
  have v2 := cvoid_at nb hb
  have v3 := cvoid_at nc hc
  by_cases hz : a.op = 0
  · have e : ∀ d, ruleB a d = holdsB d a.val := fun d => by unfold ruleB; simp [hz]
    rw [e] at h1 ⊢
    exact rule_sound b c a.val b0 b7 c0 c7 hb hc nc k2 h2 h1
  have ok1 := cmpOk_of k1 v1 v2
  have ok2 := cmpOk_of k2 v2 v3
  have ok3 := cmpOk_of (k1.trans k2) v1 v3
  have ho := cmp_ord a.val b.val c.val k1 k2 v1 v2 v3
  have e1 : cmp1 a.val b.val = cmp a.val b.val := by unfold cmp1; rw [ok1]; rfl
  have e2 : cmp1 b.val c.val = cmp b.val c.val := by unfold cmp1; rw [ok2]; rfl
  have e3 : cmp1 a.val c.val = cmp a.val c.val := by unfold cmp1; rw [ok3]; rfl
  have ka : (a.op == 6) = true → a.val.kind = 2 := by
    intro e; unfold cvoidB at na; rw [e] at na; simp at na; exact na.2
  have kb : (b.op == 6) = true → b.val.kind = 2 := by
    intro e; unfold cvoidB at nb; rw [e] at nb; simp at nb; exact nb.2
  have t2 := @cmp_text b.val c.val
  have p1 := @pre_trans a.val.text b.val.text c.val.text
  have p2 := @pre_trans c.val.text a.val.text b.val.text
  unfold ruleB lowB uppB at *
  rw [e1] at h1; rw [e2] at h2; rw [e3]
  unfold Ord3 at ho
  generalize holdsB b a.val = x1 at *
  generalize holdsB c b.val = x2 at *
  generalize holdsB c a.val = x3 at *
  generalize cmp a.val b.val = p at *
  generalize cmp b.val c.val = q at *
  generalize cmp a.val c.val = r at *
  rcases eight a0 a7 ha with e | e | e | e | e | e | e <;> rcases eight b0 b7 hb with f | f | f | f | f | f | f <;> (try (simp [e, f] at h1; done)) <;> (try omega) <;>
    rcases eight c0 c7 hc with g | g | g | g | g | g | g <;> (try (simp [f, g] at h2; done)) <;>
    simp [e, f, g] at h1 h2 ka kb ⊢ <;> (try omega)
  · rw [t2 (by rw [← k1, ka]) h2] at h1; exact h1
  · cases hh : pre c.val.text a.val.text
    · rfl
    · have := p2 hh h1; rw [this] at h2; exact absurd h2 (by simp)
  · exact p1 h1 h2
theorem implies_trans (a b c : C) (a0 : 0 ≤ a.op) (a7 : a.op ≤ 7) (b0 : 0 ≤ b.op) (b7 : b.op ≤ 7) (c0 : 0 ≤ c.op) (c7 : c.op ≤ 7) (h1 : impliesB a b = true) (h2 : impliesB b c = true) : impliesB a c = true := by
  unfold impliesB at *
  by_cases n1 : a.name = b.name
  · by_cases n2 : b.name = c.name
    · by_cases va : cvoidB a = true
      · simp [n1, n2, va]
      by_cases hc : c.op = 7
      · simp [n1, n2, hc]
      have na : cvoidB a = false := by simpa using va
      by_cases hb : b.op = 7
      · have nb : cvoidB b = false := by unfold cvoidB; simp [hb]
        simp [n2, hb, nb, hc] at h2
      by_cases ha : a.op = 7
      · simp [n1, na, ha, hb] at h1
      by_cases vb : cvoidB b = true
      · simp [n1, na, vb, hb] at h1
      have nb : cvoidB b = false := by simpa using vb
      by_cases vc : cvoidB c = true
      · simp [n2, nb, vc, hc] at h2
      have nc : cvoidB c = false := by simpa using vc
      by_cases k1 : a.val.kind = b.val.kind
      · by_cases k2 : b.val.kind = c.val.kind
        · simp [n1, na, ha, hb, nb, k1] at h1
          simp [n2, nb, hb, hc, nc, k2] at h2
          simp [n1, n2, na, ha, hc, nc, k1, k2]
          exact rule_trans a b c a0 a7 b0 b7 c0 c7 ha hb hc na nb nc k1 k2 h1 h2
        · simp [n2, nb, hc, k2] at h2
      · simp [n1, na, hb, k1] at h1
    · simp [n2] at h2
  · simp [n1] at h1
end Go.Proofs.YtceplbanfpnhbaaGreatDoor.Val
end

section
/- THE WALKS OF package order: Key, Same. -/
namespace Go.Proofs.YtceplbanfpnhbaaGreatDoor.Ord
open Go.RowKit Flt
attribute [local go_sem] ford_eq ford_lt ford_gt
theorem bits_call (b : Nat) (w : World) : (callFunc 114 #[.float .f64 b]).run Tryz.prog w = .ok (.value (.int .u64 b)) w :=
  run_callFunc_extern (e := Extern.MathFloatBits.float64bits) Tryz.func114 (by kernel_rfl) (by kernel_rfl) (by kernel_rfl) (by kernel_rfl) _ w
theorem umax_xor (b : Nat) (hb : b < 18446744073709551616) : bits .xor .u64 IntKind.u64.max (b : Int) = ((most - b : Nat) : Int) := by
  have h := u64_xor 18446744073709551615 (b : Int) (by decide) (by decide) (by omega) (by omega)
  have e : IntKind.u64.max = 18446744073709551615 := by decide
  rw [e, h]
  have e2 : (18446744073709551615 : Int).toNat = most := by decide
  rw [e2, Int.toNat_natCast, xor_most hb]
theorem top_or (b : Nat) (hb : b < 18446744073709551616) : bits .or .u64 (b : Int) 9223372036854775808 = ((b ||| top : Nat) : Int) := by
  have h := u64_or (b : Int) 9223372036854775808 (by omega) (by omega) (by decide) (by decide)
  rw [h, Int.toNat_natCast]; rfl
theorem top_off (b : Nat) (hb : b < 18446744073709551616) : bits .andNot .u64 (b : Int) 9223372036854775808 = ((b % 9223372036854775808 : Nat) : Int) := by
  have h := u64_andNot (b : Int) 9223372036854775808 (by omega) (by omega) (by decide) (by decide)
  rw [h, Int.toNat_natCast]
  have e2 : (9223372036854775808 : Int).toNat = 9223372036854775808 := by decide
  rw [e2, and_low]

theorem ret_u64 {a b : Int} (h : a = b) : Ending.returned (.int .u64 a) = .returned (.int .u64 b) := by rw [h]
set_option maxHeartbeats 400000 in
theorem key_any (b : Nat) (hb : b < 18446744073709551616) (w : World) :
    Calls Tryz.prog 84 #[.float .f64 b] w fun e w' => e = .returned (.int .u64 (key b)) ∧ w = w' := by
  have hc := bits_call
  have h1 := ford_ne_self (canon b)
  rw [canon_nan] at h1
  cases hn : nan b with
  | true =>
    rw [key_nan hn]
    rw [hn] at h1; clear hn hb
    go_enter Tryz.func84, Tryz.ntmps84
    go_wp2_with (go_at_call 77; refine (canon_any _ _).mono ?_; rintro e w' ⟨rfl, rfl⟩)
    go_ret
    exact ⟨rfl, rfl⟩
  | false =>
    rw [hn] at h1
    have hk := key_of_canon b hb hn
    have hl := canon_lt b hb
    clear hn hb
    by_cases h : canon b / 9223372036854775808 = 1
    · rw [if_pos h] at hk
      have HK := Lib.hid hk; clear hk
      have h' : ((canon b : Int) / 9223372036854775808 == 1) = true := by rw [beq_iff_eq]; omega
      clear h
      go_enter Tryz.func84, Tryz.ntmps84
      go_wp2_with (go_at_call 77; refine (canon_any _ _).mono ?_; rintro e w' ⟨rfl, rfl⟩)
      go_ret
      exact ⟨ret_u64 (by rw [HK.out, umax_xor _ hl]), rfl⟩
    · rw [if_neg h] at hk
      have HK := Lib.hid hk; clear hk
      have h' : ((canon b : Int) / 9223372036854775808 == 1) = false := by rw [beq_eq_false_iff_ne]; omega
      clear h
      go_enter Tryz.func84, Tryz.ntmps84
      go_wp2_with (go_at_call 77; refine (canon_any _ _).mono ?_; rintro e w' ⟨rfl, rfl⟩)
      go_ret
      exact ⟨ret_u64 (by rw [HK.out, top_or _ hl]), rfl⟩
def same (a b : Nat) : Bool := key a == key b
theorem beq_cast (a b : Nat) : ((a : Int) == (b : Int)) = (a == b) := by
  rw [Bool.eq_iff_iff]; simp; omega
set_option maxHeartbeats 400000 in
theorem same_any (a b : Nat) (ha : a < 18446744073709551616) (hb : b < 18446744073709551616) (w : World) :
    Calls Tryz.prog 45 #[.float .f64 a, .float .f64 b] w fun e w' => e = .returned (.bool (same a b)) ∧ w = w' := by
  go_enter Tryz.func45, Tryz.ntmps45
  go_wp2_with (go_at_call 84; refine (key_any _ (by assumption) _).mono ?_; rintro e w' ⟨rfl, rfl⟩)
  go_ret
  exact ⟨ret_bool (beq_cast _ _), rfl⟩
end Go.Proofs.YtceplbanfpnhbaaGreatDoor.Ord
end

section
/- THE WALKS OF value.Same, cond.below, cond.above. -/
namespace Go.Proofs.YtceplbanfpnhbaaGreatDoor.Val
open Go.RowKit Flt
def sameB (a b : V) : Bool := a.kind == b.kind && (if a.kind == 0 then a.int == b.int else if a.kind == 1 then Ord.same a.num b.num else if a.kind == 2 then a.text == b.text else a.yes == b.yes)
set_option maxHeartbeats 400000 in
theorem same_any (k1 n1 : Int) (x1 : Nat) (t1 : List UInt8) (y1 : Bool) (k2 n2 : Int) (x2 : Nat) (t2 : List UInt8) (y2 : Bool) (w : World) (h1 : x1 < 18446744073709551616) (h2 : x2 < 18446744073709551616) :
    Calls Tryz.prog 44 #[val k1 n1 x1 t1 y1, val k2 n2 x2 t2 y2] w fun e w' => e = .returned (.bool (sameB ⟨k1, n1, x1, t1, y1⟩ ⟨k2, n2, x2, t2, y2⟩)) ∧ Below w.heap.size w w' := by
  have hr : sameB ⟨k1, n1, x1, t1, y1⟩ ⟨k2, n2, x2, t2, y2⟩ = (k1 == k2 && (if k1 == 0 then n1 == n2 else if k1 == 1 then Ord.same x1 x2 else if k1 == 2 then t1 == t2 else y1 == y2)) := rfl
  have ho (w : World) := Ord.same_any x1 x2 h1 h2 w
  generalize Ord.same x1 x2 = sb at *
  have HR := Lib.hid hr; have HO := Lib.hid ho; clear hr ho h1 h2
  cases hk : (k1 == k2)
  · have hk' : (k1 != k2) = true := by rw [bne, hk]; rfl
    go_enter Tryz.func44, Tryz.ntmps44
    go_wp2
    go_ret
    exact ⟨ret_bool (by rw [HR.out, hk]; rfl), balloc2 _ _ _⟩
  have hk' : (k1 != k2) = false := by rw [bne, hk]; rfl
  cases q0 : (k1 == 0)
  · cases q1 : (k1 == 1)
    · cases q2 : (k1 == 2)
      all_goals
        go_enter Tryz.func44, Tryz.ntmps44
        go_wp2
        go_ret
        exact ⟨ret_bool (by rw [HR.out, hk, q0, q1, q2]; rfl), balloc2 _ _ _⟩
    · go_enter Tryz.func44, Tryz.ntmps44
      go_wp2_with (go_at_call 45; refine (HO.out _).mono ?_; rintro e w' ⟨rfl, rfl⟩)
      go_ret
      exact ⟨ret_bool (by rw [HR.out, hk, q0, q1]; rfl), balloc2 _ _ _⟩
  · go_enter Tryz.func44, Tryz.ntmps44
    go_wp2
    go_ret
    exact ⟨ret_bool (by rw [HR.out, hk, q0]; rfl), balloc2 _ _ _⟩
theorem same_cmp (a b : V) (hk : a.kind = b.kind) (v1 : voidB a = false) (v2 : voidB b = false) (h1 : a.num < 18446744073709551616) (h2 : b.num < 18446744073709551616) : sameB a b = (cmp1 a b == 0) := by
  have ok := cmpOk_of hk v1 v2
  have e : cmp1 a b = cmp a b := by unfold cmp1; rw [ok]; rfl
  rw [e]
  unfold sameB cmp
  have hkk : (a.kind == b.kind) = true := by rw [beq_iff_eq]; exact hk
  rw [hkk]
  unfold voidB at v1 v2
  rw [← hk] at v2
  by_cases k0 : a.kind = 0
  · have := (sgn_spec a.int b.int).2
    simp only [k0]
    rw [Bool.eq_iff_iff]
    simpa using this.symm
  by_cases k1 : a.kind = 1
  · have n1 : nan a.num = false := by simpa [k1] using v1
    have n2 : nan b.num = false := by simpa [k1] using v2
    have hs := (sgn_spec (sk a.num) (sk b.num)).2
    have hq := Ord.key_eq_iff h1 h2 n1 n2
    simp only [k1, Flt.lt, n1, n2, Ord.same]
    rw [Bool.eq_iff_iff]
    simp only [Bool.not_false, Bool.and_self, Bool.true_and]
    simp
    rw [hs, hq]
  by_cases k2 : a.kind = 2
  · have := cb_zero a.text b.text
    simp only [k2]
    rw [Bool.eq_iff_iff]
    simpa using this.symm
  have e0 : (a.kind == 0) = false := by simpa using k0
  have e1 : (a.kind == 1) = false := by simpa using k1
  have e2 : (a.kind == 2) = false := by simpa using k2
  simp only [e0, e1, e2, Bool.false_eq_true, if_false]
  unfold sgn
  cases a.yes <;> cases b.yes <;> rfl
theorem side_ways (op p q : Int) (h : p ≠ q) : (op == p) = true ∧ (op == q) = false ∨ (op == p) = false ∧ (op == q) = true ∨ (op == p) = false ∧ (op == q) = false := by
  cases h1 : (op == p) <;> cases h2 : (op == q) <;> simp_all
theorem below_any (op : Int) (w : World) :
    Calls Tryz.prog 71 #[.int .i64 op] w fun e w' => e = .returned (.tuple #[.bool (op == 2 || op == 3), .bool (op == 3)]) ∧ w = w' := by
  rcases side_ways op 2 3 (by decide) with ⟨h1, h2⟩ | ⟨h1, h2⟩ | ⟨h1, h2⟩
  all_goals
    go_enter Tryz.func71, Tryz.ntmps71
    go_wp2
    go_ret2
    exact ⟨by rw [h1, h2]; rfl, rfl⟩
theorem above_any (op : Int) (w : World) :
    Calls Tryz.prog 72 #[.int .i64 op] w fun e w' => e = .returned (.tuple #[.bool (op == 4 || op == 5), .bool (op == 5)]) ∧ w = w' := by
  rcases side_ways op 4 5 (by decide) with ⟨h1, h2⟩ | ⟨h1, h2⟩ | ⟨h1, h2⟩
  all_goals
    go_enter Tryz.func72, Tryz.ntmps72
    go_wp2
    go_ret2
    exact ⟨by rw [h1, h2]; rfl, rfl⟩
end Go.Proofs.YtceplbanfpnhbaaGreatDoor.Val
end

section
/- PLAIN LAW OF Compare: what it answers both ways round, and of three values. No program in sight. -/
namespace Go.Proofs.YtceplbanfpnhbaaGreatDoor.Val
open Flt
theorem cb_range : ∀ (a b : List UInt8), Lib.compareBytes a b = -1 ∨ Lib.compareBytes a b = 0 ∨ Lib.compareBytes a b = 1
  | [], [] => by simp [Lib.compareBytes]
  | [], _ :: _ => by simp [Lib.compareBytes]
  | _ :: _, [] => by simp [Lib.compareBytes]
  | a :: ar, b :: bs => by
    unfold Lib.compareBytes
    by_cases h : a < b
    · rw [if_pos h]; simp
    · rw [if_neg h]
      by_cases h' : b < a
      · rw [if_pos h']; simp
      · rw [if_neg h']; exact cb_range ar bs
theorem cb_swap : ∀ (a b : List UInt8), Lib.compareBytes b a = -Lib.compareBytes a b
  | [], [] => by simp [Lib.compareBytes]
  | [], _ :: _ => by simp [Lib.compareBytes]
  | _ :: _, [] => by simp [Lib.compareBytes]
  | a :: ar, b :: bs => by
    unfold Lib.compareBytes
    have h0 : a < b → ¬ b < a := fun h h' => by rw [UInt8.lt_iff_toNat_lt] at h h'; omega
    by_cases h : a < b
    · rw [if_pos h, if_neg (h0 h), if_pos h]; rfl
    · by_cases h' : b < a
      · simp only [if_neg h, if_pos h']
      · rw [if_neg h, if_neg h', if_neg h', if_neg h]; exact cb_swap ar bs
theorem sgn_range (a b : Bool) : sgn a b = -1 ∨ sgn a b = 0 ∨ sgn a b = 1 := by
  unfold sgn; cases a <;> cases b <;> simp
theorem sgn_swap (a b : Bool) (h : (a && b) = false) : sgn b a = -sgn a b := by
  unfold sgn; cases a <;> cases b <;> simp_all
theorem cmp_range (a b : V) : cmp a b = -1 ∨ cmp a b = 0 ∨ cmp a b = 1 := by
  unfold cmp
  split
  · exact sgn_range _ _
  · split
    · exact sgn_range _ _
    · split
      · exact cb_range _ _
      · exact sgn_range _ _
theorem dec_apart (p q : Prop) [Decidable p] [Decidable q] (h : ¬ (p ∧ q)) : (decide p && decide q) = false := by
  rw [Bool.eq_false_iff]; intro h'; simp only [Bool.and_eq_true, decide_eq_true_eq] at h'; exact h h'
theorem cmp_swap (a b : V) (hk : a.kind = b.kind) : cmp b a = -cmp a b := by
  unfold cmp
  rw [← hk]
  split
  · exact sgn_swap _ _ (dec_apart _ _ (by omega))
  · split
    · refine sgn_swap _ _ ?_
      unfold Flt.lt
      cases nan a.num <;> cases nan b.num <;> simp
      omega
    · split
      · exact cb_swap _ _
      · unfold sgn; cases a.yes <;> cases b.yes <;> rfl
theorem cmpOk_comm (a b : V) : cmpOk b a = cmpOk a b := by
  unfold cmpOk
  have : (b.kind == a.kind) = (a.kind == b.kind) := by rw [Bool.eq_iff_iff]; simp only [beq_iff_eq]; exact eq_comm
  rw [this]
  cases (a.kind == b.kind) <;> cases voidB a <;> cases voidB b <;> rfl
/-- what the document asks -/
def wantB (a b : V) : Bool := a.kind == b.kind && !(a.kind == 1 && (nan a.num || nan b.num))
theorem cmpOk_want (a b : V) : cmpOk a b = wantB a b := by
  unfold cmpOk wantB voidB
  cases h : (a.kind == b.kind)
  · rfl
  · have : b.kind = a.kind := by simpa using (beq_iff_eq.1 h).symm
    rw [this]
    cases (a.kind == 1) <;> cases nan a.num <;> cases nan b.num <;> rfl
def lessB (a b : V) : Bool := if a.kind == 0 then decide (a.int < b.int) else if a.kind == 1 then Flt.lt a.num b.num else if a.kind == 2 then decide (Lib.compareBytes a.text b.text < 0) else (!a.yes && b.yes)
def eqB (a b : V) : Bool := if a.kind == 0 then a.int == b.int else if a.kind == 1 then Flt.eq a.num b.num else if a.kind == 2 then a.text == b.text else a.yes == b.yes
/-- the three ways of two values that may be held against one another -/
theorem cmp_three (a b : V) (hk : a.kind = b.kind) (v1 : voidB a = false) (v2 : voidB b = false) (h1 : a.num < 18446744073709551616) (h2 : b.num < 18446744073709551616) :
    (cmp1 a b = -1 ∧ cmp1 b a = 1 ∧ lessB a b = true ∧ eqB a b = false ∧ sameB a b = false) ∨
    (cmp1 a b = 0 ∧ cmp1 b a = 0 ∧ lessB a b = false ∧ eqB a b = true ∧ sameB a b = true) ∨
    (cmp1 a b = 1 ∧ cmp1 b a = -1 ∧ lessB a b = false ∧ eqB a b = false ∧ sameB a b = false) := by
  have ok := cmpOk_of hk v1 v2
  have ok2 : cmpOk b a = true := by rw [cmpOk_comm]; exact ok
  have e1 : cmp1 a b = cmp a b := by unfold cmp1; rw [ok]; rfl
  have e2 : cmp1 b a = cmp b a := by unfold cmp1; rw [ok2]; rfl
  have hs := same_cmp a b hk v1 v2 h1 h2
  have hw := cmp_swap a b hk
  have hr := cmp_range a b
  have hl : lessB a b = decide (cmp a b < 0) := by
    unfold lessB cmp
    unfold voidB at v1 v2
    rw [← hk] at v2
    by_cases k0 : a.kind = 0
    · have := (sgn_spec a.int b.int).1
      simp only [k0]
      rw [Bool.eq_iff_iff]; simpa using this.symm
    by_cases k1 : a.kind = 1
    · have n1 : nan a.num = false := by simpa [k1] using v1
      have n2 : nan b.num = false := by simpa [k1] using v2
      have := (sgn_spec (sk a.num) (sk b.num)).1
      simp only [k1, Flt.lt, n1, n2]
      rw [Bool.eq_iff_iff]
      simpa using this.symm
    by_cases k2 : a.kind = 2
    · simp only [k2]; rfl
    have q0 : (a.kind == 0) = false := by simpa using k0
    have q1 : (a.kind == 1) = false := by simpa using k1
    have q2 : (a.kind == 2) = false := by simpa using k2
    simp only [q0, q1, q2, Bool.false_eq_true, if_false]
    unfold sgn
    cases a.yes <;> cases b.yes <;> rfl
  have he : eqB a b = sameB a b := by
    unfold eqB sameB
    unfold voidB at v1 v2
    rw [← hk] at v2
    have hkk : (a.kind == b.kind) = true := by rw [beq_iff_eq]; exact hk
    rw [hkk, Bool.true_and]
    by_cases k1 : a.kind = 1
    · have n1 : nan a.num = false := by simpa [k1] using v1
      have n2 : nan b.num = false := by simpa [k1] using v2
      have hq := Ord.key_eq_iff h1 h2 n1 n2
      simp only [k1, Flt.eq, n1, n2, Ord.same]
      rw [Bool.eq_iff_iff]
      simp [hq]
    · have q1 : (a.kind == 1) = false := by simpa using k1
      simp only [q1]
      rfl
  rw [e1] at hs
  rw [e1, e2, hw, hl, he, hs]
  rcases hr with h | h | h <;> rw [h] <;> decide
/-- of three values -/
theorem cmp_triple (a b c : V) (h1 : cmpOk a b = true) (h2 : cmpOk b c = true) : cmpOk a c = true ∧ Ord3 (cmp1 a b) (cmp1 b c) (cmp1 a c) := by
  obtain ⟨k1, a1, b1⟩ := cmpOk_parts h1
  obtain ⟨k2, b2, c2⟩ := cmpOk_parts h2
  have h3 := cmpOk_of (k1.trans k2) a1 c2
  refine ⟨h3, ?_⟩
  have e1 : cmp1 a b = cmp a b := by unfold cmp1; rw [h1]; rfl
  have e2 : cmp1 b c = cmp b c := by unfold cmp1; rw [h2]; rfl
  have e3 : cmp1 a c = cmp a c := by unfold cmp1; rw [h3]; rfl
  rw [e1, e2, e3]
  exact cmp_ord a b c k1 k2 a1 b1 c2
/-- what the law of three values asks -/
theorem triple_ways (a b c : V) (h1 : cmpOk a b = true) (h2 : cmpOk b c = true) :
    ∃ x y z : Int, cmp1 a b = x ∧ cmp1 b c = y ∧ cmp1 a c = z ∧ (x = -1 ∨ x = 0 ∨ x = 1) ∧ (y = -1 ∨ y = 0 ∨ y = 1) ∧ (z = -1 ∨ z = 0 ∨ z = 1) ∧ (x ≤ 0 → y ≤ 0 → z ≤ 0 ∧ (z < 0 ↔ (x < 0 ∨ y < 0))) := by
  obtain ⟨h3, o1, o2, o3, o4, o5⟩ := cmp_triple a b c h1 h2
  have e1 : cmp1 a b = cmp a b := by unfold cmp1; rw [h1]; rfl
  have e2 : cmp1 b c = cmp b c := by unfold cmp1; rw [h2]; rfl
  have e3 : cmp1 a c = cmp a c := by unfold cmp1; rw [h3]; rfl
  refine ⟨_, _, _, rfl, rfl, rfl, by rw [e1]; exact cmp_range _ _, by rw [e2]; exact cmp_range _ _, by rw [e3]; exact cmp_range _ _, fun p q => ?_⟩
  omega
theorem ok_false {a b : V} (h : cmpOk a b = false) : cmp1 a b = 0 := by unfold cmp1; rw [h]; rfl
theorem bless_cmp : ∀ (a b : List UInt8), Op.bytesLess a b = decide (Lib.compareBytes a b < 0)
  | [], [] => by simp [Op.bytesLess, Lib.compareBytes]
  | _ :: _, [] => by simp [Op.bytesLess, Lib.compareBytes]
  | [], _ :: _ => by simp [Op.bytesLess, Lib.compareBytes]
  | a :: x, b :: y => by
    have ih := bless_cmp x y
    unfold Op.bytesLess Lib.compareBytes
    by_cases h : a < b
    · simp [h]
    · by_cases h2 : b < a
      · have hne : (a == b) = false := by
          rw [beq_eq_false_iff_ne]; intro e; subst e; exact absurd h2 (UInt8.lt_irrefl _)
        simp [h, h2, hne]
      · have e : a = b := by
          rw [UInt8.lt_iff_toNat_lt] at h h2
          exact UInt8.toNat_inj.1 (by omega)
        subst e
        simp [h, ih]
end Go.Proofs.YtceplbanfpnhbaaGreatDoor.Val
end

section
/- THE WALK OF the law ValueCompares of chapter 02. -/
namespace Go.Proofs.YtceplbanfpnhbaaGreatDoor.Val
open Go.RowKit Flt
attribute [local go_sem] Ord.ford_ne_self Ord.ford_eq Ord.ford_ne Ord.ford_lt Ord.ford_gt
def rankI (k : Int) : Int := if decide (0 ≤ k) && decide (k ≤ 2) then k else 3
set_option maxHeartbeats 400000 in
theorem rank_any (k n : Int) (x : Nat) (t : List UInt8) (y : Bool) (w : World) : Calls Tryz.prog 46 #[val k n x t y] w fun e w' => e = .returned (.int .i64 (rankI k)) ∧ Below w.heap.size w w' := by
  have hr : rankI k = if decide (0 ≤ k) && decide (k ≤ 2) then k else 3 := rfl
  have HR := Lib.hid hr; clear hr
  cases a : decide (0 ≤ k) <;> cases b : decide (k ≤ 2)
  all_goals
    go_enter Tryz.func46, Tryz.ntmps46
    go_wp2
    go_ret
    exact ⟨by rw [HR.out, a, b]; rfl, balloc _ _⟩
set_option maxRecDepth 20000 in
set_option maxHeartbeats 8000000 in
/-- two that can't be held against one another -/
theorem comps_no (k n : Int) (x : Nat) (t : List UInt8) (y : Bool) (k2 n2 : Int) (x2 : Nat) (t2 : List UInt8) (y2 : Bool) (w : World) (hT : Tab.Tabs w) (hP : Pf.PfT w) (ht : t.length ≤ 140737488351232) (ht2 : t2.length ≤ 140737488351232)
    (ho : cmpOk ⟨k, n, x, t, y⟩ ⟨k2, n2, x2, t2, y2⟩ = false) :
    Calls Tryz.prog 13 #[val k n x t y, val k2 n2 x2 t2 y2] w fun e w' => e = .returned (.bool true) ∧ Below w.heap.size w w' := by
  have HT := Lib.hid hT; have HP := Lib.hid hP; clear hT hP
  have hla (w : World) := light_v k n x t y w ht
  have hlb (w : World) := light_v k2 n2 x2 t2 y2 w ht2
  have ho2 : cmpOk ⟨k2, n2, x2, t2, y2⟩ ⟨k, n, x, t, y⟩ = false := by rw [cmpOk_comm]; exact ho
  have h1 (w : World) := compare_any k n x t y k2 n2 x2 t2 y2 w
  have h2 (w : World) := compare_any k2 n2 x2 t2 y2 k n x t y w
  rw [ho, ok_false ho] at h1
  rw [ho2, ok_false ho2] at h2
  have hways : (k == k2) = false ∨ (k2 = k ∧ k = 1 ∧ nan x = true) ∨ (k2 = k ∧ k = 1 ∧ nan x = false ∧ nan x2 = true) := by
    rw [cmpOk_want] at ho
    unfold wantB at ho
    cases hk : (k == k2)
    · exact .inl rfl
    · have e := beq_iff_eq.1 hk
      simp only [hk] at ho
      cases h1 : (k == 1)
      · rw [h1] at ho; simp at ho
      · rw [h1] at ho
        have e1 := beq_iff_eq.1 h1
        cases hx : nan x
        · rw [hx] at ho
          exact .inr (.inr ⟨e.symm, e1, rfl, by simpa using ho⟩)
        · exact .inr (.inl ⟨e.symm, e1, rfl⟩)
  clear ho ho2
  generalize decide (t.length ≤ 300) = lA at *
  generalize decide (t2.length ≤ 300) = lB at *
  have HLA := Lib.hid hla; have HLB := Lib.hid hlb; have H1 := Lib.hid h1; have H2 := Lib.hid h2
  clear hla hlb h1 h2
  have HS : Hid (∀ w : World, Calls Tryz.prog 44 #[] w fun e w' => e = .returned (.bool true) ∧ Below w.heap.size w w') ∨ True := .inr trivial
  cases lA
  · clear hways; as_aux_lemma => (go_enter Tryz.func13, Tryz.ntmps13; go_wp2_with (first | (go_at_call 36; refine (fit02_any _ (HT.out.below (by repeat (first | assumption | (with_reducible exact Below.refl _ _) | exact balloc _ _ | exact balloc2 _ _ _ | refine btrans ?_ (by assumption) | refine btrans ?_ (balloc _ _))) (Nat.le_refl _)) (HP.out.below (by repeat (first | assumption | (with_reducible exact Below.refl _ _) | exact balloc _ _ | exact balloc2 _ _ _ | refine btrans ?_ (by assumption) | refine btrans ?_ (balloc _ _))) (Nat.le_refl _))).mono ?_; rintro e w1 ⟨rfl, hb1⟩; obtain ⟨hc1, hf1⟩ := bcell hb1) | (go_at_call 40; ((with_reducible refine (HLA.out _).mono ?_) ; (rintro e w2 ⟨rfl, hb2⟩; replace hb1 := btrans hb1 hb2; clear hb2 hc1 hf1; obtain ⟨hc1, hf1⟩ := bcell hb1))) | fail); go_ret; exact ⟨rfl, by repeat (first | assumption | (with_reducible exact Below.refl _ _) | exact balloc _ _ | exact balloc2 _ _ _ | refine btrans ?_ (by assumption) | refine btrans ?_ (balloc _ _))⟩)
  cases lB
  · clear hways; as_aux_lemma => (go_enter Tryz.func13, Tryz.ntmps13; go_wp2_with (first | (go_at_call 36; refine (fit02_any _ (HT.out.below (by repeat (first | assumption | (with_reducible exact Below.refl _ _) | exact balloc _ _ | exact balloc2 _ _ _ | refine btrans ?_ (by assumption) | refine btrans ?_ (balloc _ _))) (Nat.le_refl _)) (HP.out.below (by repeat (first | assumption | (with_reducible exact Below.refl _ _) | exact balloc _ _ | exact balloc2 _ _ _ | refine btrans ?_ (by assumption) | refine btrans ?_ (balloc _ _))) (Nat.le_refl _))).mono ?_; rintro e w1 ⟨rfl, hb1⟩; obtain ⟨hc1, hf1⟩ := bcell hb1) | (go_at_call 40; ((with_reducible refine (HLA.out _).mono ?_) ; (rintro e w2 ⟨rfl, hb2⟩; replace hb1 := btrans hb1 hb2; clear hb2 hc1 hf1; obtain ⟨hc1, hf1⟩ := bcell hb1))) | (go_at_call 40; ((with_reducible refine (HLB.out _).mono ?_) ; (rintro e w2 ⟨rfl, hb2⟩; replace hb1 := btrans hb1 hb2; clear hb2 hc1 hf1; obtain ⟨hc1, hf1⟩ := bcell hb1))) | fail); go_ret; exact ⟨rfl, by repeat (first | assumption | (with_reducible exact Below.refl _ _) | exact balloc _ _ | exact balloc2 _ _ _ | refine btrans ?_ (by assumption) | refine btrans ?_ (balloc _ _))⟩)
  clear HS
  rcases hways with hk | ⟨rfl, rfl, hx⟩ | ⟨rfl, rfl, hx, hx2⟩
  all_goals
    (as_aux_lemma => (go_enter Tryz.func13, Tryz.ntmps13; go_wp2_with (first | (go_at_call 36; refine (fit02_any _ (HT.out.below (by repeat (first | assumption | (with_reducible exact Below.refl _ _) | exact balloc _ _ | exact balloc2 _ _ _ | refine btrans ?_ (by assumption) | refine btrans ?_ (balloc _ _))) (Nat.le_refl _)) (HP.out.below (by repeat (first | assumption | (with_reducible exact Below.refl _ _) | exact balloc _ _ | exact balloc2 _ _ _ | refine btrans ?_ (by assumption) | refine btrans ?_ (balloc _ _))) (Nat.le_refl _))).mono ?_; rintro e w1 ⟨rfl, hb1⟩; obtain ⟨hc1, hf1⟩ := bcell hb1) | (go_at_call 40; ((with_reducible refine (HLA.out _).mono ?_) ; (rintro e w2 ⟨rfl, hb2⟩; replace hb1 := btrans hb1 hb2; clear hb2 hc1 hf1; obtain ⟨hc1, hf1⟩ := bcell hb1))) | (go_at_call 40; ((with_reducible refine (HLB.out _).mono ?_) ; (rintro e w2 ⟨rfl, hb2⟩; replace hb1 := btrans hb1 hb2; clear hb2 hc1 hf1; obtain ⟨hc1, hf1⟩ := bcell hb1))) | (go_at_call 41; ((with_reducible refine (H1.out _).mono ?_) ; (rintro e w2 ⟨rfl, hb2⟩; replace hb1 := btrans hb1 hb2; clear hb2 hc1 hf1; obtain ⟨hc1, hf1⟩ := bcell hb1))) | (go_at_call 41; ((with_reducible refine (H2.out _).mono ?_) ; (rintro e w2 ⟨rfl, hb2⟩; replace hb1 := btrans hb1 hb2; clear hb2 hc1 hf1; obtain ⟨hc1, hf1⟩ := bcell hb1))) | fail); go_ret; exact ⟨rfl, by repeat (first | assumption | (with_reducible exact Below.refl _ _) | exact balloc _ _ | exact balloc2 _ _ _ | refine btrans ?_ (by assumption) | refine btrans ?_ (balloc _ _))⟩))
/-- what the walk is handed of two values that may be held against one another -/
theorem three_of (k n : Int) (x : Nat) (t : List UInt8) (y : Bool) (n2 : Int) (x2 : Nat) (t2 : List UInt8) (y2 : Bool) (hx : x < 18446744073709551616) (hx2 : x2 < 18446744073709551616)
    (v1 : voidB ⟨k, n, x, t, y⟩ = false) (v2 : voidB ⟨k, n2, x2, t2, y2⟩ = false) :
    ∃ (c1 c2 : Int) (L S : Bool), lessB ⟨k, n, x, t, y⟩ ⟨k, n2, x2, t2, y2⟩ = L ∧ eqB ⟨k, n, x, t, y⟩ ⟨k, n2, x2, t2, y2⟩ = S ∧ ((c1 = -1 ∧ c2 = 1 ∧ L = true ∧ S = false) ∨ (c1 = 0 ∧ c2 = 0 ∧ L = false ∧ S = true) ∨ (c1 = 1 ∧ c2 = -1 ∧ L = false ∧ S = false)) ∧
      (∀ w, Calls Tryz.prog 41 #[val k n x t y, val k n2 x2 t2 y2] w fun e w' => e = .returned (.tuple #[.int .i64 c1, .bool true]) ∧ Below w.heap.size w w') ∧
      (∀ w, Calls Tryz.prog 41 #[val k n2 x2 t2 y2, val k n x t y] w fun e w' => e = .returned (.tuple #[.int .i64 c2, .bool true]) ∧ Below w.heap.size w w') ∧
      (∀ w, Calls Tryz.prog 44 #[val k n x t y, val k n2 x2 t2 y2] w fun e w' => e = .returned (.bool S) ∧ Below w.heap.size w w') := by
  have ho := cmpOk_of (x := ⟨k, n, x, t, y⟩) (y := ⟨k, n2, x2, t2, y2⟩) rfl v1 v2
  have ho2 := cmpOk_of (x := ⟨k, n2, x2, t2, y2⟩) (y := ⟨k, n, x, t, y⟩) rfl v2 v1
  have h3 := cmp_three ⟨k, n, x, t, y⟩ ⟨k, n2, x2, t2, y2⟩ rfl v1 v2 hx hx2
  refine ⟨_, _, _, _, rfl, rfl, ?_, fun w => (compare_any k n x t y k n2 x2 t2 y2 w).mono fun _ _ ⟨h1, h2⟩ => ⟨by rw [h1, ho], h2⟩, fun w => (compare_any k n2 x2 t2 y2 k n x t y w).mono fun _ _ ⟨h1, h2⟩ => ⟨by rw [h1, ho2], h2⟩,
    fun w => (same_any k n x t y k n2 x2 t2 y2 w hx hx2).mono fun _ _ ⟨h1, h2⟩ => ⟨?_, h2⟩⟩
  · rcases h3 with ⟨a, b, c, d, _⟩ | ⟨a, b, c, d, _⟩ | ⟨a, b, c, d, _⟩
    · exact .inl ⟨a, b, c, d⟩
    · exact .inr (.inl ⟨a, b, c, d⟩)
    · exact .inr (.inr ⟨a, b, c, d⟩)
  · rw [h1]
    rcases h3 with ⟨_, _, _, d, e⟩ | ⟨_, _, _, d, e⟩ | ⟨_, _, _, d, e⟩ <;> rw [d, e]
set_option maxRecDepth 20000 in
set_option maxHeartbeats 8000000 in
theorem comps_yes (k n : Int) (x : Nat) (t : List UInt8) (y : Bool) (n2 : Int) (x2 : Nat) (t2 : List UInt8) (y2 : Bool) (w : World) (hT : Tab.Tabs w) (hP : Pf.PfT w) (ht : t.length ≤ 140737488351232) (ht2 : t2.length ≤ 140737488351232)
    (hx : x < 18446744073709551616) (hx2 : x2 < 18446744073709551616) (v1 : voidB ⟨k, n, x, t, y⟩ = false) (v2 : voidB ⟨k, n2, x2, t2, y2⟩ = false) :
    Calls Tryz.prog 13 #[val k n x t y, val k n2 x2 t2 y2] w fun e w' => e = .returned (.bool true) ∧ Below w.heap.size w w' := by
  obtain ⟨c1, c2, L, S, hL, hS, hw, h1, h2, hs⟩ := three_of k n x t y n2 x2 t2 y2 hx hx2 v1 v2
  have HT := Lib.hid hT; have HP := Lib.hid hP; clear hT hP
  have hla (w : World) := light_v k n x t y w ht
  have hlb (w : World) := light_v k n2 x2 t2 y2 w ht2
  have hr (w : World) := rank_any k n x t y w
  unfold lessB at hL
  unfold eqB at hS
  dsimp only at hL hS
  have hn : (k == 1) = true → nan x = false ∧ nan x2 = false := fun h => by
    unfold voidB at v1 v2
    simp only [h, Bool.true_and] at v1 v2
    exact ⟨v1, v2⟩
  clear v1 v2 hx hx2
  generalize decide (t.length ≤ 300) = lA at *
  generalize decide (t2.length ≤ 300) = lB at *
  have HLA := Lib.hid hla; have HLB := Lib.hid hlb
  clear hla hlb
  cases lA
  · clear hL hS hn hw hr h1 h2 hs; as_aux_lemma => (go_enter Tryz.func13, Tryz.ntmps13; go_wp2_with (first | (go_at_call 36; refine (fit02_any _ (HT.out.below (by repeat (first | assumption | (with_reducible exact Below.refl _ _) | exact balloc _ _ | exact balloc2 _ _ _ | refine btrans ?_ (by assumption) | refine btrans ?_ (balloc _ _))) (Nat.le_refl _)) (HP.out.below (by repeat (first | assumption | (with_reducible exact Below.refl _ _) | exact balloc _ _ | exact balloc2 _ _ _ | refine btrans ?_ (by assumption) | refine btrans ?_ (balloc _ _))) (Nat.le_refl _))).mono ?_; rintro e w1 ⟨rfl, hb1⟩; obtain ⟨hc1, hf1⟩ := bcell hb1) | (go_at_call 40; ((with_reducible refine (HLA.out _).mono ?_) ; (rintro e w2 ⟨rfl, hb2⟩; replace hb1 := btrans hb1 hb2; clear hb2 hc1 hf1; obtain ⟨hc1, hf1⟩ := bcell hb1))) | fail); go_ret; exact ⟨rfl, by repeat (first | assumption | (with_reducible exact Below.refl _ _) | exact balloc _ _ | exact balloc2 _ _ _ | refine btrans ?_ (by assumption) | refine btrans ?_ (balloc _ _))⟩)
  cases lB
  · clear hL hS hn hw hr h1 h2 hs; as_aux_lemma => (go_enter Tryz.func13, Tryz.ntmps13; go_wp2_with (first | (go_at_call 36; refine (fit02_any _ (HT.out.below (by repeat (first | assumption | (with_reducible exact Below.refl _ _) | exact balloc _ _ | exact balloc2 _ _ _ | refine btrans ?_ (by assumption) | refine btrans ?_ (balloc _ _))) (Nat.le_refl _)) (HP.out.below (by repeat (first | assumption | (with_reducible exact Below.refl _ _) | exact balloc _ _ | exact balloc2 _ _ _ | refine btrans ?_ (by assumption) | refine btrans ?_ (balloc _ _))) (Nat.le_refl _))).mono ?_; rintro e w1 ⟨rfl, hb1⟩; obtain ⟨hc1, hf1⟩ := bcell hb1) | (go_at_call 40; ((with_reducible refine (HLA.out _).mono ?_) ; (rintro e w2 ⟨rfl, hb2⟩; replace hb1 := btrans hb1 hb2; clear hb2 hc1 hf1; obtain ⟨hc1, hf1⟩ := bcell hb1))) | (go_at_call 40; ((with_reducible refine (HLB.out _).mono ?_) ; (rintro e w2 ⟨rfl, hb2⟩; replace hb1 := btrans hb1 hb2; clear hb2 hc1 hf1; obtain ⟨hc1, hf1⟩ := bcell hb1))) | fail); go_ret; exact ⟨rfl, by repeat (first | assumption | (with_reducible exact Below.refl _ _) | exact balloc _ _ | exact balloc2 _ _ _ | refine btrans ?_ (by assumption) | refine btrans ?_ (balloc _ _))⟩)
  have H1 := Lib.hid h1; have H2 := Lib.hid h2; have HS := Lib.hid hs
  clear h1 h2 hs
  have hkw : k = 0 ∨ k = 1 ∨ k = 2 ∨ ((k == 0) = false ∧ (k == 1) = false ∧ (k == 2) = false ∧ rankI k = 3) := by
    by_cases a : k = 0
    · exact .inl a
    by_cases b : k = 1
    · exact .inr (.inl b)
    by_cases c : k = 2
    · exact .inr (.inr (.inl c))
    refine .inr (.inr (.inr ⟨by simpa using a, by simpa using b, by simpa using c, ?_⟩))
    unfold rankI
    have : (decide (0 ≤ k) && decide (k ≤ 2)) = false := by rw [Bool.eq_false_iff]; intro h; simp only [Bool.and_eq_true, decide_eq_true_eq] at h; omega
    rw [this]; rfl
  rcases hkw with rfl | rfl | rfl | ⟨k0, k1, k2, hrk⟩
  · have hL' : decide (n < n2) = L := hL
    have hS' : (n == n2) = S := hS
    clear hn hL hS
    have HR := Lib.hid hr; clear hr
    rcases hw with ⟨rfl, rfl, rfl, rfl⟩ | ⟨rfl, rfl, rfl, rfl⟩ | ⟨rfl, rfl, rfl, rfl⟩
    all_goals (as_aux_lemma => (go_enter Tryz.func13, Tryz.ntmps13; go_wp2_with (first | (go_at_call 36; refine (fit02_any _ (HT.out.below (by repeat (first | assumption | (with_reducible exact Below.refl _ _) | exact balloc _ _ | exact balloc2 _ _ _ | refine btrans ?_ (by assumption) | refine btrans ?_ (balloc _ _))) (Nat.le_refl _)) (HP.out.below (by repeat (first | assumption | (with_reducible exact Below.refl _ _) | exact balloc _ _ | exact balloc2 _ _ _ | refine btrans ?_ (by assumption) | refine btrans ?_ (balloc _ _))) (Nat.le_refl _))).mono ?_; rintro e w1 ⟨rfl, hb1⟩; obtain ⟨hc1, hf1⟩ := bcell hb1) | (go_at_call 40; ((with_reducible refine (HLA.out _).mono ?_) ; (rintro e w2 ⟨rfl, hb2⟩; replace hb1 := btrans hb1 hb2; clear hb2 hc1 hf1; obtain ⟨hc1, hf1⟩ := bcell hb1))) | (go_at_call 40; ((with_reducible refine (HLB.out _).mono ?_) ; (rintro e w2 ⟨rfl, hb2⟩; replace hb1 := btrans hb1 hb2; clear hb2 hc1 hf1; obtain ⟨hc1, hf1⟩ := bcell hb1))) | (go_at_call 41; ((with_reducible refine (H1.out _).mono ?_) ; (rintro e w2 ⟨rfl, hb2⟩; replace hb1 := btrans hb1 hb2; clear hb2 hc1 hf1; obtain ⟨hc1, hf1⟩ := bcell hb1))) | (go_at_call 41; ((with_reducible refine (H2.out _).mono ?_) ; (rintro e w2 ⟨rfl, hb2⟩; replace hb1 := btrans hb1 hb2; clear hb2 hc1 hf1; obtain ⟨hc1, hf1⟩ := bcell hb1))) | (go_at_call 46; ((with_reducible refine (HR.out _).mono ?_) ; (rintro e w2 ⟨rfl, hb2⟩; replace hb1 := btrans hb1 hb2; clear hb2 hc1 hf1; obtain ⟨hc1, hf1⟩ := bcell hb1))) | fail); go_quiet (fail); go_wp2_with (first | (go_at_call 44; ((with_reducible refine (HS.out _).mono ?_) ; rintro e w2 ⟨rfl, hb2⟩; replace hb1 := btrans (bdrewN hb1 _) hb2)) | fail); go_ret; exact ⟨rfl, by repeat (first | assumption | (with_reducible exact Below.refl _ _) | exact balloc _ _ | exact balloc2 _ _ _ | refine btrans ?_ (by assumption) | refine btrans ?_ (balloc _ _))⟩))
  · obtain ⟨q1, q2⟩ := hn rfl
    have hL' : Flt.lt x x2 = L := hL
    have hS' : Flt.eq x x2 = S := hS
    clear hn hL hS
    have HR := Lib.hid hr; clear hr
    rcases hw with ⟨rfl, rfl, rfl, rfl⟩ | ⟨rfl, rfl, rfl, rfl⟩ | ⟨rfl, rfl, rfl, rfl⟩
    all_goals (as_aux_lemma => (go_enter Tryz.func13, Tryz.ntmps13; go_wp2_with (first | (go_at_call 36; refine (fit02_any _ (HT.out.below (by repeat (first | assumption | (with_reducible exact Below.refl _ _) | exact balloc _ _ | exact balloc2 _ _ _ | refine btrans ?_ (by assumption) | refine btrans ?_ (balloc _ _))) (Nat.le_refl _)) (HP.out.below (by repeat (first | assumption | (with_reducible exact Below.refl _ _) | exact balloc _ _ | exact balloc2 _ _ _ | refine btrans ?_ (by assumption) | refine btrans ?_ (balloc _ _))) (Nat.le_refl _))).mono ?_; rintro e w1 ⟨rfl, hb1⟩; obtain ⟨hc1, hf1⟩ := bcell hb1) | (go_at_call 40; ((with_reducible refine (HLA.out _).mono ?_) ; (rintro e w2 ⟨rfl, hb2⟩; replace hb1 := btrans hb1 hb2; clear hb2 hc1 hf1; obtain ⟨hc1, hf1⟩ := bcell hb1))) | (go_at_call 40; ((with_reducible refine (HLB.out _).mono ?_) ; (rintro e w2 ⟨rfl, hb2⟩; replace hb1 := btrans hb1 hb2; clear hb2 hc1 hf1; obtain ⟨hc1, hf1⟩ := bcell hb1))) | (go_at_call 41; ((with_reducible refine (H1.out _).mono ?_) ; (rintro e w2 ⟨rfl, hb2⟩; replace hb1 := btrans hb1 hb2; clear hb2 hc1 hf1; obtain ⟨hc1, hf1⟩ := bcell hb1))) | (go_at_call 41; ((with_reducible refine (H2.out _).mono ?_) ; (rintro e w2 ⟨rfl, hb2⟩; replace hb1 := btrans hb1 hb2; clear hb2 hc1 hf1; obtain ⟨hc1, hf1⟩ := bcell hb1))) | (go_at_call 46; ((with_reducible refine (HR.out _).mono ?_) ; (rintro e w2 ⟨rfl, hb2⟩; replace hb1 := btrans hb1 hb2; clear hb2 hc1 hf1; obtain ⟨hc1, hf1⟩ := bcell hb1))) | fail); go_quiet (fail); go_wp2_with (first | (go_at_call 44; ((with_reducible refine (HS.out _).mono ?_) ; rintro e w2 ⟨rfl, hb2⟩; replace hb1 := btrans (bdrewN hb1 _) hb2)) | fail); go_ret; exact ⟨rfl, by repeat (first | assumption | (with_reducible exact Below.refl _ _) | exact balloc _ _ | exact balloc2 _ _ _ | refine btrans ?_ (by assumption) | refine btrans ?_ (balloc _ _))⟩))
  · have hL' : Op.bytesLess t t2 = L := by rw [bless_cmp]; exact hL
    have hS' : (t == t2) = S := hS
    clear hn hL hS
    have HR := Lib.hid hr; clear hr
    rcases hw with ⟨rfl, rfl, rfl, rfl⟩ | ⟨rfl, rfl, rfl, rfl⟩ | ⟨rfl, rfl, rfl, rfl⟩
    all_goals (as_aux_lemma => (go_enter Tryz.func13, Tryz.ntmps13; go_wp2_with (first | (go_at_call 36; refine (fit02_any _ (HT.out.below (by repeat (first | assumption | (with_reducible exact Below.refl _ _) | exact balloc _ _ | exact balloc2 _ _ _ | refine btrans ?_ (by assumption) | refine btrans ?_ (balloc _ _))) (Nat.le_refl _)) (HP.out.below (by repeat (first | assumption | (with_reducible exact Below.refl _ _) | exact balloc _ _ | exact balloc2 _ _ _ | refine btrans ?_ (by assumption) | refine btrans ?_ (balloc _ _))) (Nat.le_refl _))).mono ?_; rintro e w1 ⟨rfl, hb1⟩; obtain ⟨hc1, hf1⟩ := bcell hb1) | (go_at_call 40; ((with_reducible refine (HLA.out _).mono ?_) ; (rintro e w2 ⟨rfl, hb2⟩; replace hb1 := btrans hb1 hb2; clear hb2 hc1 hf1; obtain ⟨hc1, hf1⟩ := bcell hb1))) | (go_at_call 40; ((with_reducible refine (HLB.out _).mono ?_) ; (rintro e w2 ⟨rfl, hb2⟩; replace hb1 := btrans hb1 hb2; clear hb2 hc1 hf1; obtain ⟨hc1, hf1⟩ := bcell hb1))) | (go_at_call 41; ((with_reducible refine (H1.out _).mono ?_) ; (rintro e w2 ⟨rfl, hb2⟩; replace hb1 := btrans hb1 hb2; clear hb2 hc1 hf1; obtain ⟨hc1, hf1⟩ := bcell hb1))) | (go_at_call 41; ((with_reducible refine (H2.out _).mono ?_) ; (rintro e w2 ⟨rfl, hb2⟩; replace hb1 := btrans hb1 hb2; clear hb2 hc1 hf1; obtain ⟨hc1, hf1⟩ := bcell hb1))) | (go_at_call 46; ((with_reducible refine (HR.out _).mono ?_) ; (rintro e w2 ⟨rfl, hb2⟩; replace hb1 := btrans hb1 hb2; clear hb2 hc1 hf1; obtain ⟨hc1, hf1⟩ := bcell hb1))) | fail); go_quiet (fail); go_wp2_with (first | (go_at_call 44; ((with_reducible refine (HS.out _).mono ?_) ; rintro e w2 ⟨rfl, hb2⟩; replace hb1 := btrans (bdrewN hb1 _) hb2)) | fail); go_ret; exact ⟨rfl, by repeat (first | assumption | (with_reducible exact Below.refl _ _) | exact balloc _ _ | exact balloc2 _ _ _ | refine btrans ?_ (by assumption) | refine btrans ?_ (balloc _ _))⟩))
  · rw [k0, k1, k2] at hL hS
    simp only [Bool.false_eq_true, if_false] at hL hS
    rw [hrk] at hr
    have HR := Lib.hid hr; clear hr hn hrk
    cases y <;> cases y2
    all_goals
      simp at hL hS
      rcases hw with ⟨rfl, rfl, rfl, rfl⟩ | ⟨rfl, rfl, rfl, rfl⟩ | ⟨rfl, rfl, rfl, rfl⟩
      all_goals first | (exfalso; simp at hL hS; done) | (clear hL hS; (as_aux_lemma => (go_enter Tryz.func13, Tryz.ntmps13; go_wp2_with (first | (go_at_call 36; refine (fit02_any _ (HT.out.below (by repeat (first | assumption | (with_reducible exact Below.refl _ _) | exact balloc _ _ | exact balloc2 _ _ _ | refine btrans ?_ (by assumption) | refine btrans ?_ (balloc _ _))) (Nat.le_refl _)) (HP.out.below (by repeat (first | assumption | (with_reducible exact Below.refl _ _) | exact balloc _ _ | exact balloc2 _ _ _ | refine btrans ?_ (by assumption) | refine btrans ?_ (balloc _ _))) (Nat.le_refl _))).mono ?_; rintro e w1 ⟨rfl, hb1⟩; obtain ⟨hc1, hf1⟩ := bcell hb1) | (go_at_call 40; ((with_reducible refine (HLA.out _).mono ?_) ; (rintro e w2 ⟨rfl, hb2⟩; replace hb1 := btrans hb1 hb2; clear hb2 hc1 hf1; obtain ⟨hc1, hf1⟩ := bcell hb1))) | (go_at_call 40; ((with_reducible refine (HLB.out _).mono ?_) ; (rintro e w2 ⟨rfl, hb2⟩; replace hb1 := btrans hb1 hb2; clear hb2 hc1 hf1; obtain ⟨hc1, hf1⟩ := bcell hb1))) | (go_at_call 41; ((with_reducible refine (H1.out _).mono ?_) ; (rintro e w2 ⟨rfl, hb2⟩; replace hb1 := btrans hb1 hb2; clear hb2 hc1 hf1; obtain ⟨hc1, hf1⟩ := bcell hb1))) | (go_at_call 41; ((with_reducible refine (H2.out _).mono ?_) ; (rintro e w2 ⟨rfl, hb2⟩; replace hb1 := btrans hb1 hb2; clear hb2 hc1 hf1; obtain ⟨hc1, hf1⟩ := bcell hb1))) | (go_at_call 46; ((with_reducible refine (HR.out _).mono ?_) ; (rintro e w2 ⟨rfl, hb2⟩; replace hb1 := btrans hb1 hb2; clear hb2 hc1 hf1; obtain ⟨hc1, hf1⟩ := bcell hb1))) | fail); go_quiet (fail); go_wp2_with (first | (go_at_call 44; ((with_reducible refine (HS.out _).mono ?_) ; rintro e w2 ⟨rfl, hb2⟩; replace hb1 := btrans (bdrewN hb1 _) hb2)) | fail); go_ret; exact ⟨rfl, by repeat (first | assumption | (with_reducible exact Below.refl _ _) | exact balloc _ _ | exact balloc2 _ _ _ | refine btrans ?_ (by assumption) | refine btrans ?_ (balloc _ _))⟩)))
end Go.Proofs.YtceplbanfpnhbaaGreatDoor.Val
end
