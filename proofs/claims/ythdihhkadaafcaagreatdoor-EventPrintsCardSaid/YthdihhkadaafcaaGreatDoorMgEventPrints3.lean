/- MERGED BY A PROGRAM OF MINE (mg.py) out of my own texts, in their order: OrdKey, Same, VInj, ESame, EvInj, NewOk. -/
import Derived.Test.YthdihhkadaafcaaGreatDoorMgEventPrints2
import Derived.Test.YthdihhkadaafcaaGreatDoorOrd
import Derived.Test.YthdihhkadaafcaaGreatDoorAttr

section
/- THE WALKS OF package order: Key, Same. -/
namespace Go.Proofs.YthdihhkadaafcaaGreatDoor.Ord
open Go.RowKit Flt
attribute [local go_sem] ford_eq ford_lt ford_gt
theorem bits_call (b : Nat) (w : World) : (callFunc 154 #[.float .f64 b]).run Tryz.prog w = .ok (.value (.int .u64 b)) w :=
  run_callFunc_extern (e := Extern.MathFloatBits.float64bits) Tryz.func154 (by kernel_rfl) (by kernel_rfl) (by kernel_rfl) (by kernel_rfl) _ w
theorem umax_xor (b : Nat) (hb : b < 18446744073709551616) : bits .xor .u64 IntKind.u64.max (b : Int) = ((most - b : Nat) : Int) := by
  have h := u64_xor 18446744073709551615 (b : Int) (by decide) (by decide) (by omega) (by omega)
  have e : IntKind.u64.max = 18446744073709551615 := by decide
  rw [e, h]
  have e2 : (18446744073709551615 : Int).toNat = most := by decide
  rw [e2, Int.toNat_natCast, xor_most hb]
theorem top_or (b : Nat) (hb : b < 18446744073709551616) : bits .or .u64 (b : Int) 9223372036854775808 = ((b ||| top : Nat) : Int) := by
  have h := u64_or (b : Int) 9223372036854775808 (by omega) (by omega) (by decide) (by decide)
  rw [h, Int.toNat_natCast]; rfl
theorem top_off (b : Nat) (hb : b < 18446744073709551616) : bits .andNot .u64 (b : Int) 9223372036854775808 = ((b % 9223372036854775808 : Nat) : Int) := by
  have h := u64_andNot (b : Int) 9223372036854775808 (by omega) (by omega) (by decide) (by decide)
  rw [h, Int.toNat_natCast]
  have e2 : (9223372036854775808 : Int).toNat = 9223372036854775808 := by decide
  rw [e2, and_low]

theorem ret_u64 {a b : Int} (h : a = b) : Ending.returned (.int .u64 a) = .returned (.int .u64 b) := by rw [h]
set_option maxHeartbeats 400000 in
theorem key_any (b : Nat) (hb : b < 18446744073709551616) (w : World) :
    Calls Tryz.prog 124 #[.float .f64 b] w fun e w' => e = .returned (.int .u64 (key b)) ∧ w = w' := by
  have hc := bits_call
  have h1 := ford_ne_self (canon b)
  rw [canon_nan] at h1
  cases hn : nan b with
  | true =>
    rw [key_nan hn]
    rw [hn] at h1; clear hn hb
    go_enter Tryz.func124, Tryz.ntmps124
    go_wp2_with (go_at_call 50; refine (canon_any _ _).mono ?_; rintro e w' ⟨rfl, rfl⟩)
    go_ret
    exact ⟨rfl, rfl⟩
  | false =>
    rw [hn] at h1
    have hk := key_of_canon b hb hn
    have hl := canon_lt b hb
    clear hn hb
    by_cases h : canon b / 9223372036854775808 = 1
    · rw [if_pos h] at hk
      have HK := Lib.hid hk; clear hk
      have h' : ((canon b : Int) / 9223372036854775808 == 1) = true := by rw [beq_iff_eq]; omega
      clear h
      go_enter Tryz.func124, Tryz.ntmps124
      go_wp2_with (go_at_call 50; refine (canon_any _ _).mono ?_; rintro e w' ⟨rfl, rfl⟩)
      go_ret
      exact ⟨ret_u64 (by rw [HK.out, umax_xor _ hl]), rfl⟩
    · rw [if_neg h] at hk
      have HK := Lib.hid hk; clear hk
      have h' : ((canon b : Int) / 9223372036854775808 == 1) = false := by rw [beq_eq_false_iff_ne]; omega
      clear h
      go_enter Tryz.func124, Tryz.ntmps124
      go_wp2_with (go_at_call 50; refine (canon_any _ _).mono ?_; rintro e w' ⟨rfl, rfl⟩)
      go_ret
      exact ⟨ret_u64 (by rw [HK.out, top_or _ hl]), rfl⟩
def same (a b : Nat) : Bool := key a == key b
theorem beq_cast (a b : Nat) : ((a : Int) == (b : Int)) = (a == b) := by
  rw [Bool.eq_iff_iff]; simp; omega
set_option maxHeartbeats 400000 in
theorem same_any (a b : Nat) (ha : a < 18446744073709551616) (hb : b < 18446744073709551616) (w : World) :
    Calls Tryz.prog 92 #[.float .f64 a, .float .f64 b] w fun e w' => e = .returned (.bool (same a b)) ∧ w = w' := by
  go_enter Tryz.func92, Tryz.ntmps92
  go_wp2_with (go_at_call 124; refine (key_any _ (by assumption) _).mono ?_; rintro e w' ⟨rfl, rfl⟩)
  go_ret
  exact ⟨ret_bool (beq_cast _ _), rfl⟩
end Go.Proofs.YthdihhkadaafcaaGreatDoor.Ord
end

section
/- THE WALKS OF value.Same, cond.below, cond.above. -/
namespace Go.Proofs.YthdihhkadaafcaaGreatDoor.Val
open Go.RowKit Flt
def sameB (a b : V) : Bool := a.kind == b.kind && (if a.kind == 0 then a.int == b.int else if a.kind == 1 then Ord.same a.num b.num else if a.kind == 2 then a.text == b.text else a.yes == b.yes)
set_option maxHeartbeats 400000 in
theorem same_any (k1 n1 : Int) (x1 : Nat) (t1 : List UInt8) (y1 : Bool) (k2 n2 : Int) (x2 : Nat) (t2 : List UInt8) (y2 : Bool) (w : World) (h1 : x1 < 18446744073709551616) (h2 : x2 < 18446744073709551616) :
    Calls Tryz.prog 60 #[val k1 n1 x1 t1 y1, val k2 n2 x2 t2 y2] w fun e w' => e = .returned (.bool (sameB ⟨k1, n1, x1, t1, y1⟩ ⟨k2, n2, x2, t2, y2⟩)) ∧ Below w.heap.size w w' := by
  have hr : sameB ⟨k1, n1, x1, t1, y1⟩ ⟨k2, n2, x2, t2, y2⟩ = (k1 == k2 && (if k1 == 0 then n1 == n2 else if k1 == 1 then Ord.same x1 x2 else if k1 == 2 then t1 == t2 else y1 == y2)) := rfl
  have ho (w : World) := Ord.same_any x1 x2 h1 h2 w
  generalize Ord.same x1 x2 = sb at *
  have HR := Lib.hid hr; have HO := Lib.hid ho; clear hr ho h1 h2
  cases hk : (k1 == k2)
  · have hk' : (k1 != k2) = true := by rw [bne, hk]; rfl
    go_enter Tryz.func60, Tryz.ntmps60
    go_wp2
    go_ret
    exact ⟨ret_bool (by rw [HR.out, hk]; rfl), balloc2 _ _ _⟩
  have hk' : (k1 != k2) = false := by rw [bne, hk]; rfl
  cases q0 : (k1 == 0)
  · cases q1 : (k1 == 1)
    · cases q2 : (k1 == 2)
      all_goals
        go_enter Tryz.func60, Tryz.ntmps60
        go_wp2
        go_ret
        exact ⟨ret_bool (by rw [HR.out, hk, q0, q1, q2]; rfl), balloc2 _ _ _⟩
    · go_enter Tryz.func60, Tryz.ntmps60
      go_wp2_with (go_at_call 92; refine (HO.out _).mono ?_; rintro e w' ⟨rfl, rfl⟩)
      go_ret
      exact ⟨ret_bool (by rw [HR.out, hk, q0, q1]; rfl), balloc2 _ _ _⟩
  · go_enter Tryz.func60, Tryz.ntmps60
    go_wp2
    go_ret
    exact ⟨ret_bool (by rw [HR.out, hk, q0]; rfl), balloc2 _ _ _⟩
theorem same_cmp (a b : V) (hk : a.kind = b.kind) (v1 : voidB a = false) (v2 : voidB b = false) (h1 : a.num < 18446744073709551616) (h2 : b.num < 18446744073709551616) : sameB a b = (cmp1 a b == 0) := by
  have ok := cmpOk_of hk v1 v2
  have e : cmp1 a b = cmp a b := by unfold cmp1; rw [ok]; rfl
  rw [e]
  unfold sameB cmp
  have hkk : (a.kind == b.kind) = true := by rw [beq_iff_eq]; exact hk
  rw [hkk]
  unfold voidB at v1 v2
  rw [← hk] at v2
  by_cases k0 : a.kind = 0
  · have := (sgn_spec a.int b.int).2
    simp only [k0]
    rw [Bool.eq_iff_iff]
    simpa using this.symm
  by_cases k1 : a.kind = 1
  · have n1 : nan a.num = false := by simpa [k1] using v1
    have n2 : nan b.num = false := by simpa [k1] using v2
    have hs := (sgn_spec (sk a.num) (sk b.num)).2
    have hq := Ord.key_eq_iff h1 h2 n1 n2
    simp only [k1, Flt.lt, n1, n2, Ord.same]
    rw [Bool.eq_iff_iff]
    simp only [Bool.not_false, Bool.and_self, Bool.true_and]
    simp
    rw [hs, hq]
  by_cases k2 : a.kind = 2
  · have := cb_zero a.text b.text
    simp only [k2]
    rw [Bool.eq_iff_iff]
    simpa using this.symm
  have e0 : (a.kind == 0) = false := by simpa using k0
  have e1 : (a.kind == 1) = false := by simpa using k1
  have e2 : (a.kind == 2) = false := by simpa using k2
  simp only [e0, e1, e2, Bool.false_eq_true, if_false]
  unfold sgn
  cases a.yes <;> cases b.yes <;> rfl
theorem side_ways (op p q : Int) (h : p ≠ q) : (op == p) = true ∧ (op == q) = false ∨ (op == p) = false ∧ (op == q) = true ∨ (op == p) = false ∧ (op == q) = false := by
  cases h1 : (op == p) <;> cases h2 : (op == q) <;> simp_all
theorem below_any (op : Int) (w : World) :
    Calls Tryz.prog 80 #[.int .i64 op] w fun e w' => e = .returned (.tuple #[.bool (op == 2 || op == 3), .bool (op == 3)]) ∧ w = w' := by
  rcases side_ways op 2 3 (by decide) with ⟨h1, h2⟩ | ⟨h1, h2⟩ | ⟨h1, h2⟩
  all_goals
    go_enter Tryz.func80, Tryz.ntmps80
    go_wp2
    go_ret2
    exact ⟨by rw [h1, h2]; rfl, rfl⟩
theorem above_any (op : Int) (w : World) :
    Calls Tryz.prog 81 #[.int .i64 op] w fun e w' => e = .returned (.tuple #[.bool (op == 4 || op == 5), .bool (op == 5)]) ∧ w = w' := by
  rcases side_ways op 4 5 (by decide) with ⟨h1, h2⟩ | ⟨h1, h2⟩ | ⟨h1, h2⟩
  all_goals
    go_enter Tryz.func81, Tryz.ntmps81
    go_wp2
    go_ret2
    exact ⟨by rw [h1, h2]; rfl, rfl⟩
end Go.Proofs.YthdihhkadaafcaaGreatDoor.Val
end

section
/- VALUES THAT ARE NOT THE SAME HAVE TEXTS THAT ARE NOT, whatever stands behind; those that are the same have one. No walk. -/
namespace Go.Proofs.YthdihhkadaafcaaGreatDoor.Val
open Go.RowKit Flt
theorem nan_iff (b : Nat) : nan b = true ↔ 9218868437227405312 < b % 9223372036854775808 := by
  unfold nan rung inf
  rw [decide_eq_true_eq]
theorem zero_iff2 (b : Nat) : Ord.zero b = true ↔ b % 9223372036854775808 = 0 := by
  rw [Ord.zero_iff]
  unfold rung
  rw [decide_eq_true_eq]
/-- numbers with one key are kept alike, and others are not -/
theorem key_canon (a b : Nat) (ha : a < 18446744073709551616) (hb : b < 18446744073709551616) : Ord.key a = Ord.key b ↔ Ord.canon a = Ord.canon b := by
  unfold Ord.key Ord.canon Ord.most Ord.top Ord.nan0
  have na := nan_iff a; have nb := nan_iff b; have za := zero_iff2 a; have zb := zero_iff2 b
  cases h1 : nan a <;> cases h2 : nan b <;> cases h3 : Ord.zero a <;> cases h4 : Ord.zero b <;>
    rw [h1] at na <;> rw [h2] at nb <;> rw [h3] at za <;> rw [h4] at zb <;>
    simp only [Bool.false_eq_true, if_false, if_true] <;>
    (try split) <;> (try split) <;> simp at na nb za zb <;> omega
theorem canon_bits (x : Nat) (hx : x < 18446744073709551616) : Ord.canon x < 18446744073709551616 ∧
    ((Ord.canon x = 9221120237041090561) ∨ (Fmt.bexp (Ord.canon x) ≤ 2046) ∨ (Fmt.bexp (Ord.canon x) = 2047 ∧ Fmt.bman (Ord.canon x) = 0)) := by
  refine ⟨canon_lt x hx, ?_⟩
  have na := nan_iff x
  unfold Ord.canon Ord.nan0
  cases h1 : nan x
  · rw [h1] at na
    have : ¬ 9218868437227405312 < x % 9223372036854775808 := fun h => by have := na.2 h; cases this
    simp only [Bool.false_eq_true, if_false]
    split
    · right; left; decide
    · right
      unfold Fmt.bexp Fmt.bman
      omega
  · left; rfl
/-- a text without a blank and not quoted -/
def Bare (t : List UInt8) : Prop := t ≠ [] ∧ (∀ c ∈ t, c ≠ 32) ∧ ∀ r, t ≠ 34 :: r
/-- what may stand behind: nothing, or a blank first -/
def Tail (s : List UInt8) : Prop := s = [] ∨ ∃ r, s = 32 :: r
theorem bare_apart : ∀ (t u s r : List UInt8), (∀ c ∈ t, c ≠ 32) → (∀ c ∈ u, c ≠ 32) → Tail s → Tail r → t ++ s = u ++ r → t = u ∧ s = r
  | [], [], _, _, _, _, _, _, h => ⟨rfl, h⟩
  | [], c :: u, s, r, _, hu, hs, _, h => by
    exfalso
    rcases hs with rfl | ⟨q, rfl⟩
    · cases h
    · exact hu c (List.mem_cons_self ..) (List.cons.inj h).1.symm
  | c :: t, [], s, r, ht, _, _, hr, h => by
    exfalso
    rcases hr with rfl | ⟨q, rfl⟩
    · cases h
    · exact ht c (List.mem_cons_self ..) (List.cons.inj h).1
  | c :: t, d :: u, s, r, ht, hu, hs, hr, h => by
    obtain ⟨h1, h2⟩ := List.cons.inj h
    obtain ⟨i1, i2⟩ := bare_apart t u s r (fun x hx => ht x (List.mem_cons_of_mem _ hx)) (fun x hx => hu x (List.mem_cons_of_mem _ hx)) hs hr h2
    exact ⟨by rw [h1, i1], i2⟩
/-- a whole number's text: digits, a sign ahead -/
theorem itoa_chr (n : Int) : ∀ c ∈ Lib.itoa n, Fmt.IsD c ∨ c = 45 := by
  intro c hc
  unfold Lib.itoa at hc
  split at hc
  · rcases List.mem_cons.1 hc with rfl | hc
    · exact .inr rfl
    · exact .inl ((Fmt.decDigits_val _).2 c hc)
  · exact .inl ((Fmt.decDigits_val _).2 c hc)
theorem dec_ne (u : Nat) : Lib.decDigits u ≠ [] := by
  intro h
  have := Lib.decDigits_length u
  rw [h] at this
  have := Lib.nDigits_pos u
  simp at *
  omega
theorem itoa_ne (n : Int) : Lib.itoa n ≠ [] := by
  unfold Lib.itoa
  split
  · exact List.cons_ne_nil _ _
  · exact dec_ne _
theorem itoa_inj (n m : Int) (h : Lib.itoa n = Lib.itoa m) : n = m := by
  have dv := fun u => (Fmt.decDigits_val u).1
  have nod : ∀ u v, 45 :: Lib.decDigits u ≠ Lib.decDigits v := fun u v e => by
    have := (Fmt.decDigits_val v).2 45 (by rw [← e]; exact List.mem_cons_self ..)
    unfold Fmt.IsD at this
    simp at this
  unfold Lib.itoa at h
  split at h <;> split at h
  · have h2 := congrArg Fmt.dval (List.cons.inj h).2
    rw [dv, dv] at h2
    omega
  · exact absurd h (nod _ _)
  · exact absurd h.symm (nod _ _)
  · have h2 := congrArg Fmt.dval h
    rw [dv, dv] at h2
    omega
/-- what a number's text is, by its kind -/
theorem flt_ways (x : Nat) (hx : x < 18446744073709551616) :
    (Fmt.fltT (Ord.canon x) = [78, 97, 78] ∧ Ord.canon x = 9221120237041090561) ∨
    (Fmt.fltT (Ord.canon x) = [45, 73, 110, 102] ∧ Ord.canon x = 18442240474082181120) ∨ (Fmt.fltT (Ord.canon x) = [43, 73, 110, 102] ∧ Ord.canon x = 9218868437227405312) ∨
    (Fmt.bexp (Ord.canon x) ≤ 2046 ∧ ∃ X, Fmt.fltT (Ord.canon x) = Fmt.sgn (Fmt.bneg (Ord.canon x)) ++ X ∧ (∃ c r, X = c :: r ∧ Fmt.IsD c) ∧ ∀ c ∈ X, Fmt.IsN c) := by
  obtain ⟨hl, h⟩ := canon_bits x hx
  generalize Ord.canon x = b at *
  rcases h with rfl | h | ⟨h1, h2⟩
  · left
    exact ⟨Fmt.fltT_nan _ (by decide) (by decide), rfl⟩
  · right; right; right
    obtain ⟨X, hX⟩ := Fmt.body_fin b h
    exact ⟨h, X, hX.txt, hX.head, hX.chr⟩
  · have ht := Fmt.fltT_inf b h1 h2
    cases hn : Fmt.bneg b
    · right; right; left
      rw [hn] at ht
      refine ⟨ht, ?_⟩
      unfold Fmt.bneg at hn
      unfold Fmt.bexp at h1
      unfold Fmt.bman at h2
      simp at hn
      omega
    · right; left
      rw [hn] at ht
      refine ⟨ht, ?_⟩
      unfold Fmt.bneg at hn
      unfold Fmt.bexp at h1
      unfold Fmt.bman at h2
      simp at hn
      omega
theorem isN_ne {c : UInt8} (h : Fmt.IsN c) (k : UInt8) (hk : k.toNat < 43 ∨ (57 < k.toNat ∧ k.toNat ≠ 101)) : c ≠ k := by
  rintro rfl
  rcases h with h | h | h | h | h
  · unfold Fmt.IsD at h; omega
  all_goals (subst h; revert hk; decide)
theorem flt_bare (x : Nat) (hx : x < 18446744073709551616) : Bare (Fmt.fltT (Ord.canon x)) ∧ (∀ r, Fmt.fltT (Ord.canon x) ≠ 121 :: r) ∧ (∀ r, Fmt.fltT (Ord.canon x) ≠ 110 :: r) ∧ ∃ c ∈ Fmt.fltT (Ord.canon x), ¬ (Fmt.IsD c ∨ c = 45) := by
  have hmk : ∃ c ∈ Fmt.fltT (Ord.canon x), ¬ (Fmt.IsD c ∨ c = 45) := by
    have key : ∀ c : UInt8, c = 46 ∨ c = 101 ∨ c = 73 ∨ c = 78 → ¬ (Fmt.IsD c ∨ c = 45) := by
      intro c hc h
      rcases hc with rfl | rfl | rfl | rfl <;> rcases h with h | h <;> first | (unfold Fmt.IsD at h; simp at h) | (revert h; decide)
    unfold Fmt.fltT
    cases hm : Fmt.marked (Fmt.ftoaT (Ord.canon x))
    · simp only [Bool.false_eq_true, if_false]
      exact ⟨46, by simp, key 46 (.inl rfl)⟩
    · simp only [if_true]
      obtain ⟨c, hc, hk⟩ := (Fmt.marked_iff _).1 hm
      exact ⟨c, hc, key c hk⟩
  rcases flt_ways x hx with ⟨h, _⟩ | ⟨h, _⟩ | ⟨h, _⟩ | ⟨_, X, h, ⟨c, r, hX, hc⟩, hN⟩
  · refine ⟨⟨?_, ?_, ?_⟩, ?_, ?_, hmk⟩ <;> rw [h]
    · exact List.cons_ne_nil _ _
    · intro c hc; simp only [List.mem_cons, List.not_mem_nil, or_false] at hc; rcases hc with rfl | rfl | rfl <;> decide
    all_goals (intro r e; have := (List.cons.inj e).1; revert this; decide)
  · refine ⟨⟨?_, ?_, ?_⟩, ?_, ?_, hmk⟩ <;> rw [h]
    · exact List.cons_ne_nil _ _
    · intro c hc; simp only [List.mem_cons, List.not_mem_nil, or_false] at hc; rcases hc with rfl | rfl | rfl | rfl <;> decide
    all_goals (intro r e; have := (List.cons.inj e).1; revert this; decide)
  · refine ⟨⟨?_, ?_, ?_⟩, ?_, ?_, hmk⟩ <;> rw [h]
    · exact List.cons_ne_nil _ _
    · intro c hc; simp only [List.mem_cons, List.not_mem_nil, or_false] at hc; rcases hc with rfl | rfl | rfl | rfl <;> decide
    all_goals (intro r e; have := (List.cons.inj e).1; revert this; decide)
  · have hd : ∀ k : UInt8, k.toNat < 48 ∨ 57 < k.toNat → c ≠ k := fun k hk => Fmt.isD_ne hc k hk
    have hs : ∀ c ∈ Fmt.sgn (Fmt.bneg (Ord.canon x)), c = 45 := by
      intro c hc
      unfold Fmt.sgn at hc
      split at hc
      · exact List.mem_singleton.1 hc
      · cases hc
    have first : ∀ k : UInt8, k ≠ 45 → (k.toNat < 48 ∨ 57 < k.toNat) → ∀ r, Fmt.fltT (Ord.canon x) ≠ k :: r := by
      intro k h45 hk r e
      rw [h, hX] at e
      unfold Fmt.sgn at e
      split at e
      · exact h45 (List.cons.inj e).1.symm
      · exact hd k hk (List.cons.inj e).1
    refine ⟨⟨?_, ?_, first 34 (by decide) (by decide)⟩, first 121 (by decide) (by decide), first 110 (by decide) (by decide), hmk⟩
    · rw [h, hX]
      unfold Fmt.sgn
      split <;> exact List.cons_ne_nil _ _
    · intro d hd2
      rw [h] at hd2
      rcases List.mem_append.1 hd2 with hd2 | hd2
      · rw [hs d hd2]; decide
      · exact isN_ne (hN d hd2) 32 (by decide)
theorem flt_inj (x y : Nat) (hx : x < 18446744073709551616) (hy : y < 18446744073709551616) (h : Fmt.fltT (Ord.canon x) = Fmt.fltT (Ord.canon y)) : Ord.canon x = Ord.canon y := by
  have hd : ∀ {c : UInt8}, Fmt.IsD c → ∀ k : UInt8, k.toNat < 48 ∨ 57 < k.toNat → c ≠ k := fun hc k hk => Fmt.isD_ne hc k hk
  have fin : ∀ (b : Nat) (X : List UInt8) (c : UInt8) (r : List UInt8), X = c :: r → Fmt.IsD c → ∀ t, Fmt.fltT b = Fmt.sgn (Fmt.bneg b) ++ X → Fmt.fltT b = t → t ≠ [78, 97, 78] ∧ t ≠ [45, 73, 110, 102] ∧ t ≠ [43, 73, 110, 102] := by
    intro b X c r hX hc t ht e
    rw [ht, hX] at e
    unfold Fmt.sgn at e
    refine ⟨?_, ?_, ?_⟩ <;> rintro rfl <;> split at e
    · exact absurd (List.cons.inj e).1 (by decide)
    · exact hd hc 78 (by decide) (List.cons.inj e).1
    · exact hd hc 73 (by decide) (List.cons.inj (List.cons.inj e).2).1
    · exact hd hc 45 (by decide) (List.cons.inj e).1
    · exact absurd (List.cons.inj e).1 (by decide)
    · exact hd hc 43 (by decide) (List.cons.inj e).1
  rcases flt_ways x hx with ⟨h1, e1⟩ | ⟨h1, e1⟩ | ⟨h1, e1⟩ | ⟨f1, X, h1, ⟨c, r, hX, hc⟩, _⟩ <;>
    rcases flt_ways y hy with ⟨h2, e2⟩ | ⟨h2, e2⟩ | ⟨h2, e2⟩ | ⟨f2, Y, h2, ⟨d, q, hY, hd2⟩, _⟩
  · rw [e1, e2]
  · rw [h1, h2] at h; exact absurd h (by decide)
  · rw [h1, h2] at h; exact absurd h (by decide)
  · exact absurd h1 (fin _ Y d q hY hd2 _ h2 h.symm).1
  · rw [h1, h2] at h; exact absurd h (by decide)
  · rw [e1, e2]
  · rw [h1, h2] at h; exact absurd h (by decide)
  · exact absurd h1 (fin _ Y d q hY hd2 _ h2 h.symm).2.1
  · rw [h1, h2] at h; exact absurd h (by decide)
  · rw [h1, h2] at h; exact absurd h (by decide)
  · rw [e1, e2]
  · exact absurd h1 (fin _ Y d q hY hd2 _ h2 h.symm).2.2
  · exact absurd h2 (fin _ X c r hX hc _ h1 h).1
  · exact absurd h2 (fin _ X c r hX hc _ h1 h).2.1
  · exact absurd h2 (fin _ X c r hX hc _ h1 h).2.2
  · exact Fmt.fltT_fin _ _ (canon_lt x hx) (canon_lt y hy) f1 f2 h
/-- a value that may be -/
def VOk (v : V) : Prop := 0 ≤ v.kind ∧ v.kind ≤ 3 ∧ v.num < 18446744073709551616
theorem vT_ways (v : V) (h : VOk v) : (v.kind = 0 ∧ vT v = Lib.itoa v.int) ∨ (v.kind = 1 ∧ vT v = Fmt.fltT (Ord.canon v.num)) ∨ (v.kind = 2 ∧ vT v = Quo.quoteT Lib.goPrintTabs v.text) ∨ (v.kind = 3 ∧ vT v = if v.yes then yesT else noT) := by
  obtain ⟨k, n, x, t, y⟩ := v
  obtain ⟨h0, h3, _⟩ := h
  simp only at h0 h3
  rcases (show k = 0 ∨ k = 1 ∨ k = 2 ∨ k = 3 by omega) with rfl | rfl | rfl | rfl
  · exact .inl ⟨rfl, rfl⟩
  · exact .inr (.inl ⟨rfl, rfl⟩)
  · exact .inr (.inr (.inl ⟨rfl, rfl⟩))
  · exact .inr (.inr (.inr ⟨rfl, rfl⟩))
theorem itoa_bare (n : Int) : Bare (Lib.itoa n) ∧ (∀ r, Lib.itoa n ≠ 121 :: r) ∧ (∀ r, Lib.itoa n ≠ 110 :: r) := by
  have key : ∀ k : UInt8, k ≠ 45 → (k.toNat < 48 ∨ 57 < k.toNat) → ∀ c ∈ Lib.itoa n, c ≠ k := fun k h45 hk c hc => by
    rcases itoa_chr n c hc with h | h
    · exact Fmt.isD_ne h k hk
    · rw [h]; exact fun e => h45 e.symm
  have first : ∀ k : UInt8, k ≠ 45 → (k.toNat < 48 ∨ 57 < k.toNat) → ∀ r, Lib.itoa n ≠ k :: r := fun k h45 hk r e => key k h45 hk k (by rw [e]; exact List.mem_cons_self ..) rfl
  exact ⟨⟨itoa_ne n, key 32 (by decide) (by decide), first 34 (by decide) (by decide)⟩, first 121 (by decide) (by decide), first 110 (by decide) (by decide)⟩
theorem bool_bare (y : Bool) : Bare (if y then yesT else noT) ∧ ∃ c r, (if y then yesT else noT) = c :: r ∧ (c = 121 ∨ c = 110) := by
  cases y
  · refine ⟨⟨by decide, by decide, ?_⟩, 110, _, rfl, .inr rfl⟩
    intro r e; have := (List.cons.inj e).1; revert this; decide
  · refine ⟨⟨by decide, by decide, ?_⟩, 121, _, rfl, .inl rfl⟩
    intro r e; have := (List.cons.inj e).1; revert this; decide
/-- VALUES' TEXTS TELL THEM APART, whatever stands behind -/
theorem vT_apart (v u : V) (hv : VOk v) (hu : VOk u) (s r : List UInt8) (hs : Tail s) (hr : Tail r) (h : vT v ++ s = vT u ++ r) : sameB v u = true ∧ s = r := by
  have bb : ∀ t w : List UInt8, Bare t → Bare w → t ++ s = w ++ r → t = w ∧ s = r := fun t w ht hw e => bare_apart t w s r ht.2.1 hw.2.1 hs hr e
  have quo : ∀ (l : List UInt8) (w : List UInt8) (s r : List UInt8), Bare w → Quo.quoteT Lib.goPrintTabs l ++ s = w ++ r → False := by
    intro l w s r hw e
    obtain ⟨q, hq⟩ := Quo.quoteT_head Lib.goPrintTabs l
    cases w with
    | nil => exact hw.1 rfl
    | cons c w =>
      rw [hq] at e
      exact hw.2.2 w (by rw [(List.cons.inj e).1])
  rcases vT_ways v hv with ⟨k1, e1⟩ | ⟨k1, e1⟩ | ⟨k1, e1⟩ | ⟨k1, e1⟩ <;> rcases vT_ways u hu with ⟨k2, e2⟩ | ⟨k2, e2⟩ | ⟨k2, e2⟩ | ⟨k2, e2⟩ <;> rw [e1, e2] at h
  · obtain ⟨h1, h2⟩ := bb _ _ (itoa_bare _).1 (itoa_bare _).1 h
    refine ⟨?_, h2⟩
    have := itoa_inj _ _ h1
    unfold sameB; rw [k1, k2, this]; simp
  · exfalso
    obtain ⟨h1, _⟩ := bb _ _ (itoa_bare _).1 (flt_bare _ hu.2.2).1 h
    obtain ⟨c, hc, hn⟩ := (flt_bare _ hu.2.2).2.2.2
    exact hn (itoa_chr _ c (by rw [h1]; exact hc))
  · exact absurd h.symm (fun e => quo _ _ _ _ (itoa_bare _).1 e)
  · exfalso
    obtain ⟨h1, _⟩ := bb _ _ (itoa_bare _).1 (bool_bare _).1 h
    obtain ⟨c, q, e, hc⟩ := (bool_bare u.yes).2
    rw [e] at h1
    rcases hc with rfl | rfl
    · exact (itoa_bare _).2.1 _ h1
    · exact (itoa_bare _).2.2 _ h1
  · exfalso
    obtain ⟨h1, _⟩ := bb _ _ (flt_bare _ hv.2.2).1 (itoa_bare _).1 h
    obtain ⟨c, hc, hn⟩ := (flt_bare _ hv.2.2).2.2.2
    exact hn (itoa_chr _ c (by rw [← h1]; exact hc))
  · obtain ⟨h1, h2⟩ := bb _ _ (flt_bare _ hv.2.2).1 (flt_bare _ hu.2.2).1 h
    refine ⟨?_, h2⟩
    have := (key_canon _ _ hv.2.2 hu.2.2).2 (flt_inj _ _ hv.2.2 hu.2.2 h1)
    unfold sameB Ord.same; rw [k1, k2, this]; simp
  · exact absurd h.symm (fun e => quo _ _ _ _ (flt_bare _ hv.2.2).1 e)
  · exfalso
    obtain ⟨h1, _⟩ := bb _ _ (flt_bare _ hv.2.2).1 (bool_bare _).1 h
    obtain ⟨c, q, e, hc⟩ := (bool_bare u.yes).2
    rw [e] at h1
    rcases hc with rfl | rfl
    · exact (flt_bare _ hv.2.2).2.1 _ h1
    · exact (flt_bare _ hv.2.2).2.2.1 _ h1
  · exact absurd h (fun e => quo _ _ _ _ (itoa_bare _).1 e)
  · exact absurd h (fun e => quo _ _ _ _ (flt_bare _ hu.2.2).1 e)
  · obtain ⟨h1, h2⟩ := Quo.quoteT_apart _ _ _ _ _ h
    refine ⟨?_, h2⟩
    unfold sameB; rw [k1, k2, h1]; simp
  · exact absurd h (fun e => quo _ _ _ _ (bool_bare _).1 e)
  · exfalso
    obtain ⟨h1, _⟩ := bb _ _ (bool_bare _).1 (itoa_bare _).1 h
    obtain ⟨c, q, e, hc⟩ := (bool_bare v.yes).2
    rw [e] at h1
    rcases hc with rfl | rfl
    · exact (itoa_bare _).2.1 _ h1.symm
    · exact (itoa_bare _).2.2 _ h1.symm
  · exfalso
    obtain ⟨h1, _⟩ := bb _ _ (bool_bare _).1 (flt_bare _ hu.2.2).1 h
    obtain ⟨c, q, e, hc⟩ := (bool_bare v.yes).2
    rw [e] at h1
    rcases hc with rfl | rfl
    · exact (flt_bare _ hu.2.2).2.1 _ h1.symm
    · exact (flt_bare _ hu.2.2).2.2.1 _ h1.symm
  · exact absurd h.symm (fun e => quo _ _ _ _ (bool_bare _).1 e)
  · obtain ⟨h1, h2⟩ := bb _ _ (bool_bare _).1 (bool_bare _).1 h
    refine ⟨?_, h2⟩
    have : v.yes = u.yes := by
      cases hv2 : v.yes <;> cases hu2 : u.yes <;> rw [hv2, hu2] at h1 <;> first | rfl | (revert h1; decide)
    unfold sameB; rw [k1, k2, this]; simp
/-- values that are the same have one text -/
theorem vT_same (v u : V) (hv : VOk v) (hu : VOk u) (h : sameB v u = true) : vT v = vT u := by
  unfold sameB at h
  rw [Bool.and_eq_true, beq_iff_eq] at h
  obtain ⟨hk, h⟩ := h
  rcases vT_ways v hv with ⟨k1, e1⟩ | ⟨k1, e1⟩ | ⟨k1, e1⟩ | ⟨k1, e1⟩ <;> rcases vT_ways u hu with ⟨k2, e2⟩ | ⟨k2, e2⟩ | ⟨k2, e2⟩ | ⟨k2, e2⟩ <;> first | (exfalso; omega) | skip
  · rw [k1] at h
    rw [e1, e2]
    congr 1
    simpa using h
  · rw [k1] at h
    rw [e1, e2]
    unfold Ord.same at h
    rw [(key_canon _ _ hv.2.2 hu.2.2).1 (by simpa using h)]
  · rw [k1] at h
    rw [e1, e2]
    congr 1
    simpa using h
  · rw [k1] at h
    rw [e1, e2]
    have : v.yes = u.yes := by simpa using h
    rw [this]
end Go.Proofs.YthdihhkadaafcaaGreatDoor.Val
end

section
/- THE WALK OF event.Same. -/
namespace Go.Proofs.YthdihhkadaafcaaGreatDoor.Val
open Go.RowKit Flt
attribute [local go_sem] run_store_flt
def NumOk (l : List A) : Prop := ∀ a ∈ l, a.val.num < 18446744073709551616
def sameA (x y : A) : Bool := x.name == y.name && sameB x.val y.val
def sameN (l m : List A) : Nat → Bool
  | 0 => true
  | k + 1 => sameN l m k && sameA l[k]! m[k]!
def sameL (l m : List A) : Bool := l.length == m.length && sameN l m l.length
theorem sameN_no (l m : List A) (k n : Nat) (h : k < n) (hk : sameA l[k]! m[k]! = false) : sameN l m n = false := by
  induction n with
  | zero => omega
  | succ n ih =>
    unfold sameN
    by_cases e : k = n
    · subst e; rw [hk]; simp
    · rw [ih (by omega)]; rfl
theorem sameA_self (x : A) : sameA x x = true := by
  unfold sameA sameB
  simp [Ord.same]
theorem sameN_self (l : List A) : ∀ k, sameN l l k = true
  | 0 => rfl
  | k + 1 => by unfold sameN; rw [sameN_self l k, sameA_self]; rfl
theorem sameL_self (l : List A) : sameL l l = true := by unfold sameL; rw [sameN_self]; simp
set_option maxHeartbeats 400000 in
theorem same1_any (a b : A) (w : World) (h1 : a.val.num < 18446744073709551616) (h2 : b.val.num < 18446744073709551616) :
    Calls Tryz.prog 59 #[aa a, aa b] w fun e w' => e = .returned (.bool (sameA a b)) ∧ Below w.heap.size w w' := by
  obtain ⟨nm, k, n, x, tx, y⟩ := a
  obtain ⟨nm2, k2, n2, x2, tx2, y2⟩ := b
  have hr : sameA ⟨nm, k, n, x, tx, y⟩ ⟨nm2, k2, n2, x2, tx2, y2⟩ = (nm == nm2 && sameB ⟨k, n, x, tx, y⟩ ⟨k2, n2, x2, tx2, y2⟩) := rfl
  have hs (w : World) := same_any k n x tx y k2 n2 x2 tx2 y2 w h1 h2
  generalize sameB ⟨k, n, x, tx, y⟩ ⟨k2, n2, x2, tx2, y2⟩ = sb at *
  have HR := Lib.hid hr; have HS := Lib.hid hs; clear hr hs h1 h2
  cases hn : (nm == nm2)
  all_goals
    go_enter Tryz.func59, Tryz.ntmps59
    go_wp2_with (go_at_call 60; refine (HS.out _).mono ?_; rintro e w1 ⟨rfl, hb1⟩)
    go_ret
    exact ⟨ret_bool (by rw [HR.out, hn]; rfl), by repeat (first | assumption | (with_reducible exact Below.refl _ _) | exact balloc _ _ | exact balloc2 _ _ _ | refine btrans ?_ (by assumption) | refine btrans ?_ (balloc _ _))⟩
set_option maxHeartbeats 1000000 in
theorem equal_any (a0 b0 : Option Addr) (c1 c2 : Nat) (l m : List A) (w : World) (hl : Attrs w a0 l) (hm : Attrs w b0 m) (_hlm : l.length ≤ 1000000) (hmm : m.length ≤ 1000000) (nl : NumOk l) (nm : NumOk m) :
    Calls Tryz.prog 58 #[.slice a0 l.length c1, .slice b0 m.length c2, .func (.func 59) #[] #[]] w fun e w' =>
      e = .returned (.bool (sameL l m)) ∧ Below w.heap.size w w' := by
  have hr : sameL l m = (l.length == m.length && sameN l m l.length) := rfl
  have HR := Lib.hid hr; have HL := Lib.hid hl; have HM := Lib.hid hm; have NL := Lib.hid nl; have NM := Lib.hid nm
  clear hr hl hm nl nm
  by_cases hlen : l.length = m.length
  · have hl1 : ((l.length : Int) != (m.length : Int)) = false := by rw [hlen]; simp
    have hl2 : l.length ≤ m.length := by omega
    have HLEN := Lib.hid hlen; clear hlen
    go_enter Tryz.func58, Tryz.ntmps58
    go_wp2_with fail
    go_loopw [17] (fun vi wr => ∃ k : Nat, k ≤ l.length ∧ vi = .int .i64 k ∧ Hid (sameN l m k = true) ∧ Below w.heap.size w wr) (fun vi _ => l.length - (intOf vi).toNat)
    case atStart => exact ⟨0, Nat.zero_le _, rfl, Lib.hid rfl, Below.refl _ _⟩
    case round =>
      obtain ⟨k, hk, rfl, HP, hbr⟩ := hrel
      by_cases hlt : k < l.length
      · have i1 : (k : Int) < (l.length : Int) := by omega
        have i2 : (k : Int) < (m.length : Int) := by omega
        have i0 : (0 : Int) ≤ (k : Int) := by omega
        have hkm : k < m.length := by omega
        obtain ⟨a, rfl, v0, v1, v2, v3, v4, v5⟩ := (HL.out.below hbr) k hlt
        obtain ⟨b, rfl, y0, y1, y2, y3, y4, y5⟩ := (HM.out.below hbr) k hkm
        have hbl := World.block_lt_of_cell? _ _ y0
        have hs (w : World) := same1_any l[k] m[k] w (NL.out _ (List.getElem_mem hlt)) (NM.out _ (List.getElem_mem hkm))
        have hg1 : l[k]! = l[k] := getElem!_pos l _ hlt
        have hg2 : m[k]! = m[k] := getElem!_pos m _ hkm
        have hn1 : sameN l m (k + 1) = sameA l[k] m[k] := by unfold sameN; rw [HP.out, hg1, hg2]; rfl
        have hn2 : sameA l[k] m[k] = false → sameN l m l.length = false := fun h => sameN_no l m k _ hlt (by rw [hg1, hg2]; exact h)
        obtain ⟨za, ea, hza⟩ : ∃ (za : Bool) (_ : True), sameA l[k] m[k] = za := ⟨_, trivial, rfl⟩
        rw [hza] at hn1 hn2 hs
        have HN1 := Lib.hid hn1; have HN2 := Lib.hid hn2; have HS := Lib.hid hs
        clear hn1 hn2 hs hza hg1 hg2 HP
        generalize l[k] = p at *
        generalize m[k] = q at *
        obtain ⟨pn, pk, pi, px, pt, py⟩ := p
        obtain ⟨qn, qk, qi, qx, qt, qy⟩ := q
        cases za
        · go_wp2_with (go_at_call 59; refine (HS.out _).mono ?_; rintro e w2 ⟨rfl, hb2⟩)
          go_ret
          exact ⟨ret_bool (by rw [HR.out, HN2.out trivial]; simp), by repeat (first | assumption | (with_reducible exact Below.refl _ _) | exact balloc _ _ | exact balloc2 _ _ _ | refine btrans ?_ (by assumption) | refine btrans ?_ (balloc _ _))⟩
        · go_wp2_with (go_at_call 59; refine (HS.out _).mono ?_; rintro e w2 ⟨rfl, hb2⟩)
          exact ⟨⟨k + 1, by omega, by go_num, HN1, by repeat (first | assumption | (with_reducible exact Below.refl _ _) | exact balloc _ _ | exact balloc2 _ _ _ | refine btrans ?_ (by assumption) | refine btrans ?_ (balloc _ _))⟩, by simp [intOf]; go_num⟩
      · obtain rfl : k = l.length := by omega
        go_wp2
        go_ret
        exact ⟨ret_bool (by rw [HR.out, HP.out, HLEN.out]; simp), by repeat (first | assumption | (with_reducible exact Below.refl _ _) | exact balloc _ _ | exact balloc2 _ _ _ | refine btrans ?_ (by assumption) | refine btrans ?_ (balloc _ _))⟩
  · have hl1 : ((l.length : Int) != (m.length : Int)) = true := by simp; omega
    have hq : sameL l m = false := by rw [HR.out, show (l.length == m.length) = false by simpa using hlen]; rfl
    have HQ := Lib.hid hq; clear hq hlen
    go_enter Tryz.func58, Tryz.ntmps58
    go_wp2_with fail
    go_ret
    exact ⟨ret_bool HQ.out.symm, by repeat (first | assumption | (with_reducible exact Below.refl _ _) | exact balloc _ _ | exact balloc2 _ _ _ | refine btrans ?_ (by assumption) | refine btrans ?_ (balloc _ _))⟩
set_option maxHeartbeats 400000 in
theorem esame_any (s t : List UInt8) (a0 b0 : Option Addr) (c1 c2 : Nat) (l m : List A) (w : World) (hl : Attrs w a0 l) (hm : Attrs w b0 m) (hlm : l.length ≤ 1000000) (hmm : m.length ≤ 1000000) (nl : NumOk l) (nm : NumOk m) :
    Calls Tryz.prog 24 #[ev s a0 l.length c1, ev t b0 m.length c2] w fun e w' => e = .returned (.bool (s == t && sameL l m)) ∧ Below w.heap.size w w' := by
  have he (w : World) (h1 : Attrs w a0 l) (h2 : Attrs w b0 m) := equal_any a0 b0 c1 c2 l m w h1 h2 hlm hmm nl nm
  have HL := Lib.hid hl; have HM := Lib.hid hm; have HE := Lib.hid he; clear hl hm he nl nm hlm hmm
  generalize sameL l m = sb at *
  generalize l.length = ln at *
  generalize m.length = mn at *
  cases hst : (s == t)
  all_goals
    go_enter Tryz.func24, Tryz.ntmps24
    go_wp2_with (go_at_call 58; refine (HE.out _ (HL.out.below (by repeat (first | assumption | (with_reducible exact Below.refl _ _) | exact balloc _ _ | exact balloc2 _ _ _ | refine btrans ?_ (by assumption) | refine btrans ?_ (balloc _ _)))) (HM.out.below (by repeat (first | assumption | (with_reducible exact Below.refl _ _) | exact balloc _ _ | exact balloc2 _ _ _ | refine btrans ?_ (by assumption) | refine btrans ?_ (balloc _ _))))).mono ?_; rintro e w2 ⟨rfl, hb1⟩)
    go_ret
    exact ⟨ret_bool rfl, by repeat (first | assumption | (with_reducible exact Below.refl _ _) | exact balloc _ _ | exact balloc2 _ _ _ | refine btrans ?_ (by assumption) | refine btrans ?_ (balloc _ _))⟩
end Go.Proofs.YthdihhkadaafcaaGreatDoor.Val
end

section
/- EVENTS' TEXTS TELL THEM APART: attributes whose texts are one are the same. No walk. -/
namespace Go.Proofs.YthdihhkadaafcaaGreatDoor.Val
open Go.RowKit Flt
/-- names without a blank, without '=' -/
def NmOk (n : List UInt8) : Prop := ∀ c ∈ n, c ≠ 32 ∧ c ≠ 61
theorem sameN_cons (a b : A) (l m : List A) : ∀ k, sameN (a :: l) (b :: m) (k + 1) = (sameA a b && sameN l m k)
  | 0 => by simp [sameN]
  | k + 1 => by
    rw [sameN, sameN_cons a b l m k]
    show ((sameA a b && sameN l m k) && sameA l[k]! m[k]!) = (sameA a b && (sameN l m k && sameA l[k]! m[k]!))
    rw [Bool.and_assoc]
theorem sameL_cons (a b : A) (l m : List A) : sameL (a :: l) (b :: m) = (sameA a b && sameL l m) := by
  unfold sameL
  rw [List.length_cons, List.length_cons, sameN_cons]
  cases sameA a b <;> simp
theorem asT_cons (a : A) (l : List A) : asT (a :: l) = aT a ++ asT l := by simp [asT]
theorem asT_tail (l : List A) : Tail (asT l) := by
  cases l with
  | nil => exact .inl rfl
  | cons a l => exact .inr ⟨_, by rw [asT_cons]; rfl⟩
theorem cut61 : ∀ (n m s t : List UInt8), (∀ c ∈ n, c ≠ 61) → (∀ c ∈ m, c ≠ 61) → n ++ 61 :: s = m ++ 61 :: t → n = m ∧ s = t
  | [], [], _, _, _, _, h => ⟨rfl, (List.cons.inj h).2⟩
  | [], c :: m, _, _, _, hm, h => absurd (List.cons.inj h).1.symm (hm c (List.mem_cons_self ..))
  | c :: n, [], _, _, hn, _, h => absurd (List.cons.inj h).1 (hn c (List.mem_cons_self ..))
  | c :: n, d :: m, s, t, hn, hm, h => by
    obtain ⟨h1, h2⟩ := List.cons.inj h
    obtain ⟨i1, i2⟩ := cut61 n m s t (fun x hx => hn x (List.mem_cons_of_mem _ hx)) (fun x hx => hm x (List.mem_cons_of_mem _ hx)) h2
    exact ⟨by rw [h1, i1], i2⟩
theorem asT_inj : ∀ (l m : List A), (∀ x ∈ l, NmOk x.name ∧ VOk x.val) → (∀ x ∈ m, NmOk x.name ∧ VOk x.val) → asT l = asT m → sameL l m = true
  | [], [], _, _, _ => rfl
  | [], b :: m, _, _, h => by rw [asT_cons] at h; cases h
  | a :: l, [], _, _, h => by rw [asT_cons] at h; cases h
  | a :: l, b :: m, hl, hm, h => by
    obtain ⟨na, va⟩ := hl a (List.mem_cons_self ..)
    obtain ⟨nb, vb⟩ := hm b (List.mem_cons_self ..)
    rw [asT_cons, asT_cons] at h
    have h2 : a.name ++ 61 :: (vT a.val ++ asT l) = b.name ++ 61 :: (vT b.val ++ asT m) := by
      have := (List.cons.inj (show 32 :: ((a.name ++ [61] ++ vT a.val) ++ asT l) = 32 :: ((b.name ++ [61] ++ vT b.val) ++ asT m) by simpa [aT] using h)).2
      simpa using this
    obtain ⟨e1, h3⟩ := cut61 _ _ _ _ (fun c hc => (na c hc).2) (fun c hc => (nb c hc).2) h2
    obtain ⟨e2, h4⟩ := vT_apart _ _ va vb _ _ (asT_tail l) (asT_tail m) h3
    have ih := asT_inj l m (fun x hx => hl x (List.mem_cons_of_mem _ hx)) (fun x hx => hm x (List.mem_cons_of_mem _ hx)) h4
    rw [sameL_cons, ih]
    unfold sameA
    rw [e1, e2]; simp
theorem asT_same : ∀ (l m : List A), (∀ x ∈ l, VOk x.val) → (∀ x ∈ m, VOk x.val) → sameL l m = true → asT l = asT m
  | [], [], _, _, _ => rfl
  | [], b :: m, _, _, h => by simp [sameL] at h
  | a :: l, [], _, _, h => by simp [sameL] at h
  | a :: l, b :: m, hl, hm, h => by
    rw [sameL_cons, Bool.and_eq_true] at h
    obtain ⟨h1, h2⟩ := h
    unfold sameA at h1
    rw [Bool.and_eq_true, beq_iff_eq] at h1
    have hv := vT_same _ _ (hl a (List.mem_cons_self ..)) (hm b (List.mem_cons_self ..)) h1.2
    have ih := asT_same l m (fun x hx => hl x (List.mem_cons_of_mem _ hx)) (fun x hx => hm x (List.mem_cons_of_mem _ hx)) h2
    rw [asT_cons, asT_cons, ih]
    unfold aT
    rw [h1.1, hv]
theorem evT_same (sc : List UInt8) (l m : List A) (hl : ∀ x ∈ l, NmOk x.name ∧ VOk x.val) (hm : ∀ x ∈ m, NmOk x.name ∧ VOk x.val) : (evT sc l == evT sc m) = sameL l m := by
  rw [Bool.eq_iff_iff, beq_iff_eq]
  constructor
  · intro h
    unfold evT at h
    exact asT_inj l m hl hm (List.append_cancel_left h)
  · intro h
    unfold evT
    rw [asT_same l m (fun x hx => (hl x hx).2) (fun x hx => (hm x hx).2) h]
theorem chs_ok : ∀ (l : List UInt8) (i : Nat), Sc.chsOk i l = true → NmOk l
  | [], _, _ => fun c hc => by cases hc
  | c :: l, i, h => fun d hd => by
    rw [Sc.chsOk, Bool.and_eq_true] at h
    rcases List.mem_cons.1 hd with rfl | hd
    · have := h.1
      unfold Sc.chOk at this
      refine ⟨?_, ?_⟩ <;> (rintro rfl; revert this; simp)
    · exact chs_ok l (i + 1) h.2 d hd
theorem nameB_ok (n : List UInt8) (h : Sc.nameB n = true) : NmOk n ∧ n.length ≤ 12 := by
  unfold Sc.nameB at h
  simp only [Bool.and_eq_true, decide_eq_true_eq] at h
  exact ⟨chs_ok n 0 h.1.1, h.2⟩
/-- what may be: the names, the values -/
theorem rightL_ok (l : List A) (h : rightL l = true) : l.length ≤ 8 ∧ ∀ x ∈ l, NmOk x.name ∧ x.name.length ≤ 12 ∧ 0 ≤ x.val.kind ∧ x.val.kind ≤ 3 ∧ x.val.text.length ≤ 40 := by
  unfold rightL at h
  rw [Bool.and_eq_true, decide_eq_true_eq] at h
  refine ⟨h.2, fun x hx => ?_⟩
  obtain ⟨k, hk, rfl⟩ := List.getElem_of_mem hx
  have hr : rOk l k = true := by
    cases hro : rOk l k
    · have := rightN_no l k l.length hk hro
      rw [this] at h; cases h.1
    · rfl
  unfold rOk at hr
  simp only [getElem!_pos l k hk, Bool.and_eq_true] at hr
  obtain ⟨⟨⟨h1, h2⟩, _⟩, _⟩ := hr
  obtain ⟨n1, n2⟩ := nameB_ok _ h1
  unfold vRight at h2
  simp only [Bool.and_eq_true, decide_eq_true_eq] at h2
  exact ⟨n1, n2, h2.1.1, h2.1.2, h2.2⟩
end Go.Proofs.YthdihhkadaafcaaGreatDoor.Val
end

section
/- WHAT New LEAVES of attributes that may be read: names, bounds. No walk. -/
namespace Go.Proofs.YthdihhkadaafcaaGreatDoor.Val
open Flt
theorem lastV_some {t : List UInt8} {v : V} : ∀ {l : List A} {o : Option V}, l.foldl (fun o a => if a.name = t then some (canonV a.val) else o) o = some v → o = some v ∨ ∃ x ∈ l, x.name = t ∧ v = canonV x.val
  | [], o, h => Or.inl h
  | a :: l, o, h => by
    rw [List.foldl_cons] at h
    rcases lastV_some h with h1 | ⟨x, hx, h1, h2⟩
    · by_cases e : a.name = t
      · rw [if_pos e] at h1; exact Or.inr ⟨a, by simp, e, (Option.some.inj h1).symm⟩
      · rw [if_neg e] at h1; exact Or.inl h1
    · exact Or.inr ⟨x, by simp [hx], h1, h2⟩
theorem mem_newB {l : List A} {a : A} (h : a ∈ newB l) : ∃ x ∈ l, x.name = a.name ∧ a.val = canonV x.val := by
  have h1 := getL_mem (newB_rising l) h
  rw [newB_get] at h1
  rcases lastV_some (show l.foldl _ none = _ from h1) with h2 | h2
  · cases h2
  · exact h2
theorem canonV_num {v : V} (h : v.num < 18446744073709551616) : (canonV v).num < 18446744073709551616 := by
  unfold canonV
  rcases kind_ways v.kind with h0 | ⟨h0, h1⟩ | ⟨h0, h1, h2⟩ | ⟨h0, h1, h2, h3⟩ | ⟨h0, h1, h2, h3⟩ <;> simp [*, Ord.canon_lt]
theorem newB_num {l : List A} (h : ∀ x ∈ l, Open.AOk x) : NumOk (newB l) := fun a ha => by
  obtain ⟨x, hx, _, h2⟩ := mem_newB ha
  rw [h2]; exact canonV_num (h x hx).2.2.2.1
theorem keepB_num {zs : List ByteArray} {l : List A} (h : NumOk l) : NumOk (keepB zs l) := fun a ha => h a (List.mem_filter.1 ha).1
/-- what Get answers of an event that New made -/
theorem get_new (l : List A) (t : List UInt8) : (if foundB (newB l) t then some (newB l)[bs (newB l) t 0 (newB l).length]!.val else none) = lastV l t := by
  rw [← newB_get]; exact (found_get (newB_rising l) t).symm
end Go.Proofs.YthdihhkadaafcaaGreatDoor.Val
end
