/- MERGED BY A PROGRAM OF MINE (pmg.py) out of my own texts, pruned, in their order: VInj, VBack, Rany, Rquot, ReadAny, AwLaid, Globs, PlainQ, PaOne, PaOneA, PaFilG, Sort1, SortFn, Sort2, Need, Norm, NormFn, Keep, NormsFn, PaTx, PaBack, PaFit, PaKeysL, PaRead, PaAnyL. -/
import Derived.Test.YtnccpddjdgndcaaGreatDoorMgParseAny4
import Derived.Laws.AppendOwn
import Derived.Test.YtnccpddjdgndcaaGreatDoorFmtM
import Derived.Test.YtnccpddjdgndcaaGreatDoorUqFn

section
/- VALUES THAT ARE NOT THE SAME HAVE TEXTS THAT ARE NOT, whatever stands behind; those that are the same have one. No walk. -/
namespace Go.Proofs.YtnccpddjdgndcaaGreatDoor.Val
open Go.RowKit Flt
theorem nan_iff (b : Nat) : nan b = true ↔ 9218868437227405312 < b % 9223372036854775808 := by
 unfold nan rung inf
 rw [decide_eq_true_eq]
theorem zero_iff2 (b : Nat) : Ord.zero b = true ↔ b % 9223372036854775808 = 0 := by
 rw [Ord.zero_iff]
 unfold rung
 rw [decide_eq_true_eq]
theorem key_canon (a b : Nat) (ha : a < 18446744073709551616) (hb : b < 18446744073709551616) : Ord.key a = Ord.key b ↔ Ord.canon a = Ord.canon b := by
 unfold Ord.key Ord.canon Ord.most Ord.top Ord.nan0
 have na := nan_iff a; have nb := nan_iff b; have za := zero_iff2 a; have zb := zero_iff2 b
 cases h1 : nan a <;> cases h2 : nan b <;> cases h3 : Ord.zero a <;> cases h4 : Ord.zero b <;>
  rw [h1] at na <;> rw [h2] at nb <;> rw [h3] at za <;> rw [h4] at zb <;>
  simp only [Bool.false_eq_true, if_false, if_true] <;>
  (try split) <;> (try split) <;> simp at na nb za zb <;> omega
theorem canon_bits (x : Nat) (hx : x < 18446744073709551616) : Ord.canon x < 18446744073709551616 ∧
  ((Ord.canon x = 9221120237041090561) ∨ (Fmt.bexp (Ord.canon x) ≤ 2046) ∨ (Fmt.bexp (Ord.canon x) = 2047 ∧ Fmt.bman (Ord.canon x) = 0)) := by
 refine ⟨canon_lt x hx, ?_⟩
 have na := nan_iff x
 unfold Ord.canon Ord.nan0
 cases h1 : nan x
 ·rw [h1] at na
  have : ¬ 9218868437227405312 < x % 9223372036854775808 := fun h => by have := na.2 h; cases this
  simp only [Bool.false_eq_true, if_false]
  split
  ·right; left; decide
  ·right
   unfold Fmt.bexp Fmt.bman
   omega
 ·left; rfl
def Bare (t : List UInt8) : Prop := t ≠ [] ∧ (∀ c ∈ t, c ≠ 32) ∧ ∀ r, t ≠ 34 :: r
def Tail (s : List UInt8) : Prop := s = [] ∨ ∃ r, s = 32 :: r
theorem bare_apart : ∀ (t u s r : List UInt8), (∀ c ∈ t, c ≠ 32) → (∀ c ∈ u, c ≠ 32) → Tail s → Tail r → t ++ s = u ++ r → t = u ∧ s = r
 | [], [], _, _, _, _, _, _, h => ⟨rfl, h⟩
 | [], c :: u, s, r, _, hu, hs, _, h => by
  exfalso
  rcases hs with rfl | ⟨q, rfl⟩
  ·cases h
  ·exact hu c (List.mem_cons_self ..) (List.cons.inj h).1.symm
 | c :: t, [], s, r, ht, _, _, hr, h => by
  exfalso
  rcases hr with rfl | ⟨q, rfl⟩
  ·cases h
  ·exact ht c (List.mem_cons_self ..) (List.cons.inj h).1
 | c :: t, d :: u, s, r, ht, hu, hs, hr, h => by
  obtain ⟨h1, h2⟩ := List.cons.inj h
  obtain ⟨i1, i2⟩ := bare_apart t u s r (fun x hx => ht x (List.mem_cons_of_mem _ hx)) (fun x hx => hu x (List.mem_cons_of_mem _ hx)) hs hr h2
  exact ⟨by rw [h1, i1], i2⟩
theorem itoa_chr (n : Int) : ∀ c ∈ Lib.itoa n, Fmt.IsD c ∨ c = 45 := by
 intro c hc
 unfold Lib.itoa at hc
 split at hc
 ·rcases List.mem_cons.1 hc with rfl | hc
  ·exact .inr rfl
  ·exact .inl ((Fmt.decDigits_val _).2 c hc)
 ·exact .inl ((Fmt.decDigits_val _).2 c hc)
theorem dec_ne (u : Nat) : Lib.decDigits u ≠ [] := by
 intro h
 have := Lib.decDigits_length u
 rw [h] at this
 have := Lib.nDigits_pos u
 simp at *
 omega
theorem itoa_ne (n : Int) : Lib.itoa n ≠ [] := by
 unfold Lib.itoa
 split
 ·exact List.cons_ne_nil _ _
 ·exact dec_ne _
theorem itoa_inj (n m : Int) (h : Lib.itoa n = Lib.itoa m) : n = m := by
 have dv := fun u => (Fmt.decDigits_val u).1
 have nod : ∀ u v, 45 :: Lib.decDigits u ≠ Lib.decDigits v := fun u v e => by
  have := (Fmt.decDigits_val v).2 45 (by rw [← e]; exact List.mem_cons_self ..)
  unfold Fmt.IsD at this
  simp at this
 unfold Lib.itoa at h
 split at h <;> split at h
 ·have h2 := congrArg Fmt.dval (List.cons.inj h).2
  rw [dv, dv] at h2
  omega
 ·exact absurd h (nod _ _)
 ·exact absurd h.symm (nod _ _)
 ·have h2 := congrArg Fmt.dval h
  rw [dv, dv] at h2
  omega
theorem flt_ways (x : Nat) (hx : x < 18446744073709551616) :
  (Fmt.fltT (Ord.canon x) = [78, 97, 78] ∧ Ord.canon x = 9221120237041090561) ∨
  (Fmt.fltT (Ord.canon x) = [45, 73, 110, 102] ∧ Ord.canon x = 18442240474082181120) ∨ (Fmt.fltT (Ord.canon x) = [43, 73, 110, 102] ∧ Ord.canon x = 9218868437227405312) ∨
  (Fmt.bexp (Ord.canon x) ≤ 2046 ∧ ∃ X, Fmt.fltT (Ord.canon x) = Fmt.sgn (Fmt.bneg (Ord.canon x)) ++ X ∧ (∃ c r, X = c :: r ∧ Fmt.IsD c) ∧ ∀ c ∈ X, Fmt.IsN c) := by
 obtain ⟨hl, h⟩ := canon_bits x hx
 generalize Ord.canon x = b at *
 rcases h with rfl | h | ⟨h1, h2⟩
 ·left
  exact ⟨Fmt.fltT_nan _ (by decide) (by decide), rfl⟩
 ·right; right; right
  obtain ⟨X, hX⟩ := Fmt.body_fin b h
  exact ⟨h, X, hX.txt, hX.head, hX.chr⟩
 ·have ht := Fmt.fltT_inf b h1 h2
  cases hn : Fmt.bneg b
  ·right; right; left
   rw [hn] at ht
   refine ⟨ht, ?_⟩
   unfold Fmt.bneg at hn
   unfold Fmt.bexp at h1
   unfold Fmt.bman at h2
   simp at hn
   omega
  ·right; left
   rw [hn] at ht
   refine ⟨ht, ?_⟩
   unfold Fmt.bneg at hn
   unfold Fmt.bexp at h1
   unfold Fmt.bman at h2
   simp at hn
   omega
theorem isN_ne {c : UInt8} (h : Fmt.IsN c) (k : UInt8) (hk : k.toNat < 43 ∨ (57 < k.toNat ∧ k.toNat ≠ 101)) : c ≠ k := by
 rintro rfl
 rcases h with h | h | h | h | h
 ·unfold Fmt.IsD at h; omega
 all_goals (subst h; revert hk; decide)
theorem flt_bare (x : Nat) (hx : x < 18446744073709551616) : Bare (Fmt.fltT (Ord.canon x)) ∧ (∀ r, Fmt.fltT (Ord.canon x) ≠ 121 :: r) ∧ (∀ r, Fmt.fltT (Ord.canon x) ≠ 110 :: r) ∧ ∃ c ∈ Fmt.fltT (Ord.canon x), ¬ (Fmt.IsD c ∨ c = 45) := by
 have hmk : ∃ c ∈ Fmt.fltT (Ord.canon x), ¬ (Fmt.IsD c ∨ c = 45) := by
  have key : ∀ c : UInt8, c = 46 ∨ c = 101 ∨ c = 73 ∨ c = 78 → ¬ (Fmt.IsD c ∨ c = 45) := by
   intro c hc h
   rcases hc with rfl | rfl | rfl | rfl <;> rcases h with h | h <;> first | (unfold Fmt.IsD at h; simp at h) | (revert h; decide)
  unfold Fmt.fltT
  cases hm : Fmt.marked (Fmt.ftoaT (Ord.canon x))
  ·simp only [Bool.false_eq_true, if_false]
   exact ⟨46, by simp, key 46 (.inl rfl)⟩
  ·simp only [if_true]
   obtain ⟨c, hc, hk⟩ := (Fmt.marked_iff _).1 hm
   exact ⟨c, hc, key c hk⟩
 rcases flt_ways x hx with ⟨h, _⟩ | ⟨h, _⟩ | ⟨h, _⟩ | ⟨_, X, h, ⟨c, r, hX, hc⟩, hN⟩
 ·refine ⟨⟨?_, ?_, ?_⟩, ?_, ?_, hmk⟩ <;> rw [h]
  ·exact List.cons_ne_nil _ _
  ·intro c hc; simp only [List.mem_cons, List.not_mem_nil, or_false] at hc; rcases hc with rfl | rfl | rfl <;> decide
  all_goals (intro r e; have := (List.cons.inj e).1; revert this; decide)
 ·refine ⟨⟨?_, ?_, ?_⟩, ?_, ?_, hmk⟩ <;> rw [h]
  ·exact List.cons_ne_nil _ _
  ·intro c hc; simp only [List.mem_cons, List.not_mem_nil, or_false] at hc; rcases hc with rfl | rfl | rfl | rfl <;> decide
  all_goals (intro r e; have := (List.cons.inj e).1; revert this; decide)
 ·refine ⟨⟨?_, ?_, ?_⟩, ?_, ?_, hmk⟩ <;> rw [h]
  ·exact List.cons_ne_nil _ _
  ·intro c hc; simp only [List.mem_cons, List.not_mem_nil, or_false] at hc; rcases hc with rfl | rfl | rfl | rfl <;> decide
  all_goals (intro r e; have := (List.cons.inj e).1; revert this; decide)
 ·have hd : ∀ k : UInt8, k.toNat < 48 ∨ 57 < k.toNat → c ≠ k := fun k hk => Fmt.isD_ne hc k hk
  have hs : ∀ c ∈ Fmt.sgn (Fmt.bneg (Ord.canon x)), c = 45 := by
   intro c hc
   unfold Fmt.sgn at hc
   split at hc
   ·exact List.mem_singleton.1 hc
   ·cases hc
  have first : ∀ k : UInt8, k ≠ 45 → (k.toNat < 48 ∨ 57 < k.toNat) → ∀ r, Fmt.fltT (Ord.canon x) ≠ k :: r := by
   intro k h45 hk r e
   rw [h, hX] at e
   unfold Fmt.sgn at e
   split at e
   ·exact h45 (List.cons.inj e).1.symm
   ·exact hd k hk (List.cons.inj e).1
  refine ⟨⟨?_, ?_, first 34 (by decide) (by decide)⟩, first 121 (by decide) (by decide), first 110 (by decide) (by decide), hmk⟩
  ·rw [h, hX]
   unfold Fmt.sgn
   split <;> exact List.cons_ne_nil _ _
  ·intro d hd2
   rw [h] at hd2
   rcases List.mem_append.1 hd2 with hd2 | hd2
   ·rw [hs d hd2]; decide
   ·exact isN_ne (hN d hd2) 32 (by decide)
theorem flt_inj (x y : Nat) (hx : x < 18446744073709551616) (hy : y < 18446744073709551616) (h : Fmt.fltT (Ord.canon x) = Fmt.fltT (Ord.canon y)) : Ord.canon x = Ord.canon y := by
 have hd : ∀ {c : UInt8}, Fmt.IsD c → ∀ k : UInt8, k.toNat < 48 ∨ 57 < k.toNat → c ≠ k := fun hc k hk => Fmt.isD_ne hc k hk
 have fin : ∀ (b : Nat) (X : List UInt8) (c : UInt8) (r : List UInt8), X = c :: r → Fmt.IsD c → ∀ t, Fmt.fltT b = Fmt.sgn (Fmt.bneg b) ++ X → Fmt.fltT b = t → t ≠ [78, 97, 78] ∧ t ≠ [45, 73, 110, 102] ∧ t ≠ [43, 73, 110, 102] := by
  intro b X c r hX hc t ht e
  rw [ht, hX] at e
  unfold Fmt.sgn at e
  refine ⟨?_, ?_, ?_⟩ <;> rintro rfl <;> split at e
  ·exact absurd (List.cons.inj e).1 (by decide)
  ·exact hd hc 78 (by decide) (List.cons.inj e).1
  ·exact hd hc 73 (by decide) (List.cons.inj (List.cons.inj e).2).1
  ·exact hd hc 45 (by decide) (List.cons.inj e).1
  ·exact absurd (List.cons.inj e).1 (by decide)
  ·exact hd hc 43 (by decide) (List.cons.inj e).1
 rcases flt_ways x hx with ⟨h1, e1⟩ | ⟨h1, e1⟩ | ⟨h1, e1⟩ | ⟨f1, X, h1, ⟨c, r, hX, hc⟩, _⟩ <;>
  rcases flt_ways y hy with ⟨h2, e2⟩ | ⟨h2, e2⟩ | ⟨h2, e2⟩ | ⟨f2, Y, h2, ⟨d, q, hY, hd2⟩, _⟩
 ·rw [e1, e2]
 ·rw [h1, h2] at h; exact absurd h (by decide)
 ·rw [h1, h2] at h; exact absurd h (by decide)
 ·exact absurd h1 (fin _ Y d q hY hd2 _ h2 h.symm).1
 ·rw [h1, h2] at h; exact absurd h (by decide)
 ·rw [e1, e2]
 ·rw [h1, h2] at h; exact absurd h (by decide)
 ·exact absurd h1 (fin _ Y d q hY hd2 _ h2 h.symm).2.1
 ·rw [h1, h2] at h; exact absurd h (by decide)
 ·rw [h1, h2] at h; exact absurd h (by decide)
 ·rw [e1, e2]
 ·exact absurd h1 (fin _ Y d q hY hd2 _ h2 h.symm).2.2
 ·exact absurd h2 (fin _ X c r hX hc _ h1 h).1
 ·exact absurd h2 (fin _ X c r hX hc _ h1 h).2.1
 ·exact absurd h2 (fin _ X c r hX hc _ h1 h).2.2
 ·exact Fmt.fltT_fin _ _ (canon_lt x hx) (canon_lt y hy) f1 f2 h
def VOk (v : V) : Prop := 0 ≤ v.kind ∧ v.kind ≤ 3 ∧ v.num < 18446744073709551616
theorem vT_ways (v : V) (h : VOk v) : (v.kind = 0 ∧ vT v = Lib.itoa v.int) ∨ (v.kind = 1 ∧ vT v = Fmt.fltT (Ord.canon v.num)) ∨ (v.kind = 2 ∧ vT v = Quo.quoteT Lib.goPrintTabs v.text) ∨ (v.kind = 3 ∧ vT v = if v.yes then yesT else noT) := by
 obtain ⟨k, n, x, t, y⟩ := v
 obtain ⟨h0, h3, _⟩ := h
 simp only at h0 h3
 rcases (show k = 0 ∨ k = 1 ∨ k = 2 ∨ k = 3 by omega) with rfl | rfl | rfl | rfl
 ·exact .inl ⟨rfl, rfl⟩
 ·exact .inr (.inl ⟨rfl, rfl⟩)
 ·exact .inr (.inr (.inl ⟨rfl, rfl⟩))
 ·exact .inr (.inr (.inr ⟨rfl, rfl⟩))
theorem itoa_bare (n : Int) : Bare (Lib.itoa n) ∧ (∀ r, Lib.itoa n ≠ 121 :: r) ∧ (∀ r, Lib.itoa n ≠ 110 :: r) := by
 have key : ∀ k : UInt8, k ≠ 45 → (k.toNat < 48 ∨ 57 < k.toNat) → ∀ c ∈ Lib.itoa n, c ≠ k := fun k h45 hk c hc => by
  rcases itoa_chr n c hc with h | h
  ·exact Fmt.isD_ne h k hk
  ·rw [h]; exact fun e => h45 e.symm
 have first : ∀ k : UInt8, k ≠ 45 → (k.toNat < 48 ∨ 57 < k.toNat) → ∀ r, Lib.itoa n ≠ k :: r := fun k h45 hk r e => key k h45 hk k (by rw [e]; exact List.mem_cons_self ..) rfl
 exact ⟨⟨itoa_ne n, key 32 (by decide) (by decide), first 34 (by decide) (by decide)⟩, first 121 (by decide) (by decide), first 110 (by decide) (by decide)⟩
theorem bool_bare (y : Bool) : Bare (if y then yesT else noT) ∧ ∃ c r, (if y then yesT else noT) = c :: r ∧ (c = 121 ∨ c = 110) := by
 cases y
 ·refine ⟨⟨by decide, by decide, ?_⟩, 110, _, rfl, .inr rfl⟩
  intro r e; have := (List.cons.inj e).1; revert this; decide
 ·refine ⟨⟨by decide, by decide, ?_⟩, 121, _, rfl, .inl rfl⟩
  intro r e; have := (List.cons.inj e).1; revert this; decide
theorem vT_apart (v u : V) (hv : VOk v) (hu : VOk u) (s r : List UInt8) (hs : Tail s) (hr : Tail r) (h : vT v ++ s = vT u ++ r) : sameB v u = true ∧ s = r := by
 have bb : ∀ t w : List UInt8, Bare t → Bare w → t ++ s = w ++ r → t = w ∧ s = r := fun t w ht hw e => bare_apart t w s r ht.2.1 hw.2.1 hs hr e
 have quo : ∀ (l : List UInt8) (w : List UInt8) (s r : List UInt8), Bare w → Quo.quoteT Lib.goPrintTabs l ++ s = w ++ r → False := by
  intro l w s r hw e
  obtain ⟨q, hq⟩ := Quo.quoteT_head Lib.goPrintTabs l
  cases w with
  | nil => exact hw.1 rfl
  | cons c w =>
   rw [hq] at e
   exact hw.2.2 w (by rw [(List.cons.inj e).1])
 rcases vT_ways v hv with ⟨k1, e1⟩ | ⟨k1, e1⟩ | ⟨k1, e1⟩ | ⟨k1, e1⟩ <;> rcases vT_ways u hu with ⟨k2, e2⟩ | ⟨k2, e2⟩ | ⟨k2, e2⟩ | ⟨k2, e2⟩ <;> rw [e1, e2] at h
 ·obtain ⟨h1, h2⟩ := bb _ _ (itoa_bare _).1 (itoa_bare _).1 h
  refine ⟨?_, h2⟩
  have := itoa_inj _ _ h1
  unfold sameB; rw [k1, k2, this]; simp
 ·exfalso
  obtain ⟨h1, _⟩ := bb _ _ (itoa_bare _).1 (flt_bare _ hu.2.2).1 h
  obtain ⟨c, hc, hn⟩ := (flt_bare _ hu.2.2).2.2.2
  exact hn (itoa_chr _ c (by rw [h1]; exact hc))
 ·exact absurd h.symm (fun e => quo _ _ _ _ (itoa_bare _).1 e)
 ·exfalso
  obtain ⟨h1, _⟩ := bb _ _ (itoa_bare _).1 (bool_bare _).1 h
  obtain ⟨c, q, e, hc⟩ := (bool_bare u.yes).2
  rw [e] at h1
  rcases hc with rfl | rfl
  ·exact (itoa_bare _).2.1 _ h1
  ·exact (itoa_bare _).2.2 _ h1
 ·exfalso
  obtain ⟨h1, _⟩ := bb _ _ (flt_bare _ hv.2.2).1 (itoa_bare _).1 h
  obtain ⟨c, hc, hn⟩ := (flt_bare _ hv.2.2).2.2.2
  exact hn (itoa_chr _ c (by rw [← h1]; exact hc))
 ·obtain ⟨h1, h2⟩ := bb _ _ (flt_bare _ hv.2.2).1 (flt_bare _ hu.2.2).1 h
  refine ⟨?_, h2⟩
  have := (key_canon _ _ hv.2.2 hu.2.2).2 (flt_inj _ _ hv.2.2 hu.2.2 h1)
  unfold sameB Ord.same; rw [k1, k2, this]; simp
 ·exact absurd h.symm (fun e => quo _ _ _ _ (flt_bare _ hv.2.2).1 e)
 ·exfalso
  obtain ⟨h1, _⟩ := bb _ _ (flt_bare _ hv.2.2).1 (bool_bare _).1 h
  obtain ⟨c, q, e, hc⟩ := (bool_bare u.yes).2
  rw [e] at h1
  rcases hc with rfl | rfl
  ·exact (flt_bare _ hv.2.2).2.1 _ h1
  ·exact (flt_bare _ hv.2.2).2.2.1 _ h1
 ·exact absurd h (fun e => quo _ _ _ _ (itoa_bare _).1 e)
 ·exact absurd h (fun e => quo _ _ _ _ (flt_bare _ hu.2.2).1 e)
 ·obtain ⟨h1, h2⟩ := Quo.quoteT_apart _ _ _ _ _ h
  refine ⟨?_, h2⟩
  unfold sameB; rw [k1, k2, h1]; simp
 ·exact absurd h (fun e => quo _ _ _ _ (bool_bare _).1 e)
 ·exfalso
  obtain ⟨h1, _⟩ := bb _ _ (bool_bare _).1 (itoa_bare _).1 h
  obtain ⟨c, q, e, hc⟩ := (bool_bare v.yes).2
  rw [e] at h1
  rcases hc with rfl | rfl
  ·exact (itoa_bare _).2.1 _ h1.symm
  ·exact (itoa_bare _).2.2 _ h1.symm
 ·exfalso
  obtain ⟨h1, _⟩ := bb _ _ (bool_bare _).1 (flt_bare _ hu.2.2).1 h
  obtain ⟨c, q, e, hc⟩ := (bool_bare v.yes).2
  rw [e] at h1
  rcases hc with rfl | rfl
  ·exact (flt_bare _ hu.2.2).2.1 _ h1.symm
  ·exact (flt_bare _ hu.2.2).2.2.1 _ h1.symm
 ·exact absurd h.symm (fun e => quo _ _ _ _ (bool_bare _).1 e)
 ·obtain ⟨h1, h2⟩ := bb _ _ (bool_bare _).1 (bool_bare _).1 h
  refine ⟨?_, h2⟩
  have : v.yes = u.yes := by
   cases hv2 : v.yes <;> cases hu2 : u.yes <;> rw [hv2, hu2] at h1 <;> first | rfl | (revert h1; decide)
  unfold sameB; rw [k1, k2, this]; simp
end Go.Proofs.YtnccpddjdgndcaaGreatDoor.Val
end

section
/- value.Read AT THE TEXT OF ANY VALUE IN ITS OWN FORM. -/
namespace Go.Proofs.YtnccpddjdgndcaaGreatDoor.Val
open Go.RowKit Flt
theorem canon2_two (x : Nat) : Ord.canon (Ord.canon x) = Ord.canon x := by
 unfold Ord.canon
 cases h : nan x
 ·cases h2 : Ord.zero x
  ·simp only [h, h2, Bool.false_eq_true, if_false]
  ·simp only [Bool.false_eq_true, if_false, if_true]
   rw [if_neg (by decide), if_pos (by decide)]
 ·simp only [if_true]
  rw [if_pos (by decide)]
def back (c : V) : Value := .tuple #[if vRight c then vv c else val 0 0 0 [] false, .bool (vRight c)]
theorem read_back (v : V) (hx : v.num < 18446744073709551616) (hn : -9223372036854775808 ≤ v.int ∧ v.int ≤ 9223372036854775807) (ht : v.text.length ≤ 800) (w : World) (hT : Tab.Tabs w) (hE : Unq.ErrS w) (hP : Pf.PfW w) :
  Calls Tryz.prog 10 #[.string ⟨(vT (canonV v)).toArray⟩] w fun e w' => e = .returned (back (canonV v)) ∧ Below w.heap.size w w' := by
 obtain ⟨k, n, x, t, y⟩ := v
 dsimp only at hx hn ht
 rcases kind_ways k with h | ⟨h0, h⟩ | ⟨h0, h1, h⟩ | ⟨h0, h1, h2, h⟩ | ⟨h0, h1, h2, h3⟩
 ·have e : canonV ⟨k, n, x, t, y⟩ = ⟨0, n, 0, [], false⟩ := by simp only [canonV, h, if_true]
  rw [e]
  exact read_int n hn.1 hn.2 w hT
 ·have e : canonV ⟨k, n, x, t, y⟩ = ⟨1, 0, Ord.canon x, [], false⟩ := by simp only [canonV, h0, h, if_true, Bool.false_eq_true, if_false]
  rw [e]
  have e2 : vT ⟨1, 0, Ord.canon x, [], false⟩ = Fmt.fltT (Ord.canon x) := by
   show Fmt.fltT (Ord.canon (Ord.canon x)) = _
   rw [canon2_two]
  rw [e2]
  exact read_num (Ord.canon x) (canon_bits x hx).1 (canon2_two x) w hT hP
 ·have e : canonV ⟨k, n, x, t, y⟩ = ⟨2, 0, 0, t, false⟩ := by simp only [canonV, h0, h1, h, if_true, Bool.false_eq_true, if_false]
  rw [e]
  by_cases hl : t.length ≤ 40
  ·have hr : vRight ⟨2, 0, 0, t, false⟩ = true := by
    show (true && true && decide (t.length ≤ 40)) = _
    simp; omega
   have := read_text t w hl hT hE
   unfold back
   rw [hr]
   exact this
  ·have hr : vRight ⟨2, 0, 0, t, false⟩ = false := by
    show (true && true && decide (t.length ≤ 40)) = _
    simp; omega
   have := read_text_no t w ht (by omega) hT hE
   unfold back
   rw [hr]
   exact this
 ·have e : canonV ⟨k, n, x, t, y⟩ = ⟨3, 0, 0, [], y⟩ := by simp only [canonV, h0, h1, h2, h, if_true, Bool.false_eq_true, if_false]
  rw [e]
  exact read_bool y w hT
 ·have e : canonV ⟨k, n, x, t, y⟩ = ⟨0, 0, 0, [], false⟩ := by simp only [canonV, h0, h1, h2, h3, Bool.false_eq_true, if_false]
  rw [e]
  exact read_int 0 (by decide) (by decide) w hT
end Go.Proofs.YtnccpddjdgndcaaGreatDoor.Val
end

section
/- THE WALK OF value.Read AT ANY TEXT. -/
namespace Go.Proofs.YtnccpddjdgndcaaGreatDoor.Val
open Go.RowKit Flt
attribute [local go_sem] run_store_flt
def RdA (s : ByteArray) (e : Ending) : Prop := e = .returned (.tuple #[val 0 0 0 [] false, .bool false]) ∨ ∃ v : V, e = .returned (.tuple #[vv v, .bool true]) ∧ vRight v = true ∧ (⟨(vT v).toArray⟩ : ByteArray) = s ∧ canonV v = v ∧ v.num < 18446744073709551616 ∧ -9223372036854775808 ≤ v.int ∧ v.int ≤ 9223372036854775807
theorem zi : (-9223372036854775808 : Int) ≤ 0 ∧ (0 : Int) ≤ 9223372036854775807 := by decide
theorem zn : (0 : Nat) < 18446744073709551616 := by decide
theorem ba_eq {P s : ByteArray} (h : (!P.toList == s.toList) = false) : P = s := by
 have h1 : P.toList = s.toList := by simpa using h
 rw [Lib.toList_data, Lib.toList_data] at h1
 exact ByteArray.ext (Array.toList_inj.1 h1)
set_option maxRecDepth 20000 in
set_option maxHeartbeats 4000000 in

theorem read_rest (s : ByteArray) (hs : s.size ≤ 9000) (w : World) (n1 : ¬ s.toList = [121, 101, 115]) (n2 : (s.toList == [110, 111]) = false) (h3 : s.toList.isEmpty = true ∨ (s.toList.isEmpty = false ∧ ∃ h : 0 < s.size, ((((s[0]'h).toNat : Nat) : Int) == 34) = false)) (hT : Tab.Tabs w) (B R o c : Nat) (hA : Pf.AW w B R o c) (hE : Pf.EvT w) :
  Calls Tryz.prog 10 #[.string s] w fun e w' => RdA s e ∧ Below w.heap.size w w' := by
 have hcan := fun W => Ira.cany_any s (by omega) W
 have HT := Lib.hid hT; have HA := Lib.hid hA; have HE := Lib.hid hE; have HC := Lib.hid hcan
 clear hT hA hE hcan
 rcases h3 with e1 | ⟨e1, e2, e3⟩
 all_goals
  go_enter Tryz.func10, Tryz.ntmps10
  go_wp2_with (first
   | (go_at_call 30; refine (HC.out _).mono ?_; rintro e w1 ⟨⟨mk, rfl⟩, hb1⟩; have HB1 := Lib.hid hb1; obtain ⟨c0, c1, f0, f1, hz1, hl1⟩ := two_box hb1; clear hb1) | fail)
  ·go_upto_region 15 with (first
    | (go_at_call 31; refine (Pf.parse_any s (by omega) _ B R o c (HA.out.below hl1) (HE.out.below hl1)).mono ?_; rintro e w2 ⟨⟨y, v, rfl, hy, hv⟩, hb2⟩; have HB2 := Lib.hid (btrans HB1.out hb2); clear c0 c1 f0 f1 hz1 hl1 hb2; obtain ⟨c0, c1, f0, f1, hz1, hl1⟩ := two_box HB2.out) | fail)
   rcases hv with rfl | ⟨te, pe, rfl⟩
   ·have hcan := fun W => Ord.canon_any y W
    have hx := (canon_bits y hy).1
    have hcx := canon2_two y
    generalize Ord.canon y = x at *
    have hpr := fun W hW => vprint_any 1 0 x [] false W hx (by decide) (by decide) (by decide) hW
    have hri := fun W => vright_any 1 0 x [] false W (by decide)
    rw [show vRight ⟨1, 0, x, [], false⟩ = true from rfl] at hri
    obtain ⟨P, hP⟩ : ∃ P : ByteArray, (⟨(vT ⟨1, 0, x, [], false⟩).toArray⟩ : ByteArray) = P := ⟨_, rfl⟩
    rw [hP] at hpr
    have HCA := Lib.hid hcan; have HCX := Lib.hid hcx; have HPR := Lib.hid hpr; have HR := Lib.hid hri; have HPP := Lib.hid hP
    clear hcan hpr hri hP hcx
    go_wp2_with (first | (go_at_call 32; refine (HCA.out _).mono ?_; rintro e w' ⟨rfl, rfl⟩) | fail)
    obtain ⟨W2, hW2, d0, ⟨e0, e1, e2, e3, e4⟩, g0, hz2, hl2⟩ := two_set HB2.out rfl (.int .i64 1) (.int .i64 0) (.float .f64 x) (.string ⟨#[]⟩) (.bool false)
    rw [← hW2]
    clear c0 c1 f0 f1 hz1 hl1 HB1 HB2 hW2
    have HB := Lib.hid hl2; clear hl2
    go_wp2_with (first
     | (go_at_call 12; refine (HR.out _).mono ?_; rintro e w3 ⟨rfl, hb3⟩; obtain ⟨hc3, hf3⟩ := bcell hb3; have hs3 := Nat.lt_of_lt_of_le hz2 hb3.size; have hs3' : w.heap.size < W2.heap.size := by omega)
     | (go_at_call 13; refine (HPR.out _ (HT.out.below (btrans HB.out hb3) (Nat.le_refl _))).mono ?_; rintro e w4 ⟨rfl, hb4⟩; obtain ⟨hc4, hf4⟩ := bcell hb4; have hs4' : w.heap.size < w3.heap.size := by omega) | fail)
    ·obtain ⟨r0, r1, r2, r3, r4, hb5⟩ := set5_at w4 w.heap.size (.int .i64 0) (.int .i64 0) (.float .f64 0) (.string ⟨#[]⟩) (.bool false) (fun j hj => by
      rw [hc4 _ _ (by omega), hc3 _ _ (by omega), d0, Array.getElem?_eq_getElem (by exact hj)]; rfl)
     generalize World.setCell _ _ _ = W5 at *
     refine bodyPost_ret (v := .tuple #[val 0 0 0 [] false, .bool false]) (by simp [results, Tryz.results10, go_sem, r0, r1, r2, r3, r4]; try rfl) rfl ?_
     exact ⟨.inl rfl, (btrans (btrans HB.out hb3) hb4).trans hb5⟩
    ·have heq := ba_eq ‹(!P.toList == s.toList) = false›
     obtain ⟨r0, r1, r2, r3, r4, hb5⟩ := set5_at w4 w.heap.size (.int .i64 1) (.int .i64 0) (.float .f64 x) (.string ⟨#[]⟩) (.bool false) (fun j hj => by
      rw [hc4 _ _ (by omega), hc3 _ _ (by omega), d0, Array.getElem?_eq_getElem (by exact hj)]; rfl)
     generalize World.setCell _ _ _ = W5 at *
     refine bodyPost_ret (v := .tuple #[val 1 0 x [] false, .bool true]) (by simp [results, Tryz.results10, go_sem, r0, r1, r2, r3, r4]; try rfl) rfl ?_
     exact ⟨.inr ⟨⟨1, 0, x, [], false⟩, rfl, rfl, HPP.out.trans heq, by show V.mk 1 0 (Ord.canon x) [] false = _; rw [HCX.out], hx, zi.1, zi.2⟩, (btrans (btrans HB.out hb3) hb4).trans hb5⟩
   ·obtain ⟨r0, r1, r2, r3, r4, hb5⟩ := set5_at w2 w.heap.size (.int .i64 0) (.int .i64 0) (.float .f64 0) (.string ⟨#[]⟩) (.bool false) (fun j hj => by
     rw [c0, Array.getElem?_eq_getElem (by exact hj)]; rfl)
    go_wp2_with fail
    generalize World.setCell _ _ _ = W5 at *
    refine bodyPost_ret (v := .tuple #[val 0 0 0 [] false, .bool false]) (by simp [results, Tryz.results10, go_sem, r0, r1, r2, r3, r4]; try rfl) rfl ?_
    exact ⟨.inl rfl, hl1.trans hb5⟩
  ·go_upto_region 3 with (first
    | (go_at_call 33; refine (Pf.pint_any s (by omega) _ (HE.out.below hl1)).mono ?_; rintro e w2 ⟨⟨x, v, rfl, hy0, hy1, hv⟩, hb2⟩; have HB2 := Lib.hid (btrans HB1.out hb2); clear c0 c1 f0 f1 hz1 hl1 hb2; obtain ⟨c0, c1, f0, f1, hz1, hl1⟩ := two_box HB2.out) | fail)
   rcases hv with rfl | ⟨te, pe, rfl⟩
   ·have hpr := fun W hW => vprint_any 0 x 0 [] false W (by decide) hy0 hy1 (by decide) hW
    have hri := fun W => vright_any 0 x 0 [] false W (by decide)
    rw [show vRight ⟨0, x, 0, [], false⟩ = true from rfl] at hri
    obtain ⟨P, hP⟩ : ∃ P : ByteArray, (⟨(vT ⟨0, x, 0, [], false⟩).toArray⟩ : ByteArray) = P := ⟨_, rfl⟩
    rw [hP] at hpr
    have HPR := Lib.hid hpr; have HR := Lib.hid hri; have HPP := Lib.hid hP
    clear hpr hri hP
    go_wp2_with fail
    obtain ⟨W2, hW2, d0, ⟨e0, e1, e2, e3, e4⟩, g0, hz2, hl2⟩ := two_set HB2.out rfl (.int .i64 0) (.int .i64 x) (.float .f64 0) (.string ⟨#[]⟩) (.bool false)
    rw [← hW2]
    clear c0 c1 f0 f1 hz1 hl1 HB1 HB2 hW2
    have HB := Lib.hid hl2; clear hl2
    go_wp2_with (first
     | (go_at_call 12; refine (HR.out _).mono ?_; rintro e w3 ⟨rfl, hb3⟩; obtain ⟨hc3, hf3⟩ := bcell hb3; have hs3 := Nat.lt_of_lt_of_le hz2 hb3.size; have hs3' : w.heap.size < W2.heap.size := by omega)
     | (go_at_call 13; refine (HPR.out _ (HT.out.below (btrans HB.out hb3) (Nat.le_refl _))).mono ?_; rintro e w4 ⟨rfl, hb4⟩; obtain ⟨hc4, hf4⟩ := bcell hb4; have hs4' : w.heap.size < w3.heap.size := by omega) | fail)
    ·obtain ⟨r0, r1, r2, r3, r4, hb5⟩ := set5_at w4 w.heap.size (.int .i64 0) (.int .i64 0) (.float .f64 0) (.string ⟨#[]⟩) (.bool false) (fun j hj => by
      rw [hc4 _ _ (by omega), hc3 _ _ (by omega), d0, Array.getElem?_eq_getElem (by exact hj)]; rfl)
     generalize World.setCell _ _ _ = W5 at *
     refine bodyPost_ret (v := .tuple #[val 0 0 0 [] false, .bool false]) (by simp [results, Tryz.results10, go_sem, r0, r1, r2, r3, r4]; try rfl) rfl ?_
     exact ⟨.inl rfl, (btrans (btrans HB.out hb3) hb4).trans hb5⟩
    ·have heq := ba_eq ‹(!P.toList == s.toList) = false›
     obtain ⟨r0, r1, r2, r3, r4, hb5⟩ := set5_at w4 w.heap.size (.int .i64 0) (.int .i64 x) (.float .f64 0) (.string ⟨#[]⟩) (.bool false) (fun j hj => by
      rw [hc4 _ _ (by omega), hc3 _ _ (by omega), d0, Array.getElem?_eq_getElem (by exact hj)]; rfl)
     generalize World.setCell _ _ _ = W5 at *
     refine bodyPost_ret (v := .tuple #[val 0 x 0 [] false, .bool true]) (by simp [results, Tryz.results10, go_sem, r0, r1, r2, r3, r4]; try rfl) rfl ?_
     exact ⟨.inr ⟨⟨0, x, 0, [], false⟩, rfl, rfl, HPP.out.trans heq, rfl, zn, hy0, hy1⟩, (btrans (btrans HB.out hb3) hb4).trans hb5⟩
   ·obtain ⟨r0, r1, r2, r3, r4, hb5⟩ := set5_at w2 w.heap.size (.int .i64 0) (.int .i64 0) (.float .f64 0) (.string ⟨#[]⟩) (.bool false) (fun j hj => by
     rw [c0, Array.getElem?_eq_getElem (by exact hj)]; rfl)
    go_wp2_with fail
    generalize World.setCell _ _ _ = W5 at *
    refine bodyPost_ret (v := .tuple #[val 0 0 0 [] false, .bool false]) (by simp [results, Tryz.results10, go_sem, r0, r1, r2, r3, r4]; try rfl) rfl ?_
    exact ⟨.inl rfl, hl1.trans hb5⟩
end Go.Proofs.YtnccpddjdgndcaaGreatDoor.Val
end

section
/- THE WALK OF value.Read AT A TEXT THAT A QUOTE BEGINS. -/
namespace Go.Proofs.YtnccpddjdgndcaaGreatDoor.Val
open Go.RowKit Flt
attribute [local go_sem] run_store_flt
theorem ba_eq2 {P : ByteArray} {l : List UInt8} (h : (!P.toList == l) = false) : P = ⟨l.toArray⟩ := by
 have h1 : P.toList = l := by simpa using h
 rw [Lib.toList_data] at h1
 exact ByteArray.ext (Array.toList_inj.1 (by rw [h1]))
theorem uqGo_len : ∀ (f : Nat) (l out o t : List UInt8), Unq.uqGo f l out = some (o, t) → o.length ≤ out.length + 4 * f
 | 0, l, out, o, t, h => by rw [Unq.uqGo] at h; exact absurd h (by simp)
 | f + 1, [], out, o, t, h => by rw [Unq.uqGo] at h; exact absurd h (by simp)
 | f + 1, c :: r, out, o, t, h => by
  rw [Unq.uqGo] at h
  ·split at h
   ·cases h; omega
   ·split at h
    ·exact absurd h (by simp)
    ·split at h
     ·exact absurd h (by simp)
     ·rename_i v mb t2 _
      have h1 := uqGo_len f _ _ o t h
      rw [List.length_append] at h1
      have := Unq.app_len v mb
      omega
theorem unqP_len (r a : List UInt8) (h : Unq.unqP r = some a) : a.length ≤ 4 * (r.length + 1) := by
 unfold Unq.unqP at h
 split at h
 ·exact absurd h (by simp)
 ·simp only at h
  split at h
  ·split at h
   ·cases h; rw [List.length_take]; omega
   ·exact absurd h (by simp)
  ·split at h
   ·rename_i o hq
    cases h
    have := uqGo_len _ _ _ _ _ hq
    simp at this; omega
   ·exact absurd h (by simp)
set_option maxRecDepth 20000 in
set_option maxHeartbeats 4000000 in
theorem read_quot (r : List UInt8) (hs : r.length ≤ 8000) (w : World) (hT : Tab.Tabs w) (hE : Unq.ErrS w) :
  Calls Tryz.prog 10 #[.string ⟨(34 :: r).toArray⟩] w fun e w' => RdA ⟨(34 :: r).toArray⟩ e ∧ Below w.heap.size w w' := by
 have hu := fun W hE hT => Unq.Unquote_any r (by omega) W hE hT
 have hc := fun w1 (h : Below w.heap.size w w1) => Unq.err_below hE h
 obtain ⟨s, hss⟩ : ∃ s : ByteArray, (⟨(34 :: r).toArray⟩ : ByteArray) = s := ⟨_, rfl⟩
 have hlen := unqP_len r
 cases hq : Unq.unqP r with
 | none =>
  rw [hq] at hu
  have HU := Lib.hid hu; have HT := Lib.hid hT; have HC := Lib.hid hc
  clear hu hT hE hc hlen hss
  go_enter Tryz.func10, Tryz.ntmps10
  go_wp2_with (first
   | (go_at_call 29; refine (HU.out _ (HC.out _ (by repeat (first | assumption | (with_reducible exact Below.refl _ _) | exact balloc _ _ | exact balloc2 _ _ _ | refine btrans ?_ (by assumption) | refine btrans ?_ (balloc _ _)))) (HT.out.below (by repeat (first | assumption | (with_reducible exact Below.refl _ _) | exact balloc _ _ | exact balloc2 _ _ _ | refine btrans ?_ (by assumption) | refine btrans ?_ (balloc _ _))) (Nat.le_refl _))).mono ?_; rintro e w1 ⟨⟨te, pe, rfl⟩, hb1⟩; have HB1 := Lib.hid hb1; obtain ⟨c0, c1, f0, f1, hz1, hl1⟩ := two_box hb1; clear hb1) | fail)
  obtain ⟨r0, r1, r2, r3, r4, hb5⟩ := set5_at w1 w.heap.size (.int .i64 0) (.int .i64 0) (.float .f64 0) (.string ⟨#[]⟩) (.bool false) (fun j hj => by
   rw [c0, Array.getElem?_eq_getElem (by exact hj)]; rfl)
  generalize World.setCell _ _ _ = W5 at *
  refine bodyPost_ret (v := .tuple #[val 0 0 0 [] false, .bool false]) (by simp [results, Tryz.results10, go_sem, r0, r1, r2, r3, r4]; try rfl) rfl ?_
  exact ⟨.inl rfl, hl1.trans hb5⟩
 | some a =>
  have hal := hlen a hq
  rw [hq] at hu
  have hp := fun W hW => vprint_any 2 0 0 a false W (by decide) (by decide) (by decide) (by omega) hW
  have hr := fun W => vright_any 2 0 0 a false W (by omega)
  obtain ⟨P, hP⟩ : ∃ P : ByteArray, (⟨(vT ⟨2, 0, 0, a, false⟩).toArray⟩ : ByteArray) = P := ⟨_, rfl⟩
  rw [hP] at hp
  obtain ⟨R, hR⟩ : ∃ R : Bool, vRight ⟨2, 0, 0, a, false⟩ = R := ⟨_, rfl⟩
  rw [hR] at hr
  have HU := Lib.hid hu; have HT := Lib.hid hT; have HC := Lib.hid hc; have HPR := Lib.hid hp; have HR := Lib.hid hr; have HPP := Lib.hid hP; have HRR := Lib.hid hR
  clear hu hT hE hc hlen hss hp hr hP hR
  go_enter Tryz.func10, Tryz.ntmps10
  go_wp2_with (first
   | (go_at_call 29; refine (HU.out _ (HC.out _ (by repeat (first | assumption | (with_reducible exact Below.refl _ _) | exact balloc _ _ | exact balloc2 _ _ _ | refine btrans ?_ (by assumption) | refine btrans ?_ (balloc _ _)))) (HT.out.below (by repeat (first | assumption | (with_reducible exact Below.refl _ _) | exact balloc _ _ | exact balloc2 _ _ _ | refine btrans ?_ (by assumption) | refine btrans ?_ (balloc _ _))) (Nat.le_refl _))).mono ?_; rintro e w1 ⟨rfl, hb1⟩; have HB1 := Lib.hid hb1; obtain ⟨c0, c1, f0, f1, hz1, hl1⟩ := two_box hb1; clear hb1) | fail)
  obtain ⟨W2, hW2, d0, ⟨e0, e1, e2, e3, e4⟩, g0, hz2, hl2⟩ := two_set HB1.out rfl (.int .i64 2) (.int .i64 0) (.float .f64 0) (.string ⟨a.toArray⟩) (.bool false)
  rw [← hW2]
  clear c0 c1 f0 f1 hz1 hl1 HB1 hW2
  have HB := Lib.hid hl2; clear hl2
  go_wp2_with (first
   | (go_at_call 12; refine (HR.out _).mono ?_; rintro e w3 ⟨rfl, hb3⟩; obtain ⟨hc3, hf3⟩ := bcell hb3; have hs3 := Nat.lt_of_lt_of_le hz2 hb3.size; have hs3' : w.heap.size < W2.heap.size := by omega)
   | (go_at_call 13; refine (HPR.out _ (HT.out.below (btrans HB.out hb3) (Nat.le_refl _))).mono ?_; rintro e w4 ⟨rfl, hb4⟩; obtain ⟨hc4, hf4⟩ := bcell hb4; have hs4' : w.heap.size < w3.heap.size := by omega) | fail)
  ·obtain ⟨r0, r1, r2, r3, r4, hb5⟩ := set5_at w3 w.heap.size (.int .i64 0) (.int .i64 0) (.float .f64 0) (.string ⟨#[]⟩) (.bool false) (fun j hj => by
    rw [hc3 _ _ (by omega), d0, Array.getElem?_eq_getElem (by exact hj)]; rfl)
   generalize World.setCell _ _ _ = W5 at *
   refine bodyPost_ret (v := .tuple #[val 0 0 0 [] false, .bool false]) (by simp [results, Tryz.results10, go_sem, r0, r1, r2, r3, r4]; try rfl) rfl ?_
   exact ⟨.inl rfl, (btrans HB.out hb3).trans hb5⟩
  ·obtain ⟨r0, r1, r2, r3, r4, hb5⟩ := set5_at w4 w.heap.size (.int .i64 0) (.int .i64 0) (.float .f64 0) (.string ⟨#[]⟩) (.bool false) (fun j hj => by
    rw [hc4 _ _ (by omega), hc3 _ _ (by omega), d0, Array.getElem?_eq_getElem (by exact hj)]; rfl)
   generalize World.setCell _ _ _ = W5 at *
   refine bodyPost_ret (v := .tuple #[val 0 0 0 [] false, .bool false]) (by simp [results, Tryz.results10, go_sem, r0, r1, r2, r3, r4]; try rfl) rfl ?_
   exact ⟨.inl rfl, (btrans (btrans HB.out hb3) hb4).trans hb5⟩
  ·obtain ⟨r0, r1, r2, r3, r4, hb5⟩ := set5_at w4 w.heap.size (.int .i64 2) (.int .i64 0) (.float .f64 0) (.string ⟨a.toArray⟩) (.bool false) (fun j hj => by
    rw [hc4 _ _ (by omega), hc3 _ _ (by omega), d0, Array.getElem?_eq_getElem (by exact hj)]; rfl)
   generalize World.setCell _ _ _ = W5 at *
   refine bodyPost_ret (v := .tuple #[val 2 0 0 a false, .bool true]) (by simp [results, Tryz.results10, go_sem, r0, r1, r2, r3, r4]; try rfl) rfl ?_
   exact ⟨.inr ⟨⟨2, 0, 0, a, false⟩, rfl, HRR.out.trans ‹R = true›, HPP.out.trans (ba_eq2 ‹(!P.toList == 34 :: r) = false›), rfl, zn, zi.1, zi.2⟩, (btrans (btrans HB.out hb3) hb4).trans hb5⟩
end Go.Proofs.YtnccpddjdgndcaaGreatDoor.Val
end

section
/- value.Read AT ANY TEXT: it answers a value whose text that is, or none. -/
namespace Go.Proofs.YtnccpddjdgndcaaGreatDoor.Val
open Go.RowKit Flt
structure RW (w : World) (B R o c : Nat) : Prop where
 tb : Tab.Tabs w
 aw : Pf.AW w B R o c
 ev : Pf.EvT w
 es : Unq.ErrS w
theorem RW.below {w w2 : World} {B R o c : Nat} (h : RW w B R o c) (hb : Below w.heap.size w w2) : RW w2 B R o c :=
 ⟨h.tb.below hb (Nat.le_refl _), h.aw.below hb, h.ev.below hb, Unq.err_below h.es hb⟩
theorem tl_list (l : List UInt8) : (⟨l.toArray⟩ : ByteArray).toList = l := by rw [Lib.toList_data]
theorem read_any (l : List UInt8) (hl : l.length ≤ 8000) (w : World) (B R o c : Nat) (h : RW w B R o c) :
  Calls Tryz.prog 10 #[.string ⟨l.toArray⟩] w fun e w' => RdA ⟨l.toArray⟩ e ∧ Below w.heap.size w w' := by
 by_cases h1 : l = [121, 101, 115]
 ·subst h1
  refine (read_bool true w h.tb).mono ?_
  rintro e w' ⟨rfl, hb⟩
  exact ⟨.inr ⟨⟨3, 0, 0, [], true⟩, rfl, rfl, rfl, rfl, zn, zi.1, zi.2⟩, hb⟩
 by_cases h2 : l = [110, 111]
 ·subst h2
  refine (read_bool false w h.tb).mono ?_
  rintro e w' ⟨rfl, hb⟩
  exact ⟨.inr ⟨⟨3, 0, 0, [], false⟩, rfl, rfl, rfl, rfl, zn, zi.1, zi.2⟩, hb⟩
 cases l with
 | nil => exact read_rest _ (by show 0 ≤ 9000; decide) w (by rw [tl_list]; exact h1) (by rw [tl_list]; rfl) (.inl (by rw [tl_list]; rfl)) h.tb B R o c h.aw h.ev
 | cons a r =>
  by_cases h3 : a = 34
  ·subst h3
   exact read_quot r (by simp only [List.length_cons] at hl; omega) w h.tb h.es
  ·refine read_rest _ (by show (a :: r).length ≤ 9000; omega) w (by rw [tl_list]; exact h1) (by rw [tl_list]; simpa using h2) (.inr ⟨by rw [tl_list]; rfl, ⟨by show 0 < (a :: r).length; simp, ?_⟩⟩) h.tb B R o c h.aw h.ev
   have : ¬ (((a.toNat : Nat) : Int) = 34) := fun e => h3 (by apply UInt8.toNat_inj.1; show a.toNat = 34; omega)
   exact beq_eq_false_iff_ne.2 this
end Go.Proofs.YtnccpddjdgndcaaGreatDoor.Val
end

section
/- THE TABLES OF ParseFloat's SLOW ROAD AND THE TWO ERRORS, as a row lays them; the two float formats' places. -/
namespace Go.Proofs.YtnccpddjdgndcaaGreatDoor.Pf
open Go.RowKit Go.Lib
theorem slice_of_reads {P : Program} {w : World} {name : String} {g : Nat} {t e : TypeId} {l : List (DataW Unit)} (hn : P.globalNamed name = some g) (hy : (P.globals[g]?).map (·.type) = some t)
  (ht : P.underlying t = some (.slice e)) (hc : 0 < P.cellsOf e) (h0 : 0 < l.length) (h : VarReads P w name (.slice l [])) :
  ∃ R o c : Nat, w.cell? ⟨g, 0, none⟩ = some (.slice (some ⟨R, o, none⟩) l.length c) ∧ ∀ i d, l[i]? = some d → ∃ (ce : List Value) (m : Nat) (b : DataW Unit × List MemPlace), (∀ j, j < P.cellsOf e → w.cell? ⟨R, o + (i * P.cellsOf e + j), none⟩ = ce[j]?) ∧
   ce.length = P.cellsOf e ∧ DataW.trod (fun _ => ()) P w 0 (fun _ => true) false m e ce = some b ∧ b.1 = d := by
 obtain ⟨g', t', cs, fuel, p, hg, hty, hvar, hd⟩ := h
 obtain rfl := Option.some.inj (hn.symm.trans hg)
 obtain rfl := Option.some.inj (hy.symm.trans hty)
 rcases DataW.trod_slice ht hd with ⟨_, hx⟩ | ⟨a, len, cap, el, rs, m, rfl, hcs, hx, _, hlc, _, hel, helem, hsp, _⟩
 ·cases hx
 have e0 := congrArg Prod.fst hx
 simp only [DataW.slice.injEq] at e0
 obtain ⟨eE, eR⟩ := e0
 have hlen : len = l.length := by
  have := congrArg List.length eE
  simp at this
  omega
 have key : ∀ i d, l[i]? = some d → ∃ (ce : List Value) (b : DataW Unit × List MemPlace), (∀ j, j < P.cellsOf e → w.cell? ((a.add (i * P.cellsOf e)).add j) = ce[j]?) ∧ ce.length = P.cellsOf e ∧ DataW.trod (fun _ => ()) P w 0 (fun _ => true) false m e ce = some b ∧ b.1 = d := by
  intro i d hi
  have hlt : i < l.length := (List.getElem?_eq_some_iff.1 hi).1
  have h1 := helem i (by omega)
  obtain ⟨b, hb⟩ : ∃ b, el[i]? = some b := ⟨el[i]'(by omega), List.getElem?_eq_getElem (by omega)⟩
  rw [hb] at h1
  obtain ⟨ce, hce, hte⟩ := Option.bind_eq_some_iff.1 h1
  obtain ⟨_, hcl, hcc⟩ := World.cells?_some hce
  refine ⟨ce, b, hcc, hcl, hte, ?_⟩
  have := congrArg (·[i]?) eE
  rw [List.getElem?_map, hb] at this
  rw [hi] at this
  simpa using this.symm
 obtain ⟨R, o, sR⟩ := a
 obtain rfl : sR = none := by
  obtain ⟨ce, b, h1, h2, _⟩ := key 0 l[0] (List.getElem?_eq_getElem h0)
  have h4 := h1 0 hc
  have e2 : ((Addr.add ⟨R, o, sR⟩ (0 * P.cellsOf e)).add 0) = ⟨R, o, sR⟩ := by simp [Addr.add]
  rw [e2, List.getElem?_eq_getElem (by omega)] at h4
  exact Go.Proofs.cell_spot h4
 refine ⟨R, o, cap, ?_, fun i d hi => ?_⟩
 ·rw [World.var?_cell hn hvar 0, ← Array.getElem?_toList, hcs, hlen]
  rfl
 ·obtain ⟨ce, b, h1, h2, h3, h4⟩ := key i d hi
  refine ⟨ce, m, b, fun j hj => ?_, h2, h3, h4⟩
  have := h1 j hj
  rw [Addr.add_lit, Addr.add_lit, Nat.add_assoc] at this
  exact this
theorem field_of_reads {P : Program} {w : World} {name : String} {g : Nat} {t : TypeId} {fs : Array Field} {f : Field} {k : IntKind} {z : Int} {ds : List (DataW Unit)} (i : Nat) (hn : P.globalNamed name = some g) (hy : (P.globals[g]?).map (·.type) = some t) (ht : P.underlying t = some (.struct fs))
  (hf : fs[i]? = some f) (hc : P.cellsOf f.type = 1) (hk : P.underlying f.type = some (.int k)) (hd : ds[i]? = some (.lit (.int k z))) (h : VarReads P w name (.agg ds)) : w.cell? ⟨g, f.offset, none⟩ = some (.int k z) := by
 obtain ⟨g', t', cs, fuel, p, hg, hty, hvar, hdd⟩ := h
 obtain rfl := Option.some.inj (hn.symm.trans hg)
 obtain rfl := Option.some.inj (hy.symm.trans hty)
 obtain ⟨xs, n, rfl, hx, hl, hxl, hall⟩ := DataW.trod_struct ht hdd
 have e := congrArg Prod.fst hx
 simp only [DataW.agg.injEq] at e
 have h0 := hall i f hf
 rw [hc] at h0
 rw [e, List.getElem?_map] at hd
 obtain ⟨y, hy1, hy2⟩ := Option.map_eq_some_iff.1 hd
 rw [hy1] at h0
 obtain ⟨z', hz, hyz, _⟩ := DataW.trod_int hk h0
 rw [hyz] at hy2
 simp only [DataW.lit.injEq, Lit.int.injEq, true_and] at hy2
 rw [World.var?_cell hn hvar f.offset, ← Array.getElem?_toList]
 have := congrArg (·[0]?) hz
 simp only [List.getElem?_take, List.getElem?_drop, Nat.add_zero, List.getElem?_cons_zero] at this
 rw [← hy2]; simpa using this
def pows : List Nat := [1, 3, 6, 9, 13, 16, 19, 23, 26]
theorem pows_at : ∀ k : Nat, k < 9 → pows[k]? = some (Dc.pn k) := by decide
def cheats : List (DataW Unit) := .agg [.lit (.int .i64 0), .lit (.string [])] :: (List.range 60).map fun k => .agg [.lit (.int .i64 ((Dc.dl (k + 1) : Nat) : Int)), .lit (.string (Dc.ctB (k + 1)))]
structure AwLists (l : List (String × DataW Unit)) : Prop where
 plain : (l.all fun x => x.2.handleName?.isNone) = true
 g1 : l.find? (fun x => x.1 == "internal/strconv.float64info") = some ("internal/strconv.float64info", .agg [.lit (.int .u64 52), .lit (.int .u64 11), .lit (.int .i64 (-1023))])
 g2 : l.find? (fun x => x.1 == "internal/strconv.powtab") = some ("internal/strconv.powtab", .slice (pows.map fun (z : Nat) => (.lit (.int .i64 (z : Int)) : DataW Unit)) [])
 g3 : l.find? (fun x => x.1 == "internal/strconv.leftcheats") = some ("internal/strconv.leftcheats", .slice cheats [])
 g4 : ∃ nm d, l.find? (fun x => x.1 == "strconv.ErrRange") = some ("strconv.ErrRange", .iface nm d)
 g5 : ∃ nm d, l.find? (fun x => x.1 == "strconv.ErrSyntax") = some ("strconv.ErrSyntax", .iface nm d)
theorem aw_of {l : List (String × DataW Unit)} {W : World} (L : AwLists l) (hP : PfW W) (hp : Fmt.Pow W) (hG : GlobT W) (h : laidMetH Tryz.prog l W) : EvT W ∧ ∃ R o c, AW W W.heap.size R o c := by
 rw [MakeChecks.laidMetH_plain _ _ _ L.plain] at h
 have f3 := L.g3
 obtain ⟨nm, d, f4⟩ := L.g4
 obtain ⟨nm5, d5, f5⟩ := L.g5
 have c1 : Tryz.prog.cellsOf 3 = 1 := by kernel_rfl
 have cs : Tryz.prog.cellsOf 9 = 1 := by kernel_rfl
 have c2 : Tryz.prog.cellsOf 227 = 2 := by kernel_rfl
 obtain ⟨u, v, hr⟩ := err_of_reads (g := 5) (by kernel_rfl) (by kernel_rfl) ⟨_, Tryz.underlying52⟩ (Tab.reads_of h f4)
 obtain ⟨u5, v5, hs⟩ := err_of_reads (g := 1) (by kernel_rfl) (by kernel_rfl) ⟨_, Tryz.underlying52⟩ (Tab.reads_of h f5)
 have r1 := Tab.reads_of h L.g1
 have i0 := field_of_reads 0 (g := 10) (by kernel_rfl) (by kernel_rfl) Tryz.underlying178 rfl (by kernel_rfl) (by kernel_rfl) rfl r1
 have i1 := field_of_reads 1 (g := 10) (by kernel_rfl) (by kernel_rfl) Tryz.underlying178 rfl (by kernel_rfl) (by kernel_rfl) rfl r1
 have i2 := field_of_reads 2 (g := 10) (by kernel_rfl) (by kernel_rfl) Tryz.underlying178 rfl (by kernel_rfl) (by kernel_rfl) rfl r1
 obtain ⟨R, o, c, h1, h2⟩ := slice_of_reads (g := 12) (by kernel_rfl) (by kernel_rfl) Tryz.underlying216 (by rw [c1]; decide) (by decide) (Tab.reads_of h L.g2)
 have hrow : ∀ k : Nat, k < 9 → W.cell? ⟨R, o + k, none⟩ = some (.int .i64 ((Dc.pn k : Nat) : Int)) := fun k hk => by
  obtain ⟨ce, m, b, g1, g2, g3, g4⟩ := h2 k _ (by rw [List.getElem?_map, pows_at k hk]; rfl)
  obtain ⟨z, hz, hb, _⟩ := DataW.trod_int Tryz.underlying3 g3
  rw [hb] at g4
  simp only [DataW.lit.injEq, Lit.int.injEq, true_and] at g4
  have := g1 0 (by rw [c1]; decide)
  rw [c1, Nat.mul_one, Nat.add_zero, hz, g4] at this
  exact this
 obtain ⟨R2, o2, k2, h3, h4⟩ := slice_of_reads (g := 17) (by kernel_rfl) (by kernel_rfl) Tryz.underlying228 (by rw [c2]; decide) (by simp [cheats]) (Tab.reads_of h f3)
 have hlc : ∀ k, 1 ≤ k → k ≤ 60 → W.cell? ⟨R2, o2 + k * 2, none⟩ = some (.int .i64 ((Dc.dl k : Nat) : Int)) ∧ W.cell? ⟨R2, o2 + k * 2 + 1, none⟩ = some (.string ⟨(Dc.ctB k).toArray⟩) := fun k k1 k60 => by
  obtain ⟨n, rfl⟩ : ∃ n, k = n + 1 := ⟨k - 1, by omega⟩
  obtain ⟨ce, m, b, g1, g2, g3, g4⟩ := h4 (n + 1) _ (by unfold cheats; rw [List.getElem?_cons_succ, List.getElem?_map, List.getElem?_range (by omega)]; rfl)
  obtain ⟨xs, q, rfl, hx, hl, hxl, hall⟩ := DataW.trod_struct Tryz.underlying227 g3
  have e := (congrArg Prod.fst hx).symm.trans g4
  simp only [DataW.agg.injEq] at e
  have a0 := hall 0 _ rfl
  have a1 := hall 1 _ rfl
  match xs, hxl, e with
  | [x, y], _, e =>
   simp only [List.map_cons, List.map_nil, List.cons.injEq, and_true] at e
   simp only [List.getElem?_cons_zero, List.getElem?_cons_succ] at a0 a1
   obtain ⟨z, hz, hb, _⟩ := DataW.trod_int Tryz.underlying3 a0
   obtain ⟨s, hs2, hb2, _⟩ := DataW.trod_string Tryz.underlying9 a1
   rw [hb, hb2] at e
   simp only [DataW.lit.injEq, Lit.int.injEq, Lit.string.injEq, true_and] at e
   have q0 := g1 0 (by rw [c2]; decide)
   have q1 := g1 1 (by rw [c2]; decide)
   rw [c2] at q0 q1
   have w0 := congrArg (·[0]?) hz
   have w1 := congrArg (·[0]?) hs2
   simp only [List.getElem?_take, List.getElem?_drop, List.getElem?_cons_zero] at w0 w1
   have w0' : ce[0]? = some (.int .i64 z) := by simpa [c1] using w0
   have w1' : ce[1]? = some (.string s) := by simpa [cs] using w1
   have es : s = ⟨(Dc.ctB (n + 1)).toArray⟩ := by
    apply ByteArray.ext
    rw [← e.2]
   rw [w0', e.1] at q0
   rw [w1', es] at q1
   exact ⟨q0, by rw [Nat.add_assoc]; exact q1⟩
 have bl : ∀ {a : Addr} {v : Value}, W.cell? a = some v → a.block < W.heap.size := fun h => World.block_lt_of_cell? _ _ h
 have hsz : cheats.length = 61 := by simp [cheats]
 rw [hsz] at h3
 refine ⟨⟨⟨_, hs, .inr ⟨_, _, rfl⟩⟩, ⟨_, hr, .inr ⟨_, _, rfl⟩⟩⟩, R, o, c, hP, hp, hG, ⟨i0, i1, i2, h1, hrow, ⟨R2, o2, k2, h3, hlc⟩, bl i0, bl h1, bl (hrow 0 (by decide)), fun R3 o3 c3 h5 => ?_⟩, Nat.le_refl _⟩
 rw [h3] at h5
 cases h5
 exact ⟨bl (hlc 1 (by decide) (by decide)).1, bl h3⟩
end Go.Proofs.YtnccpddjdgndcaaGreatDoor.Pf
end

section
/- The two float formats lie apart. -/
namespace Go.Proofs.YtnccpddjdgndcaaGreatDoor.Pf
open Go.RowKit
theorem glob_of (W : World) (h : W.ShapedOpen Tryz.checked.prog) : GlobT W := by
 have key : ∀ g : Nat, g < Tryz.checked.prog.globals.size → (((begin Tryz.checked.prog (fun _ _ => 0) default).world.heap[g]?).bind Obj.row?).isSome = true → ∃ c t, W.heap[g]? = some (.cells c t (0, 0)) := fun g hg hs => by
  obtain ⟨⟨z, t⟩, hz⟩ := Option.isSome_iff_exists.1 hs
  obtain ⟨cs, h1, _⟩ := h.1 g z t hg hz
  exact ⟨cs, t, h1⟩
 exact ⟨key 10 (of_decide_eq_true (by kernel_rfl)) (by kernel_rfl), key 9 (of_decide_eq_true (by kernel_rfl)) (by kernel_rfl)⟩
end Go.Proofs.YtnccpddjdgndcaaGreatDoor.Pf
end

section
/- PLAIN TEXTS between quotes: signs 32..126 without the quote and the back stroke stand as they are. -/
namespace Go.Proofs.YtnccpddjdgndcaaGreatDoor.Val
open Go.RowKit Flt
def Pl (b : UInt8) : Prop := 32 ≤ b.toNat ∧ b.toNat < 127 ∧ b.toNat ≠ 34 ∧ b.toNat ≠ 92
theorem code_pl_all : ((List.range 127).all fun n => decide (n < 32) || decide (n = 34) || decide (n = 92) || (Quo.code Lib.goPrintTabs (n : Int) == [(n : Int)])) = true := by decide +kernel
theorem code_pl (n : Nat) (h0 : 32 ≤ n) (h1 : n < 127) (h2 : n ≠ 34) (h3 : n ≠ 92) : Quo.code Lib.goPrintTabs (n : Int) = [(n : Int)] := by
 have h := List.all_eq_true.1 code_pl_all n (List.mem_range.2 h1)
 rw [show decide (n < 32) = false by rw [decide_eq_false_iff_not]; omega, decide_eq_false h2, decide_eq_false h3] at h
 exact beq_iff_eq.1 (by simpa using h)
theorem qf_pl : ∀ (l : List UInt8) (f : Nat), (∀ b ∈ l, Pl b) → l.length ≤ f → Quo.qf Lib.goPrintTabs f l = l.map fun b => (b.toNat : Int)
 | [], f, _, _ => Quo.qf_nil _ f
 | b :: t, 0, _, h => by simp at h
 | b :: t, f + 1, hp, h => by
  obtain ⟨p0, p1, p2, p3⟩ := hp b (List.mem_cons_self ..)
  have hd : Lib.decodeL (b :: t) = (b.toNat, 1) := Lib.decodeL_ascii b t (by omega)
  have hs : Quo.symOf (b :: t) = (b.toNat : Int) := by
   unfold Quo.symOf
   rw [hd]
   rw [if_neg (fun hh => by have := hh.2; dsimp only at this; omega)]
  unfold Quo.qf
  rw [if_neg (by simp), hs, code_pl b.toNat p0 p1 p2 p3, hd]
  show [(b.toNat : Int)] ++ Quo.qf Lib.goPrintTabs f t = _
  rw [qf_pl t f (fun c hc => hp c (List.mem_cons_of_mem _ hc)) (by simpa using h)]
  rfl
theorem quoteT_pl (l : List UInt8) (hp : ∀ b ∈ l, Pl b) : Quo.quoteT Lib.goPrintTabs l = 34 :: (l ++ [34]) := by
 unfold Quo.quoteT
 rw [Quo.quoteZ_qf, qf_pl l l.length hp (Nat.le_refl _)]
 have hb : ∀ b : UInt8, UInt8.ofNat (Int.toNat (b.toNat : Int)) = b := fun b => by
  rw [Int.toNat_natCast]; exact UInt8.ofNat_toNat
 simp only [List.map_cons, List.map_append, List.map_nil, List.map_map]
 congr 2
 conv => rhs; rw [← List.map_id l]
 exact List.map_congr_left fun b _ => hb b
theorem valid_pl : ∀ (l : List UInt8), (∀ b ∈ l, Pl b) → Lib.validD l = true
 | [], _ => rfl
 | b :: t, hp => by
  have p1 := (hp b (List.mem_cons_self ..)).2.1
  rw [Lib.validD_cons b t (by omega)]
  exact valid_pl t fun c hc => hp c (List.mem_cons_of_mem _ hc)
theorem bare_pl (l : List UInt8) (hp : ∀ b ∈ l, Pl b) : Bare1 l :=
 ⟨fun e => (hp _ e).2.2.1 rfl, fun e => (hp _ e).2.2.2 rfl, fun e => absurd (hp _ e).1 (by decide), valid_pl l hp, quoteT_pl l hp⟩
end Go.Proofs.YtnccpddjdgndcaaGreatDoor.Val
end

section
/- THE WALK OF parse.one: a condition of a text, at the two forms that the laws of chapter 8 need. -/
namespace Go.Proofs.YtnccpddjdgndcaaGreatDoor.Pa
open Go.RowKit Flt Go.Proofs.YtnccpddjdgndcaaGreatDoor.Val
attribute [local go_sem] run_store_flt
theorem no_space {l : List UInt8} (h : 32 ∉ l) (w : World) : Calls Tryz.prog 64 #[.string ⟨l.toArray⟩, .string ⟨#[32]⟩] w fun e w' => e = .returned (.bool false) ∧ w' = w := by
 refine (Tryz.strings_Contains_one ⟨l.toArray⟩ 32 w).mono ?_
 rintro e w' ⟨rfl, rfl⟩
 refine ⟨?_, rfl⟩
 rcases byte_cases 32 l with ⟨h1, _⟩ | ⟨a, b, e, _, _⟩
 ·show Ending.returned (.bool (decide (0 ≤ Lib.indexByte l 32))) = _
  rw [h1]; rfl
 ·exact absurd (by rw [e]; simp) h
set_option maxRecDepth 20000 in
set_option maxHeartbeats 2000000 in
theorem one_has (s nm : List UInt8) (w : World) (hs : s.length ≤ 100000) (h : trimP s = [104, 97, 115] ++ 32 :: nm) (hn : trimP nm = nm) (h0 : nm ≠ []) (h32 : 32 ∉ nm) (hl : nm.length ≤ 100000) :
  Calls Tryz.prog 42 #[.string ⟨s.toArray⟩] w fun e w' => e = .returned (.tuple #[cond nm 7 0 0 0 [] false, .bool true]) ∧ Below w.heap.size w w' := by
 have ht1 := fun W => ptrim_any s W (by unfold maxLen; omega)
 rw [h] at ht1
 have ht2 := fun W => ptrim_any nm W (by unfold maxLen; omega)
 rw [hn] at ht2
 have hc := fun W => pcut_some 32 [104, 97, 115] nm W (by decide) (by unfold maxLen; simp; omega)
 have hsp := fun W => no_space h32 W
 have e0 : (nm == []) = false := by simpa using h0
 have e1 : (nm != []) = true := by simpa using h0
 have HT1 := Lib.hid ht1; have HT2 := Lib.hid ht2; have HC := Lib.hid hc; have HSP := Lib.hid hsp
 clear ht1 ht2 hc hsp h hn h32
 go_enter Tryz.func42, Tryz.ntmps42
 go_wp2_with (first | (go_at_call 40; (with_reducible refine (HT1.out _).mono ?_); rintro e w1 ⟨rfl, n1, rfl⟩) | (go_at_call 40; (with_reducible refine (HT2.out _).mono ?_); rintro e w1 ⟨rfl, n2, rfl⟩) | (go_at_call 39; refine (HC.out _).mono ?_; rintro e w1 ⟨rfl, n3, rfl⟩) | (go_at_call 64; refine (HSP.out _).mono ?_; rintro e w1 ⟨rfl, rfl⟩) | fail)
 obtain ⟨c0, c1, c2, c3, c4, c5, c6, hbz⟩ := set7_at (((w.alloc (.cells #[.string ⟨#[]⟩, .int .i64 0, .int .i64 0, .int .i64 0, .float .f64 0, .string ⟨#[]⟩, .bool false] 41)).drewN (n1 + n3 + n2))) w.heap.size (.string ⟨nm.toArray⟩) (.int .i64 7) (.int .i64 0) (.int .i64 0) (.float .f64 0) (.string ⟨#[]⟩) (.bool false) (fun j hj => by simp; omega)
 generalize World.setCell _ _ _ = W2 at *
 refine bodyPost_ret (v := .tuple #[cond nm 7 0 0 0 [] false, .bool true]) (by simp [results, Tryz.results42, go_sem, c0, c1, c2, c3, c4, c5, c6]; try rfl) rfl ?_
 exact ⟨rfl, (bdrewN (balloc _ _) _).trans hbz⟩
theorem word_no32 : ∀ n : Nat, n ≤ 7 → 32 ∉ wordL n := by decide
theorem word_apart : ∀ n : Nat, n ≤ 6 → ∀ m : Nat, m ≤ 6 → n ≠ m → (wordL n == wordL m) = false := by decide
theorem word_b (n : Nat) (h : n ≤ 7) : wordB (n : Int) = wordL n := by
 unfold wordB
 rw [if_neg (by omega)]
 rfl
set_option maxRecDepth 20000 in
set_option maxHeartbeats 2000000 in
theorem one_cmp (s nm r1 r2 body : List UInt8) (op : Nat) (w : World) (hw : Words w) (hT : Tab.Tabs w) (hs : s.length ≤ 100000) (h1 : trimP s = nm ++ 32 :: r1) (h32 : 32 ∉ nm) (hnh : nm ≠ [104, 97, 115]) (h2 : trimP r1 = wordL op ++ 32 :: r2) (hop : op ≤ 6) (h3 : trimP r2 = 34 :: (body ++ [34])) (hb : Bare1 body) (hbl : body.length ≤ 40)
  (l1 : nm.length + r1.length ≤ 100000) (l2 : r2.length ≤ 100000) :
  Calls Tryz.prog 42 #[.string ⟨s.toArray⟩] w fun e w' => e = .returned (.tuple #[cond nm op 2 0 0 body false, .bool true]) ∧ Below w.heap.size w w' := by
 have ht1 := fun W => ptrim_any s W (by unfold maxLen; omega)
 rw [h1] at ht1
 have ht2 := fun W => ptrim_any r1 W (by unfold maxLen; omega)
 rw [h2] at ht2
 have ht3 := fun W => ptrim_any r2 W (by unfold maxLen; omega)
 rw [h3] at ht3
 have hc1 := fun W => pcut_some 32 nm r1 W h32 (by unfold maxLen; omega)
 have hwl : (wordL op).length ≤ 10 := (show ∀ n : Nat, n ≤ 6 → (wordL n).length ≤ 10 by decide) op hop
 have hc2 := fun W => pcut_some 32 (wordL op) r2 W (word_no32 op (by omega)) (by unfold maxLen; omega)
 have hrd := fun W (hb2 : Below w.heap.size w W) => read_yes body W hb hbl (hT.below hb2 (Nat.le_refl _))
 have hwd : ∀ n : Nat, n ≤ 7 → ∀ W, Below w.heap.size w W → Calls Tryz.prog 19 #[.int .i64 (n : Int)] W fun e w' => e = .returned (.string ⟨(wordL n).toArray⟩) ∧ W = w' := fun n hn W hb2 => by
  have h := word_any (n : Int) W (hw.below hb2)
  rw [word_b n hn] at h
  exact h
 have e0 : (nm == [104, 97, 115]) = false := by simpa using hnh
 have hap := fun n (hn : n ≤ 6) (hne : n ≠ op) => word_apart n hn op hop hne
 have HT1 := Lib.hid ht1; have HT2 := Lib.hid ht2; have HT3 := Lib.hid ht3; have HC1 := Lib.hid hc1; have HC2 := Lib.hid hc2; have HRD := Lib.hid hrd; have HWD := Lib.hid hwd; have HAP := Lib.hid hap
 clear ht1 ht2 ht3 hc1 hc2 hrd hwd hap h1 h2 h3 h32 hw hT hb hwl l1 l2 hnh
 obtain ⟨wo, hwo⟩ : ∃ wo, wordL op = wo := ⟨_, rfl⟩
 rw [hwo] at HT2 HC2 HAP
 have HWO := Lib.hid hwo; clear hwo
 go_enter Tryz.func42, Tryz.ntmps42
 go_upto_region 15 with (first | (go_at_call 40; (with_reducible refine (HT1.out _).mono ?_); rintro e w1 ⟨rfl, n1, rfl⟩) | (go_at_call 40; (with_reducible refine (HT2.out _).mono ?_); rintro e w1 ⟨rfl, n2, rfl⟩) | (go_at_call 40; (with_reducible refine (HT3.out _).mono ?_); rintro e w1 ⟨rfl, n3, rfl⟩) | (go_at_call 39; (with_reducible refine (HC1.out _).mono ?_); rintro e w1 ⟨rfl, n4, rfl⟩) | (go_at_call 39; (with_reducible refine (HC2.out _).mono ?_); rintro e w1 ⟨rfl, n5, rfl⟩) | (go_at_call 10; (refine (HRD.out _ (bdrewN (balloc _ _) _)).mono ?_); rintro e w5 ⟨rfl, hb5⟩) | fail)
 have hlw : w.heap.size < ((w.alloc (.cells #[.string ⟨#[]⟩, .int .i64 0, .int .i64 0, .int .i64 0, .float .f64 0, .string ⟨#[]⟩, .bool false] 41)).drewN (n1 + n4 + n2 + n5 + n3)).heap.size := by simp
 have y0 : w5.cell? ⟨w.heap.size, 0, none⟩ = some (.string ⟨#[]⟩) := (hb5.cell (p := ⟨w.heap.size, 0, none⟩) hlw).trans (by simp [go_sem])
 have y1 : w5.cell? ⟨w.heap.size, 1, none⟩ = some (.int .i64 0) := (hb5.cell (p := ⟨w.heap.size, 1, none⟩) hlw).trans (by simp [go_sem])
 have y2 : w5.cell? ⟨w.heap.size, 2, none⟩ = some (.int .i64 0) := (hb5.cell (p := ⟨w.heap.size, 2, none⟩) hlw).trans (by simp [go_sem])
 have y3 : w5.cell? ⟨w.heap.size, 3, none⟩ = some (.int .i64 0) := (hb5.cell (p := ⟨w.heap.size, 3, none⟩) hlw).trans (by simp [go_sem])
 have y4 : w5.cell? ⟨w.heap.size, 4, none⟩ = some (.float .f64 0) := (hb5.cell (p := ⟨w.heap.size, 4, none⟩) hlw).trans (by simp [go_sem])
 have y5 : w5.cell? ⟨w.heap.size, 5, none⟩ = some (.string ⟨#[]⟩) := (hb5.cell (p := ⟨w.heap.size, 5, none⟩) hlw).trans (by simp [go_sem])
 have y6 : w5.cell? ⟨w.heap.size, 6, none⟩ = some (.bool false) := (hb5.cell (p := ⟨w.heap.size, 6, none⟩) hlw).trans (by simp [go_sem])
 have yz : ∀ o, w5.frozen? ⟨w.heap.size, o, none⟩ = false := fun o => (hb5.frozen (p := ⟨w.heap.size, o, none⟩) hlw).trans (by simp)
 have hl5 : w.heap.size < w5.heap.size := Nat.lt_of_lt_of_le hlw hb5.size
 have hbw5 : Below w.heap.size w w5 := btrans (bdrewN (balloc _ _) _) hb5
 have hb6 := balloc w5 (.cells #[.int .i64 2, .int .i64 0, .float .f64 0, .string ⟨body.toArray⟩, .bool false] 25)
 generalize hW6 : World.alloc w5 _ = W6 at *
 replace y0 : W6.cell? ⟨w.heap.size, 0, none⟩ = some (.string ⟨#[]⟩) := (hb6.cell (p := ⟨w.heap.size, 0, none⟩) hl5).trans y0
 replace y1 : W6.cell? ⟨w.heap.size, 1, none⟩ = some (.int .i64 0) := (hb6.cell (p := ⟨w.heap.size, 1, none⟩) hl5).trans y1
 replace y2 : W6.cell? ⟨w.heap.size, 2, none⟩ = some (.int .i64 0) := (hb6.cell (p := ⟨w.heap.size, 2, none⟩) hl5).trans y2
 replace y3 : W6.cell? ⟨w.heap.size, 3, none⟩ = some (.int .i64 0) := (hb6.cell (p := ⟨w.heap.size, 3, none⟩) hl5).trans y3
 replace y4 : W6.cell? ⟨w.heap.size, 4, none⟩ = some (.float .f64 0) := (hb6.cell (p := ⟨w.heap.size, 4, none⟩) hl5).trans y4
 replace y5 : W6.cell? ⟨w.heap.size, 5, none⟩ = some (.string ⟨#[]⟩) := (hb6.cell (p := ⟨w.heap.size, 5, none⟩) hl5).trans y5
 replace y6 : W6.cell? ⟨w.heap.size, 6, none⟩ = some (.bool false) := (hb6.cell (p := ⟨w.heap.size, 6, none⟩) hl5).trans y6
 replace yz : ∀ o, W6.frozen? ⟨w.heap.size, o, none⟩ = false := fun o => (hb6.frozen (p := ⟨w.heap.size, o, none⟩) hl5).trans (yz o)
 have v0 : W6.cell? ⟨w5.heap.size, 0, none⟩ = some (.int .i64 2) := by rw [← hW6]; exact World.cell?_alloc_at _ _ _ _ rfl
 have v1 : W6.cell? ⟨w5.heap.size, 1, none⟩ = some (.int .i64 0) := by rw [← hW6]; exact World.cell?_alloc_at _ _ _ _ rfl
 have v2 : W6.cell? ⟨w5.heap.size, 2, none⟩ = some (.float .f64 0) := by rw [← hW6]; exact World.cell?_alloc_at _ _ _ _ rfl
 have v3 : W6.cell? ⟨w5.heap.size, 3, none⟩ = some (.string ⟨body.toArray⟩) := by rw [← hW6]; exact World.cell?_alloc_at _ _ _ _ rfl
 have v4 : W6.cell? ⟨w5.heap.size, 4, none⟩ = some (.bool false) := by rw [← hW6]; exact World.cell?_alloc_at _ _ _ _ rfl
 have HBW := Lib.hid (btrans hbw5 hb6)
 clear hb5 hb6 hbw5 hW6 hlw
 generalize w5.heap.size = pv at *
 go_loop [10] (fun vk => ∃ j : Nat, j ≤ op ∧ vk = .int .i64 (j : Int)) (fun vk => 7 - (intOf vk).toNat)
 case atStart => exact ⟨0, Nat.zero_le _, rfl⟩
 case round =>
  obtain ⟨j, hj, rfl⟩ := hrel
  have i1 : (j : Int) < 7 := by omega
  have i2 : (0 : Int) ≤ (j : Int) := by omega
  by_cases hjo : j = op
  ·subst hjo
   have heq : (wordL j == wo) = true := by rw [HWO.out]; simp
   have heq2 : wordL j = wo := HWO.out
   go_wp2_with (first | (go_at_call 19; (refine (HWD.out j (by omega) _ HBW.out).mono ?_); rintro e w9 ⟨rfl, rfl⟩) | fail)
   obtain ⟨k0, k1, k2, k3, k4, k5, k6, hbz⟩ := set7_at W6 w.heap.size (.string ⟨nm.toArray⟩) (.int .i64 (j : Int)) (.int .i64 2) (.int .i64 0) (.float .f64 0) (.string ⟨body.toArray⟩) (.bool false) (fun i hi => by
    have hi' : i = 0 ∨ i = 1 ∨ i = 2 ∨ i = 3 ∨ i = 4 ∨ i = 5 ∨ i = 6 := by omega
    rcases hi' with rfl | rfl | rfl | rfl | rfl | rfl | rfl
    ·rw [y0]; rfl
    ·rw [y1]; rfl
    ·rw [y2]; rfl
    ·rw [y3]; rfl
    ·rw [y4]; rfl
    ·rw [y5]; rfl
    ·rw [y6]; rfl)
   generalize World.setCell _ _ _ = W2 at *
   refine bodyPost_ret (v := .tuple #[cond nm (j : Int) 2 0 0 body false, .bool true]) (by simp [results, Tryz.results42, go_sem, k0, k1, k2, k3, k4, k5, k6]; try rfl) rfl ?_
   exact ⟨rfl, HBW.out.trans hbz⟩
  ·have hne : (wordL j == wo) = false := HAP.out j (by omega) hjo
   go_wp2_with (first | (go_at_call 19; (refine (HWD.out j (by omega) _ HBW.out).mono ?_); rintro e w9 ⟨rfl, rfl⟩) | fail)
   exact ⟨⟨j + 1, by omega, by go_num⟩, by simp [intOf]; go_num⟩
end Go.Proofs.YtnccpddjdgndcaaGreatDoor.Pa
end

section
/- THE WALK OF parse.one AT ANY TEXT, whatever value.Read answers. -/
namespace Go.Proofs.YtnccpddjdgndcaaGreatDoor.Pa
open Go.RowKit Flt Go.Proofs.YtnccpddjdgndcaaGreatDoor.Val
attribute [local go_sem] run_store_flt
def oneOut : Option C → Value
 | some c => .tuple #[cc c, .bool true]
 | none => .tuple #[cond [] 0 0 0 0 [] false, .bool false]
def rdOut : Option V → Value
 | some v => .tuple #[vv v, .bool true]
 | none => .tuple #[val 0 0 0 [] false, .bool false]
def wordIx (wo : List UInt8) : Option Nat := (List.range 7).find? fun n => wordL n == wo
theorem wordIx_at : ∀ n : Nat, n ≤ 6 → wordIx (wordL n) = some n := by decide
theorem wordIx_none {wo : List UInt8} (h : ∀ n : Nat, n ≤ 6 → (wordL n == wo) = false) : wordIx wo = none := by
 unfold wordIx
 rw [List.find?_eq_none]
 intro n hn
 rw [h n (by have := List.mem_range.1 hn; omega)]
 decide
theorem has_space {l : List UInt8} (h : 32 ∈ l) (w : World) : Calls Tryz.prog 64 #[.string ⟨l.toArray⟩, .string ⟨#[32]⟩] w fun e w' => e = .returned (.bool true) ∧ w' = w := by
 refine (Tryz.strings_Contains_one ⟨l.toArray⟩ 32 w).mono ?_
 rintro e w' ⟨rfl, rfl⟩
 refine ⟨?_, rfl⟩
 rcases byte_cases 32 l with ⟨_, h2⟩ | ⟨a, b, e, _, h3⟩
 ·exact absurd h h2
 ·show Ending.returned (.bool (decide (0 ≤ Lib.indexByte l 32))) = _
  rw [h3, decide_eq_true (by omega)]
theorem box_drew {w w1 : World} {A : Array Value} {T : TypeId} {n : Nat} (hb : Below ((w.alloc (.cells A T)).drewN n).heap.size ((w.alloc (.cells A T)).drewN n) w1) :
  (∀ o, w1.cell? ⟨w.heap.size, o, none⟩ = A[o]?) ∧ (∀ o, w1.frozen? ⟨w.heap.size, o, none⟩ = false) ∧ w.heap.size < w1.heap.size ∧ Below w.heap.size w w1 := by
 have hz : w.heap.size < ((w.alloc (.cells A T)).drewN n).heap.size := by simp
 exact ⟨fun o => (hb.cell (p := ⟨w.heap.size, o, none⟩) hz).trans (by simp), fun o => (hb.frozen (p := ⟨w.heap.size, o, none⟩) hz).trans (by simp), Nat.lt_of_lt_of_le hz hb.size, btrans (bdrewN (balloc _ _) _) hb⟩
theorem seven_some {w5 : World} {A X : Array Value} {T : TypeId} {b : Nat} (hA : A.size = 7) (bc : ∀ o, w5.cell? ⟨b, o, none⟩ = A[o]?) (hl : b < w5.heap.size) : ∀ j, j < 7 → ((w5.alloc (.cells X T)).cell? ⟨b, j, none⟩).isSome = true := fun j hj => by
 rw [(balloc w5 (.cells X T)).cell (p := ⟨b, j, none⟩) hl, bc, Array.getElem?_eq_getElem (by omega)]
 rfl
set_option maxRecDepth 20000 in
set_option maxHeartbeats 1000000 in
theorem one_no1 (s : List UInt8) (w : World) (hs : s.length ≤ 100000) (h : 32 ∉ trimP s) :
  Calls Tryz.prog 42 #[.string ⟨s.toArray⟩] w fun e w' => e = .returned (oneOut none) ∧ Below w.heap.size w w' := by
 have ht1 := fun W => ptrim_any s W (by unfold maxLen; omega)
 have hc := fun W => pcut_none 32 (trimP s) W h
 generalize trimP s = ts at *
 have HT1 := Lib.hid ht1; have HC := Lib.hid hc
 clear ht1 hc h
 go_enter Tryz.func42, Tryz.ntmps42
 go_wp2_with (first | (go_at_call 40; (with_reducible refine (HT1.out _).mono ?_); rintro e w1 ⟨rfl, n1, rfl⟩) | (go_at_call 39; (with_reducible refine (HC.out _).mono ?_); rintro e w1 ⟨rfl, n3, rfl⟩) | fail)
 obtain ⟨c0, c1, c2, c3, c4, c5, c6, hbz⟩ := set7_at (((w.alloc (.cells #[.string ⟨#[]⟩, .int .i64 0, .int .i64 0, .int .i64 0, .float .f64 0, .string ⟨#[]⟩, .bool false] 41)).drewN (n1 + n3))) w.heap.size (.string ⟨#[]⟩) (.int .i64 0) (.int .i64 0) (.int .i64 0) (.float .f64 0) (.string ⟨#[]⟩) (.bool false) (fun j hj => by simp; omega)
 generalize World.setCell _ _ _ = W2 at *
 refine bodyPost_ret (v := .tuple #[cond [] 0 0 0 0 [] false, .bool false]) (by simp [results, Tryz.results42, go_sem, c0, c1, c2, c3, c4, c5, c6]; try rfl) rfl ?_
 exact ⟨rfl, (bdrewN (balloc _ _) _).trans hbz⟩
set_option maxRecDepth 20000 in
set_option maxHeartbeats 1000000 in
theorem one_no2 (s nm r1 rs : List UInt8) (w : World) (hs : s.length ≤ 100000) (h1 : trimP s = nm ++ 32 :: r1) (h32 : 32 ∉ nm) (h2 : trimP r1 = rs) (hrs : 32 ∉ rs) (hn : (nm == [104, 97, 115]) = false ∨ rs = []) (l1 : nm.length + r1.length ≤ 100000) :
  Calls Tryz.prog 42 #[.string ⟨s.toArray⟩] w fun e w' => e = .returned (oneOut none) ∧ Below w.heap.size w w' := by
 have ht1 := fun W => ptrim_any s W (by unfold maxLen; omega)
 rw [h1] at ht1
 have ht2 := fun W => ptrim_any r1 W (by unfold maxLen; omega)
 rw [h2] at ht2
 have hc1 := fun W => pcut_some 32 nm r1 W h32 (by unfold maxLen; omega)
 have hc2 := fun W => pcut_none 32 rs W hrs
 have HT1 := Lib.hid ht1; have HT2 := Lib.hid ht2; have HC1 := Lib.hid hc1; have HC2 := Lib.hid hc2
 clear ht1 ht2 hc1 hc2 h1 h2 h32 hrs l1
 have hq : (nm == [104, 97, 115]) = false ∨ ((nm == [104, 97, 115]) = true ∧ (rs == []) = true ∧ (rs != []) = false) := by
  cases e : (nm == [104, 97, 115])
  ·exact .inl rfl
  ·rcases hn with hn | hn
   ·rw [e] at hn; cases hn
   ·subst hn; exact .inr ⟨rfl, rfl, rfl⟩
 clear hn
 rcases hq with e0 | ⟨e0, e1, e2⟩
 all_goals
  go_enter Tryz.func42, Tryz.ntmps42
  go_wp2_with (first | (go_at_call 40; (with_reducible refine (HT1.out _).mono ?_); rintro e w1 ⟨rfl, n1, rfl⟩) | (go_at_call 40; (with_reducible refine (HT2.out _).mono ?_); rintro e w1 ⟨rfl, n2, rfl⟩) | (go_at_call 39; (with_reducible refine (HC1.out _).mono ?_); rintro e w1 ⟨rfl, n3, rfl⟩) | (go_at_call 39; (with_reducible refine (HC2.out _).mono ?_); rintro e w1 ⟨rfl, n4, rfl⟩) | fail)
  obtain ⟨c0, c1, c2, c3, c4, c5, c6, hbz⟩ := set7_at (((w.alloc (.cells #[.string ⟨#[]⟩, .int .i64 0, .int .i64 0, .int .i64 0, .float .f64 0, .string ⟨#[]⟩, .bool false] 41)).drewN (n1 + n3 + n2 + n4))) w.heap.size (.string ⟨#[]⟩) (.int .i64 0) (.int .i64 0) (.int .i64 0) (.float .f64 0) (.string ⟨#[]⟩) (.bool false) (fun j hj => by simp; omega)
  generalize World.setCell _ _ _ = W2 at *
  refine bodyPost_ret (v := .tuple #[cond [] 0 0 0 0 [] false, .bool false]) (by simp [results, Tryz.results42, go_sem, c0, c1, c2, c3, c4, c5, c6]; try rfl) rfl ?_
  exact ⟨rfl, (bdrewN (balloc _ _) _).trans hbz⟩
set_option maxRecDepth 20000 in
set_option maxHeartbeats 2000000 in
theorem one_hasR (s r1 : List UInt8) (w : World) (hs : s.length ≤ 100000) (h : trimP s = [104, 97, 115] ++ 32 :: r1) (h0 : trimP r1 ≠ []) (h32 : 32 ∉ trimP r1) (hl : r1.length ≤ 100000) :
  Calls Tryz.prog 42 #[.string ⟨s.toArray⟩] w fun e w' => e = .returned (oneOut (some ⟨trimP r1, 7, ⟨0, 0, 0, [], false⟩⟩)) ∧ Below w.heap.size w w' := by
 have ht1 := fun W => ptrim_any s W (by unfold maxLen; omega)
 rw [h] at ht1
 have ht2 := fun W => ptrim_any r1 W (by unfold maxLen; omega)
 have hc := fun W => pcut_some 32 [104, 97, 115] r1 W (by decide) (by unfold maxLen; simp; omega)
 have hsp := fun W => no_space h32 W
 have e0 : (trimP r1 == []) = false := by simpa using h0
 have e1 : (trimP r1 != []) = true := by simpa using h0
 generalize trimP r1 = nm at *
 have HT1 := Lib.hid ht1; have HT2 := Lib.hid ht2; have HC := Lib.hid hc; have HSP := Lib.hid hsp
 clear ht1 ht2 hc hsp h h32
 go_enter Tryz.func42, Tryz.ntmps42
 go_wp2_with (first | (go_at_call 40; (with_reducible refine (HT1.out _).mono ?_); rintro e w1 ⟨rfl, n1, rfl⟩) | (go_at_call 40; (with_reducible refine (HT2.out _).mono ?_); rintro e w1 ⟨rfl, n2, rfl⟩) | (go_at_call 39; refine (HC.out _).mono ?_; rintro e w1 ⟨rfl, n3, rfl⟩) | (go_at_call 64; refine (HSP.out _).mono ?_; rintro e w1 ⟨rfl, rfl⟩) | fail)
 obtain ⟨c0, c1, c2, c3, c4, c5, c6, hbz⟩ := set7_at (((w.alloc (.cells #[.string ⟨#[]⟩, .int .i64 0, .int .i64 0, .int .i64 0, .float .f64 0, .string ⟨#[]⟩, .bool false] 41)).drewN (n1 + n3 + n2))) w.heap.size (.string ⟨nm.toArray⟩) (.int .i64 7) (.int .i64 0) (.int .i64 0) (.float .f64 0) (.string ⟨#[]⟩) (.bool false) (fun j hj => by simp; omega)
 generalize World.setCell _ _ _ = W2 at *
 refine bodyPost_ret (v := .tuple #[cond nm 7 0 0 0 [] false, .bool true]) (by simp [results, Tryz.results42, go_sem, c0, c1, c2, c3, c4, c5, c6]; try rfl) rfl ?_
 exact ⟨rfl, (bdrewN (balloc _ _) _).trans hbz⟩
set_option maxRecDepth 20000 in
set_option maxHeartbeats 2000000 in
theorem one_no3 (s nm r1 rs wo r2 r3 : List UInt8) (w : World) (hs : s.length ≤ 100000) (h1 : trimP s = nm ++ 32 :: r1) (h32 : 32 ∉ nm) (h2 : trimP r1 = rs) (hrs : rs = wo ++ 32 :: r2) (hwo : 32 ∉ wo) (h3 : trimP r2 = r3) (hrd : ∀ W, Below w.heap.size w W → Calls Tryz.prog 10 #[.string ⟨r3.toArray⟩] W fun e w' => e = .returned (rdOut none) ∧ Below W.heap.size W w')
  (l1 : nm.length + r1.length ≤ 100000) (l2 : wo.length + r2.length ≤ 100000) :
  Calls Tryz.prog 42 #[.string ⟨s.toArray⟩] w fun e w' => e = .returned (oneOut none) ∧ Below w.heap.size w w' := by
 have ht1 := fun W => ptrim_any s W (by unfold maxLen; omega)
 rw [h1] at ht1
 have ht2 := fun W => ptrim_any r1 W (by unfold maxLen; omega)
 rw [h2] at ht2
 have ht3 := fun W => ptrim_any r2 W (by unfold maxLen; omega)
 rw [h3] at ht3
 have hc1 := fun W => pcut_some 32 nm r1 W h32 (by unfold maxLen; omega)
 have hc2 := fun W => pcut_some 32 wo r2 W hwo (by unfold maxLen; omega)
 rw [← hrs] at hc2
 have hsp := fun W => has_space (l := rs) (by rw [hrs]; simp) W
 have e1 : (rs == []) = false := by rw [hrs]; simp
 have e2 : (rs != []) = true := by rw [hrs]; simp
 unfold rdOut at hrd
 have HT1 := Lib.hid ht1; have HT2 := Lib.hid ht2; have HT3 := Lib.hid ht3; have HC1 := Lib.hid hc1; have HC2 := Lib.hid hc2; have HRD := Lib.hid hrd; have HSP := Lib.hid hsp
 clear ht1 ht2 ht3 hc1 hc2 hrd hsp h1 h2 h3 h32 hwo hrs l1 l2
 cases e0 : (nm == [104, 97, 115])
 all_goals
  go_enter Tryz.func42, Tryz.ntmps42
  go_upto_region 12 with (first | (go_at_call 40; (with_reducible refine (HT1.out _).mono ?_); rintro e w1 ⟨rfl, n1, rfl⟩) | (go_at_call 40; (with_reducible refine (HT2.out _).mono ?_); rintro e w1 ⟨rfl, n2, rfl⟩) | (go_at_call 40; (with_reducible refine (HT3.out _).mono ?_); rintro e w1 ⟨rfl, n3, rfl⟩) | (go_at_call 39; (with_reducible refine (HC1.out _).mono ?_); rintro e w1 ⟨rfl, n4, rfl⟩) | (go_at_call 39; (with_reducible refine (HC2.out _).mono ?_); rintro e w1 ⟨rfl, n5, rfl⟩) | (go_at_call 64; refine (HSP.out _).mono ?_; rintro e w1 ⟨rfl, rfl⟩) | (go_at_call 10; (refine (HRD.out _ (bdrewN (balloc _ _) _)).mono ?_); rintro e w5 ⟨rfl, hb5⟩) | fail)
  obtain ⟨bc, bz, hl5, hbw5⟩ := box_drew hb5
  clear hb5
  have hb6 := balloc w5 (.cells #[.int .i64 0, .int .i64 0, .float .f64 0, .string ⟨#[]⟩, .bool false] 25)
  have hsm := seven_some (X := #[.int .i64 0, .int .i64 0, .float .f64 0, .string ⟨#[]⟩, .bool false]) (T := 25) rfl bc hl5
  have bc6 := fun o => (hb6.cell (p := ⟨w.heap.size, o, none⟩) hl5).trans (bc o)
  have yz := fun o => (hb6.frozen (p := ⟨w.heap.size, o, none⟩) hl5).trans (bz o)
  have HBW := Lib.hid (btrans hbw5 hb6)
  clear bc bz hbw5 hb6
  generalize World.alloc w5 _ = W6 at *
  have y0 := bc6 0; have y1 := bc6 1; have y2 := bc6 2; have y3 := bc6 3; have y4 := bc6 4; have y5 := bc6 5; have y6 := bc6 6
  simp only [List.getElem?_toArray, List.getElem?_cons_zero, List.getElem?_cons_succ] at y0 y1 y2 y3 y4 y5 y6
  have HSM := Lib.hid hsm
  clear bc6 hsm
  generalize w5.heap.size = pv at *
  go_wp2_with fail
  obtain ⟨c0, c1, c2, c3, c4, c5, c6, hbz⟩ := set7_at W6 w.heap.size (.string ⟨#[]⟩) (.int .i64 0) (.int .i64 0) (.int .i64 0) (.float .f64 0) (.string ⟨#[]⟩) (.bool false) HSM.out
  generalize World.setCell _ _ _ = W2 at *
  refine bodyPost_ret (v := .tuple #[cond [] 0 0 0 0 [] false, .bool false]) (by simp [results, Tryz.results42, go_sem, c0, c1, c2, c3, c4, c5, c6]; try rfl) rfl ?_
  exact ⟨rfl, HBW.out.trans hbz⟩
def Word1 (nm wo : List UInt8) (v : V) (e : Ending) : Prop := e = .returned (oneOut ((wordIx wo).map fun (k : Nat) => (⟨nm, (k : Int), v⟩ : C)))
set_option maxRecDepth 20000 in
set_option maxHeartbeats 4000000 in
theorem one_yes (s nm r1 rs wo r2 r3 : List UInt8) (vk vn : Int) (vx : Nat) (vt : List UInt8) (vy : Bool) (w : World) (hw : Words w) (hs : s.length ≤ 100000) (h1 : trimP s = nm ++ 32 :: r1) (h32 : 32 ∉ nm) (h2 : trimP r1 = rs) (hrs : rs = wo ++ 32 :: r2) (hwo : 32 ∉ wo) (h3 : trimP r2 = r3) (hrd : ∀ W, Below w.heap.size w W → Calls Tryz.prog 10 #[.string ⟨r3.toArray⟩] W fun e w' => e = .returned (rdOut (some ⟨vk, vn, vx, vt, vy⟩)) ∧ Below W.heap.size W w')
  (l1 : nm.length + r1.length ≤ 100000) (l2 : wo.length + r2.length ≤ 100000) :
  Calls Tryz.prog 42 #[.string ⟨s.toArray⟩] w fun e w' => Word1 nm wo ⟨vk, vn, vx, vt, vy⟩ e ∧ Below w.heap.size w w' := by
 have ht1 := fun W => ptrim_any s W (by unfold maxLen; omega)
 rw [h1] at ht1
 have ht2 := fun W => ptrim_any r1 W (by unfold maxLen; omega)
 rw [h2] at ht2
 have ht3 := fun W => ptrim_any r2 W (by unfold maxLen; omega)
 rw [h3] at ht3
 have hc1 := fun W => pcut_some 32 nm r1 W h32 (by unfold maxLen; omega)
 have hc2 := fun W => pcut_some 32 wo r2 W hwo (by unfold maxLen; omega)
 rw [← hrs] at hc2
 have hsp := fun W => has_space (l := rs) (by rw [hrs]; simp) W
 have e1 : (rs == []) = false := by rw [hrs]; simp
 have e2 : (rs != []) = true := by rw [hrs]; simp
 have hwd : ∀ n : Nat, n ≤ 7 → ∀ W, Below w.heap.size w W → Calls Tryz.prog 19 #[.int .i64 (n : Int)] W fun e w' => e = .returned (.string ⟨(wordL n).toArray⟩) ∧ W = w' := fun n hn W hb2 => by
  have h := word_any (n : Int) W (hw.below hb2)
  rw [word_b n hn] at h
  exact h
 unfold rdOut at hrd
 have HT1 := Lib.hid ht1; have HT2 := Lib.hid ht2; have HT3 := Lib.hid ht3; have HC1 := Lib.hid hc1; have HC2 := Lib.hid hc2; have HRD := Lib.hid hrd; have HWD := Lib.hid hwd; have HSP := Lib.hid hsp
 clear ht1 ht2 ht3 hc1 hc2 hrd hwd hsp h1 h2 h3 h32 hw hwo hrs l1 l2
 cases e0 : (nm == [104, 97, 115])
 all_goals
  go_enter Tryz.func42, Tryz.ntmps42
  go_upto_region 15 with (first | (go_at_call 40; (with_reducible refine (HT1.out _).mono ?_); rintro e w1 ⟨rfl, n1, rfl⟩) | (go_at_call 40; (with_reducible refine (HT2.out _).mono ?_); rintro e w1 ⟨rfl, n2, rfl⟩) | (go_at_call 40; (with_reducible refine (HT3.out _).mono ?_); rintro e w1 ⟨rfl, n3, rfl⟩) | (go_at_call 39; (with_reducible refine (HC1.out _).mono ?_); rintro e w1 ⟨rfl, n4, rfl⟩) | (go_at_call 39; (with_reducible refine (HC2.out _).mono ?_); rintro e w1 ⟨rfl, n5, rfl⟩) | (go_at_call 64; refine (HSP.out _).mono ?_; rintro e w1 ⟨rfl, rfl⟩) | (go_at_call 10; (refine (HRD.out _ (bdrewN (balloc _ _) _)).mono ?_); rintro e w5 ⟨rfl, hb5⟩) | fail)
  have hlw : w.heap.size < ((w.alloc (.cells #[.string ⟨#[]⟩, .int .i64 0, .int .i64 0, .int .i64 0, .float .f64 0, .string ⟨#[]⟩, .bool false] 41)).drewN (n1 + n4 + n2 + n5 + n3)).heap.size := by simp
  have y0 : w5.cell? ⟨w.heap.size, 0, none⟩ = some (.string ⟨#[]⟩) := (hb5.cell (p := ⟨w.heap.size, 0, none⟩) hlw).trans (by simp [go_sem])
  have y1 : w5.cell? ⟨w.heap.size, 1, none⟩ = some (.int .i64 0) := (hb5.cell (p := ⟨w.heap.size, 1, none⟩) hlw).trans (by simp [go_sem])
  have y2 : w5.cell? ⟨w.heap.size, 2, none⟩ = some (.int .i64 0) := (hb5.cell (p := ⟨w.heap.size, 2, none⟩) hlw).trans (by simp [go_sem])
  have y3 : w5.cell? ⟨w.heap.size, 3, none⟩ = some (.int .i64 0) := (hb5.cell (p := ⟨w.heap.size, 3, none⟩) hlw).trans (by simp [go_sem])
  have y4 : w5.cell? ⟨w.heap.size, 4, none⟩ = some (.float .f64 0) := (hb5.cell (p := ⟨w.heap.size, 4, none⟩) hlw).trans (by simp [go_sem])
  have y5 : w5.cell? ⟨w.heap.size, 5, none⟩ = some (.string ⟨#[]⟩) := (hb5.cell (p := ⟨w.heap.size, 5, none⟩) hlw).trans (by simp [go_sem])
  have y6 : w5.cell? ⟨w.heap.size, 6, none⟩ = some (.bool false) := (hb5.cell (p := ⟨w.heap.size, 6, none⟩) hlw).trans (by simp [go_sem])
  have yz : ∀ o, w5.frozen? ⟨w.heap.size, o, none⟩ = false := fun o => (hb5.frozen (p := ⟨w.heap.size, o, none⟩) hlw).trans (by simp)
  have hl5 : w.heap.size < w5.heap.size := Nat.lt_of_lt_of_le hlw hb5.size
  have hbw5 : Below w.heap.size w w5 := btrans (bdrewN (balloc _ _) _) hb5
  have hb6 := balloc w5 (.cells #[.int .i64 vk, .int .i64 vn, .float .f64 vx, .string ⟨vt.toArray⟩, .bool vy] 25)
  generalize hW6 : World.alloc w5 _ = W6 at *
  replace y0 : W6.cell? ⟨w.heap.size, 0, none⟩ = some (.string ⟨#[]⟩) := (hb6.cell (p := ⟨w.heap.size, 0, none⟩) hl5).trans y0
  replace y1 : W6.cell? ⟨w.heap.size, 1, none⟩ = some (.int .i64 0) := (hb6.cell (p := ⟨w.heap.size, 1, none⟩) hl5).trans y1
  replace y2 : W6.cell? ⟨w.heap.size, 2, none⟩ = some (.int .i64 0) := (hb6.cell (p := ⟨w.heap.size, 2, none⟩) hl5).trans y2
  replace y3 : W6.cell? ⟨w.heap.size, 3, none⟩ = some (.int .i64 0) := (hb6.cell (p := ⟨w.heap.size, 3, none⟩) hl5).trans y3
  replace y4 : W6.cell? ⟨w.heap.size, 4, none⟩ = some (.float .f64 0) := (hb6.cell (p := ⟨w.heap.size, 4, none⟩) hl5).trans y4
  replace y5 : W6.cell? ⟨w.heap.size, 5, none⟩ = some (.string ⟨#[]⟩) := (hb6.cell (p := ⟨w.heap.size, 5, none⟩) hl5).trans y5
  replace y6 : W6.cell? ⟨w.heap.size, 6, none⟩ = some (.bool false) := (hb6.cell (p := ⟨w.heap.size, 6, none⟩) hl5).trans y6
  replace yz : ∀ o, W6.frozen? ⟨w.heap.size, o, none⟩ = false := fun o => (hb6.frozen (p := ⟨w.heap.size, o, none⟩) hl5).trans (yz o)
  have v0 : W6.cell? ⟨w5.heap.size, 0, none⟩ = some (.int .i64 vk) := by rw [← hW6]; exact World.cell?_alloc_at _ _ _ _ rfl
  have v1 : W6.cell? ⟨w5.heap.size, 1, none⟩ = some (.int .i64 vn) := by rw [← hW6]; exact World.cell?_alloc_at _ _ _ _ rfl
  have v2 : W6.cell? ⟨w5.heap.size, 2, none⟩ = some (.float .f64 vx) := by rw [← hW6]; exact World.cell?_alloc_at _ _ _ _ rfl
  have v3 : W6.cell? ⟨w5.heap.size, 3, none⟩ = some (.string ⟨vt.toArray⟩) := by rw [← hW6]; exact World.cell?_alloc_at _ _ _ _ rfl
  have v4 : W6.cell? ⟨w5.heap.size, 4, none⟩ = some (.bool vy) := by rw [← hW6]; exact World.cell?_alloc_at _ _ _ _ rfl
  have HBW := Lib.hid (btrans hbw5 hb6)
  have HCS := Lib.hid (show ∀ j, j < 7 → (W6.cell? ⟨w.heap.size, j, none⟩).isSome = true from fun i hi => by
   have hi' : i = 0 ∨ i = 1 ∨ i = 2 ∨ i = 3 ∨ i = 4 ∨ i = 5 ∨ i = 6 := by omega
   rcases hi' with rfl | rfl | rfl | rfl | rfl | rfl | rfl
   ·rw [y0]; rfl
   ·rw [y1]; rfl
   ·rw [y2]; rfl
   ·rw [y3]; rfl
   ·rw [y4]; rfl
   ·rw [y5]; rfl
   ·rw [y6]; rfl)
  clear hb5 hb6 hbw5 hW6 hlw
  generalize w5.heap.size = pv at *
  go_loop [10] (fun vk => ∃ j : Nat, j ≤ 7 ∧ vk = .int .i64 (j : Int) ∧ ∀ n : Nat, n < j → (wordL n == wo) = false) (fun vk => 7 - (intOf vk).toNat)
  case atStart => exact ⟨0, Nat.zero_le _, rfl, fun n hn => absurd hn (by omega)⟩
  case round =>
   obtain ⟨j, hj, rfl, hno⟩ := hrel
   have HNO := Lib.hid hno
   clear hno
   have i2 : (0 : Int) ≤ (j : Int) := by omega
   by_cases hj7 : j = 7
   ·subst hj7
    go_wp2_with fail
    obtain ⟨k0, k1, k2, k3, k4, k5, k6, hbz⟩ := set7_at W6 w.heap.size (.string ⟨#[]⟩) (.int .i64 0) (.int .i64 0) (.int .i64 0) (.float .f64 0) (.string ⟨#[]⟩) (.bool false) HCS.out
    generalize World.setCell _ _ _ = W2 at *
    refine bodyPost_ret (v := .tuple #[cond [] 0 0 0 0 [] false, .bool false]) (by simp [results, Tryz.results42, go_sem, k0, k1, k2, k3, k4, k5, k6]; try rfl) rfl ?_
    refine ⟨?_, HBW.out.trans hbz⟩
    unfold Word1
    rw [wordIx_none (fun n hn => HNO.out n (by omega))]
    rfl
   ·have i1 : (j : Int) < 7 := by omega
    cases heq : (wordL j == wo)
    ·go_wp2_with (first | (go_at_call 19; (refine (HWD.out j (by omega) _ HBW.out).mono ?_); rintro e w9 ⟨rfl, rfl⟩) | fail)
     refine ⟨⟨j + 1, by omega, by go_num, fun n hn => ?_⟩, by simp [intOf]; go_num⟩
     rcases Nat.lt_or_ge n j with g | g
     ·exact HNO.out n g
     ·obtain rfl : n = j := by omega
      exact heq
    ·have HW2 := Lib.hid (eq_of_beq heq)
     go_wp2_with (first | (go_at_call 19; (refine (HWD.out j (by omega) _ HBW.out).mono ?_); rintro e w9 ⟨rfl, rfl⟩) | fail)
     obtain ⟨k0, k1, k2, k3, k4, k5, k6, hbz⟩ := set7_at W6 w.heap.size (.string ⟨nm.toArray⟩) (.int .i64 (j : Int)) (.int .i64 vk) (.int .i64 vn) (.float .f64 vx) (.string ⟨vt.toArray⟩) (.bool vy) HCS.out
     generalize World.setCell _ _ _ = W2 at *
     refine bodyPost_ret (v := .tuple #[cond nm (j : Int) vk vn vx vt vy, .bool true]) (by simp [results, Tryz.results42, go_sem, k0, k1, k2, k3, k4, k5, k6]; try rfl) rfl ?_
     refine ⟨?_, HBW.out.trans hbz⟩
     unfold Word1
     rw [← HW2.out, wordIx_at j (by omega)]
     rfl
def cut1 (s : List UInt8) : Option (List UInt8 × List UInt8) := if 32 ∈ s then some (s.takeWhile (· != 32), (s.dropWhile (· != 32)).drop 1) else none
theorem cut1_some : ∀ (a b : List UInt8), 32 ∉ a → cut1 (a ++ 32 :: b) = some (a, b) := by
 intro a b h
 unfold cut1
 rw [if_pos (by simp)]
 have h1 : ∀ x ∈ a, (x != 32) = true := fun x hx => by
  rw [bne_iff_ne]; rintro rfl; exact h hx
 rw [List.takeWhile_append_of_pos h1, List.dropWhile_append_of_pos h1]
 simp
theorem cut1_none {s : List UInt8} (h : 32 ∉ s) : cut1 s = none := if_neg h
theorem cut1_ways (s : List UInt8) : (32 ∉ s ∧ cut1 s = none) ∨ ∃ a b, s = a ++ 32 :: b ∧ 32 ∉ a ∧ cut1 s = some (a, b) := by
 rcases byte_cases 32 s with ⟨_, h⟩ | ⟨a, b, e, h, _⟩
 ·exact .inl ⟨h, cut1_none h⟩
 ·exact .inr ⟨a, b, e, h, by rw [e]; exact cut1_some a b h⟩
inductive Shape where
 | bad
 | has (nm : List UInt8)
 | cmp (nm wo vt : List UInt8)
def shape (s : List UInt8) : Shape :=
 match cut1 (trimP s) with
 | none => .bad
 | some (nm, r1) =>
  if nm = [104, 97, 115] ∧ trimP r1 ≠ [] ∧ 32 ∉ trimP r1 then .has (trimP r1) else
  match cut1 (trimP r1) with
  | none => .bad
  | some (wo, r2) => .cmp nm wo (trimP r2)
def oneC (rd : List UInt8 → Option V) (s : List UInt8) : Option C :=
 match shape s with
 | .bad => none
 | .has nm => some ⟨nm, 7, ⟨0, 0, 0, [], false⟩⟩
 | .cmp nm wo vt => match rd vt with
  | none => none
  | some v => (wordIx wo).map fun (k : Nat) => (⟨nm, (k : Int), v⟩ : C)
theorem trimP_le (s : List UInt8) : (trimP s).length ≤ s.length := by
 show (Lib.trimLeftB (Lib.trimRightB s 32) 32).length ≤ _
 unfold Lib.trimLeftB Lib.trimRightB
 have h1 := (List.dropWhile_sublist (· == (32 : UInt8)) (l := (s.reverse.dropWhile (· == 32)).reverse)).length_le
 have h2 := (List.dropWhile_sublist (· == (32 : UInt8)) (l := s.reverse)).length_le
 rw [List.length_reverse] at h1 h2
 omega
theorem one_any (s : List UInt8) (rd : List UInt8 → Option V) (w : World) (hw : Words w) (hs : s.length ≤ 100000)
  (hrd : ∀ nm wo vt, shape s = .cmp nm wo vt → ∀ W, Below w.heap.size w W → Calls Tryz.prog 10 #[.string ⟨vt.toArray⟩] W fun e w' => e = .returned (rdOut (rd vt)) ∧ Below W.heap.size W w') :
  Calls Tryz.prog 42 #[.string ⟨s.toArray⟩] w fun e w' => e = .returned (oneOut (oneC rd s)) ∧ Below w.heap.size w w' := by
 have hl0 := trimP_le s
 rcases cut1_ways (trimP s) with ⟨h, hc⟩ | ⟨nm, r1, h1, h32, hc⟩
 ·have e : oneC rd s = none := by unfold oneC shape; rw [hc]
  rw [e]
  exact one_no1 s w hs h
 have hl1 : nm.length + r1.length ≤ 100000 := by have := congrArg List.length h1; simp at this; omega
 have hl2 := trimP_le r1
 by_cases hh : nm = [104, 97, 115] ∧ trimP r1 ≠ [] ∧ 32 ∉ trimP r1
 ·have e : oneC rd s = some ⟨trimP r1, 7, ⟨0, 0, 0, [], false⟩⟩ := by
   have : shape s = .has (trimP r1) := by
    unfold shape
    rw [hc]
    simp only
    rw [if_pos hh]
   unfold oneC
   rw [this]
  rw [e]
  obtain ⟨rfl, h0, h3⟩ := hh
  exact one_hasR s r1 w hs h1 h0 h3 (by omega)
 ·rcases cut1_ways (trimP r1) with ⟨h, hc2⟩ | ⟨wo, r2, h2, hwo, hc2⟩
  ·have e : oneC rd s = none := by
    have : shape s = .bad := by
     unfold shape
     rw [hc]
     simp only
     rw [if_neg hh, hc2]
    unfold oneC
    rw [this]
   rw [e]
   refine one_no2 s nm r1 (trimP r1) w hs h1 h32 rfl h ?_ hl1
   by_cases hn : nm = [104, 97, 115]
   ·right
    by_cases h0 : trimP r1 = []
    ·exact h0
    ·exact absurd ⟨hn, h0, h⟩ hh
   ·left
    rw [beq_eq_false_iff_ne]
    exact hn
  ·have hl3 : wo.length + r2.length ≤ 100000 := by have := congrArg List.length h2; simp at this; omega
   have hsh : shape s = .cmp nm wo (trimP r2) := by
    unfold shape
    rw [hc]
    simp only
    rw [if_neg hh, hc2]
   have hrd2 := hrd nm wo (trimP r2) hsh
   unfold oneC
   rw [hsh]
   simp only
   cases hv : rd (trimP r2) with
   | none =>
    rw [hv] at hrd2
    exact one_no3 s nm r1 (trimP r1) wo r2 (trimP r2) w hs h1 h32 rfl h2 hwo rfl hrd2 hl1 hl3
   | some v =>
    rw [hv] at hrd2
    obtain ⟨vk, vn, vx, vt, vy⟩ := v
    exact one_yes s nm r1 (trimP r1) wo r2 (trimP r2) vk vn vx vt vy w hw hs h1 h32 rfl h2 hwo rfl hrd2 hl1 hl3
end Go.Proofs.YtnccpddjdgndcaaGreatDoor.Pa
end

section
/- THE WALK OF parse.Filter AT ANY TEXT, whatever parse.one answers of its pieces. -/
namespace Go.Proofs.YtnccpddjdgndcaaGreatDoor.Pa
open Go.RowKit Flt Go.Proofs.YtnccpddjdgndcaaGreatDoor.Val
attribute [local go_sem] run_store_flt
set_option maxRecDepth 20000 in
set_option maxHeartbeats 4000000 in
theorem pfilter_no (sc rest : List UInt8) (cs : List C) (w : World) (h58 : 58 ∉ sc) (hl : sc.length + rest.length + 1 ≤ 100000) (hne : trimP rest ≠ []) (hlen : cs.length < (cutP rest).length) (hc20 : (cutP rest).length ≤ 200000)
  (hone : ∀ i (h : i < cs.length) W, Below w.heap.size w W → Calls Tryz.prog 42 #[.string ⟨((cutP rest)[i]'(by omega)).toArray⟩] W fun e w' => e = .returned (.tuple #[cc cs[i], .bool true]) ∧ Below W.heap.size W w')
  (hno : ∀ W, Below w.heap.size w W → Calls Tryz.prog 42 #[.string ⟨((cutP rest)[cs.length]'hlen).toArray⟩] W fun e w' => e = .returned (.tuple #[cond [] 0 0 0 0 [] false, .bool false]) ∧ Below W.heap.size W w') :
  Calls Tryz.prog 18 #[.string ⟨(sc ++ 58 :: rest).toArray⟩] w fun e w' => e = .returned (.tuple #[ev [] none 0 0, .int .i64 1]) ∧ Below w.heap.size w w' := by
 obtain ⟨N, hN⟩ : ∃ N, (cutP rest).length = N := ⟨_, rfl⟩
 obtain ⟨i0, hi, hz0, hz1, hz2⟩ := info_parts info_cond
 have hcu := fun W => pcut_some 58 sc rest W h58 (by unfold maxLen; omega)
 have ht1 := fun W => ptrim_any sc W (by unfold maxLen; omega)
 have ht2 := fun W => ptrim_any rest W (by unfold maxLen; omega)
 have hpi := fun W => pieces_any ⟨rest.toArray⟩ W (by show rest.toArray.size ≤ _; simp; omega)
 have hpi2 : ∀ W, Calls Tryz.prog 41 #[.string ⟨rest.toArray⟩] W fun e w' => (∃ b0 cap, e = .returned (.slice b0 N cap) ∧ Strs w' b0 (cutP rest) ∧ ∀ a, b0 = some a → W.heap.size ≤ a.block) ∧ Below W.heap.size W w' := fun W => by
  have h := hpi W
  rw [show (⟨rest.toArray⟩ : ByteArray).data.toList = rest from rfl, hN] at h
  exact h
 have e0 : (trimP rest == []) = false := by simpa using hne
 have e1 : (trimP rest != []) = true := by simpa using hne
 generalize htr : trimP rest = tr at *
 generalize hts : trimP sc = ts at *
 have HCU := Lib.hid hcu; have HT1 := Lib.hid ht1; have HT2 := Lib.hid ht2; have HPI := Lib.hid hpi2; have HONE := Lib.hid hone; have HNO := Lib.hid hno; have HN0 := Lib.hid hN; have hlt := hlen; rw [hN] at hlt; rw [hN] at hc20; have HLEN := Lib.hid hlen
 clear hcu ht1 ht2 hpi hpi2 hone hno h58 htr hts hl hN
 go_enter Tryz.func18, Tryz.ntmps18
 go_upto_region 7 with (first | (go_at_call 39; (with_reducible refine (HCU.out _).mono ?_); rintro e w1 ⟨rfl, n1, rfl⟩) | (go_at_call 40; (with_reducible refine (HT1.out _).mono ?_); rintro e w1 ⟨rfl, n2, rfl⟩) | (go_at_call 40; (with_reducible refine (HT2.out _).mono ?_); rintro e w1 ⟨rfl, n3, rfl⟩) | (go_at_call 41; (with_reducible refine (HPI.out _).mono ?_); rintro e w6 ⟨⟨b0, cap, rfl, hst, hbl⟩, hb6⟩) | fail)
 obtain ⟨W5, hW5⟩ : ∃ W5, W5 = ((((w.alloc (.cells #[.string ⟨#[]⟩, .slice none 0 0] 35)).drewN (n1 + n2)).alloc (.cells #[.string ⟨ts.toArray⟩, .slice none 0 0] 35)).drewN n3) := ⟨_, rfl⟩
 obtain ⟨⟨r0, r1, rz⟩, ⟨f0, f1, fz⟩, hs5, hb5⟩ := fil_start w (n1 + n2) n3 ts hW5
 rw [← hW5] at hb6 hbl
 have hb56 : Below w.heap.size w w6 := hb5.trans (hb6.mono (by omega))
 have hs6 := hb6.size
 have hpr : w.heap.size < W5.heap.size := by omega
 have hpf : w.heap.size + 1 < W5.heap.size := by omega
 have HR := Lib.hid (show w6.cell? ⟨w.heap.size, 0, none⟩ = some (.string ⟨#[]⟩) ∧ w6.cell? ⟨w.heap.size, 1, none⟩ = some (.slice none 0 0) ∧ ∀ o, w6.frozen? ⟨w.heap.size, o, none⟩ = false from ⟨(hb6.cell (p := ⟨w.heap.size, 0, none⟩) hpr).trans r0, (hb6.cell (p := ⟨w.heap.size, 1, none⟩) hpr).trans r1, fun o => (hb6.frozen (p := ⟨w.heap.size, o, none⟩) hpr).trans (rz o)⟩)
 have g0 := (hb6.cell (p := ⟨w.heap.size + 1, 0, none⟩) hpf).trans f0
 have g1 := (hb6.cell (p := ⟨w.heap.size + 1, 1, none⟩) hpf).trans f1
 have gz := (hb6.frozen (p := ⟨w.heap.size + 1, 1, none⟩) hpf).trans (fz 1)
 have hbl2 : ∀ a, b0 = some a → a.block ≠ w.heap.size + 1 := fun a e => by have := hbl a e; omega
 have hbase : w.heap.size + 1 < w6.heap.size := by omega
 have HST := Lib.hid hst; have HBL := Lib.hid hbl2; have HB56 := Lib.hid hb56
 clear hst hbl hbl2 hb5 hb6 hb56 r0 r1 rz f0 f1 fz hs5 hs6 hpr hpf hW5
 go_loopw [30] (fun vi wr => ∃ (k : Nat) (v : Value), k ≤ cs.length ∧ vi = .int .i64 k ∧ wr.cell? ⟨w.heap.size + 1, 0, none⟩ = some (.string ⟨ts.toArray⟩) ∧ wr.cell? ⟨w.heap.size + 1, 1, none⟩ = some v ∧ wr.frozen? ⟨w.heap.size + 1, 1, none⟩ = false ∧ wr.ownsRow w6.heap.size 41 7 v (cs.take k).length (flatC (cs.take k)) ∧ NK (w.heap.size + 1) w6 wr) (fun vi _ => cs.length - (intOf vi).toNat)
 case atStart => exact ⟨0, .slice none 0 0, Nat.zero_le _, rfl, g0, g1, gz, World.ownsRow_nil _ _ _ _, NK.refl _ _⟩
 case round =>
  obtain ⟨k, v, hk, rfl, o0, o1, ofz, hown, hnk⟩ := hrel
  clear g0 g1 gz
  have hpfr : w.heap.size + 1 < wr.heap.size := Nat.lt_of_lt_of_le hbase hnk.size
  have hbw : Below w.heap.size w wr := HB56.out.trans (hnk.low (by omega) (by omega))
  have OWN := Lib.hid hown; have HNK := Lib.hid hnk; have HBW := Lib.hid hbw
  have hnks := hnk.size
  clear hown hnk hbw
  have i1 : (k : Int) < (N : Int) := by omega
  by_cases hkl : k < cs.length
  ·have i2 : (0 : Int) ≤ (k : Int) := by omega
   obtain ⟨a, rfl, hpc⟩ := (HST.out.nk HNK.out HBL.out) k (by rw [HN0.out]; omega)
   have hn := fun W => HONE.out k hkl W
   have hstep : cs.take (k + 1) = cs.take k ++ [cs[k]] := List.take_succ_eq_append_getElem hkl
   have htk : (cs.take k).length = k := by rw [List.length_take]; omega
   generalize (cutP rest)[k]'_ = pc at *
   generalize cs[k] = c at *
   have HN := Lib.hid hn; have HSTEP := Lib.hid hstep
   clear hn hstep
   obtain ⟨cn1, cn2, cn3, cn4, cn5, cn6, cn7⟩ := c
   go_wp2_with (first | (go_at_call 42; (refine (HN.out _ HBW.out).mono ?_); rintro e w3 ⟨rfl, hb3⟩; have HB3 := Lib.hid hb3; have OWN3 := Lib.hid (own_low7 OWN.out hb3); have hpf3 : w.heap.size + 1 < w3.heap.size := Nat.lt_of_lt_of_le hpfr hb3.size; have q1 := (hb3.cell (p := ⟨w.heap.size + 1, 1, none⟩) hpfr).trans o1; have qz := (hb3.frozen (p := ⟨w.heap.size + 1, 1, none⟩) hpfr).trans ofz; clear hb3) | (at_builtin; refine wpList_append_own _ rfl _ _ 33 rfl w6.heap.size 41 i0 (.agg #[.string .empty, .int .i64 0, .int .i64 0, .int .i64 0, .float .f64 0, .string .empty, .bool false]) 7 72 Tryz.underlying33 hi hz0 hz1 hz2 rfl (by decide) v _ _ rfl ((OWN3.out.alloc _).alloc _) ⟨w3.heap.size + 1, 0, none⟩ 1 1 (flatC [⟨cn1, cn2, cn3, cn4, cn5, cn6, cn7⟩]) rfl rfl ?news (flatC_one _) (by unfold maxLen; omega) (by omega) (by have := HB3.out.size; simp at *; omega) ?_; rotate_left; (case news => exact new_cond _ _ (by simp) _ _); intro v' w4 hown' hgrow3 hnil3; have hb7 := btrans HB3.out (balloc2 w3 (.cells #[.string ⟨cn1.toArray⟩, .int .i64 cn2, .int .i64 cn3, .int .i64 cn4, .float .f64 cn5, .string ⟨cn6.toArray⟩, .bool cn7] 41) (.cells #[.string ⟨cn1.toArray⟩, .int .i64 cn2, .int .i64 cn3, .int .i64 cn4, .float .f64 cn5, .string ⟨cn6.toArray⟩, .bool cn7] 41)); have hg1 := hgrow3.block (w.heap.size + 1) (by have := hb7.size; omega) (fun h => by have := (OWN.out.lt _ h.symm).1; omega); have p0 := (World.cell?_of_block (a := ⟨w.heap.size + 1, 0, none⟩) hg1).trans ((hb7.cell (p := ⟨w.heap.size + 1, 0, none⟩) hpfr).trans o0); have p1 := (World.cell?_of_block (a := ⟨w.heap.size + 1, 1, none⟩) hg1).trans ((hb7.cell (p := ⟨w.heap.size + 1, 1, none⟩) hpfr).trans o1); have pfz := (World.frozen?_of_block (a := ⟨w.heap.size + 1, 1, none⟩) hg1).trans ((hb7.frozen (p := ⟨w.heap.size + 1, 1, none⟩) hpfr).trans ofz); have hnk4 : NK (w.heap.size + 1) w6 w4 := nk_grown HNK.out hb7 hgrow3 (fun q hq => OWN.out.lt q hq); have hown2 : w4.ownsRow w6.heap.size 41 7 v' (cs.take k ++ [(⟨cn1, cn2, cn3, cn4, cn5, cn6, cn7⟩ : C)]).length (flatC (cs.take k ++ [(⟨cn1, cn2, cn3, cn4, cn5, cn6, cn7⟩ : C)])) := (by rw [flatC_app, List.length_append]; exact hown'); obtain ⟨b1, cp1, hv1, _⟩ := own_conds hown2; subst hv1; have OWN4 := Lib.hid hown2; have HNK4 := Lib.hid hnk4; clear hown' hown2 hgrow3 hnil3 hb7 hg1 hnk4) | fail)
   have o4 := OWN4.out
   refine ⟨⟨k + 1, _, by omega, by go_num, (World.cell?_setCell_other _ _ _ _ (by simp)).trans p0, World.cell?_setCell_same _ _ _ p1, by rw [World.frozen?_setCell]; exact pfz, ?_, HNK4.out.trans (nk_set _ _ _ _)⟩, by simp [intOf]; go_num⟩
   have el : (cs.take k ++ [(⟨cn1, cn2, cn3, cn4, cn5, cn6, cn7⟩ : C)]).length = k + 1 := by simp [htk]
   rw [HSTEP.out, el]
   rw [el] at o4
   exact ownsRow_setCell_below (a := ⟨w.heap.size + 1, 1, none⟩) o4 hbase _
  ·obtain rfl : k = cs.length := by omega
   have i2 : (0 : Int) ≤ (cs.length : Int) := by omega
   obtain ⟨a, rfl, hpc⟩ := (HST.out.nk HNK.out HBL.out) cs.length HLEN.out
   have hn := fun W => HNO.out W
   generalize (cutP rest)[cs.length]'_ = pc at *
   have HN := Lib.hid hn
   clear hn
   have hq0 := (HNK.out.cell (p := ⟨w.heap.size, 0, none⟩) (by show w.heap.size < _; omega) (by show w.heap.size ≠ _; omega)).trans HR.out.1
   have hq1 := (HNK.out.cell (p := ⟨w.heap.size, 1, none⟩) (by show w.heap.size < _; omega) (by show w.heap.size ≠ _; omega)).trans HR.out.2.1
   have hqz : ∀ o, wr.frozen? ⟨w.heap.size, o, none⟩ = false := fun o => (HNK.out.frozen (p := ⟨w.heap.size, o, none⟩) (by show w.heap.size < _; omega) (by show w.heap.size ≠ _; omega)).trans (HR.out.2.2 o)
   have hlw : w.heap.size < wr.heap.size := by omega
   clear OWN HNK HR HONE HPI HT1 HT2 HCU HST
   go_wp2_with (first | (go_at_call 42; (refine (HN.out _ HBW.out).mono ?_); rintro e w3 ⟨rfl, hb3⟩; have hl3 : w.heap.size < w3.heap.size := Nat.lt_of_lt_of_le hlw hb3.size; have q0 := (hb3.cell (p := ⟨w.heap.size, 0, none⟩) hlw).trans hq0; have q1 := (hb3.cell (p := ⟨w.heap.size, 1, none⟩) hlw).trans hq1; have qz := fun o => (hb3.frozen (p := ⟨w.heap.size, o, none⟩) hlw).trans (hqz o)) | fail)
   obtain ⟨c0, c1, hbz⟩ := set2_at w3 w.heap.size (.string ⟨#[]⟩) (.slice none 0 0) q0 q1
   have hlz := Nat.lt_of_lt_of_le hl3 hbz.size
   generalize World.setCell (World.setCell _ _ _) _ _ = Wz at *
   have hb4 := balloc Wz (.cells #[.string ⟨#[]⟩, .int .i64 0, .int .i64 0, .int .i64 0, .float .f64 0, .string ⟨#[]⟩, .bool false] 41)
   have d0 := (hb4.cell (p := ⟨w.heap.size, 0, none⟩) hlz).trans c0
   have d1 := (hb4.cell (p := ⟨w.heap.size, 1, none⟩) hlz).trans c1
   refine bodyPost_ret (v := .tuple #[ev [] none 0 0, .int .i64 1]) (by simp [results, Tryz.results18, go_sem, d0, d1]; try rfl) rfl ?_
   exact ⟨rfl, (btrans HBW.out hb3).trans (hbz.trans (hb4.mono (Nat.le_of_lt hlz)))⟩
set_option maxRecDepth 20000 in
set_option maxHeartbeats 1000000 in
theorem pfilter_none (sc rest : List UInt8) (w : World) (h58 : 58 ∉ sc) (hl : sc.length + rest.length + 1 ≤ 100000) (hne : trimP rest = []) :
  Calls Tryz.prog 18 #[.string ⟨(sc ++ 58 :: rest).toArray⟩] w fun e w' => Made (trimP sc) [] e w' ∧ Below w.heap.size w w' := by
 have htl := trimP_le sc
 have hcu := fun W => pcut_some 58 sc rest W h58 (by unfold maxLen; omega)
 have ht1 := fun W => ptrim_any sc W (by unfold maxLen; omega)
 have ht2 := fun W => ptrim_any rest W (by unfold maxLen; omega)
 rw [hne] at ht2
 have hrt : ∀ W, Calls Tryz.prog 21 #[ev (trimP sc) none 0 0] W fun e w' => e = .returned (.bool (fRight (trimP sc) [])) ∧ Below W.heap.size W w' := fun W => fright_any (trimP sc) none 0 [] W (fun i hi => absurd hi (by simp)) (by decide) (by omega) (by simp)
 have hm : ∀ e w', Made (trimP sc) [] e w' = if 6 < ([] : List C).length then e = .returned (.tuple #[ev [] none 0 0, .int .i64 2]) else if fRight (trimP sc) [] = true then ∃ b0 cp, e = .returned (.tuple #[ev (trimP sc) b0 ([] : List C).length cp, .int .i64 0]) ∧ Conds w' b0 [] else e = .returned (.tuple #[ev [] none 0 0, .int .i64 1]) := fun e w' => rfl
 generalize fRight (trimP sc) [] = FR at *
 generalize hts : trimP sc = ts at *
 have HCU := Lib.hid hcu; have HT1 := Lib.hid ht1; have HT2 := Lib.hid ht2; have HRT := Lib.hid hrt; have HM := Lib.hid hm
 clear hcu ht1 ht2 hrt hm h58 hts hl htl hne
 go_enter Tryz.func18, Tryz.ntmps18
 go_upto_region 16 with (first | (go_at_call 39; (with_reducible refine (HCU.out _).mono ?_); rintro e w1 ⟨rfl, n1, rfl⟩) | (go_at_call 40; (with_reducible refine (HT1.out _).mono ?_); rintro e w1 ⟨rfl, n2, rfl⟩) | (go_at_call 40; (with_reducible refine (HT2.out _).mono ?_); rintro e w1 ⟨rfl, n3, rfl⟩) | fail)
 obtain ⟨W5, hW5⟩ : ∃ W5, W5 = ((((w.alloc (.cells #[.string ⟨#[]⟩, .slice none 0 0] 35)).drewN (n1 + n2)).alloc (.cells #[.string ⟨ts.toArray⟩, .slice none 0 0] 35)).drewN n3) := ⟨_, rfl⟩
 obtain ⟨⟨r0, r1, rz⟩, ⟨f0, f1, fz⟩, hs5, hb5⟩ := fil_start w (n1 + n2) n3 ts hW5
 rw [← hW5]
 have hpr : w.heap.size < W5.heap.size := by omega
 have hpf : w.heap.size + 1 < W5.heap.size := by omega
 clear hW5 hs5
 cases FR
 ·go_wp2_with (first | (go_at_call 21; (with_reducible refine (HRT.out _).mono ?_); rintro e w7 ⟨rfl, hb7⟩; have q0 := (hb7.cell (p := ⟨w.heap.size, 0, none⟩) hpr).trans r0; have q1 := (hb7.cell (p := ⟨w.heap.size, 1, none⟩) hpr).trans r1; have qz := fun o => (hb7.frozen (p := ⟨w.heap.size, o, none⟩) hpr).trans (rz o)) | fail)
  obtain ⟨c0, c1, hbz⟩ := set2_at w7 w.heap.size (.string ⟨#[]⟩) (.slice none 0 0) q0 q1
  generalize World.setCell (World.setCell _ _ _) _ _ = Wz at *
  refine bodyPost_ret (v := .tuple #[ev [] none 0 0, .int .i64 1]) (by simp [results, Tryz.results18, go_sem, c0, c1]; try rfl) rfl ?_
  refine ⟨?_, (btrans hb5 hb7).trans hbz⟩
  rw [HM.out, if_neg (by decide)]
  simp
 ·go_wp2_with (first | (go_at_call 21; (with_reducible refine (HRT.out _).mono ?_); rintro e w7 ⟨rfl, hb7⟩; have q0 := (hb7.cell (p := ⟨w.heap.size, 0, none⟩) hpr).trans r0; have q1 := (hb7.cell (p := ⟨w.heap.size, 1, none⟩) hpr).trans r1; have qz := fun o => (hb7.frozen (p := ⟨w.heap.size, o, none⟩) hpr).trans (rz o); have x0 := (hb7.cell (p := ⟨w.heap.size + 1, 0, none⟩) hpf).trans f0; have x1 := (hb7.cell (p := ⟨w.heap.size + 1, 1, none⟩) hpf).trans f1) | fail)
  obtain ⟨c0, c1, hbz⟩ := set2_at w7 w.heap.size (.string ⟨ts.toArray⟩) (.slice none 0 0) q0 q1
  generalize World.setCell (World.setCell _ _ _) _ _ = Wz at *
  refine bodyPost_ret (v := .tuple #[ev ts none 0 0, .int .i64 0]) (by simp [results, Tryz.results18, go_sem, c0, c1]; try rfl) rfl ?_
  refine ⟨?_, (btrans hb5 hb7).trans hbz⟩
  rw [HM.out, if_neg (by decide)]
  simp only [if_true]
  exact ⟨none, 0, rfl, fun i hi => absurd hi (by simp)⟩
set_option maxRecDepth 20000 in
set_option maxHeartbeats 1000000 in
theorem pfilter_bare (s : List UInt8) (w : World) (h58 : 58 ∉ s) :
  Calls Tryz.prog 18 #[.string ⟨s.toArray⟩] w fun e w' => e = .returned (.tuple #[ev [] none 0 0, .int .i64 1]) ∧ Below w.heap.size w w' := by
 have hcu := fun W => pcut_none 58 s W h58
 have HCU := Lib.hid hcu
 clear hcu h58
 go_enter Tryz.func18, Tryz.ntmps18
 go_wp2_with (first | (go_at_call 39; (with_reducible refine (HCU.out _).mono ?_); rintro e w1 ⟨rfl, n1, rfl⟩) | fail)
 obtain ⟨c0, c1, hbz⟩ := set2_at ((w.alloc (.cells #[.string ⟨#[]⟩, .slice none 0 0] 35)).drewN n1) w.heap.size (v0 := .string ⟨#[]⟩) (v1 := .slice none 0 0) (.string ⟨#[]⟩) (.slice none 0 0) (by simp [go_sem]) (by simp [go_sem])
 generalize World.setCell (World.setCell _ _ _) _ _ = Wz at *
 refine bodyPost_ret (v := .tuple #[ev [] none 0 0, .int .i64 1]) (by simp [results, Tryz.results18, go_sem, c0, c1]; try rfl) rfl ?_
 exact ⟨rfl, (bdrewN (balloc _ _) _).trans hbz⟩
theorem first_none {α β : Type} (f : α → Option β) : ∀ l : List α, (∃ m : List β, l.map f = m.map some) ∨ ∃ (m : List β) (k : Nat) (h : k < l.length), m.length = k ∧ (l.take k).map f = m.map some ∧ f l[k] = none
 | [] => .inl ⟨[], rfl⟩
 | a :: l => by
  cases h : f a with
  | none => exact .inr ⟨[], 0, by simp, rfl, rfl, h⟩
  | some b =>
   rcases first_none f l with ⟨m, e⟩ | ⟨m, k, hk, e1, e2, e3⟩
   ·exact .inl ⟨b :: m, by simp [h, e]⟩
   ·exact .inr ⟨b :: m, k + 1, by simpa using hk, by simp [e1], by simp [h, e2], by simpa using e3⟩
inductive FilO where
 | form
 | some (sc : List UInt8) (cs : List C)
def filO (f : List UInt8 → Option C) (sc rest : List UInt8) : FilO := if trimP rest = [] then .some (trimP sc) [] else match (cutP rest).mapM f with
 | none => .form
 | some cs => .some (trimP sc) cs
def MadeF (o : FilO) (e : Ending) (w' : World) : Prop := match o with
 | .form => e = .returned (.tuple #[ev [] none 0 0, .int .i64 1])
 | .some sc cs => Made sc cs e w'
theorem mapM_some {α β : Type} (f : α → Option β) : ∀ (l : List α) (m : List β), l.map f = m.map some → l.mapM f = some m
 | [], [], _ => rfl
 | [], _ :: _, h => by cases h
 | _ :: _, [], h => by cases h
 | a :: l, b :: m, h => by
  simp only [List.map_cons, List.cons.injEq] at h
  rw [List.mapM_cons, h.1]
  simp [mapM_some f l m h.2]
theorem mapM_none {α β : Type} (f : α → Option β) : ∀ (l : List α) (k : Nat) (h : k < l.length), f l[k] = none → l.mapM f = none
 | [], k, h, _ => absurd h (by simp)
 | a :: l, 0, _, e => by
  rw [List.mapM_cons, show f a = none from e]; rfl
 | a :: l, k + 1, h, e => by
  rw [List.mapM_cons, mapM_none f l k (by simpa using h) (by simpa using e)]
  cases f a <;> rfl
theorem cutGo_len : ∀ (n : Nat) (q : Bool) (cur s : List UInt8), s.length ≤ n → (cutGo q cur s).length ≤ s.length + 1
 | 0, q, cur, s, h => by
  have : s = [] := List.length_eq_zero_iff.1 (by omega)
  subst this
  cases q <;> simp [cutGo]
 | n + 1, q, cur, [], _ => by cases q <;> simp [cutGo]
 | n + 1, q, cur, c :: r, h => by
  simp only [List.length_cons] at h
  cases h1 : (q && c == 92)
  ·cases h2 : (c == 34)
   ·cases h3 : (c == 38 && !q)
    ·rw [cutGo_else q cur c r h1 h2 h3]
     have := cutGo_len n q (cur ++ [c]) r (by omega)
     simp only [List.length_cons]; omega
    ·rw [cutGo_and q cur c r h1 h2 h3]
     have := cutGo_len n false [] r (by omega)
     simp only [List.length_cons]; omega
   ·rw [cutGo_quote q cur c r h1 h2]
    have := cutGo_len n (!q) (cur ++ [c]) r (by omega)
    simp only [List.length_cons]; omega
  ·rw [cutGo_skip q cur c r h1]
   have := cutGo_len n q (cur ++ c :: r.take 1) (r.drop 1) (by rw [List.length_drop]; omega)
   rw [List.length_drop] at this
   simp only [List.length_cons]; omega
theorem cutP_len (s : List UInt8) : (cutP s).length ≤ s.length + 1 := cutGo_len _ _ _ _ (Nat.le_refl _)
theorem pfilter_gen (sc rest : List UInt8) (f : List UInt8 → Option C) (w : World) (h58 : 58 ∉ sc) (hl : sc.length + rest.length + 1 ≤ 90000)
  (hone : ∀ p ∈ cutP rest, ∀ W, Below w.heap.size w W → Calls Tryz.prog 42 #[.string ⟨p.toArray⟩] W fun e w' => e = .returned (oneOut (f p)) ∧ Below W.heap.size W w')
  (hok : ∀ p ∈ cutP rest, ∀ c, f p = some c → c.name.length ≤ 140737488351232 ∧ c.val.text.length ≤ 140737488351232) :
  Calls Tryz.prog 18 #[.string ⟨(sc ++ 58 :: rest).toArray⟩] w fun e w' => MadeF (filO f sc rest) e w' ∧ Below w.heap.size w w' := by
 have hcl := cutP_len rest
 have htl := trimP_le sc
 unfold filO
 by_cases hne : trimP rest = []
 ·rw [if_pos hne]
  exact pfilter_none sc rest w h58 (by omega) hne
 rw [if_neg hne]
 rcases first_none f (cutP rest) with ⟨cs, e⟩ | ⟨cs, k, hk, e1, e2, e3⟩
 ·rw [mapM_some f _ cs e]
  have hlen : (cutP rest).length = cs.length := by have := congrArg List.length e; simpa using this
  have hat : ∀ i (h : i < cs.length), f ((cutP rest)[i]'(by omega)) = some cs[i] := fun i h => by
   have h2 : ((cutP rest).map f)[i]? = (cs.map some)[i]? := by rw [e]
   rw [List.getElem?_map, List.getElem?_map, List.getElem?_eq_getElem (by omega : i < (cutP rest).length), List.getElem?_eq_getElem h] at h2
   simpa using h2
  refine pfilter_any sc rest cs w h58 (by omega) hne hlen (by omega) (by omega) (fun i h W hb => ?_) (fun x hx => ?_)
  ·have := hone _ (List.getElem_mem (by omega : i < (cutP rest).length)) W hb
   rw [hat i h] at this
   exact this
  ·obtain ⟨i, h, rfl⟩ := List.getElem_of_mem hx
   exact hok _ (List.getElem_mem (by omega : i < (cutP rest).length)) _ (hat i h)
 ·rw [mapM_none f _ k hk e3]
  subst e1
  have hat : ∀ i (h : i < cs.length), f ((cutP rest)[i]'(by omega)) = some cs[i] := fun i h => by
   have h2 : (((cutP rest).take cs.length).map f)[i]? = (cs.map some)[i]? := by rw [e2]
   rw [List.getElem?_map, List.getElem?_map, List.getElem?_take_of_lt h, List.getElem?_eq_getElem (by omega : i < (cutP rest).length), List.getElem?_eq_getElem h] at h2
   simpa using h2
  refine pfilter_no sc rest cs w h58 (by omega) hne hk (by omega) (fun i h W hb => ?_) (fun W hb => ?_)
  ·have := hone _ (List.getElem_mem (by omega : i < (cutP rest).length)) W hb
   rw [hat i h] at this
   exact this
  ·have := hone _ (List.getElem_mem hk) W hb
   rw [e3] at this
   exact this
end Go.Proofs.YtnccpddjdgndcaaGreatDoor.Pa
end

section
/- THE WALK OF filter.Norm's comparison: by the conditions' texts. -/
namespace Go.Proofs.YtnccpddjdgndcaaGreatDoor.Val
open Go.RowKit Flt
def CSmall (c : C) : Prop := c.name.length ≤ 1000 ∧ c.val.text.length ≤ 1000 ∧ c.val.num < 18446744073709551616 ∧ -9223372036854775808 ≤ c.val.int ∧ c.val.int ≤ 9223372036854775807
def cmpC (a b : C) : Int := Lib.compareBytes (cT a) (cT b)
end Go.Proofs.YtnccpddjdgndcaaGreatDoor.Val
end

section
/- CONDITIONS IN A ROW, and how the library sorts a short row: plain, and in memory. No walk. -/
namespace Go.Proofs.YtnccpddjdgndcaaGreatDoor.Val
open Go.RowKit Flt
def cells7 (c : C) : List Value := [.string ⟨c.name.toArray⟩, .int .i64 c.op, .int .i64 c.val.kind, .int .i64 c.val.int, .float .f64 c.val.num, .string ⟨c.val.text.toArray⟩, .bool c.val.yes]
def flatC (l : List C) : List Value := l.flatMap cells7
theorem flatC_len (l : List C) : (flatC l).length = l.length * 7 := by
 induction l with
 | nil => rfl
 | cons v l ih => unfold flatC at *; rw [List.flatMap_cons, List.length_append, ih]; simp [cells7]; omega
theorem flatC_at : ∀ (l : List C) (i j : Nat) (hi : i < l.length), j < 7 → (flatC l)[i * 7 + j]? = (cells7 l[i])[j]?
 | v :: l, 0, j, _, hj => by
  unfold flatC; rw [List.flatMap_cons, List.getElem?_append_left (by simp [cells7]; omega)]; simp
 | v :: l, i + 1, j, hi, hj => by
  unfold flatC; rw [List.flatMap_cons, List.getElem?_append_right (by simp [cells7]; omega)]
  have e : (i + 1) * 7 + j - (cells7 v).length = i * 7 + j := by simp [cells7]; omega
  rw [e]
  exact flatC_at l i j (by simpa using hi) hj
theorem flatC_one (l : List C) : ∀ u ∈ flatC l, u.oneCell' = true := by
 intro u hu
 obtain ⟨v, _, hv⟩ := List.mem_flatMap.1 hu
 simp only [cells7, List.mem_cons, List.not_mem_nil, or_false] at hv
 rcases hv with rfl | rfl | rfl | rfl | rfl | rfl | rfl <;> rfl
theorem flatC_app (l : List C) (a : C) : flatC (l ++ [a]) = flatC l ++ flatC [a] := by simp [flatC]
def Row (w : World) (g : Nat) (l : List C) (Z : List Value) : Prop := w.heap[g]? = some (.cells (flatC l ++ Z).toArray 41 (0, 0))
theorem Row.at {w : World} {g : Nat} {l : List C} {Z : List Value} (h : Row w g l Z) (i j : Nat) (hi : i < l.length) (hj : j < 7) : w.cell? ⟨g, i * 7 + j, none⟩ = (cells7 l[i])[j]? := by
 have hl := flatC_len l
 rw [cell_of_row w g _ _ _ _ h]
 rw [List.getElem?_toArray, List.getElem?_append_left (by omega), flatC_at l i j hi hj]
theorem Row.lt {w : World} {g : Nat} {l : List C} {Z : List Value} (h : Row w g l Z) : g < w.heap.size := (Array.getElem?_eq_some_iff.1 h).1
theorem Row.below {w w2 : World} {g : Nat} {l : List C} {Z : List Value} {B : Nat} (h : Row w g l Z) (hb : Below B w w2) (hg : g < B) : Row w2 g l Z := (hb.block g hg).trans h
theorem setCell_row {w : World} {g : Nat} {cs : Array Value} {t : TypeId} {fz : Nat × Nat} (h : w.heap[g]? = some (.cells cs t fz)) (o : Nat) (v : Value) :
  (w.setCell ⟨g, o, none⟩ v).heap[g]? = some (.cells (cs.setIfInBounds o v) t fz) := by
 unfold World.setCell
 simp [Array.getElem?_modify, h]
theorem set_mid (P Q : List Value) (x0 x1 x2 x3 x4 x5 x6 v0 v1 v2 v3 v4 v5 v6 : Value) (n : Nat) (hn : P.length = n) :
  (((((((P ++ x0 :: x1 :: x2 :: x3 :: x4 :: x5 :: x6 :: Q).set n v0).set (n + 1) v1).set (n + 2) v2).set (n + 3) v3).set (n + 4) v4).set (n + 5) v5).set (n + 6) v6 =
   P ++ v0 :: v1 :: v2 :: v3 :: v4 :: v5 :: v6 :: Q := by
 subst hn
 have e : ∀ (k : Nat) (L : List Value) (v : Value), (P ++ L).set (P.length + k) v = P ++ L.set k v := fun k L v => by
  rw [List.set_append_right _ _ (by omega)]
  congr 2
  omega
 have e0 : ∀ (L : List Value) (v : Value), (P ++ L).set P.length v = P ++ L.set 0 v := fun L v => e 0 L v
 rw [e0, e, e, e, e, e, e]
 rfl
def put7 (w : World) (g o : Nat) (c : C) : World :=
 ((((((w.setCell ⟨g, o, none⟩ (.string ⟨c.name.toArray⟩)).setCell ⟨g, o + 1, none⟩ (.int .i64 c.op)).setCell ⟨g, o + 2, none⟩ (.int .i64 c.val.kind)).setCell ⟨g, o + 3, none⟩ (.int .i64 c.val.int)).setCell ⟨g, o + 4, none⟩ (.float .f64 c.val.num)).setCell ⟨g, o + 5, none⟩ (.string ⟨c.val.text.toArray⟩)).setCell ⟨g, o + 6, none⟩ (.bool c.val.yes)
theorem store7 {w : World} {g : Nat} {cs : Array Value} {t : TypeId} {fz : Nat × Nat} (h : w.heap[g]? = some (.cells cs t fz)) (o : Nat) (c : C) :
  (put7 w g o c).heap[g]? = some (.cells (((((((cs.setIfInBounds o (.string ⟨c.name.toArray⟩)).setIfInBounds (o + 1) (.int .i64 c.op)).setIfInBounds (o + 2) (.int .i64 c.val.kind)).setIfInBounds (o + 3) (.int .i64 c.val.int)).setIfInBounds (o + 4) (.float .f64 c.val.num)).setIfInBounds (o + 5) (.string ⟨c.val.text.toArray⟩)).setIfInBounds (o + 6) (.bool c.val.yes)) t fz) :=
 setCell_row (setCell_row (setCell_row (setCell_row (setCell_row (setCell_row (setCell_row h o _) _ _) _ _) _ _) _ _) _ _) _ _
theorem flatC_split (l : List C) (j : Nat) (hj : j < l.length) : flatC l = flatC (l.take j) ++ (cells7 l[j] ++ flatC (l.drop (j + 1))) := by
 have e : l = l.take j ++ l[j] :: l.drop (j + 1) := by
  rw [← List.drop_eq_getElem_cons hj, List.take_append_drop]
 rw [show flatC l = flatC (l.take j ++ l[j] :: l.drop (j + 1)) from congrArg flatC e]
 unfold flatC
 rw [List.flatMap_append, List.flatMap_cons]
theorem Row.put {w : World} {g : Nat} {l : List C} {Z : List Value} (h : Row w g l Z) (j : Nat) (hj : j < l.length) (c : C) : Row (put7 w g (j * 7) c) g (l.set j c) Z := by
 refine (store7 h (j * 7) c).trans (congrArg (fun z => some (Obj.cells z 41 (0, 0))) (Array.ext' ?_))
 simp only [Array.toList_setIfInBounds]
 rw [flatC_split l j hj, flatC_split (l.set j c) j (by simpa using hj)]
 have hp : (flatC (l.take j)).length = j * 7 := by rw [flatC_len, List.length_take]; rw [Nat.min_eq_left (by omega)]
 have e1 : (l.set j c).take j = l.take j := List.take_set_of_le (Nat.le_refl _)
 have e2 : (l.set j c).drop (j + 1) = l.drop (j + 1) := List.drop_set_of_lt (by omega)
 have e3 : (l.set j c)[j]'(by simpa using hj) = c := List.getElem_set_self ..
 rw [e1, e2, e3]
 simp only [cells7, List.append_assoc, List.cons_append, List.nil_append]
 exact set_mid _ _ _ _ _ _ _ _ _ _ _ _ _ _ _ _ _ hp
def swp (L : List C) (j : Nat) : List C := (L.set (j + 1) L[j]!).set j L[j + 1]!
def bub : List C → Nat → List C
 | L, 0 => L
 | L, j + 1 => if cmpC L[j + 1]! L[j]! < 0 then bub (swp L j) j else L
def isort (L : List C) : Nat → List C
 | 0 => L
 | i + 1 => bub (isort L i) (i + 1)
end Go.Proofs.YtnccpddjdgndcaaGreatDoor.Val
end

section
/- THE WALK OF the library's insertion sort over a row of conditions, and of SortStableFunc at a short row. -/
namespace Go.Proofs.YtnccpddjdgndcaaGreatDoor.Val
open Go.RowKit Flt
attribute [local go_sem] run_store_flt
end Go.Proofs.YtnccpddjdgndcaaGreatDoor.Val
end

section
/- THE WALK OF filter.needless: does another condition imply one? -/
namespace Go.Proofs.YtnccpddjdgndcaaGreatDoor.Val
open Go.RowKit Flt
attribute [local go_sem] run_store_flt
end Go.Proofs.YtnccpddjdgndcaaGreatDoor.Val
end

section
/- THE WALK OF filter.Norm. -/
namespace Go.Proofs.YtnccpddjdgndcaaGreatDoor.Val
open Go.RowKit Flt
def sortC (L : List C) : List C := isort L (L.length - 1)
theorem info_cond : (Tryz.prog.info? 41).map (fun i => (i.zero, i.size, i.bytes)) = some (some (.agg #[.string .empty, .int .i64 0, .int .i64 0, .int .i64 0, .float .f64 0, .string .empty, .bool false]), 7, 72) := by kernel_rfl
theorem new_cond (w : World) (g : Nat) (hg : g = w.heap.size) (c : C) (e : TypeId) : ∀ j u, (flatC [c])[j]? = some u → (w.alloc (.cells #[.string ⟨c.name.toArray⟩, .int .i64 c.op, .int .i64 c.val.kind, .int .i64 c.val.int, .float .f64 c.val.num, .string ⟨c.val.text.toArray⟩, .bool c.val.yes] e)).cell? ((⟨g, 0, none⟩ : Addr).add j) = some u := by
 subst hg
 intro j u hj
 have hadd : (⟨w.heap.size, 0, none⟩ : Addr).add j = ⟨w.heap.size, j, none⟩ := by unfold Addr.add; split <;> simp_all
 rw [hadd]
 simpa [flatC, cells7, go_sem] using hj
theorem own_conds {w : World} {v : Value} {l : List C} {base : Nat} (h : w.ownsRow base 41 7 v l.length (flatC l)) :
  ∃ b0 cap, v = .slice b0 l.length cap ∧ Conds w b0 l := by
 rcases h.2 with ⟨rfl, h0⟩ | ⟨g, cp, cur, rfl, hb, hg, hh⟩
 ·have : l = [] := List.eq_nil_of_length_eq_zero h0
  subst this
  exact ⟨none, 0, rfl, fun i hi => absurd hi (Nat.not_lt_zero _)⟩
 ·refine ⟨some ⟨g, 0, none⟩, cp, rfl, fun i hi => ⟨_, rfl, ?_⟩⟩
  have k : ∀ j (hj : j < 7), w.cell? ⟨g, i * 7 + j, none⟩ = (cells7 l[i])[j]? := by
   intro j hj
   have hl := flatC_len l
   have hm := flatC_at l i j hi hj
   have hc : (cells7 l[i])[j]? = some ((cells7 l[i])[j]'(by simpa [cells7] using hj)) := by simp
   rw [hc] at hm ⊢
   have := h.cells rfl (i * 7 + j) _ hm
   have hadd : (⟨g, 0, none⟩ : Addr).add (i * 7 + j) = ⟨g, i * 7 + j, none⟩ := by unfold Addr.add; split <;> simp_all
   rw [← hadd]; exact this
  have hadd : (⟨g, 0, none⟩ : Addr).add (i * 7) = ⟨g, i * 7, none⟩ := by unfold Addr.add; split <;> simp_all
  rw [hadd]
  exact ⟨k 0 (by decide), k 1 (by decide), k 2 (by decide), k 3 (by decide), k 4 (by decide), k 5 (by decide), k 6 (by decide)⟩
theorem own_low7 {W W2 : World} {base e size : Nat} {v : Value} {n : Nat} {xs : List Value} (h : W.ownsRow base e size v n xs) (hb : Below W.heap.size W W2) : W2.ownsRow base e size v n xs :=
 Fmt.own_low h hb (fun k hk => (h.lt k hk).2)
attribute [local go_sem] run_store_flt
end Go.Proofs.YtnccpddjdgndcaaGreatDoor.Val
end

section
/- WHAT A FILTER IS BROUGHT TO: its conditions in order; the order in which they came, and doubles, play no part. No walk. -/
namespace Go.Proofs.YtnccpddjdgndcaaGreatDoor.Val
open Go.RowKit Flt
def insr : List C → C → List C
 | [], x => [x]
 | y :: Q, x => if cmpC x y < 0 then y :: insr Q x else x :: y :: Q
theorem insr_perm : ∀ (Q : List C) (x : C), List.Perm (insr Q x) (x :: Q)
 | [], x => List.Perm.refl _
 | y :: Q, x => by
  unfold insr
  split
  ·exact ((insr_perm Q x).cons y).trans (List.Perm.swap x y Q)
  ·exact List.Perm.refl _
theorem bub_insr : ∀ (Q : List C) (x : C) (R : List C), bub (Q.reverse ++ x :: R) Q.length = (insr Q x).reverse ++ R
 | [], x, R => rfl
 | y :: Q, x, R => by
  have hlen : ((y :: Q).reverse ++ x :: R).length = Q.length + 1 + 1 + R.length := by simp; omega
  have e : (y :: Q).reverse ++ x :: R = Q.reverse ++ y :: x :: R := by simp
  have g1 : (Q.reverse ++ y :: x :: R)[Q.length + 1]! = x := by
   rw [getElem!_pos _ _ (by simp)]
   rw [List.getElem_append_right (by simp)]
   simp
  have g0 : (Q.reverse ++ y :: x :: R)[Q.length]! = y := by
   rw [getElem!_pos _ _ (by simp)]
   rw [List.getElem_append_right (by simp)]
   simp
  rw [e, List.length_cons, bub, g1, g0]
  unfold insr
  split
  ·have hs : swp (Q.reverse ++ y :: x :: R) Q.length = Q.reverse ++ x :: y :: R := by
    unfold swp
    rw [g1, g0]
    rw [List.set_append_right _ _ (by simp), List.set_append_right _ _ (by simp)]
    simp
   rw [hs, bub_insr Q x (y :: R)]
   simp
  ·simp
theorem isort_insr (L : List C) : ∀ i, i < L.length → isort L i = ((L.take (i + 1)).foldl insr []).reverse ++ L.drop (i + 1)
 | 0, h => by
  cases L with
  | nil => simp at h
  | cons a l => simp [isort, insr]
 | i + 1, h => by
  rw [isort, isort_insr L i (by omega)]
  have hd : L.drop (i + 1) = L[i + 1] :: L.drop (i + 2) := List.drop_eq_getElem_cons h
  have hl : ((L.take (i + 1)).foldl insr []).length = i + 1 := by
   have : ∀ (l : List C) (acc : List C), (l.foldl insr acc).length = acc.length + l.length := by
    intro l
    induction l with
    | nil => intro acc; simp
    | cons a l ih => intro acc; rw [List.foldl_cons, ih, (insr_perm acc a).length_eq]; simp; omega
   rw [this, List.length_take]
   simp; omega
  rw [hd]
  have := bub_insr ((L.take (i + 1)).foldl insr []) L[i + 1] (L.drop (i + 2))
  rw [hl] at this
  rw [this, List.take_succ_eq_append_getElem h, List.foldl_append]
  rfl
theorem sortC_insr (L : List C) : sortC L = (L.foldl insr []).reverse := by
 unfold sortC
 cases L with
 | nil => rfl
 | cons a l =>
  rw [isort_insr _ _ (by simp)]
  have e : (a :: l).length - 1 + 1 = (a :: l).length := by simp
  rw [e, List.take_length, List.drop_length, List.append_nil]
def leC (a b : C) : Prop := ¬ cmpC b a < 0
theorem leC_of_lt {a b : C} (h : cmpC a b < 0) : leC a b := fun h2 => by
 have := (cb_anti (cT a) (cT b)).1.1 h
 unfold cmpC at h2
 omega
theorem leC_trans {a b c : C} (h1 : leC a b) (h2 : leC b c) : leC a c := by
 unfold leC cmpC at *
 intro h
 rcases Int.lt_trichotomy (Lib.compareBytes (cT a) (cT b)) 0 with k | k | k
 ·exact h2 (cb_trans h k)
 ·have e : cT a = cT b := (cb_zero _ _).1 k
  rw [e] at h
  exact h2 h
 ·exact h1 ((cb_anti (cT b) (cT a)).1.2 k)
theorem insr_falls : ∀ (Q : List C) (x : C), Q.Pairwise (fun a b => leC b a) → (insr Q x).Pairwise (fun a b => leC b a)
 | [], x, _ => by simp [insr]
 | y :: Q, x, h => by
  obtain ⟨h1, h2⟩ := List.pairwise_cons.1 h
  unfold insr
  split
  ·rename_i hlt
   refine List.pairwise_cons.2 ⟨fun z hz => ?_, insr_falls Q x h2⟩
   rcases List.mem_cons.1 ((insr_perm Q x).subset hz) with rfl | hz
   ·exact leC_of_lt hlt
   ·exact h1 z hz
  ·rename_i hge
   refine List.pairwise_cons.2 ⟨fun z hz => ?_, h⟩
   rcases List.mem_cons.1 hz with rfl | hz
   ·exact hge
   ·exact leC_trans (h1 z hz) hge
theorem foldl_falls : ∀ (l acc : List C), acc.Pairwise (fun a b => leC b a) → (l.foldl insr acc).Pairwise (fun a b => leC b a)
 | [], _, h => h
 | a :: l, acc, h => foldl_falls l _ (insr_falls acc a h)
theorem foldl_perm : ∀ (l acc : List C), List.Perm (l.foldl insr acc) (l ++ acc)
 | [], _ => List.Perm.refl _
 | a :: l, acc => (foldl_perm l (insr acc a)).trans (((insr_perm acc a).append_left l).trans (List.perm_middle))
theorem sortC_perm (L : List C) : List.Perm (sortC L) L := by
 rw [sortC_insr]
 have := foldl_perm L []
 rw [List.append_nil] at this
 exact (List.reverse_perm _).trans this
theorem sortC_rises (L : List C) : (sortC L).Pairwise leC := by
 rw [sortC_insr, List.pairwise_reverse]
 exact foldl_falls L [] List.Pairwise.nil
def CKept (c : C) : Prop := ∃ d : C, cRight d = true ∧ d.val.num < 18446744073709551616 ∧ c = canonC d
theorem word_no32 : ∀ n : Nat, n ≤ 7 → ∀ c ∈ wordL n, c ≠ 32 := by decide
theorem word_inj : ∀ n : Nat, n ≤ 6 → ∀ m : Nat, m ≤ 6 → wordL n = wordL m → n = m := by decide
theorem cut32 : ∀ (n m s t : List UInt8), (∀ c ∈ n, c ≠ 32) → (∀ c ∈ m, c ≠ 32) → n ++ 32 :: s = m ++ 32 :: t → n = m ∧ s = t := fun n m s t hn hm h => by
 have := bare_apart n m (32 :: s) (32 :: t) hn hm (.inr ⟨s, rfl⟩) (.inr ⟨t, rfl⟩) h
 exact ⟨this.1, (List.cons.inj this.2).2⟩
theorem canonV_same (a b : V) (ha : VOk a) (hb : VOk b) (h : sameB a b = true) : canonV a = canonV b := by
 unfold sameB at h
 rw [Bool.and_eq_true, beq_iff_eq] at h
 obtain ⟨hk, h⟩ := h
 obtain ⟨k, n, x, t, y⟩ := a
 obtain ⟨k2, n2, x2, t2, y2⟩ := b
 obtain ⟨h0, h3, hx⟩ := ha
 obtain ⟨_, _, hx2⟩ := hb
 simp only at hk h h0 h3 hx hx2
 subst hk
 rcases (show k = 0 ∨ k = 1 ∨ k = 2 ∨ k = 3 by omega) with rfl | rfl | rfl | rfl
 ·have e : n = n2 := by simpa using h
  rw [e]; rfl
 ·have e : Ord.key x = Ord.key x2 := by simpa [Ord.same] using h
  have := (key_canon x x2 hx hx2).1 e
  show (⟨1, 0, Ord.canon x, [], false⟩ : V) = ⟨1, 0, Ord.canon x2, [], false⟩
  rw [this]
 ·have e : t = t2 := by simpa using h
  rw [e]; rfl
 ·have e : y = y2 := by simpa using h
  rw [e]; rfl
theorem canon_again (x : Nat) : Ord.canon (Ord.canon x) = Ord.canon x := by
 unfold Ord.canon
 cases h : nan x
 ·cases h2 : Ord.zero x
  ·simp only [h, h2, Bool.false_eq_true, if_false]
  ·simp only [Bool.false_eq_true, if_false, if_true]
   rw [if_neg (by decide), if_pos (by decide)]
 ·simp only [if_true]
  rw [if_pos (by decide)]
theorem vT_kept (v : V) (h0 : 0 ≤ v.kind) (h3 : v.kind ≤ 3) : vT (canonV v) = vT v := by
 obtain ⟨k, n, x, t, y⟩ := v
 simp only at h0 h3
 rcases (show k = 0 ∨ k = 1 ∨ k = 2 ∨ k = 3 by omega) with rfl | rfl | rfl | rfl
 ·rfl
 ·show Fmt.fltT (Ord.canon (Ord.canon x)) = Fmt.fltT (Ord.canon x)
  rw [canon_again]
 ·rfl
 ·rfl
theorem cT_kept (c : C) (h0 : 0 ≤ c.val.kind) (h3 : c.val.kind ≤ 3) : cT (canonC c) = cT c := by
 obtain ⟨nm, op, v⟩ := c
 cases h7 : (op == 7)
 ·have e : canonC ⟨nm, op, v⟩ = ⟨nm, op, canonV v⟩ := by unfold canonC; simp only [h7]; rfl
  rw [e]
  unfold cT
  simp only [h7, vT_kept v h0 h3]
 ·have : op = 7 := by simpa using h7
  subst this
  rfl
theorem right_parts {c : C} (h : cRight c = true) : (∀ x ∈ c.name, x ≠ 32) ∧ 0 ≤ c.op ∧ c.op ≤ 7 ∧ 0 ≤ c.val.kind ∧ c.val.kind ≤ 3 := by
 unfold cRight vRight at h
 simp only [Bool.and_eq_true, decide_eq_true_eq] at h
 refine ⟨?_, h.1.1.2, h.1.2, h.2.1.1, h.2.1.2⟩
 have hn := h.1.1.1
 unfold Sc.nameB at hn
 simp only [Bool.and_eq_true] at hn
 have key : ∀ (l : List UInt8) (i : Nat), Sc.chsOk i l = true → ∀ x ∈ l, x ≠ 32 := by
  intro l
  induction l with
  | nil => intro _ _ x hx; cases hx
  | cons c l ih =>
   intro i h x hx
   rw [Sc.chsOk, Bool.and_eq_true] at h
   rcases List.mem_cons.1 hx with rfl | hx
   ·have := h.1
    unfold Sc.chOk at this
    rintro rfl
    revert this
    simp
   ·exact ih _ h.2 x hx
 exact key _ _ hn.1.1
theorem cT_inj (c d : C) (hc : cRight c = true) (hd : cRight d = true) (nc : c.val.num < 18446744073709551616) (nd : d.val.num < 18446744073709551616) (h : cT c = cT d) : canonC c = canonC d := by
 obtain ⟨c1, c2, c3, c4, c5⟩ := right_parts hc
 obtain ⟨d1, d2, d3, d4, d5⟩ := right_parts hd
 obtain ⟨nm, op, v⟩ := c
 obtain ⟨nm2, op2, v2⟩ := d
 simp only at *
 have hasE : ∀ n : List UInt8, hasT ++ n = [104, 97, 115] ++ 32 :: n := fun n => rfl
 have opE : ∀ (n : List UInt8) (o : Int) (w : V), n ++ [32] ++ wordB o ++ [32] ++ vT w = n ++ 32 :: (wordB o ++ 32 :: vT w) := fun n o w => by simp
 have wE : ∀ o : Int, 0 ≤ o → o ≤ 7 → wordB o = wordL o.toNat := fun o h1 h2 => by unfold wordB; rw [if_neg (by omega)]
 have h32 : ∀ x ∈ ([104, 97, 115] : List UInt8), x ≠ 32 := by decide
 unfold cT at h
 simp only at h
 cases o1 : (op == 7) <;> cases o2 : (op2 == 7) <;> simp only [o1, o2, Bool.false_eq_true, if_false, if_true] at h
 ·have p1 : op ≠ 7 := by simpa using o1
  have p2 : op2 ≠ 7 := by simpa using o2
  rw [opE, opE] at h
  obtain ⟨e1, h2⟩ := cut32 _ _ _ _ c1 d1 h
  rw [wE op c2 c3, wE op2 d2 d3] at h2
  obtain ⟨e2, h3⟩ := cut32 _ _ _ _ (word_no32 _ (by omega)) (word_no32 _ (by omega)) h2
  have e3 := word_inj _ (by omega) _ (by omega) e2
  have e4 : op = op2 := by omega
  have h4 : vT v ++ [] = vT v2 ++ [] := by simpa using h3
  have e5 := (vT_apart v v2 ⟨c4, c5, nc⟩ ⟨d4, d5, nd⟩ [] [] (.inl rfl) (.inl rfl) h4).1
  have e6 := canonV_same v v2 ⟨c4, c5, nc⟩ ⟨d4, d5, nd⟩ e5
  unfold canonC
  simp only [o1, o2, Bool.false_eq_true, if_false]
  rw [e1, e4, e6]
 ·exfalso
  rw [opE, hasE] at h
  obtain ⟨e1, h2⟩ := cut32 _ _ _ _ c1 h32 h
  exact d1 32 (by rw [← h2]; simp) rfl
 ·exfalso
  rw [opE, hasE] at h
  obtain ⟨e1, h2⟩ := cut32 _ _ _ _ h32 d1 h
  exact c1 32 (by rw [h2]; simp) rfl
 ·rw [hasE, hasE] at h
  obtain ⟨_, h2⟩ := cut32 _ _ _ _ h32 h32 h
  unfold canonC
  simp only [o1, o2, if_true]
  rw [h2]
theorem kept_inj {a b : C} (ha : CKept a) (hb : CKept b) (h : cT a = cT b) : a = b := by
 obtain ⟨c, c1, c2, rfl⟩ := ha
 obtain ⟨d, d1, d2, rfl⟩ := hb
 obtain ⟨_, _, _, k1, k2⟩ := right_parts c1
 obtain ⟨_, _, _, m1, m2⟩ := right_parts d1
 rw [cT_kept c k1 k2, cT_kept d m1 m2] at h
 exact cT_inj c d c1 d1 c2 d2 h
def LOk (L : List C) : Prop := ∀ c ∈ L, cRight c = true ∧ c.val.num < 18446744073709551616
theorem LOk.kept {L : List C} (h : LOk L) : ∀ c ∈ L.map canonC, CKept c := fun c hc => by
 obtain ⟨d, hd, rfl⟩ := List.mem_map.1 hc
 exact ⟨d, (h d hd).1, (h d hd).2, rfl⟩
end Go.Proofs.YtnccpddjdgndcaaGreatDoor.Val
end

section
/- WHAT STAYS OF A ROW OF CONDITIONS: it hangs on which there are alone. No walk. -/
namespace Go.Proofs.YtnccpddjdgndcaaGreatDoor.Val
open Go.RowKit Flt
def ltC (a b : C) : Prop := cmpC a b < 0
structure Rise (S : List C) : Prop where
 le : S.Pairwise leC
 kept : ∀ c ∈ S, CKept c
 op : ∀ c ∈ S, 0 ≤ c.op ∧ c.op ≤ 7
theorem Rise.at {S : List C} (h : Rise S) {i k : Nat} (hi : i < S.length) (hk : k < S.length) (hki : k < i) : leC (S[k]'hk) (S[i]'hi) := List.pairwise_iff_getElem.1 h.le k i hk hi hki
theorem Rise.lt {S : List C} (h : Rise S) {a b : C} (ha : a ∈ S) (hb : b ∈ S) (hl : leC a b) (hne : a ≠ b) : ltC a b := by
 rcases Int.lt_trichotomy (cmpC a b) 0 with e | e | e
 ·exact e
 ·exact absurd (kept_inj (h.kept a ha) (h.kept b hb) ((cb_zero _ _).1 e)) hne
 ·exact absurd ((cb_anti (cT b) (cT a)).1.2 e) hl
theorem canon_op {c : C} (h : 0 ≤ c.op ∧ c.op ≤ 7) : 0 ≤ (canonC c).op ∧ (canonC c).op ≤ 7 := by
 unfold canonC
 split
 ·exact ⟨by show (0 : Int) ≤ 7; omega, by show (7 : Int) ≤ 7; omega⟩
 ·exact h
theorem LOk.rise {L : List C} (h : LOk L) : Rise (sortC (L.map canonC)) where
 le := sortC_rises _
 kept := fun c hc => h.kept c ((sortC_perm _).subset hc)
 op := fun c hc => by
  obtain ⟨d, hd, rfl⟩ := List.mem_map.1 ((sortC_perm _).subset hc)
  exact canon_op ⟨(right_parts (h d hd).1).2.1, (right_parts (h d hd).1).2.2.1⟩
end Go.Proofs.YtnccpddjdgndcaaGreatDoor.Val
end

section
/- WHAT FilterCovers, FilterNorms AND FilterKeys ASK, plain: conditions as they are kept imply what they did; one that none implies stays; a key tells its scope and conditions. No walk. -/
namespace Go.Proofs.YtnccpddjdgndcaaGreatDoor.Val
open Go.RowKit Flt
def KOk (v : V) : Prop := 0 ≤ v.kind ∧ v.kind ≤ 3
theorem KOk.canon {v : V} (h : KOk v) : KOk (canonV v) := by
 unfold KOk; rw [canonV_kind v h.1 h.2]; exact h
theorem KOk.of_right {c : C} (h : cRight c = true) : KOk c.val := ⟨(right_parts h).2.2.2.1, (right_parts h).2.2.2.2⟩
theorem KOk.canonC {c : C} (h : KOk c.val) : KOk (canonC c).val := by
 unfold Val.canonC
 split
 ·exact ⟨Int.le_refl 0, by show (0 : Int) ≤ 3; decide⟩
 ·exact h.canon
open Classical in
theorem least {α : Type} (S : List α) (R : α → α → Prop) (irr : ∀ x, ¬ R x x) (tr : ∀ x ∈ S, ∀ y ∈ S, ∀ z ∈ S, R z y → R y x → R z x) :
  ∀ n, ∀ c ∈ S, (S.filter (fun y => @decide (R y c) (Classical.propDecidable _))).length ≤ n → ∃ x ∈ S, (∀ y ∈ S, ¬ R y x) ∧ (x = c ∨ R x c) := by
 intro n
 induction n with
 | zero =>
  intro c hc h
  refine ⟨c, hc, fun y hy hr => ?_, .inl rfl⟩
  have hm : y ∈ S.filter (fun y => @decide (R y c) (Classical.propDecidable _)) := List.mem_filter.2 ⟨hy, decide_eq_true hr⟩
  rw [List.eq_nil_of_length_eq_zero (Nat.le_zero.1 h)] at hm
  cases hm
 | succ n ih =>
  intro c hc h
  by_cases hg : ∃ y ∈ S, R y c
  ·obtain ⟨y, hy, hr⟩ := hg
   have hlt : (S.filter (fun z => @decide (R z y) (Classical.propDecidable _))).length < (S.filter (fun z => @decide (R z c) (Classical.propDecidable _))).length := by
    have he : S.filter (fun z => @decide (R z y) (Classical.propDecidable _)) = (S.filter (fun z => @decide (R z c) (Classical.propDecidable _))).filter (fun z => @decide (R z y) (Classical.propDecidable _)) := by
     rw [List.filter_filter]
     refine List.filter_congr fun z hz => ?_
     by_cases h1 : R z y
     ·have h2 := tr c hc y hy z hz h1 hr
      simp [h1, h2]
     ·simp [h1]
    rw [he]
    exact List.length_filter_lt_length_iff_exists.2 ⟨y, List.mem_filter.2 ⟨hy, decide_eq_true hr⟩, by simp [irr]⟩
   obtain ⟨x, hx, h1, h2⟩ := ih y hy (by omega)
   refine ⟨x, hx, h1, .inr ?_⟩
   rcases h2 with rfl | h2
   ·exact hr
   ·exact tr c hc y hy x hx h2 hr
  ·exact ⟨c, hc, fun y hy hr => hg ⟨y, hy, hr⟩, .inl rfl⟩
theorem LOk.op {L : List C} (h : LOk L) : ∀ c ∈ L, 0 ≤ c.op ∧ c.op ≤ 7 := fun c hc => ⟨(right_parts (h c hc).1).2.1, (right_parts (h c hc).1).2.2.1⟩
theorem LOk.kind {L : List C} (h : LOk L) : ∀ c ∈ L, KOk c.val := fun c hc => KOk.of_right (h c hc).1
def tailT : List C → List UInt8
 | [] => []
 | c :: r => [32, 38, 32] ++ cT c ++ tailT r
def bodyT : List C → List UInt8
 | [] => []
 | c :: r => [32] ++ cT c ++ tailT r
theorem tailT_app (l : List C) (c : C) : tailT (l ++ [c]) = tailT l ++ ([32, 38, 32] ++ cT c) := by
 induction l with
 | nil => simp [tailT]
 | cons d r ih => rw [List.cons_append, tailT, ih, tailT]; simp
theorem fprK_body (sc : List UInt8) (l : List C) : ∀ k, k ≤ l.length → fprK sc l cT k = sc ++ 58 :: bodyT (l.take k)
 | 0, _ => by simp [fprK, bodyT]
 | k + 1, h => by
  rw [fprK, fprK_body sc l k (by omega), List.take_succ_eq_append_getElem (by omega), getElem!_pos l k (by omega)]
  cases hk : l.take k with
  | nil =>
   have : k = 0 := by
    have := congrArg List.length hk
    rw [List.length_take, List.length_nil] at this
    omega
   subst this
   simp [bodyT, tailT]
  | cons d r =>
   have : k ≠ 0 := by
    rintro rfl
    simp at hk
   simp [bodyT, tailT_app, this]
theorem name_no58 {l : List UInt8} (h : Sc.nameB l = true) : ∀ x ∈ l, x ≠ 58 := by
 unfold Sc.nameB at h
 simp only [Bool.and_eq_true] at h
 have key : ∀ (l : List UInt8) (i : Nat), Sc.chsOk i l = true → ∀ x ∈ l, x ≠ 58 := by
  intro l
  induction l with
  | nil => intro _ _ x hx; cases hx
  | cons c l ih =>
   intro i h x hx
   rw [Sc.chsOk, Bool.and_eq_true] at h
   rcases List.mem_cons.1 hx with rfl | hx
   ·have := h.1
    unfold Sc.chOk at this
    rintro rfl
    revert this
    simp
   ·exact ih _ h.2 x hx
 exact key _ _ h.1.1
theorem parts_no58 : ∀ l : List UInt8, (∀ p ∈ Sc.parts l, ∀ x ∈ p, x ≠ 58) → ∀ x ∈ l, x ≠ 58
 | [], _, x, hx => by cases hx
 | b :: r, h, x, hx => by
  rw [Sc.parts] at h
  by_cases hb : b = 47
  ·rw [if_pos hb] at h
   rcases List.mem_cons.1 hx with rfl | hx
   ·rw [hb]; decide
   ·exact parts_no58 r (fun p hp => h p (List.mem_cons_of_mem _ hp)) x hx
  ·rw [if_neg hb] at h
   cases hp : Sc.parts r with
   | nil => exact absurd hp (Sc.parts_ne r)
   | cons p q =>
    rw [hp] at h
    simp only at h
    rcases List.mem_cons.1 hx with rfl | hx
    ·exact h (x :: p) List.mem_cons_self x List.mem_cons_self
    ·refine parts_no58 r (fun p' hp' y hy => ?_) x hx
     rw [hp] at hp'
     rcases List.mem_cons.1 hp' with rfl | hp'
     ·exact h (b :: p') List.mem_cons_self y (List.mem_cons_of_mem _ hy)
     ·exact h p' (List.mem_cons_of_mem _ hp') y hy
theorem scope_no58 {s : List UInt8} (h : Sc.rightB s = true) : ∀ x ∈ s, x ≠ 58 := by
 unfold Sc.rightB at h
 rw [Bool.or_eq_true, Bool.and_eq_true] at h
 rcases h with h | ⟨h1, _⟩
 ·have : s = [] := by simpa using h
  subst this
  intro x hx; cases hx
 ·exact parts_no58 s (fun p hp => name_no58 (List.all_eq_true.1 h1 p hp))
end Go.Proofs.YtnccpddjdgndcaaGreatDoor.Val
end

section
/- PLAIN: what conditions print is cut into pieces only where it should be, and blanks around it go. No program in sight. -/
namespace Go.Proofs.YtnccpddjdgndcaaGreatDoor.Pa
open Go.RowKit Flt Go.Proofs.YtnccpddjdgndcaaGreatDoor.Val Go.Proofs.YtnccpddjdgndcaaGreatDoor.Unq Go.Proofs.YtnccpddjdgndcaaGreatDoor.Quo
def Wh (q : Bool) (u : List UInt8) (q2 : Bool) : Prop := ∀ cur rest, cutGo q cur (u ++ rest) = cutGo q2 (cur ++ u) rest
theorem Wh.nil (q : Bool) : Wh q [] q := fun cur rest => by rw [List.nil_append, List.append_nil]
theorem Wh.app {a b c : Bool} {u v : List UInt8} (h : Wh a u b) (k : Wh b v c) : Wh a (u ++ v) c := fun cur rest => by
 rw [List.append_assoc, h, k, List.append_assoc]
theorem Wh.one (q : Bool) (c : UInt8) (h1 : (q && c == 92) = false) (h2 : (c == 34) = false) (h3 : (c == 38 && !q) = false) : Wh q [c] q := fun cur rest => cutGo_else q cur c rest h1 h2 h3
theorem Wh.bare : ∀ u : List UInt8, (∀ c ∈ u, c ≠ 34 ∧ c ≠ 38) → Wh false u false
 | [], _ => Wh.nil _
 | c :: u, h => by
  have hc := h c List.mem_cons_self
  exact Wh.app (u := [c]) (Wh.one false c rfl (by simpa using hc.1) (by simpa using hc.2)) (Wh.bare u fun x hx => h x (List.mem_cons_of_mem _ hx))
theorem Wh.inq : ∀ u : List UInt8, (∀ c ∈ u, c ≠ 34 ∧ c ≠ 92) → Wh true u true
 | [], _ => Wh.nil _
 | c :: u, h => by
  have hc := h c List.mem_cons_self
  exact Wh.app (u := [c]) (Wh.one true c (by simpa using hc.2) (by simpa using hc.1) (by simp)) (Wh.inq u fun x hx => h x (List.mem_cons_of_mem _ hx))
theorem Wh.esc (c : UInt8) : Wh true [92, c] true := fun cur rest => by
 show cutGo true cur (92 :: c :: rest) = _
 rw [cutGo_skip true cur 92 (c :: rest) rfl]
 simp
theorem Wh.open : Wh false [34] true := fun cur rest => cutGo_quote false cur 34 rest rfl rfl
theorem Wh.close : Wh true [34] false := fun cur rest => cutGo_quote true cur 34 rest rfl rfl
theorem inq_map (u : List Int) (h : ∀ n ∈ u, 0 ≤ n ∧ n < 256 ∧ n ≠ 34 ∧ n ≠ 92) : Wh true (u.map tb) true := Wh.inq _ fun c hc => by
 obtain ⟨n, hn, rfl⟩ := List.mem_map.1 hc
 obtain ⟨h0, h1, h2, h3⟩ := h n hn
 have hv := tb_nat h0 h1
 constructor
 ·intro e
  rw [e] at hv
  exact h2 (by rw [← hv]; rfl)
 ·intro e
  rw [e] at hv
  exact h3 (by rw [← hv]; rfl)
theorem esc_map (c : Int) (u : List Int) (h : ∀ n ∈ u, 0 ≤ n ∧ n < 256 ∧ n ≠ 34 ∧ n ≠ 92) : Wh true ((92 :: c :: u).map tb) true := by
 have := Wh.app (Wh.esc (tb c)) (inq_map u h)
 exact this
theorem hex_rng (x : Nat) (h : x < 16) : 0 ≤ Lib.hexDigit x ∧ Lib.hexDigit x < 256 ∧ Lib.hexDigit x ≠ 34 ∧ Lib.hexDigit x ≠ 92 := by
 unfold Lib.hexDigit
 split <;> omega
theorem code_wh (T : Lib.PrintTabs) (s : Int) (hs : Sym s) : Wh true ((code T s).map tb) true := by
 have hx : ∀ k, 0 ≤ Lib.hexDigit (k % 16) ∧ Lib.hexDigit (k % 16) < 256 ∧ Lib.hexDigit (k % 16) ≠ 34 ∧ Lib.hexDigit (k % 16) ≠ 92 := fun k => hex_rng _ (Nat.mod_lt _ (by decide))
 have non : ∀ n ∈ ([] : List Int), 0 ≤ n ∧ n < 256 ∧ n ≠ 34 ∧ n ≠ 92 := fun n hn => by cases hn
 unfold code Sym at *
 by_cases hneg : s < 0
 ·rw [if_pos hneg]
  have h1 := hex_rng ((-s).toNat / 16) (by omega)
  have h2 := hx (-s).toNat
  refine esc_map 120 _ ?_
  intro n hn
  simp only [List.mem_cons, List.not_mem_nil, or_false] at hn
  rcases hn with rfl | rfl
  ·exact h1
  ·exact h2
 ·rw [if_neg hneg]
  rw [Lib.escRune.eq_1]
  refine dite (s = 34 ∨ s = 92) (fun h => ?_) (fun c0 => ?_)
  ·rw [if_pos h]
   exact esc_map s [] non
  rw [if_neg c0]
  refine dite (Lib.isPrintR T s = true) (fun h => ?_) (fun c1 => ?_)
  ·rw [if_pos h]
   refine inq_map _ ?_
   unfold Lib.encodeRuneZ
   split
   ·intro n hn
    simp only [List.mem_cons, List.not_mem_nil, or_false] at hn
    omega
   split
   ·intro n hn
    simp only [List.mem_cons, List.not_mem_nil, or_false] at hn
    omega
   split
   ·intro n hn
    simp only [List.mem_cons, List.not_mem_nil, or_false] at hn
    omega
   split
   ·intro n hn
    simp only [List.mem_cons, List.not_mem_nil, or_false] at hn
    omega
   ·omega
  rw [if_neg c1]
  refine dite (s = 7) (fun h => ?_) (fun d0 => ?_)
  ·rw [if_pos h]; exact esc_map _ [] non
  rw [if_neg d0]
  refine dite (s = 8) (fun h => ?_) (fun d1 => ?_)
  ·rw [if_pos h]; exact esc_map _ [] non
  rw [if_neg d1]
  refine dite (s = 12) (fun h => ?_) (fun d2 => ?_)
  ·rw [if_pos h]; exact esc_map _ [] non
  rw [if_neg d2]
  refine dite (s = 10) (fun h => ?_) (fun d3 => ?_)
  ·rw [if_pos h]; exact esc_map _ [] non
  rw [if_neg d3]
  refine dite (s = 13) (fun h => ?_) (fun d4 => ?_)
  ·rw [if_pos h]; exact esc_map _ [] non
  rw [if_neg d4]
  refine dite (s = 9) (fun h => ?_) (fun d5 => ?_)
  ·rw [if_pos h]; exact esc_map _ [] non
  rw [if_neg d5]
  refine dite (s = 11) (fun h => ?_) (fun d6 => ?_)
  ·rw [if_pos h]; exact esc_map _ [] non
  rw [if_neg d6]
  refine dite (s < 32 ∨ s = 127) (fun h => ?_) (fun d7 => ?_)
  ·rw [if_pos h]
   have h1 := hex_rng (s.toNat / 16) (by omega)
   have h2 := hx s.toNat
   refine esc_map 120 _ ?_
   intro n hn
   simp only [List.mem_cons, List.not_mem_nil, or_false] at hn
   rcases hn with rfl | rfl
   ·exact h1
   ·exact h2
  rw [if_neg d7]
  have hv : ¬ Lib.validRune s = false := by
   unfold Lib.validRune
   rw [decide_eq_false_iff_not]
   omega
  rw [if_neg hv]
  refine dite (s < 65536) (fun h => ?_) (fun d8 => ?_)
  ·rw [if_pos h]
   refine esc_map 117 _ ?_
   rw [hex4]
   intro n hn
   simp only [List.mem_cons, List.not_mem_nil, or_false] at hn
   rcases hn with rfl | rfl | rfl | rfl <;> exact hx _
  ·rw [if_neg d8]
   refine esc_map 85 _ ?_
   rw [hex8]
   intro n hn
   simp only [List.mem_cons, List.not_mem_nil, or_false] at hn
   rcases hn with rfl | rfl | rfl | rfl | rfl | rfl | rfl | rfl <;> exact hx _
theorem qf_wh (T : Lib.PrintTabs) : ∀ (f : Nat) (l : List UInt8), Wh true ((qf T f l).map tb) true
 | 0, _ => Wh.nil _
 | f + 1, l => by
  unfold qf
  split
  ·exact Wh.nil _
  ·rename_i hl
   rw [List.map_append]
   exact Wh.app (code_wh T _ (sym_ok l hl).1) (qf_wh T f _)
theorem quote_wh (T : Lib.PrintTabs) (l : List UInt8) : Wh false (quoteT T l) false := by
 rw [quoteT_eq]
 exact Wh.app (u := [34]) Wh.open (Wh.app (qf_wh T _ _) Wh.close)
def Ends (t : List UInt8) : Prop := t ≠ [] ∧ (∀ x, t.head? = some x → x ≠ 32) ∧ (∀ x, t.getLast? = some x → x ≠ 32)
theorem Ends.bare {t : List UInt8} (h0 : t ≠ []) (h : ∀ c ∈ t, c ≠ 32) : Ends t :=
 ⟨h0, fun x hx => h x (List.mem_of_mem_head? hx), fun x hx => h x (List.mem_of_mem_getLast? hx)⟩
theorem Ends.app {t u : List UInt8} (h : Ends t) (k : Ends u) (m : List UInt8) : Ends (t ++ (m ++ u)) := by
 obtain ⟨h0, h1, _⟩ := h
 obtain ⟨k0, _, k2⟩ := k
 refine ⟨fun e => h0 (List.append_eq_nil_iff.1 e).1, fun x hx => ?_, fun x hx => ?_⟩
 ·cases t with
  | nil => exact absurd rfl h0
  | cons a t => exact h1 x (by simpa using hx)
 ·rw [List.getLast?_append, List.getLast?_append] at hx
  cases hu : u.getLast? with
  | none => exact absurd (List.getLast?_eq_none_iff.1 hu) k0
  | some y =>
   rw [hu] at hx
   simp only [Option.some_or, Option.some.injEq] at hx
   exact k2 x (by rw [hu, hx])
theorem vT_tx (v : V) (h : VOk v) : Wh false (vT v) false ∧ Ends (vT v) := by
 rcases vT_ways v h with ⟨_, e⟩ | ⟨_, e⟩ | ⟨_, e⟩ | ⟨_, e⟩
 ·rw [e]
  refine ⟨Wh.bare _ fun c hc => ?_, Ends.bare (itoa_ne _) (itoa_bare v.int).1.2.1⟩
  rcases itoa_chr _ c hc with h | h
  ·exact ⟨Fmt.isD_ne h 34 (by decide), Fmt.isD_ne h 38 (by decide)⟩
  ·rw [h]; decide
 ·rw [e]
  have hb := (flt_bare v.num h.2.2).1
  refine ⟨Wh.bare _ fun c hc => ?_, Ends.bare hb.1 hb.2.1⟩
  rcases flt_ways v.num h.2.2 with ⟨f, _⟩ | ⟨f, _⟩ | ⟨f, _⟩ | ⟨_, X, f, _, hN⟩
  ·rw [f] at hc; revert c; decide
  ·rw [f] at hc; revert c; decide
  ·rw [f] at hc; revert c; decide
  ·rw [f] at hc
   rcases List.mem_append.1 hc with hc | hc
   ·unfold Fmt.sgn at hc
    split at hc
    ·rw [List.mem_singleton] at hc; rw [hc]; decide
    ·cases hc
   ·exact ⟨isN_ne (hN c hc) 34 (by decide), isN_ne (hN c hc) 38 (by decide)⟩
 ·rw [e]
  refine ⟨quote_wh _ _, ?_⟩
  rw [quoteT_eq]
  refine ⟨by simp, fun x hx => ?_, fun x hx => ?_⟩
  ·simp only [List.head?_cons, Option.some.injEq] at hx
   rw [← hx]; decide
  ·have : (34 :: ((qf Lib.goPrintTabs v.text.length v.text).map tb ++ [34])).getLast? = some 34 := by
    rw [← List.cons_append, List.getLast?_append]; rfl
   rw [this, Option.some.injEq] at hx
   rw [← hx]; decide
 ·rw [e]
  have hb := (bool_bare v.yes).1
  refine ⟨Wh.bare _ ?_, Ends.bare hb.1 hb.2.1⟩
  cases v.yes <;> decide
theorem name_chr {l : List UInt8} (h : Sc.nameB l = true) : l ≠ [] ∧ l.length ≤ 12 ∧ ∀ x ∈ l, (97 ≤ x.toNat ∧ x.toNat ≤ 122) ∨ (48 ≤ x.toNat ∧ x.toNat ≤ 57) := by
 unfold Sc.nameB at h
 simp only [Bool.and_eq_true] at h
 have key : ∀ (l : List UInt8) (i : Nat), Sc.chsOk i l = true → ∀ x ∈ l, (97 ≤ x.toNat ∧ x.toNat ≤ 122) ∨ (48 ≤ x.toNat ∧ x.toNat ≤ 57) := by
  intro l
  induction l with
  | nil => intro _ _ x hx; cases hx
  | cons c l ih =>
   intro i h x hx
   rw [Sc.chsOk, Bool.and_eq_true] at h
   rcases List.mem_cons.1 hx with rfl | hx
   ·have := h.1
    unfold Sc.chOk at this
    simp at this
    omega
   ·exact ih _ h.2 x hx
 refine ⟨fun e => ?_, by simpa using h.2, key _ _ h.1.1⟩
 rw [e] at h
 simp at h
theorem name_ne {l : List UInt8} (h : Sc.nameB l = true) (k : UInt8) (hk : k.toNat < 48) : ∀ c ∈ l, c ≠ k := fun c hc e => by
 rcases (name_chr h).2.2 c hc with ⟨a, _⟩ | ⟨a, _⟩ <;> (rw [e] at a; omega)
theorem wordB_of {o : Int} (h0 : 0 ≤ o) (h7 : o ≤ 7) : wordB o = wordL o.toNat := by unfold wordB; rw [if_neg (by omega)]
theorem wordL_tx : ∀ n : Nat, n ≤ 7 → wordL n ≠ [] ∧ ∀ c ∈ wordL n, c ≠ 32 ∧ c ≠ 34 ∧ c ≠ 38 := by decide
theorem cT_tx (c : C) (h : cRight c = true) (hn : c.val.num < 18446744073709551616) : Wh false (cT c) false ∧ Ends (cT c) := by
 obtain ⟨_, o0, o7, k0, k3⟩ := right_parts h
 have hcn : Sc.nameB c.name = true := by
  unfold cRight at h; simp only [Bool.and_eq_true] at h; exact h.1.1.1
 have n34 := name_ne hcn 34 (by decide); have n38 := name_ne hcn 38 (by decide); have n32 := name_ne hcn 32 (by decide)
 have wn : Wh false c.name false := Wh.bare _ fun x hx => ⟨n34 x hx, n38 x hx⟩
 have en : Ends c.name := Ends.bare (name_chr hcn).1 n32
 have bl : Wh false [32] false := Wh.bare _ (by decide)
 unfold cT
 split
 ·refine ⟨Wh.app (Wh.bare hasT (by decide)) wn, ?_⟩
  exact Ends.app (t := [104, 97, 115]) (Ends.bare (by decide) (by decide)) en [32]
 ·obtain ⟨wv, ev⟩ := vT_tx c.val ⟨k0, k3, hn⟩
  obtain ⟨w0, w1⟩ := wordL_tx c.op.toNat (by omega)
  rw [wordB_of o0 o7]
  have ww : Wh false (wordL c.op.toNat) false := Wh.bare _ fun x hx => (w1 x hx).2
  refine ⟨Wh.app (Wh.app (Wh.app (Wh.app wn bl) ww) bl) wv, ?_⟩
  have := Ends.app en ev ([32] ++ wordL c.op.toNat ++ [32])
  simpa using this
theorem parts_ne32 : ∀ l : List UInt8, (∀ p ∈ Sc.parts l, ∀ x ∈ p, x ≠ 32) → ∀ x ∈ l, x ≠ 32
 | [], _, x, hx => by cases hx
 | b :: r, h, x, hx => by
  rw [Sc.parts] at h
  by_cases hb : b = 47
  ·rw [if_pos hb] at h
   rcases List.mem_cons.1 hx with rfl | hx
   ·rw [hb]; decide
   ·exact parts_ne32 r (fun p hp => h p (List.mem_cons_of_mem _ hp)) x hx
  ·rw [if_neg hb] at h
   cases hp : Sc.parts r with
   | nil => exact absurd hp (Sc.parts_ne r)
   | cons p q =>
    rw [hp] at h
    simp only at h
    rcases List.mem_cons.1 hx with rfl | hx
    ·exact h (x :: p) List.mem_cons_self x List.mem_cons_self
    ·refine parts_ne32 r (fun p' hp' y hy => ?_) x hx
     rw [hp] at hp'
     rcases List.mem_cons.1 hp' with rfl | hp'
     ·exact h (b :: p') List.mem_cons_self y (List.mem_cons_of_mem _ hy)
     ·exact h p' (List.mem_cons_of_mem _ hp') y hy
theorem scope_ne32 {s : List UInt8} (h : Sc.rightB s = true) : ∀ x ∈ s, x ≠ 32 := by
 unfold Sc.rightB at h
 rw [Bool.or_eq_true, Bool.and_eq_true] at h
 rcases h with h | ⟨h1, _⟩
 ·have : s = [] := by simpa using h
  subst this
  intro x hx; cases hx
 ·exact parts_ne32 s (fun p hp => name_ne (List.all_eq_true.1 h1 p hp) 32 (by decide))
theorem scope_trim {s a b : List UInt8} (h : Sc.rightB s = true) (ha : ∀ x ∈ a, x = 32) (hb : ∀ x ∈ b, x = 32) : trimP (a ++ (s ++ b)) = s :=
 trimP_of ha hb (fun x hx => scope_ne32 h x (List.mem_of_mem_head? hx)) (fun x hx => scope_ne32 h x (List.mem_of_mem_getLast? hx))
def joinA : List (List UInt8) → List UInt8
 | [] => []
 | [p] => p
 | p :: q :: r => p ++ 38 :: joinA (q :: r)
theorem cut_join : ∀ (ps : List (List UInt8)), ps ≠ [] → (∀ p ∈ ps, Wh false p false) → cutP (joinA ps) = ps
 | [], h, _ => absurd rfl h
 | [p], _, h => by
  have := h p List.mem_cons_self [] []
  unfold cutP joinA
  rw [List.append_nil, List.nil_append] at this
  rw [this]
  rfl
 | p :: q :: r, _, h => by
  have h1 := h p List.mem_cons_self [] (38 :: joinA (q :: r))
  have h2 := cut_join (q :: r) (List.cons_ne_nil _ _) fun x hx => h x (List.mem_cons_of_mem _ hx)
  unfold cutP at h2 ⊢
  rw [joinA, h1, List.nil_append, cutGo_and false p 38 _ rfl rfl rfl, h2]
def Around (p : List UInt8) (c : C) : Prop := ∃ a b, p = a ++ (cT c ++ b) ∧ (∀ x ∈ a, x = 32) ∧ (∀ x ∈ b, x = 32)
theorem Around.trim {p : List UInt8} {c : C} (h : Around p c) (hc : cRight c = true) (hn : c.val.num < 18446744073709551616) : trimP p = cT c := by
 obtain ⟨a, b, rfl, ha, hb⟩ := h
 have he := (cT_tx c hc hn).2
 exact trimP_of ha hb he.2.1 he.2.2
theorem Around.wh {p : List UInt8} {c : C} (h : Around p c) (hc : cRight c = true) (hn : c.val.num < 18446744073709551616) : Wh false p false := by
 obtain ⟨a, b, rfl, ha, hb⟩ := h
 exact Wh.app (Wh.bare a fun x hx => by rw [ha x hx]; decide) (Wh.app (cT_tx c hc hn).1 (Wh.bare b fun x hx => by rw [hb x hx]; decide))
theorem trim_ends {t : List UInt8} (h : Ends t) : trimP t = t := by
 have := trimP_of (a := []) (m := t) (b := []) (fun x hx => by cases hx) (fun x hx => by cases hx) h.2.1 h.2.2
 simpa using this
def piecesOf : List C → List (List UInt8)
 | [] => []
 | [c] => [[32] ++ cT c]
 | c :: d :: r => ([32] ++ cT c ++ [32]) :: piecesOf (d :: r)
theorem body_join : ∀ (l : List C), bodyT l = joinA (piecesOf l)
 | [] => rfl
 | [c] => by simp [bodyT, tailT, piecesOf, joinA]
 | c :: d :: r => by
  have ih := body_join (d :: r)
  have : ∃ p q, piecesOf (d :: r) = p :: q := by
   cases r with
   | nil => exact ⟨_, _, rfl⟩
   | cons e r => exact ⟨_, _, rfl⟩
  obtain ⟨p, q, e⟩ := this
  rw [piecesOf, e, joinA, ← e, ← ih]
  simp [bodyT, tailT]
theorem pieces_len : ∀ (l : List C), (piecesOf l).length = l.length
 | [] => rfl
 | [c] => rfl
 | c :: d :: r => by rw [piecesOf, List.length_cons, pieces_len (d :: r)]; rfl
theorem pieces_around : ∀ (l : List C) (i : Nat) (h : i < l.length), Around ((piecesOf l)[i]'(by rw [pieces_len]; exact h)) l[i]
 | [], i, h => absurd h (by simp)
 | [c], i, h => by
  obtain rfl : i = 0 := by simp at h; omega
  exact ⟨[32], [], by simp [piecesOf], by simp, by simp⟩
 | c :: d :: r, 0, h => ⟨[32], [32], by simp [piecesOf], by simp, by simp⟩
 | c :: d :: r, i + 1, h => by
  have := pieces_around (d :: r) i (by simpa using h)
  simpa only [piecesOf, List.getElem_cons_succ] using this
end Go.Proofs.YtnccpddjdgndcaaGreatDoor.Pa
end

section
/- WHAT FILTERS PRINT IS READ BACK: parse.one at a condition's text, parse.Filter at a filter's. -/
namespace Go.Proofs.YtnccpddjdgndcaaGreatDoor.Pa
open Go.RowKit Flt Go.Proofs.YtnccpddjdgndcaaGreatDoor.Val
structure CK (c : C) : Prop where
 right : cRight c = true
 kept : canonC c = c
 small : CSmall c
theorem CK.num {c : C} (h : CK c) : c.val.num < 18446744073709551616 := h.small.2.2.1
theorem CK.name {c : C} (h : CK c) : Sc.nameB c.name = true := by
 have := h.right
 unfold cRight at this; simp only [Bool.and_eq_true] at this; exact this.1.1.1
theorem CK.vright {c : C} (h : CK c) : vRight c.val = true := by
 have := h.right
 unfold cRight at this; simp only [Bool.and_eq_true] at this; exact this.2
theorem CK.has {c : C} (h : CK c) (h7 : c.op = 7) : c = ⟨c.name, 7, ⟨0, 0, 0, [], false⟩⟩ := by
 have := h.kept
 unfold canonC at this
 rw [if_pos (by simp [h7])] at this
 exact this.symm
theorem CK.val {c : C} (h : CK c) (h7 : ¬ c.op = 7) : canonV c.val = c.val := by
 have := h.kept
 unfold canonC at this
 rw [if_neg (by simpa using h7)] at this
 exact congrArg C.val this
theorem CK.len {c : C} (h : CK c) : (cT c).length ≤ 3000 := by
 obtain ⟨_, _, _, q4, q5⟩ := h.small
 have h1 := vT_len c.val q4 q5
 have h3 := wordB_len c.op
 have h4 := (name_chr h.name).2.1
 have h5 := h.vright
 unfold vRight at h5
 simp only [Bool.and_eq_true, decide_eq_true_eq] at h5
 unfold cT hasT
 split
 ·simp only [List.length_append, List.length_cons, List.length_nil]; omega
 ·simp only [List.length_append, List.length_cons, List.length_nil]; omega
theorem shape_has {p : List UInt8} {c : C} (ha : Around p c) (k : CK c) (h7 : c.op = 7) : shape p = .has c.name := by
 have ht := ha.trim k.right k.num
 have hn := name_chr k.name
 have n32 := name_ne k.name 32 (by decide)
 have e : cT c = [104, 97, 115] ++ 32 :: c.name := by
  unfold cT; rw [if_pos (by simp [h7])]; rfl
 have hs : trimP c.name = c.name := trim_ends (Ends.bare hn.1 n32)
 unfold shape
 rw [ht, e, cut1_some _ _ (by decide)]
 simp only
 rw [hs, if_pos ⟨trivial, hn.1, fun h => n32 32 h rfl⟩]
theorem shape_cmp {p : List UInt8} {c : C} (ha : Around p c) (k : CK c) (h7 : ¬ c.op = 7) : shape p = .cmp c.name (wordL c.op.toNat) (vT c.val) := by
 have ht := ha.trim k.right k.num
 obtain ⟨_, o0, o7, k0, k3⟩ := right_parts k.right
 have n32 := name_ne k.name 32 (by decide)
 obtain ⟨w0, w1⟩ := wordL_tx c.op.toNat (by omega)
 have hv := (vT_tx c.val ⟨k0, k3, k.num⟩).2
 have e : cT c = c.name ++ 32 :: (wordL c.op.toNat ++ 32 :: vT c.val) := by
  unfold cT; rw [if_neg (by simpa using h7), wordB_of o0 o7]; simp
 have hs : trimP (wordL c.op.toNat ++ 32 :: vT c.val) = wordL c.op.toNat ++ 32 :: vT c.val :=
  trim_ends (Ends.app (Ends.bare w0 fun x hx => (w1 x hx).1) hv [32])
 unfold shape
 rw [ht, e, cut1_some _ _ (fun h => n32 32 h rfl)]
 simp only
 rw [hs, if_neg (fun h => h.2.2 (by simp)), cut1_some _ _ (fun h => (w1 32 h).1 rfl)]
 simp only
 rw [trim_ends hv]
theorem one_back (p : List UInt8) (c : C) (ha : Around p c) (k : CK c) (hl : p.length ≤ 100000) (w : World) (hw : Words w) (hT : Tab.Tabs w) (hE : Unq.ErrS w) (hP : Pf.PfW w) :
  Calls Tryz.prog 42 #[.string ⟨p.toArray⟩] w fun e w' => e = .returned (oneOut (some c)) ∧ Below w.heap.size w w' := by
 have h := one_any p (fun _ => some c.val) w hw hl (fun nm wo vt hs W hb => by
  by_cases h7 : c.op = 7
  ·rw [shape_has ha k h7] at hs; cases hs
  ·rw [shape_cmp ha k h7] at hs
   injection hs with _ _ hv
   subst hv
   obtain ⟨_, q2, q3, q4, q5⟩ := k.small
   have hr := read_back c.val q3 ⟨q4, q5⟩ (by
    have h5 := k.vright
    unfold vRight at h5
    simp only [Bool.and_eq_true, decide_eq_true_eq] at h5
    omega) W (hT.below hb (Nat.le_refl _)) (Unq.err_below hE hb) (hP.below hb (Nat.le_refl _))
   rw [k.val h7] at hr
   unfold back at hr
   rw [k.vright] at hr
   exact hr)
 have e : oneC (fun _ => some c.val) p = some c := by
  unfold oneC
  by_cases h7 : c.op = 7
  ·rw [shape_has ha k h7]
   simp only
   rw [← k.has h7]
  ·obtain ⟨_, o0, o7, _, _⟩ := right_parts k.right
   rw [shape_cmp ha k h7]
   simp only
   rw [wordIx_at c.op.toNat (by omega)]
   show some (⟨c.name, ((c.op.toNat : Nat) : Int), c.val⟩ : C) = some c
   rw [Int.toNat_of_nonneg o0]
 rw [e] at h
 exact h
theorem dw_nil (p : UInt8 → Bool) : ∀ (l : List UInt8), l.dropWhile p = [] → ∀ x ∈ l, p x = true
 | [], _, x, hx => by cases hx
 | y :: l, h, x, hx => by
  rw [List.dropWhile_cons] at h
  split at h
  ·rcases List.mem_cons.1 hx with rfl | hx
   ·assumption
   ·exact dw_nil p l h x hx
  ·cases h
theorem trimP_nil {s : List UInt8} (h : trimP s = []) : ∀ x ∈ s, x = 32 := by
 have h1 : ∀ x ∈ Lib.trimRightB s 32, x = 32 := by
  have : (Lib.trimRightB s 32).dropWhile (· == 32) = [] := h
  intro x hx
  simpa using dw_nil _ _ this x hx
 by_cases hz : Lib.trimRightB s 32 = []
 ·have : s.reverse.dropWhile (· == 32) = [] := by
   unfold Lib.trimRightB at hz
   simpa using hz
  intro x hx
  simpa using dw_nil _ _ this x (by simpa using hx)
 ·exfalso
  obtain ⟨y, hy⟩ : ∃ y, (Lib.trimRightB s 32).getLast? = some y := ⟨_, List.getLast?_eq_some_getLast hz⟩
  have h2 := h1 y (List.mem_of_mem_getLast? hy)
  unfold Lib.trimRightB at hy
  rw [List.getLast?_reverse] at hy
  have := dropWhile_head (· == (32 : UInt8)) _ y hy
  rw [h2] at this
  exact absurd this (by decide)
theorem join_len : ∀ (ps : List (List UInt8)) (m : Nat), (∀ p ∈ ps, p.length ≤ m) → (joinA ps).length ≤ ps.length * (m + 1)
 | [], _, _ => by simp [joinA]
 | [p], m, h => by
  have := h p List.mem_cons_self
  simp [joinA]; omega
 | p :: q :: r, m, h => by
  have h1 := h p List.mem_cons_self
  have h2 := join_len (q :: r) m fun x hx => h x (List.mem_cons_of_mem _ hx)
  rw [joinA]
  simp only [List.length_append, List.length_cons, Nat.add_mul, Nat.one_mul] at h2 ⊢
  omega
theorem join_mem : ∀ (ps : List (List UInt8)) (p : List UInt8), p ∈ ps → ∀ x ∈ p, x ∈ joinA ps
 | [], _, h, _, _ => by cases h
 | [q], p, h, x, hx => by
  rw [List.mem_singleton] at h; subst h; exact hx
 | q :: r :: s, p, h, x, hx => by
  rw [joinA]
  rcases List.mem_cons.1 h with rfl | h
  ·exact List.mem_append_left _ hx
  ·exact List.mem_append_right _ (List.mem_cons_of_mem _ (join_mem (r :: s) p h x hx))
theorem filter_back (sc0 sc rest : List UInt8) (ps : List (List UInt8)) (l : List C) (w : World) (hw : Words w) (hT : Tab.Tabs w) (hE : Unq.ErrS w) (hP : Pf.PfW w) (hlen : ps.length = l.length) (hps : ∀ i (h : i < l.length), Around (ps[i]'(by omega)) l[i]) (hck : ∀ c ∈ l, CK c) (hsc : trimP sc0 = sc) (h58 : 58 ∉ sc0)
  (hrest : (l = [] ∧ trimP rest = []) ∨ (l ≠ [] ∧ rest = joinA ps)) (hpl : ∀ p ∈ ps, p.length ≤ 4000) (hsl : sc0.length ≤ 2000) (hrl : rest.length ≤ 90000) (hright : fRight sc l = true) :
  Calls Tryz.prog 18 #[.string ⟨(sc0 ++ 58 :: rest).toArray⟩] w fun e w' => (∃ b0 cp, e = .returned (.tuple #[ev sc b0 l.length cp, .int .i64 0]) ∧ Conds w' b0 l) ∧ Below w.heap.size w w' := by
 have h6 : l.length ≤ 6 := by
  unfold fRight at hright
  simp only [Bool.and_eq_true, decide_eq_true_eq] at hright
  exact hright.2.2
 have fin : ∀ e w', Made sc l e w' → ∃ b0 cp, e = .returned (.tuple #[ev sc b0 l.length cp, .int .i64 0]) ∧ Conds w' b0 l := fun e w' hm => by
  unfold Made at hm
  rw [if_neg (by omega), if_pos hright] at hm
  exact hm
 rcases hrest with ⟨rfl, h0⟩ | ⟨hl0, rfl⟩
 ·refine (pfilter_none sc0 rest w h58 (by omega) h0).mono ?_
  rintro e w' ⟨hm, hb⟩
  rw [hsc] at hm
  exact ⟨fin e w' hm, hb⟩
 ·have hps0 : ps ≠ [] := fun e => hl0 (List.length_eq_zero_iff.1 (by rw [← hlen, e]; rfl))
  have hcut := cut_join ps hps0 (fun p hp => by
   obtain ⟨i, hi, rfl⟩ := List.getElem_of_mem hp
   exact (hps i (by omega)).wh (hck _ (List.getElem_mem _)).right (hck _ (List.getElem_mem _)).num)
  have hne : trimP (joinA ps) ≠ [] := fun e => by
   have hall := trimP_nil e
   have h0 : 0 < l.length := List.length_pos_iff.2 hl0
   obtain ⟨a, b, ep, _, _⟩ := hps 0 h0
   have hk := hck _ (List.getElem_mem h0)
   have he := (cT_tx l[0] hk.right hk.num).2
   cases hc : cT l[0] with
   | nil => exact he.1 hc
   | cons x r =>
    refine he.2.1 x (by rw [hc]; rfl) (hall x (join_mem ps _ (List.getElem_mem (by omega : 0 < ps.length)) x ?_))
    rw [ep, hc]
    simp
  refine (pfilter_any sc0 (joinA ps) l w h58 (by omega) hne (by rw [hcut, hlen]) (by omega) (by have := trimP_le sc0; omega) (fun i h W hb => ?_) (fun x hx => ?_)).mono ?_
  ·have e1 : (cutP (joinA ps))[i]'(by rw [hcut]; omega) = ps[i]'(by omega) := by simp only [hcut]
   rw [e1]
   exact one_back _ _ (hps i h) (hck _ (List.getElem_mem h)) (by have := hpl _ (List.getElem_mem (by omega : i < ps.length)); omega) W (hw.below hb) (hT.below hb (Nat.le_refl _)) (Unq.err_below hE hb) (hP.below hb (Nat.le_refl _))
  ·obtain ⟨q1, q2, _⟩ := (hck x hx).small
   omega
  ·rintro e w' ⟨hm, hb⟩
   rw [hsc] at hm
   exact ⟨fin e w' hm, hb⟩
theorem right_scope {sc : List UInt8} {l : List C} (h : fRight sc l = true) : Sc.rightB sc = true := by
 unfold fRight at h
 simp only [Bool.and_eq_true] at h
 exact h.2.1
end Go.Proofs.YtnccpddjdgndcaaGreatDoor.Pa
end

section
/- THE WALK OF the fit of chapter 8's laws. -/
namespace Go.Proofs.YtnccpddjdgndcaaGreatDoor.Pa
open Go.RowKit Flt Go.Proofs.YtnccpddjdgndcaaGreatDoor.Val
attribute [local go_sem] run_store_flt
abbrev fitC : List C := [⟨[120], 6, ⟨2, 0, 0, [112], false⟩⟩, ⟨[121], 7, ⟨0, 0, 0, [], false⟩⟩]
abbrev fitR : List UInt8 := [32, 120, 32, 94, 32, 34, 112, 34, 32, 38, 32, 104, 97, 115, 32, 121]
theorem fit_cut : cutP fitR = [[32, 120, 32, 94, 32, 34, 112, 34, 32], [32, 104, 97, 115, 32, 121]] := by decide
theorem pl_p : ∀ b ∈ ([112] : List UInt8), Pl b := by
 intro b hb
 rw [List.mem_singleton] at hb
 subst hb
 unfold Pl; decide
theorem fit_filter (w : World) (hw : Words w) (hT : Tab.Tabs w) :
  Calls Tryz.prog 18 #[.string ⟨#[97, 58, 32, 120, 32, 94, 32, 34, 112, 34, 32, 38, 32, 104, 97, 115, 32, 121]⟩] w fun e w' => (∃ b0 cp, e = .returned (.tuple #[ev [97] b0 2 cp, .int .i64 0]) ∧ Conds w' b0 fitC) ∧ Below w.heap.size w w' := by
 have h := pfilter_any [97] fitR fitC w (by decide) (by decide) (by decide) (by rw [fit_cut]; rfl) (by decide) (by decide) (fun i hi W hb => by
  have hi2 : i = 0 ∨ i = 1 := by simp only [List.length_cons, List.length_nil] at hi; omega
  rcases hi2 with rfl | rfl
  ·have h0 := one_cmp [32, 120, 32, 94, 32, 34, 112, 34, 32] [120] [94, 32, 34, 112, 34] [34, 112, 34] [112] 6 W (hw.below hb) (hT.below hb (Nat.le_refl _)) (by decide) (by decide) (by decide) (by decide) (by decide) (by decide) (by decide) (bare_pl _ pl_p) (by decide) (by decide) (by decide)
   exact h0
  ·have h0 := one_has [32, 104, 97, 115, 32, 121] [121] W (by decide) (by decide) (by decide) (by decide) (by decide) (by decide)
   exact h0) (by decide)
 refine h.mono ?_
 rintro e w' ⟨hm, hb⟩
 refine ⟨?_, hb⟩
 unfold Made at hm
 rw [if_neg (by decide), show trimP [97] = [97] from by decide, if_pos (by decide)] at hm
 exact hm
set_option maxRecDepth 20000 in
set_option maxHeartbeats 2000000 in
theorem fit08_any (w : World) (hw : Words w) (hT : Tab.Tabs w) : Calls Tryz.prog 17 #[] w fun e w' => e = .returned (.bool true) ∧ Below w.heap.size w w' := by
 have hff := fit_filter w hw hT
 have hwd : ∀ W, Below w.heap.size w W → Calls Tryz.prog 19 #[.int .i64 7] W fun e w' => e = .returned (.string ⟨#[104, 97, 115]⟩) ∧ W = w' := fun W hb => word_any 7 W (hw.below hb)
 have hvr := fun W => vright_any 2 0 0 [112] false W (by decide)
 rw [show vRight ⟨2, 0, 0, [112], false⟩ = true from by decide] at hvr
 have HFF := Lib.hid hff; have HWD := Lib.hid hwd; have HVR := Lib.hid hvr
 clear hff hwd hvr hw hT
 go_enter Tryz.func17, Tryz.ntmps17
 go_upto_region 2 with (first | (go_at_call 18; (refine HFF.out.mono ?_); rintro e w1 ⟨⟨b0, cp, rfl, hcs⟩, hb1⟩) | fail)
 have hb2 := balloc w1 (.cells #[.string ⟨[97].toArray⟩, .slice b0 2 cp] 35)
 have f0 : (w1.alloc (.cells #[.string ⟨[97].toArray⟩, .slice b0 2 cp] 35)).cell? ⟨w1.heap.size, 0, none⟩ = some (.string ⟨[97].toArray⟩) := World.cell?_alloc_at _ _ _ _ rfl
 have f1 : (w1.alloc (.cells #[.string ⟨[97].toArray⟩, .slice b0 2 cp] 35)).cell? ⟨w1.heap.size, 1, none⟩ = some (.slice b0 2 cp) := World.cell?_alloc_at _ _ _ _ rfl
 have hlt2 : w1.heap.size < (w1.alloc (.cells #[.string ⟨[97].toArray⟩, .slice b0 2 cp] 35)).heap.size := by simp
 have hcs2 := hcs.below hb2
 have HB2 := Lib.hid (btrans hb1 hb2)
 clear hcs hb2 hb1
 generalize World.alloc w1 _ = W2 at *
 generalize w1.heap.size = pf at *
 obtain ⟨a, rfl, d0, d1, d2, d3, d4, d5, d6⟩ := hcs2 0 (by decide)
 obtain ⟨a', ea, e0, e1, e2, e3, e4, e5, e6⟩ := hcs2 1 (by decide)
 obtain rfl : a = a' := by injection ea
 have hli := fun W (hb : Below W2.heap.size W2 W) => light07_yes [97] (some a) cp fitC W (hcs2.below hb) (by decide) (by decide)
 have HLI := Lib.hid hli
 clear hli hcs2 ea
 obtain ⟨ab, ao, spot⟩ := a
 have hspot : spot = none := by simpa [Addr.add] using World.cell?_spot d0
 subst hspot
 simp only [Addr.add_lit, Nat.zero_mul, Nat.one_mul, Nat.add_zero] at d0 d1 d2 d3 d4 d5 d6 e0 e1 e2 e3 e4 e5 e6
 go_wp2_with (first | (go_at_call 19; (refine (HWD.out _ HB2.out).mono ?_); rintro e w3 ⟨rfl, rfl⟩) | (go_at_call 12; (refine (HVR.out _).mono ?_); rintro e w5 ⟨rfl, hb5⟩; have x0 := (hb5.cell (p := ⟨pf, 0, none⟩) hlt2).trans f0; have x1 := (hb5.cell (p := ⟨pf, 1, none⟩) hlt2).trans f1) | (go_at_call 23; (refine (HLI.out _ hb5).mono ?_); rintro e w6 ⟨rfl, hb6⟩) | fail)
 go_ret
 exact ⟨rfl, btrans (btrans HB2.out hb5) hb6⟩
end Go.Proofs.YtnccpddjdgndcaaGreatDoor.Pa
end

section
/- THE WALK OF gazettelaw08.ParseKeys. -/
namespace Go.Proofs.YtnccpddjdgndcaaGreatDoor.Pa
open Go.RowKit Flt Go.Proofs.YtnccpddjdgndcaaGreatDoor.Val
attribute [local go_sem] run_store_flt
theorem pieces_mem (l : List C) (p : List UInt8) (h : p ∈ piecesOf l) : ∃ c ∈ l, Around p c ∧ p.length ≤ (cT c).length + 2 := by
 induction l with
 | nil => cases h
 | cons c r ih =>
  cases r with
  | nil =>
   rw [piecesOf, List.mem_singleton] at h
   subst h
   exact ⟨c, List.mem_cons_self, ⟨[32], [], by simp, by simp, by simp⟩, by simp⟩
  | cons d r =>
   rw [piecesOf] at h
   rcases List.mem_cons.1 h with rfl | h
   ·exact ⟨c, List.mem_cons_self, ⟨[32], [32], by simp, by simp, by simp⟩, by simp⟩
   ·obtain ⟨x, hx, hh⟩ := ih h
    exact ⟨x, List.mem_cons_of_mem _ hx, hh⟩
theorem print_back (sf : List UInt8) (N : List C) (w : World) (hw : Words w) (hT : Tab.Tabs w) (hE : Unq.ErrS w) (hP : Pf.PfW w) (hck : ∀ c ∈ N, CK c) (hr : fRight sf N = true) (h1000 : sf.length ≤ 1000) :
  Calls Tryz.prog 18 #[.string ⟨(sf ++ 58 :: bodyT N).toArray⟩] w fun e w' => (∃ b0 cp, e = .returned (.tuple #[ev sf b0 N.length cp, .int .i64 0]) ∧ Conds w' b0 N) ∧ Below w.heap.size w w' := by
 have hs := right_scope hr
 have h6 : N.length ≤ 6 := by
  unfold fRight at hr
  simp only [Bool.and_eq_true, decide_eq_true_eq] at hr
  exact hr.2.2
 have hpl : ∀ p ∈ piecesOf N, p.length ≤ 4000 := fun p hp => by
  obtain ⟨c, hc, _, hl⟩ := pieces_mem N p hp
  have := (hck c hc).len
  omega
 have hjl := join_len (piecesOf N) 4000 hpl
 rw [pieces_len] at hjl
 have hbl : (bodyT N).length ≤ 90000 := by rw [body_join]; omega
 refine filter_back sf sf (bodyT N) (piecesOf N) N w hw hT hE hP (pieces_len N) (fun i h => pieces_around N i h) hck (by simpa using scope_trim hs (a := []) (b := []) (by simp) (by simp)) (fun h => scope_no58 hs 58 h rfl) ?_ hpl (by omega) hbl hr
 by_cases h0 : N = []
 ·left
  subst h0
  exact ⟨rfl, by decide⟩
 ·exact .inr ⟨h0, body_join N⟩
end Go.Proofs.YtnccpddjdgndcaaGreatDoor.Pa
end

section
/- parse.Filter AT ANY TEXT: what it answers is a filter that may be, in its own form, or none. -/
namespace Go.Proofs.YtnccpddjdgndcaaGreatDoor.Pa
open Go.RowKit Flt Go.Proofs.YtnccpddjdgndcaaGreatDoor.Val
def Own (l : List UInt8) (v : V) : Prop := vRight v = true ∧ vT v = l ∧ canonV v = v ∧ v.num < 18446744073709551616 ∧ -9223372036854775808 ≤ v.int ∧ v.int ≤ 9223372036854775807
def RdG (l : List UInt8) (o : Option V) : Prop := (∀ v, o = some v → Own l v) ∧ (o = none → ∀ v, ¬ Own l v)
theorem rd_ex (l : List UInt8) : ∃ o, RdG l o := by
 by_cases h : ∃ v, Own l v
 ·obtain ⟨v, hv⟩ := h
  exact ⟨some v, (fun u e => by cases e; exact hv), (fun e => by cases e)⟩
 ·exact ⟨none, (fun u e => by cases e), (fun _ v hv => h ⟨v, hv⟩)⟩
theorem rd_fun : ∃ rd : List UInt8 → Option V, ∀ l, RdG l (rd l) := ⟨fun l => Classical.choose (rd_ex l), fun l => Classical.choose_spec (rd_ex l)⟩
theorem read_det (l : List UInt8) (hl : l.length ≤ 8000) (o : Option V) (hG : RdG l o) (w : World) (B R o2 c : Nat) (h : RW w B R o2 c) :
  Calls Tryz.prog 10 #[.string ⟨l.toArray⟩] w fun e w' => e = .returned (rdOut o) ∧ Below w.heap.size w w' := by
 cases o with
 | some v =>
  obtain ⟨h1, h2, h3, h4, h5⟩ := hG.1 v rfl
  have ht : v.text.length ≤ 40 := by
   unfold vRight at h1
   simp only [Bool.and_eq_true, decide_eq_true_eq] at h1
   exact h1.2
  have hb := read_back v h4 h5 (by omega) w h.tb h.es h.aw.pf
  rw [h3, h2] at hb
  refine hb.mono ?_
  rintro e w' ⟨rfl, hw⟩
  refine ⟨?_, hw⟩
  unfold back rdOut
  rw [h1]
  rfl
 | none =>
  refine (read_any l hl w B R o2 c h).mono ?_
  rintro e w' ⟨hr, hw⟩
  refine ⟨?_, hw⟩
  rcases hr with rfl | ⟨v, rfl, h1, h2, h3, h4⟩
  ·rfl
  ·refine absurd ⟨h1, ?_, h3, h4⟩ (hG.2 rfl v)
   have := congrArg (fun b : ByteArray => b.data.toList) h2
   simpa using this
theorem cutGo_mem : ∀ (n : Nat) (q : Bool) (cur s : List UInt8), s.length ≤ n → ∀ p ∈ cutGo q cur s, p.length ≤ cur.length + s.length
 | 0, q, cur, s, h, p, hp => by
  have : s = [] := List.length_eq_zero_iff.1 (by omega)
  subst this
  rw [show cutGo q cur [] = [cur] by cases q <;> simp [cutGo], List.mem_singleton] at hp
  subst hp; omega
 | n + 1, q, cur, [], _, p, hp => by
  rw [show cutGo q cur [] = [cur] by cases q <;> simp [cutGo], List.mem_singleton] at hp
  subst hp; omega
 | n + 1, q, cur, c :: r, h, p, hp => by
  simp only [List.length_cons] at h
  cases h1 : (q && c == 92)
  ·cases h2 : (c == 34)
   ·cases h3 : (c == 38 && !q)
    ·rw [cutGo_else q cur c r h1 h2 h3] at hp
     have := cutGo_mem n q (cur ++ [c]) r (by omega) p hp
     simp only [List.length_append, List.length_cons, List.length_nil] at this ⊢; omega
    ·rw [cutGo_and q cur c r h1 h2 h3] at hp
     rcases List.mem_cons.1 hp with rfl | hp
     ·omega
     ·have := cutGo_mem n false [] r (by omega) p hp
      simp only [List.length_cons, List.length_nil] at this ⊢; omega
   ·rw [cutGo_quote q cur c r h1 h2] at hp
    have := cutGo_mem n (!q) (cur ++ [c]) r (by omega) p hp
    simp only [List.length_append, List.length_cons, List.length_nil] at this ⊢; omega
  ·rw [cutGo_skip q cur c r h1] at hp
   have := cutGo_mem n q (cur ++ c :: r.take 1) (r.drop 1) (by rw [List.length_drop]; omega) p hp
   simp only [List.length_append, List.length_cons, List.length_take, List.length_drop] at this ⊢; omega
theorem cutP_mem {s p : List UInt8} (h : p ∈ cutP s) : p.length ≤ s.length := by
 have := cutGo_mem _ false [] s (Nat.le_refl _) p h
 simpa using this
theorem cut1_len {s a b : List UInt8} (h : cut1 s = some (a, b)) : a.length ≤ s.length ∧ b.length ≤ s.length := by
 rcases cut1_ways s with ⟨_, e⟩ | ⟨x, y, e, _, e2⟩
 ·rw [e] at h; cases h
 ·rw [e2] at h
  cases h
  rw [e, List.length_append, List.length_cons]
  omega
theorem shape_len {s nm : List UInt8} : (shape s = .has nm → nm.length ≤ s.length) ∧ (∀ wo vt, shape s = .cmp nm wo vt → nm.length ≤ s.length ∧ vt.length ≤ s.length) := by
 have h0 := trimP_le s
 unfold shape
 cases h1 : cut1 (trimP s) with
 | none => exact ⟨fun e => (by cases e), fun _ _ e => (by cases e)⟩
 | some p =>
  obtain ⟨n1, r1⟩ := p
  have h2 := cut1_len h1
  have h3 := trimP_le r1
  simp only
  split
  ·refine ⟨fun e => ?_, fun _ _ e => (by cases e)⟩
   cases e
   omega
  ·cases h4 : cut1 (trimP r1) with
   | none => exact ⟨fun e => (by cases e), fun _ _ e => (by cases e)⟩
   | some q =>
    obtain ⟨wo, r2⟩ := q
    have h5 := cut1_len h4
    have h6 := trimP_le r2
    refine ⟨fun e => (by cases e), fun wo2 vt e => ?_⟩
    cases e
    omega
theorem wordIx_le {wo : List UInt8} {k : Nat} (h : wordIx wo = some k) : k ≤ 6 := by
 have := List.mem_of_find?_eq_some h
 have := List.mem_range.1 this
 omega
theorem oneC_some {rd : List UInt8 → Option V} (hG : ∀ l, RdG l (rd l)) {p : List UInt8} {c : C} (h : oneC rd p = some c) : c.name.length ≤ p.length ∧ c.val.text.length ≤ 40 ∧ (cRight c = true → CK c) := by
 unfold oneC at h
 cases hs : shape p with
 | bad => rw [hs] at h; cases h
 | has nm =>
  rw [hs] at h
  have hl := (shape_len (nm := nm)).1 hs
  cases h
  refine ⟨hl, Nat.zero_le _, fun hr => ⟨hr, rfl, ?_, Nat.zero_le _, zn, zi.1, zi.2⟩⟩
  have hn : Sc.nameB nm = true := by
   unfold cRight at hr; simp only [Bool.and_eq_true] at hr; exact hr.1.1.1
  have := (name_chr hn).2.1
  show nm.length ≤ 1000
  omega
 | cmp nm wo vt =>
  rw [hs] at h
  have hl := (shape_len (nm := nm)).2 wo vt hs
  simp only at h
  cases hv : rd vt with
  | none => rw [hv] at h; cases h
  | some v =>
   rw [hv] at h
   simp only at h
   obtain ⟨h1, h2, h3, h4, h5⟩ := (hG vt).1 v hv
   cases hw : wordIx wo with
   | none => rw [hw] at h; cases h
   | some k =>
    rw [hw] at h
    have hk := wordIx_le hw
    cases h
    have ht : v.text.length ≤ 40 := by
     unfold vRight at h1
     simp only [Bool.and_eq_true, decide_eq_true_eq] at h1
     exact h1.2
    refine ⟨hl.1, ht, fun hr => ⟨hr, ?_, ?_, ?_, h4, h5.1, h5.2⟩⟩
    ·unfold canonC
     rw [if_neg (by simp; omega)]
     show C.mk nm (k : Int) (canonV v) = _
     rw [h3]
    ·have hn : Sc.nameB nm = true := by
      unfold cRight at hr; simp only [Bool.and_eq_true] at hr; exact hr.1.1.1
     have := (name_chr hn).2.1
     show nm.length ≤ 1000
     omega
    ·show v.text.length ≤ 1000
     omega
def FilA (e : Ending) (w' : World) : Prop := e = .returned (.tuple #[ev [] none 0 0, .int .i64 1]) ∨ e = .returned (.tuple #[ev [] none 0 0, .int .i64 2]) ∨
 ∃ sc cs b0 cp, e = .returned (.tuple #[ev sc b0 cs.length cp, .int .i64 0]) ∧ Conds w' b0 cs ∧ fRight sc cs = true ∧ sc.length ≤ 1000 ∧ ∀ c ∈ cs, CK c
theorem made_fil {sc : List UInt8} {cs : List C} {e : Ending} {w' : World} (hk : ∀ c ∈ cs, cRight c = true → CK c) (h : Made sc cs e w') (hsc : sc.length ≤ 1000) : FilA e w' := by
 unfold Made at h
 by_cases h6 : 6 < cs.length
 ·rw [if_pos h6] at h
  exact .inr (.inl h)
 rw [if_neg h6] at h
 by_cases hr : fRight sc cs = true
 ·rw [if_pos hr] at h
  obtain ⟨b0, cp, he, hc⟩ := h
  refine .inr (.inr ⟨sc, cs, b0, cp, he, hc, hr, hsc, fun c hc => hk c hc ?_⟩)
  unfold fRight at hr
  simp only [Bool.and_eq_true, List.all_eq_true] at hr
  exact hr.1 c hc
 ·rw [if_neg hr] at h
  exact .inl h
theorem mapM_mem {α β : Type} (f : α → Option β) : ∀ (l : List α) (m : List β), l.mapM f = some m → ∀ b ∈ m, ∃ a ∈ l, f a = some b
 | [], m, h, b, hb => by
  rw [List.mapM_nil] at h
  cases h
  cases hb
 | a :: l, m, h, b, hb => by
  rw [List.mapM_cons] at h
  cases ha : f a with
  | none => rw [ha] at h; cases h
  | some x =>
   rw [ha] at h
   cases hl : l.mapM f with
   | none => rw [hl] at h; cases h
   | some y =>
    rw [hl] at h
    cases h
    rcases List.mem_cons.1 hb with rfl | hb
    ·exact ⟨a, List.mem_cons_self, ha⟩
    ·obtain ⟨z, hz, e⟩ := mapM_mem f l y hl b hb
     exact ⟨z, List.mem_cons_of_mem _ hz, e⟩
theorem filter_any (s : List UInt8) (hs : s.length ≤ 1000) (w : World) (hw : Words w) (B R o c : Nat) (h : RW w B R o c) :
  Calls Tryz.prog 18 #[.string ⟨s.toArray⟩] w fun e w' => FilA e w' ∧ Below w.heap.size w w' := by
 rcases byte_cases 58 s with ⟨_, h58⟩ | ⟨sc, rest, e, h58, _⟩
 ·exact (pfilter_bare s w h58).mono fun e w' ⟨h1, h2⟩ => ⟨.inl h1, h2⟩
 obtain ⟨rd, hG⟩ := rd_fun
 have hlen : sc.length + rest.length + 1 ≤ 1000 := by
  have := congrArg List.length e
  rw [List.length_append, List.length_cons] at this
  omega
 have htl := trimP_le sc
 rw [e]
 refine (pfilter_gen sc rest (oneC rd) w h58 (by omega) (fun p hp W hb => ?_) (fun p hp x hx => ?_)).mono ?_
 ·have hpl := cutP_mem hp
  refine one_any p rd W (hw.below hb) (by omega) fun nm wo vt hsh W2 hb2 => ?_
  have hvl := ((shape_len (nm := nm)).2 wo vt hsh).2
  exact read_det vt (by omega) (rd vt) (hG vt) W2 B R o c ((h.below hb).below hb2)
 ·have hpl := cutP_mem hp
  have := oneC_some hG hx
  omega
 ·rintro e w' ⟨hm, hb⟩
  refine ⟨?_, hb⟩
  unfold filO at hm
  split at hm
  ·exact made_fil (fun x hx => by cases hx) hm (by omega)
  ·cases hq : (cutP rest).mapM (oneC rd) with
   | none => rw [hq] at hm; exact .inl hm
   | some cs =>
    rw [hq] at hm
    refine made_fil (fun x hx hr => ?_) hm (by omega)
    obtain ⟨p, hp, hf⟩ := mapM_mem _ _ _ hq x hx
    exact (oneC_some hG hf).2.2 hr
end Go.Proofs.YtnccpddjdgndcaaGreatDoor.Pa
end

section
/- THE WALK OF gazettelaw08.ParseAny, at any text. -/
namespace Go.Proofs.YtnccpddjdgndcaaGreatDoor.Pa
open Go.RowKit Flt Go.Proofs.YtnccpddjdgndcaaGreatDoor.Val
attribute [local go_sem] run_store_flt
set_option maxRecDepth 20000 in
set_option maxHeartbeats 4000000 in
theorem pany_any (s : List UInt8) (w : World) (hw : Words w) {B R o c : Nat} (h : RW w B R o c) (hs : s.length ≤ 140737488351232) :
  Calls Tryz.prog 6 #[.string ⟨s.toArray⟩] w fun e w' => e = .returned (.bool true) ∧ Below w.heap.size w w' := by
 have hfit := fun W (hb : Below w.heap.size w W) => fit08_any W (hw.below hb) (h.tb.below hb (Nat.le_refl _))
 have hfil := fun (hl : s.length ≤ 1000) W (hb : Below w.heap.size w W) => filter_any s hl W (hw.below hb) B R o c (h.below hb)
 have h6 : ∀ (sc : List UInt8) (cs : List C), fRight sc cs = true → cs.length ≤ 6 := fun sc cs hr => by
  unfold fRight at hr
  simp only [Bool.and_eq_true, decide_eq_true_eq] at hr
  exact hr.2.2
 have hpr := fun (sc : List UInt8) (cs : List C) b0 cp (hr : fRight sc cs = true) (hsc : sc.length ≤ 1000) (hck : ∀ c ∈ cs, CK c) W (hc : Conds W b0 cs) (hb : Below w.heap.size w W) => fprint_any sc b0 cp cs cT W (hw.below hb) hc (by have := h6 sc cs hr; omega) (by omega) (fun c hc2 => by have := (hck c hc2).len; omega) (fun c hc2 W2 hw2 hb2 => by
   obtain ⟨q1, q2, q3, q4, q5⟩ := (hck c hc2).small
   exact cprint_any c.name c.op c.val.kind c.val.int c.val.num c.val.text c.val.yes W2 hw2 (h.tb.below (hb.trans (hb2.mono hb.size)) (Nat.le_refl _)) (by omega) (by omega) q3 q4 q5)
 have hkt : ∀ (sc : List UInt8) (cs : List C), fprK sc cs cT cs.length = sc ++ 58 :: bodyT cs := fun sc cs => by rw [fprK_body sc _ _ (Nat.le_refl _), List.take_length]
 have hpr2 : ∀ (sc : List UInt8) (cs : List C) b0 cp, fRight sc cs = true → sc.length ≤ 1000 → (∀ c ∈ cs, CK c) → ∀ W, Conds W b0 cs → Below w.heap.size w W → Calls Tryz.prog 20 #[ev sc b0 cs.length cp] W fun e w' => e = .returned (.string ⟨(sc ++ 58 :: bodyT cs).toArray⟩) ∧ Below W.heap.size W w' := fun sc cs b0 cp hr hsc hck W hc hb => by
  have := hpr sc cs b0 cp hr hsc hck W hc hb
  rw [hkt] at this
  exact this
 have hbk := fun (sc : List UInt8) (cs : List C) (hr : fRight sc cs = true) (hsc : sc.length ≤ 1000) (hck : ∀ c ∈ cs, CK c) W (hb : Below w.heap.size w W) => print_back sc cs W (hw.below hb) (h.tb.below hb (Nat.le_refl _)) (Unq.err_below h.es hb) (h.aw.pf.below hb (Nat.le_refl _)) hck hr hsc
 have hri : ∀ (sc : List UInt8) (cs : List C) b0 cp, fRight sc cs = true → sc.length ≤ 1000 → (∀ c ∈ cs, CK c) → ∀ W, Conds W b0 cs → Calls Tryz.prog 21 #[ev sc b0 cs.length cp] W fun e w' => e = .returned (.bool true) ∧ Below W.heap.size W w' := fun sc cs b0 cp hr hsc hck W hc => by
  have := fright_any sc b0 cp cs W hc (by have := h6 sc cs hr; omega) (by omega) (fun c hc2 => by obtain ⟨q1, q2, _⟩ := (hck c hc2).small; exact ⟨by omega, by omega⟩)
  rw [hr] at this
  exact this
 have hsa := fun (sc : List UInt8) (cs : List C) b0 b1 c0 c1 (hr : fRight sc cs = true) (hck : ∀ c ∈ cs, CK c) W (h1 : Conds W b0 cs) (h2 : Conds W b1 cs) => same_yes sc b0 b1 c0 c1 cs W h1 h2 (by have := h6 sc cs hr; omega) (fun c hc => (hck c hc).num)
 have HFIT := Lib.hid hfit; have HFIL := Lib.hid hfil; have HPR := Lib.hid hpr2; have HBK := Lib.hid hbk; have HRI := Lib.hid hri; have HSA := Lib.hid hsa
 clear hfit hfil h6 hpr hkt hpr2 hbk hri hsa hw h
 go_enter Tryz.func6, Tryz.ntmps6
 by_cases hl : s.length ≤ 1000
 ·have i1 : ¬ (1000 : Int) < (s.length : Int) := by omega
  go_upto_region 6 with (first | (go_at_call 17; (refine (HFIT.out _ (Below.refl _ _)).mono ?_); rintro e w1 ⟨rfl, hb1⟩) | (go_at_call 18; (refine (HFIL.out hl _ hb1).mono ?_); rintro e w2 ⟨(rfl | rfl | ⟨sc, cs, b0, cp, rfl, hc, hr, hsc, hck⟩), hb2⟩) | fail)
  ·go_wp2_with fail
   go_ret
   exact ⟨rfl, btrans (btrans hb1 hb2) (balloc _ _)⟩
  ·go_wp2_with fail
   go_ret
   exact ⟨rfl, btrans (btrans hb1 hb2) (balloc _ _)⟩
  ·have hb3 := balloc w2 (.cells #[.string ⟨sc.toArray⟩, .slice b0 cs.length cp] 35)
   have HX := Lib.hid (box2_new w2 sc b0 cs.length cp 35)
   have HB3 := Lib.hid (btrans (btrans hb1 hb2) hb3)
   have HC := Lib.hid (hc.below hb3)
   have HP := Lib.hid (HPR.out sc cs b0 cp hr hsc hck); have HK := Lib.hid (HBK.out sc cs hr hsc hck); have HR := Lib.hid (HRI.out sc cs b0 cp hr hsc hck); have HS := Lib.hid (fun b1 c1 => HSA.out sc cs b0 b1 cp c1 hr hck)
   clear hb1 hb2 hb3 hc hr hsc hck HPR HBK HRI HSA
   generalize World.alloc w2 _ = W3 at *
   generalize w2.heap.size = pf at *
   obtain ⟨f0, f1⟩ := HX.out
   go_upto_region 9 with (first | (go_at_call 20; (refine (HP.out _ HC.out HB3.out).mono ?_); rintro e w4 ⟨rfl, hb4⟩) | (go_at_call 18; (refine (HK.out _ (btrans HB3.out hb4)).mono ?_); rintro e w5 ⟨⟨b1, c1, rfl, hd⟩, hb5⟩) | fail)
   have hb6 := balloc w5 (.cells #[.string ⟨sc.toArray⟩, .slice b1 cs.length c1] 35)
   have HG := Lib.hid (box2_new w5 sc b1 cs.length c1 35)
   have HX6 := Lib.hid (((HX.out.below hb4).below hb5).below hb6)
   have HC6 := Lib.hid (((HC.out.below hb4).below hb5).below hb6)
   have HD6 := Lib.hid (hd.below hb6)
   have HB6 := Lib.hid (btrans (btrans (btrans HB3.out hb4) hb5) hb6)
   clear hd hb4 hb5 hb6 f0 f1 HX HC HB3 HP HK
   generalize World.alloc w5 _ = W6 at *
   generalize w5.heap.size = pg at *
   obtain ⟨f0, f1⟩ := HX6.out
   obtain ⟨g0, g1⟩ := HG.out
   go_wp2_with (first | (go_at_call 21; (refine (HR.out _ HC6.out).mono ?_); rintro e w7 ⟨rfl, hb7⟩; obtain ⟨m0, m1⟩ := HX6.out.below hb7; obtain ⟨m2, m3⟩ := HG.out.below hb7) | (go_at_call 22; (refine (HS.out _ _ _ (HC6.out.below hb7) (HD6.out.below hb7)).mono ?_); rintro e w8 ⟨rfl, hb8⟩) | fail)
   go_ret
   exact ⟨rfl, btrans (btrans HB6.out hb7) hb8⟩
 ·have i1 : (1000 : Int) < (s.length : Int) := by omega
  go_wp2_with (first | (go_at_call 17; (refine (HFIT.out _ (Below.refl _ _)).mono ?_); rintro e w1 ⟨rfl, hb1⟩) | fail)
  go_ret
  exact ⟨rfl, hb1⟩
end Go.Proofs.YtnccpddjdgndcaaGreatDoor.Pa
end
