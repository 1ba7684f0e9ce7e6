/- MERGED BY A PROGRAM OF MINE (pmg.py) out of my own texts, pruned, in their order: VInj, NormFn, Keep, TurnsFn, NormsFn, PaTx, UqF, UqG, UqH, RdT, RfFn, RfForm, PfA, PfB, PfC, PfD, RdN, VBack, PaBack, EvL, PaLight, PaFit, PaKeysL, PaSame. -/
import Derived.Test.YtnccpddjdgndcaaGreatDoorMgParseBack2
import Derived.Test.YtnccpddjdgndcaaGreatDoorUqFn
import Derived.Test.YtnccpddjdgndcaaGreatDoorUqE
import Derived.Deep.DeepCutAuto
import Derived.Deep.CutRange
import Derived.Test.YtnccpddjdgndcaaGreatDoorFmtP
import Derived.Test.YtnccpddjdgndcaaGreatDoorFmtW
import Derived.Test.YtnccpddjdgndcaaGreatDoorRfDef
import Derived.Test.YtnccpddjdgndcaaGreatDoorRfD
import Derived.Lib.ParseIntBTie
import Derived.Lib.AtoiAllCases
import Derived.Lib.ItoaLen

section
/- VALUES THAT ARE NOT THE SAME HAVE TEXTS THAT ARE NOT, whatever stands behind; those that are the same have one. No walk. -/
namespace Go.Proofs.YtnccpddjdgndcaaGreatDoor.Val
open Go.RowKit Flt
theorem nan_iff (b : Nat) : nan b = true ↔ 9218868437227405312 < b % 9223372036854775808 := by
  unfold nan rung inf
  rw [decide_eq_true_eq]
theorem zero_iff2 (b : Nat) : Ord.zero b = true ↔ b % 9223372036854775808 = 0 := by
  rw [Ord.zero_iff]
  unfold rung
  rw [decide_eq_true_eq]
/-- numbers with one key are kept alike, and others are not -/
theorem key_canon (a b : Nat) (ha : a < 18446744073709551616) (hb : b < 18446744073709551616) : Ord.key a = Ord.key b ↔ Ord.canon a = Ord.canon b := by
  unfold Ord.key Ord.canon Ord.most Ord.top Ord.nan0
  have na := nan_iff a; have nb := nan_iff b; have za := zero_iff2 a; have zb := zero_iff2 b
  cases h1 : nan a <;> cases h2 : nan b <;> cases h3 : Ord.zero a <;> cases h4 : Ord.zero b <;>
    rw [h1] at na <;> rw [h2] at nb <;> rw [h3] at za <;> rw [h4] at zb <;>
    simp only [Bool.false_eq_true, if_false, if_true] <;>
    (try split) <;> (try split) <;> simp at na nb za zb <;> omega
theorem canon_bits (x : Nat) (hx : x < 18446744073709551616) : Ord.canon x < 18446744073709551616 ∧
    ((Ord.canon x = 9221120237041090561) ∨ (Fmt.bexp (Ord.canon x) ≤ 2046) ∨ (Fmt.bexp (Ord.canon x) = 2047 ∧ Fmt.bman (Ord.canon x) = 0)) := by
  refine ⟨canon_lt x hx, ?_⟩
  have na := nan_iff x
  unfold Ord.canon Ord.nan0
  cases h1 : nan x
  · rw [h1] at na
    have : ¬ 9218868437227405312 < x % 9223372036854775808 := fun h => by have := na.2 h; cases this
    simp only [Bool.false_eq_true, if_false]
    split
    · right; left; decide
    · right
      unfold Fmt.bexp Fmt.bman
      omega
  · left; rfl
/-- a text without a blank and not quoted -/
def Bare (t : List UInt8) : Prop := t ≠ [] ∧ (∀ c ∈ t, c ≠ 32) ∧ ∀ r, t ≠ 34 :: r
/-- what may stand behind: nothing, or a blank first -/
def Tail (s : List UInt8) : Prop := s = [] ∨ ∃ r, s = 32 :: r
theorem bare_apart : ∀ (t u s r : List UInt8), (∀ c ∈ t, c ≠ 32) → (∀ c ∈ u, c ≠ 32) → Tail s → Tail r → t ++ s = u ++ r → t = u ∧ s = r
  | [], [], _, _, _, _, _, _, h => ⟨rfl, h⟩
  | [], c :: u, s, r, _, hu, hs, _, h => by
    exfalso
    rcases hs with rfl | ⟨q, rfl⟩
    · cases h
    · exact hu c (List.mem_cons_self ..) (List.cons.inj h).1.symm
  | c :: t, [], s, r, ht, _, _, hr, h => by
    exfalso
    rcases hr with rfl | ⟨q, rfl⟩
    · cases h
    · exact ht c (List.mem_cons_self ..) (List.cons.inj h).1
  | c :: t, d :: u, s, r, ht, hu, hs, hr, h => by
    obtain ⟨h1, h2⟩ := List.cons.inj h
    obtain ⟨i1, i2⟩ := bare_apart t u s r (fun x hx => ht x (List.mem_cons_of_mem _ hx)) (fun x hx => hu x (List.mem_cons_of_mem _ hx)) hs hr h2
    exact ⟨by rw [h1, i1], i2⟩
/-- a whole number's text: digits, a sign ahead -/
theorem itoa_chr (n : Int) : ∀ c ∈ Lib.itoa n, Fmt.IsD c ∨ c = 45 := by
  intro c hc
  unfold Lib.itoa at hc
  split at hc
  · rcases List.mem_cons.1 hc with rfl | hc
    · exact .inr rfl
    · exact .inl ((Fmt.decDigits_val _).2 c hc)
  · exact .inl ((Fmt.decDigits_val _).2 c hc)
theorem dec_ne (u : Nat) : Lib.decDigits u ≠ [] := by
  intro h
  have := Lib.decDigits_length u
  rw [h] at this
  have := Lib.nDigits_pos u
  simp at *
  omega
theorem itoa_ne (n : Int) : Lib.itoa n ≠ [] := by
  unfold Lib.itoa
  split
  · exact List.cons_ne_nil _ _
  · exact dec_ne _
theorem itoa_inj (n m : Int) (h : Lib.itoa n = Lib.itoa m) : n = m := by
  have dv := fun u => (Fmt.decDigits_val u).1
  have nod : ∀ u v, 45 :: Lib.decDigits u ≠ Lib.decDigits v := fun u v e => by
    have := (Fmt.decDigits_val v).2 45 (by rw [← e]; exact List.mem_cons_self ..)
    unfold Fmt.IsD at this
    simp at this
  unfold Lib.itoa at h
  split at h <;> split at h
  · have h2 := congrArg Fmt.dval (List.cons.inj h).2
    rw [dv, dv] at h2
    omega
  · exact absurd h (nod _ _)
  · exact absurd h.symm (nod _ _)
  · have h2 := congrArg Fmt.dval h
    rw [dv, dv] at h2
    omega
/-- what a number's text is, by its kind -/
theorem flt_ways (x : Nat) (hx : x < 18446744073709551616) :
    (Fmt.fltT (Ord.canon x) = [78, 97, 78] ∧ Ord.canon x = 9221120237041090561) ∨
    (Fmt.fltT (Ord.canon x) = [45, 73, 110, 102] ∧ Ord.canon x = 18442240474082181120) ∨ (Fmt.fltT (Ord.canon x) = [43, 73, 110, 102] ∧ Ord.canon x = 9218868437227405312) ∨
    (Fmt.bexp (Ord.canon x) ≤ 2046 ∧ ∃ X, Fmt.fltT (Ord.canon x) = Fmt.sgn (Fmt.bneg (Ord.canon x)) ++ X ∧ (∃ c r, X = c :: r ∧ Fmt.IsD c) ∧ ∀ c ∈ X, Fmt.IsN c) := by
  obtain ⟨hl, h⟩ := canon_bits x hx
  generalize Ord.canon x = b at *
  rcases h with rfl | h | ⟨h1, h2⟩
  · left
    exact ⟨Fmt.fltT_nan _ (by decide) (by decide), rfl⟩
  · right; right; right
    obtain ⟨X, hX⟩ := Fmt.body_fin b h
    exact ⟨h, X, hX.txt, hX.head, hX.chr⟩
  · have ht := Fmt.fltT_inf b h1 h2
    cases hn : Fmt.bneg b
    · right; right; left
      rw [hn] at ht
      refine ⟨ht, ?_⟩
      unfold Fmt.bneg at hn
      unfold Fmt.bexp at h1
      unfold Fmt.bman at h2
      simp at hn
      omega
    · right; left
      rw [hn] at ht
      refine ⟨ht, ?_⟩
      unfold Fmt.bneg at hn
      unfold Fmt.bexp at h1
      unfold Fmt.bman at h2
      simp at hn
      omega
theorem isN_ne {c : UInt8} (h : Fmt.IsN c) (k : UInt8) (hk : k.toNat < 43 ∨ (57 < k.toNat ∧ k.toNat ≠ 101)) : c ≠ k := by
  rintro rfl
  rcases h with h | h | h | h | h
  · unfold Fmt.IsD at h; omega
  all_goals (subst h; revert hk; decide)
theorem flt_bare (x : Nat) (hx : x < 18446744073709551616) : Bare (Fmt.fltT (Ord.canon x)) ∧ (∀ r, Fmt.fltT (Ord.canon x) ≠ 121 :: r) ∧ (∀ r, Fmt.fltT (Ord.canon x) ≠ 110 :: r) ∧ ∃ c ∈ Fmt.fltT (Ord.canon x), ¬ (Fmt.IsD c ∨ c = 45) := by
  have hmk : ∃ c ∈ Fmt.fltT (Ord.canon x), ¬ (Fmt.IsD c ∨ c = 45) := by
    have key : ∀ c : UInt8, c = 46 ∨ c = 101 ∨ c = 73 ∨ c = 78 → ¬ (Fmt.IsD c ∨ c = 45) := by
      intro c hc h
      rcases hc with rfl | rfl | rfl | rfl <;> rcases h with h | h <;> first | (unfold Fmt.IsD at h; simp at h) | (revert h; decide)
    unfold Fmt.fltT
    cases hm : Fmt.marked (Fmt.ftoaT (Ord.canon x))
    · simp only [Bool.false_eq_true, if_false]
      exact ⟨46, by simp, key 46 (.inl rfl)⟩
    · simp only [if_true]
      obtain ⟨c, hc, hk⟩ := (Fmt.marked_iff _).1 hm
      exact ⟨c, hc, key c hk⟩
  rcases flt_ways x hx with ⟨h, _⟩ | ⟨h, _⟩ | ⟨h, _⟩ | ⟨_, X, h, ⟨c, r, hX, hc⟩, hN⟩
  · refine ⟨⟨?_, ?_, ?_⟩, ?_, ?_, hmk⟩ <;> rw [h]
    · exact List.cons_ne_nil _ _
    · intro c hc; simp only [List.mem_cons, List.not_mem_nil, or_false] at hc; rcases hc with rfl | rfl | rfl <;> decide
    all_goals (intro r e; have := (List.cons.inj e).1; revert this; decide)
  · refine ⟨⟨?_, ?_, ?_⟩, ?_, ?_, hmk⟩ <;> rw [h]
    · exact List.cons_ne_nil _ _
    · intro c hc; simp only [List.mem_cons, List.not_mem_nil, or_false] at hc; rcases hc with rfl | rfl | rfl | rfl <;> decide
    all_goals (intro r e; have := (List.cons.inj e).1; revert this; decide)
  · refine ⟨⟨?_, ?_, ?_⟩, ?_, ?_, hmk⟩ <;> rw [h]
    · exact List.cons_ne_nil _ _
    · intro c hc; simp only [List.mem_cons, List.not_mem_nil, or_false] at hc; rcases hc with rfl | rfl | rfl | rfl <;> decide
    all_goals (intro r e; have := (List.cons.inj e).1; revert this; decide)
  · have hd : ∀ k : UInt8, k.toNat < 48 ∨ 57 < k.toNat → c ≠ k := fun k hk => Fmt.isD_ne hc k hk
    have hs : ∀ c ∈ Fmt.sgn (Fmt.bneg (Ord.canon x)), c = 45 := by
      intro c hc
      unfold Fmt.sgn at hc
      split at hc
      · exact List.mem_singleton.1 hc
      · cases hc
    have first : ∀ k : UInt8, k ≠ 45 → (k.toNat < 48 ∨ 57 < k.toNat) → ∀ r, Fmt.fltT (Ord.canon x) ≠ k :: r := by
      intro k h45 hk r e
      rw [h, hX] at e
      unfold Fmt.sgn at e
      split at e
      · exact h45 (List.cons.inj e).1.symm
      · exact hd k hk (List.cons.inj e).1
    refine ⟨⟨?_, ?_, first 34 (by decide) (by decide)⟩, first 121 (by decide) (by decide), first 110 (by decide) (by decide), hmk⟩
    · rw [h, hX]
      unfold Fmt.sgn
      split <;> exact List.cons_ne_nil _ _
    · intro d hd2
      rw [h] at hd2
      rcases List.mem_append.1 hd2 with hd2 | hd2
      · rw [hs d hd2]; decide
      · exact isN_ne (hN d hd2) 32 (by decide)
theorem flt_inj (x y : Nat) (hx : x < 18446744073709551616) (hy : y < 18446744073709551616) (h : Fmt.fltT (Ord.canon x) = Fmt.fltT (Ord.canon y)) : Ord.canon x = Ord.canon y := by
  have hd : ∀ {c : UInt8}, Fmt.IsD c → ∀ k : UInt8, k.toNat < 48 ∨ 57 < k.toNat → c ≠ k := fun hc k hk => Fmt.isD_ne hc k hk
  have fin : ∀ (b : Nat) (X : List UInt8) (c : UInt8) (r : List UInt8), X = c :: r → Fmt.IsD c → ∀ t, Fmt.fltT b = Fmt.sgn (Fmt.bneg b) ++ X → Fmt.fltT b = t → t ≠ [78, 97, 78] ∧ t ≠ [45, 73, 110, 102] ∧ t ≠ [43, 73, 110, 102] := by
    intro b X c r hX hc t ht e
    rw [ht, hX] at e
    unfold Fmt.sgn at e
    refine ⟨?_, ?_, ?_⟩ <;> rintro rfl <;> split at e
    · exact absurd (List.cons.inj e).1 (by decide)
    · exact hd hc 78 (by decide) (List.cons.inj e).1
    · exact hd hc 73 (by decide) (List.cons.inj (List.cons.inj e).2).1
    · exact hd hc 45 (by decide) (List.cons.inj e).1
    · exact absurd (List.cons.inj e).1 (by decide)
    · exact hd hc 43 (by decide) (List.cons.inj e).1
  rcases flt_ways x hx with ⟨h1, e1⟩ | ⟨h1, e1⟩ | ⟨h1, e1⟩ | ⟨f1, X, h1, ⟨c, r, hX, hc⟩, _⟩ <;>
    rcases flt_ways y hy with ⟨h2, e2⟩ | ⟨h2, e2⟩ | ⟨h2, e2⟩ | ⟨f2, Y, h2, ⟨d, q, hY, hd2⟩, _⟩
  · rw [e1, e2]
  · rw [h1, h2] at h; exact absurd h (by decide)
  · rw [h1, h2] at h; exact absurd h (by decide)
  · exact absurd h1 (fin _ Y d q hY hd2 _ h2 h.symm).1
  · rw [h1, h2] at h; exact absurd h (by decide)
  · rw [e1, e2]
  · rw [h1, h2] at h; exact absurd h (by decide)
  · exact absurd h1 (fin _ Y d q hY hd2 _ h2 h.symm).2.1
  · rw [h1, h2] at h; exact absurd h (by decide)
  · rw [h1, h2] at h; exact absurd h (by decide)
  · rw [e1, e2]
  · exact absurd h1 (fin _ Y d q hY hd2 _ h2 h.symm).2.2
  · exact absurd h2 (fin _ X c r hX hc _ h1 h).1
  · exact absurd h2 (fin _ X c r hX hc _ h1 h).2.1
  · exact absurd h2 (fin _ X c r hX hc _ h1 h).2.2
  · exact Fmt.fltT_fin _ _ (canon_lt x hx) (canon_lt y hy) f1 f2 h
/-- a value that may be -/
def VOk (v : V) : Prop := 0 ≤ v.kind ∧ v.kind ≤ 3 ∧ v.num < 18446744073709551616
theorem vT_ways (v : V) (h : VOk v) : (v.kind = 0 ∧ vT v = Lib.itoa v.int) ∨ (v.kind = 1 ∧ vT v = Fmt.fltT (Ord.canon v.num)) ∨ (v.kind = 2 ∧ vT v = Quo.quoteT Lib.goPrintTabs v.text) ∨ (v.kind = 3 ∧ vT v = if v.yes then yesT else noT) := by
  obtain ⟨k, n, x, t, y⟩ := v
  obtain ⟨h0, h3, _⟩ := h
  simp only at h0 h3
  rcases (show k = 0 ∨ k = 1 ∨ k = 2 ∨ k = 3 by omega) with rfl | rfl | rfl | rfl
  · exact .inl ⟨rfl, rfl⟩
  · exact .inr (.inl ⟨rfl, rfl⟩)
  · exact .inr (.inr (.inl ⟨rfl, rfl⟩))
  · exact .inr (.inr (.inr ⟨rfl, rfl⟩))
theorem itoa_bare (n : Int) : Bare (Lib.itoa n) ∧ (∀ r, Lib.itoa n ≠ 121 :: r) ∧ (∀ r, Lib.itoa n ≠ 110 :: r) := by
  have key : ∀ k : UInt8, k ≠ 45 → (k.toNat < 48 ∨ 57 < k.toNat) → ∀ c ∈ Lib.itoa n, c ≠ k := fun k h45 hk c hc => by
    rcases itoa_chr n c hc with h | h
    · exact Fmt.isD_ne h k hk
    · rw [h]; exact fun e => h45 e.symm
  have first : ∀ k : UInt8, k ≠ 45 → (k.toNat < 48 ∨ 57 < k.toNat) → ∀ r, Lib.itoa n ≠ k :: r := fun k h45 hk r e => key k h45 hk k (by rw [e]; exact List.mem_cons_self ..) rfl
  exact ⟨⟨itoa_ne n, key 32 (by decide) (by decide), first 34 (by decide) (by decide)⟩, first 121 (by decide) (by decide), first 110 (by decide) (by decide)⟩
theorem bool_bare (y : Bool) : Bare (if y then yesT else noT) ∧ ∃ c r, (if y then yesT else noT) = c :: r ∧ (c = 121 ∨ c = 110) := by
  cases y
  · refine ⟨⟨by decide, by decide, ?_⟩, 110, _, rfl, .inr rfl⟩
    intro r e; have := (List.cons.inj e).1; revert this; decide
  · refine ⟨⟨by decide, by decide, ?_⟩, 121, _, rfl, .inl rfl⟩
    intro r e; have := (List.cons.inj e).1; revert this; decide
/-- VALUES' TEXTS TELL THEM APART, whatever stands behind -/
theorem vT_apart (v u : V) (hv : VOk v) (hu : VOk u) (s r : List UInt8) (hs : Tail s) (hr : Tail r) (h : vT v ++ s = vT u ++ r) : sameB v u = true ∧ s = r := by
  have bb : ∀ t w : List UInt8, Bare t → Bare w → t ++ s = w ++ r → t = w ∧ s = r := fun t w ht hw e => bare_apart t w s r ht.2.1 hw.2.1 hs hr e
  have quo : ∀ (l : List UInt8) (w : List UInt8) (s r : List UInt8), Bare w → Quo.quoteT Lib.goPrintTabs l ++ s = w ++ r → False := by
    intro l w s r hw e
    obtain ⟨q, hq⟩ := Quo.quoteT_head Lib.goPrintTabs l
    cases w with
    | nil => exact hw.1 rfl
    | cons c w =>
      rw [hq] at e
      exact hw.2.2 w (by rw [(List.cons.inj e).1])
  rcases vT_ways v hv with ⟨k1, e1⟩ | ⟨k1, e1⟩ | ⟨k1, e1⟩ | ⟨k1, e1⟩ <;> rcases vT_ways u hu with ⟨k2, e2⟩ | ⟨k2, e2⟩ | ⟨k2, e2⟩ | ⟨k2, e2⟩ <;> rw [e1, e2] at h
  · obtain ⟨h1, h2⟩ := bb _ _ (itoa_bare _).1 (itoa_bare _).1 h
    refine ⟨?_, h2⟩
    have := itoa_inj _ _ h1
    unfold sameB; rw [k1, k2, this]; simp
  · exfalso
    obtain ⟨h1, _⟩ := bb _ _ (itoa_bare _).1 (flt_bare _ hu.2.2).1 h
    obtain ⟨c, hc, hn⟩ := (flt_bare _ hu.2.2).2.2.2
    exact hn (itoa_chr _ c (by rw [h1]; exact hc))
  · exact absurd h.symm (fun e => quo _ _ _ _ (itoa_bare _).1 e)
  · exfalso
    obtain ⟨h1, _⟩ := bb _ _ (itoa_bare _).1 (bool_bare _).1 h
    obtain ⟨c, q, e, hc⟩ := (bool_bare u.yes).2
    rw [e] at h1
    rcases hc with rfl | rfl
    · exact (itoa_bare _).2.1 _ h1
    · exact (itoa_bare _).2.2 _ h1
  · exfalso
    obtain ⟨h1, _⟩ := bb _ _ (flt_bare _ hv.2.2).1 (itoa_bare _).1 h
    obtain ⟨c, hc, hn⟩ := (flt_bare _ hv.2.2).2.2.2
    exact hn (itoa_chr _ c (by rw [← h1]; exact hc))
  · obtain ⟨h1, h2⟩ := bb _ _ (flt_bare _ hv.2.2).1 (flt_bare _ hu.2.2).1 h
    refine ⟨?_, h2⟩
    have := (key_canon _ _ hv.2.2 hu.2.2).2 (flt_inj _ _ hv.2.2 hu.2.2 h1)
    unfold sameB Ord.same; rw [k1, k2, this]; simp
  · exact absurd h.symm (fun e => quo _ _ _ _ (flt_bare _ hv.2.2).1 e)
  · exfalso
    obtain ⟨h1, _⟩ := bb _ _ (flt_bare _ hv.2.2).1 (bool_bare _).1 h
    obtain ⟨c, q, e, hc⟩ := (bool_bare u.yes).2
    rw [e] at h1
    rcases hc with rfl | rfl
    · exact (flt_bare _ hv.2.2).2.1 _ h1
    · exact (flt_bare _ hv.2.2).2.2.1 _ h1
  · exact absurd h (fun e => quo _ _ _ _ (itoa_bare _).1 e)
  · exact absurd h (fun e => quo _ _ _ _ (flt_bare _ hu.2.2).1 e)
  · obtain ⟨h1, h2⟩ := Quo.quoteT_apart _ _ _ _ _ h
    refine ⟨?_, h2⟩
    unfold sameB; rw [k1, k2, h1]; simp
  · exact absurd h (fun e => quo _ _ _ _ (bool_bare _).1 e)
  · exfalso
    obtain ⟨h1, _⟩ := bb _ _ (bool_bare _).1 (itoa_bare _).1 h
    obtain ⟨c, q, e, hc⟩ := (bool_bare v.yes).2
    rw [e] at h1
    rcases hc with rfl | rfl
    · exact (itoa_bare _).2.1 _ h1.symm
    · exact (itoa_bare _).2.2 _ h1.symm
  · exfalso
    obtain ⟨h1, _⟩ := bb _ _ (bool_bare _).1 (flt_bare _ hu.2.2).1 h
    obtain ⟨c, q, e, hc⟩ := (bool_bare v.yes).2
    rw [e] at h1
    rcases hc with rfl | rfl
    · exact (flt_bare _ hu.2.2).2.1 _ h1.symm
    · exact (flt_bare _ hu.2.2).2.2.1 _ h1.symm
  · exact absurd h.symm (fun e => quo _ _ _ _ (bool_bare _).1 e)
  · obtain ⟨h1, h2⟩ := bb _ _ (bool_bare _).1 (bool_bare _).1 h
    refine ⟨?_, h2⟩
    have : v.yes = u.yes := by
      cases hv2 : v.yes <;> cases hu2 : u.yes <;> rw [hv2, hu2] at h1 <;> first | rfl | (revert h1; decide)
    unfold sameB; rw [k1, k2, this]; simp
end Go.Proofs.YtnccpddjdgndcaaGreatDoor.Val
end

section
/- WHAT A FILTER IS BROUGHT TO: its conditions in order; the order in which they came, and doubles, play no part. No walk. -/
namespace Go.Proofs.YtnccpddjdgndcaaGreatDoor.Val
open Go.RowKit Flt
/-- into a row that falls -/
def insr : List C → C → List C
  | [], x => [x]
  | y :: Q, x => if cmpC x y < 0 then y :: insr Q x else x :: y :: Q
theorem insr_perm : ∀ (Q : List C) (x : C), List.Perm (insr Q x) (x :: Q)
  | [], x => List.Perm.refl _
  | y :: Q, x => by
    unfold insr
    split
    · exact ((insr_perm Q x).cons y).trans (List.Perm.swap x y Q)
    · exact List.Perm.refl _
theorem bub_insr : ∀ (Q : List C) (x : C) (R : List C), bub (Q.reverse ++ x :: R) Q.length = (insr Q x).reverse ++ R
  | [], x, R => rfl
  | y :: Q, x, R => by
    have hlen : ((y :: Q).reverse ++ x :: R).length = Q.length + 1 + 1 + R.length := by simp; omega
    have e : (y :: Q).reverse ++ x :: R = Q.reverse ++ y :: x :: R := by simp
    have g1 : (Q.reverse ++ y :: x :: R)[Q.length + 1]! = x := by
      rw [getElem!_pos _ _ (by simp)]
      rw [List.getElem_append_right (by simp)]
      simp
    have g0 : (Q.reverse ++ y :: x :: R)[Q.length]! = y := by
      rw [getElem!_pos _ _ (by simp)]
      rw [List.getElem_append_right (by simp)]
      simp
    rw [e, List.length_cons, bub, g1, g0]
    unfold insr
    split
    · have hs : swp (Q.reverse ++ y :: x :: R) Q.length = Q.reverse ++ x :: y :: R := by
        unfold swp
        rw [g1, g0]
        rw [List.set_append_right _ _ (by simp), List.set_append_right _ _ (by simp)]
        simp
      rw [hs, bub_insr Q x (y :: R)]
      simp
    · simp
theorem isort_insr (L : List C) : ∀ i, i < L.length → isort L i = ((L.take (i + 1)).foldl insr []).reverse ++ L.drop (i + 1)
  | 0, h => by
    cases L with
    | nil => simp at h
    | cons a l => simp [isort, insr]
  | i + 1, h => by
    rw [isort, isort_insr L i (by omega)]
    have hd : L.drop (i + 1) = L[i + 1] :: L.drop (i + 2) := List.drop_eq_getElem_cons h
    have hl : ((L.take (i + 1)).foldl insr []).length = i + 1 := by
      have : ∀ (l : List C) (acc : List C), (l.foldl insr acc).length = acc.length + l.length := by
        intro l
        induction l with
        | nil => intro acc; simp
        | cons a l ih => intro acc; rw [List.foldl_cons, ih, (insr_perm acc a).length_eq]; simp; omega
      rw [this, List.length_take]
      simp; omega
    rw [hd]
    have := bub_insr ((L.take (i + 1)).foldl insr []) L[i + 1] (L.drop (i + 2))
    rw [hl] at this
    rw [this, List.take_succ_eq_append_getElem h, List.foldl_append]
    rfl
theorem sortC_insr (L : List C) : sortC L = (L.foldl insr []).reverse := by
  unfold sortC
  cases L with
  | nil => rfl
  | cons a l =>
    rw [isort_insr _ _ (by simp)]
    have e : (a :: l).length - 1 + 1 = (a :: l).length := by simp
    rw [e, List.take_length, List.drop_length, List.append_nil]
/-- not behind -/
def leC (a b : C) : Prop := ¬ cmpC b a < 0
theorem leC_of_lt {a b : C} (h : cmpC a b < 0) : leC a b := fun h2 => by
  have := (cb_anti (cT a) (cT b)).1.1 h
  unfold cmpC at h2
  omega
theorem leC_trans {a b c : C} (h1 : leC a b) (h2 : leC b c) : leC a c := by
  unfold leC cmpC at *
  intro h
  rcases Int.lt_trichotomy (Lib.compareBytes (cT a) (cT b)) 0 with k | k | k
  · exact h2 (cb_trans h k)
  · have e : cT a = cT b := (cb_zero _ _).1 k
    rw [e] at h
    exact h2 h
  · exact h1 ((cb_anti (cT b) (cT a)).1.2 k)
theorem insr_falls : ∀ (Q : List C) (x : C), Q.Pairwise (fun a b => leC b a) → (insr Q x).Pairwise (fun a b => leC b a)
  | [], x, _ => by simp [insr]
  | y :: Q, x, h => by
    obtain ⟨h1, h2⟩ := List.pairwise_cons.1 h
    unfold insr
    split
    · rename_i hlt
      refine List.pairwise_cons.2 ⟨fun z hz => ?_, insr_falls Q x h2⟩
      rcases List.mem_cons.1 ((insr_perm Q x).subset hz) with rfl | hz
      · exact leC_of_lt hlt
      · exact h1 z hz
    · rename_i hge
      refine List.pairwise_cons.2 ⟨fun z hz => ?_, h⟩
      rcases List.mem_cons.1 hz with rfl | hz
      · exact hge
      · exact leC_trans (h1 z hz) hge
theorem foldl_falls : ∀ (l acc : List C), acc.Pairwise (fun a b => leC b a) → (l.foldl insr acc).Pairwise (fun a b => leC b a)
  | [], _, h => h
  | a :: l, acc, h => foldl_falls l _ (insr_falls acc a h)
theorem foldl_perm : ∀ (l acc : List C), List.Perm (l.foldl insr acc) (l ++ acc)
  | [], _ => List.Perm.refl _
  | a :: l, acc => (foldl_perm l (insr acc a)).trans (((insr_perm acc a).append_left l).trans (List.perm_middle))
theorem sortC_perm (L : List C) : List.Perm (sortC L) L := by
  rw [sortC_insr]
  have := foldl_perm L []
  rw [List.append_nil] at this
  exact (List.reverse_perm _).trans this
theorem sortC_rises (L : List C) : (sortC L).Pairwise leC := by
  rw [sortC_insr, List.pairwise_reverse]
  exact foldl_falls L [] List.Pairwise.nil
/-- a condition as it is kept, that may be -/
def CKept (c : C) : Prop := ∃ d : C, cRight d = true ∧ d.val.num < 18446744073709551616 ∧ c = canonC d
theorem word_no32 : ∀ n : Nat, n ≤ 7 → ∀ c ∈ wordL n, c ≠ 32 := by decide
theorem word_inj : ∀ n : Nat, n ≤ 6 → ∀ m : Nat, m ≤ 6 → wordL n = wordL m → n = m := by decide
theorem cut32 : ∀ (n m s t : List UInt8), (∀ c ∈ n, c ≠ 32) → (∀ c ∈ m, c ≠ 32) → n ++ 32 :: s = m ++ 32 :: t → n = m ∧ s = t := fun n m s t hn hm h => by
  have := bare_apart n m (32 :: s) (32 :: t) hn hm (.inr ⟨s, rfl⟩) (.inr ⟨t, rfl⟩) h
  exact ⟨this.1, (List.cons.inj this.2).2⟩
theorem canonV_same (a b : V) (ha : VOk a) (hb : VOk b) (h : sameB a b = true) : canonV a = canonV b := by
  unfold sameB at h
  rw [Bool.and_eq_true, beq_iff_eq] at h
  obtain ⟨hk, h⟩ := h
  obtain ⟨k, n, x, t, y⟩ := a
  obtain ⟨k2, n2, x2, t2, y2⟩ := b
  obtain ⟨h0, h3, hx⟩ := ha
  obtain ⟨_, _, hx2⟩ := hb
  simp only at hk h h0 h3 hx hx2
  subst hk
  rcases (show k = 0 ∨ k = 1 ∨ k = 2 ∨ k = 3 by omega) with rfl | rfl | rfl | rfl
  · have e : n = n2 := by simpa using h
    rw [e]; rfl
  · have e : Ord.key x = Ord.key x2 := by simpa [Ord.same] using h
    have := (key_canon x x2 hx hx2).1 e
    show (⟨1, 0, Ord.canon x, [], false⟩ : V) = ⟨1, 0, Ord.canon x2, [], false⟩
    rw [this]
  · have e : t = t2 := by simpa using h
    rw [e]; rfl
  · have e : y = y2 := by simpa using h
    rw [e]; rfl
theorem canon_again (x : Nat) : Ord.canon (Ord.canon x) = Ord.canon x := by
  unfold Ord.canon
  cases h : nan x
  · cases h2 : Ord.zero x
    · simp only [h, h2, Bool.false_eq_true, if_false]
    · simp only [Bool.false_eq_true, if_false, if_true]
      rw [if_neg (by decide), if_pos (by decide)]
  · simp only [if_true]
    rw [if_pos (by decide)]
theorem vT_kept (v : V) (h0 : 0 ≤ v.kind) (h3 : v.kind ≤ 3) : vT (canonV v) = vT v := by
  obtain ⟨k, n, x, t, y⟩ := v
  simp only at h0 h3
  rcases (show k = 0 ∨ k = 1 ∨ k = 2 ∨ k = 3 by omega) with rfl | rfl | rfl | rfl
  · rfl
  · show Fmt.fltT (Ord.canon (Ord.canon x)) = Fmt.fltT (Ord.canon x)
    rw [canon_again]
  · rfl
  · rfl
theorem cT_kept (c : C) (h0 : 0 ≤ c.val.kind) (h3 : c.val.kind ≤ 3) : cT (canonC c) = cT c := by
  obtain ⟨nm, op, v⟩ := c
  cases h7 : (op == 7)
  · have e : canonC ⟨nm, op, v⟩ = ⟨nm, op, canonV v⟩ := by unfold canonC; simp only [h7]; rfl
    rw [e]
    unfold cT
    simp only [h7, vT_kept v h0 h3]
  · have : op = 7 := by simpa using h7
    subst this
    rfl
theorem right_parts {c : C} (h : cRight c = true) : (∀ x ∈ c.name, x ≠ 32) ∧ 0 ≤ c.op ∧ c.op ≤ 7 ∧ 0 ≤ c.val.kind ∧ c.val.kind ≤ 3 := by
  unfold cRight vRight at h
  simp only [Bool.and_eq_true, decide_eq_true_eq] at h
  refine ⟨?_, h.1.1.2, h.1.2, h.2.1.1, h.2.1.2⟩
  have hn := h.1.1.1
  unfold Sc.nameB at hn
  simp only [Bool.and_eq_true] at hn
  have key : ∀ (l : List UInt8) (i : Nat), Sc.chsOk i l = true → ∀ x ∈ l, x ≠ 32 := by
    intro l
    induction l with
    | nil => intro _ _ x hx; cases hx
    | cons c l ih =>
      intro i h x hx
      rw [Sc.chsOk, Bool.and_eq_true] at h
      rcases List.mem_cons.1 hx with rfl | hx
      · have := h.1
        unfold Sc.chOk at this
        rintro rfl
        revert this
        simp
      · exact ih _ h.2 x hx
  exact key _ _ hn.1.1
/-- CONDITIONS THAT MAY BE, OF ONE TEXT, ARE KEPT ALIKE -/
theorem cT_inj (c d : C) (hc : cRight c = true) (hd : cRight d = true) (nc : c.val.num < 18446744073709551616) (nd : d.val.num < 18446744073709551616) (h : cT c = cT d) : canonC c = canonC d := by
  obtain ⟨c1, c2, c3, c4, c5⟩ := right_parts hc
  obtain ⟨d1, d2, d3, d4, d5⟩ := right_parts hd
  obtain ⟨nm, op, v⟩ := c
  obtain ⟨nm2, op2, v2⟩ := d
  simp only at *
  have hasE : ∀ n : List UInt8, hasT ++ n = [104, 97, 115] ++ 32 :: n := fun n => rfl
  have opE : ∀ (n : List UInt8) (o : Int) (w : V), n ++ [32] ++ wordB o ++ [32] ++ vT w = n ++ 32 :: (wordB o ++ 32 :: vT w) := fun n o w => by simp
  have wE : ∀ o : Int, 0 ≤ o → o ≤ 7 → wordB o = wordL o.toNat := fun o h1 h2 => by unfold wordB; rw [if_neg (by omega)]
  have h32 : ∀ x ∈ ([104, 97, 115] : List UInt8), x ≠ 32 := by decide
  unfold cT at h
  simp only at h
  cases o1 : (op == 7) <;> cases o2 : (op2 == 7) <;> simp only [o1, o2, Bool.false_eq_true, if_false, if_true] at h
  · have p1 : op ≠ 7 := by simpa using o1
    have p2 : op2 ≠ 7 := by simpa using o2
    rw [opE, opE] at h
    obtain ⟨e1, h2⟩ := cut32 _ _ _ _ c1 d1 h
    rw [wE op c2 c3, wE op2 d2 d3] at h2
    obtain ⟨e2, h3⟩ := cut32 _ _ _ _ (word_no32 _ (by omega)) (word_no32 _ (by omega)) h2
    have e3 := word_inj _ (by omega) _ (by omega) e2
    have e4 : op = op2 := by omega
    have h4 : vT v ++ [] = vT v2 ++ [] := by simpa using h3
    have e5 := (vT_apart v v2 ⟨c4, c5, nc⟩ ⟨d4, d5, nd⟩ [] [] (.inl rfl) (.inl rfl) h4).1
    have e6 := canonV_same v v2 ⟨c4, c5, nc⟩ ⟨d4, d5, nd⟩ e5
    unfold canonC
    simp only [o1, o2, Bool.false_eq_true, if_false]
    rw [e1, e4, e6]
  · exfalso
    rw [opE, hasE] at h
    obtain ⟨e1, h2⟩ := cut32 _ _ _ _ c1 h32 h
    exact d1 32 (by rw [← h2]; simp) rfl
  · exfalso
    rw [opE, hasE] at h
    obtain ⟨e1, h2⟩ := cut32 _ _ _ _ h32 d1 h
    exact c1 32 (by rw [h2]; simp) rfl
  · rw [hasE, hasE] at h
    obtain ⟨_, h2⟩ := cut32 _ _ _ _ h32 h32 h
    unfold canonC
    simp only [o1, o2, if_true]
    rw [h2]
theorem kept_inj {a b : C} (ha : CKept a) (hb : CKept b) (h : cT a = cT b) : a = b := by
  obtain ⟨c, c1, c2, rfl⟩ := ha
  obtain ⟨d, d1, d2, rfl⟩ := hb
  obtain ⟨_, _, _, k1, k2⟩ := right_parts c1
  obtain ⟨_, _, _, m1, m2⟩ := right_parts d1
  rw [cT_kept c k1 k2, cT_kept d m1 m2] at h
  exact cT_inj c d c1 d1 c2 d2 h
/-- a list of conditions that may be -/
def LOk (L : List C) : Prop := ∀ c ∈ L, cRight c = true ∧ c.val.num < 18446744073709551616
theorem LOk.kept {L : List C} (h : LOk L) : ∀ c ∈ L.map canonC, CKept c := fun c hc => by
  obtain ⟨d, hd, rfl⟩ := List.mem_map.1 hc
  exact ⟨d, (h d hd).1, (h d hd).2, rfl⟩
end Go.Proofs.YtnccpddjdgndcaaGreatDoor.Val
end

section
/- WHAT STAYS OF A ROW OF CONDITIONS: it hangs on which there are alone. No walk. -/
namespace Go.Proofs.YtnccpddjdgndcaaGreatDoor.Val
open Go.RowKit Flt
def ltC (a b : C) : Prop := cmpC a b < 0
/-- a row in order, each as it is kept -/
structure Rise (S : List C) : Prop where
  le : S.Pairwise leC
  kept : ∀ c ∈ S, CKept c
  op : ∀ c ∈ S, 0 ≤ c.op ∧ c.op ≤ 7
theorem Rise.at {S : List C} (h : Rise S) {i k : Nat} (hi : i < S.length) (hk : k < S.length) (hki : k < i) : leC (S[k]'hk) (S[i]'hi) := List.pairwise_iff_getElem.1 h.le k i hk hi hki
theorem Rise.lt {S : List C} (h : Rise S) {a b : C} (ha : a ∈ S) (hb : b ∈ S) (hl : leC a b) (hne : a ≠ b) : ltC a b := by
  rcases Int.lt_trichotomy (cmpC a b) 0 with e | e | e
  · exact e
  · exact absurd (kept_inj (h.kept a ha) (h.kept b hb) ((cb_zero _ _).1 e)) hne
  · exact absurd ((cb_anti (cT b) (cT a)).1.2 e) hl
theorem canon_op {c : C} (h : 0 ≤ c.op ∧ c.op ≤ 7) : 0 ≤ (canonC c).op ∧ (canonC c).op ≤ 7 := by
  unfold canonC
  split
  · exact ⟨by show (0 : Int) ≤ 7; omega, by show (7 : Int) ≤ 7; omega⟩
  · exact h
theorem LOk.rise {L : List C} (h : LOk L) : Rise (sortC (L.map canonC)) where
  le := sortC_rises _
  kept := fun c hc => h.kept c ((sortC_perm _).subset hc)
  op := fun c hc => by
    obtain ⟨d, hd, rfl⟩ := List.mem_map.1 ((sortC_perm _).subset hc)
    exact canon_op ⟨(right_parts (h d hd).1).2.1, (right_parts (h d hd).1).2.2.1⟩
end Go.Proofs.YtnccpddjdgndcaaGreatDoor.Val
end

section
/- WHAT FilterTurns ASKS, plain. No walk. -/
namespace Go.Proofs.YtnccpddjdgndcaaGreatDoor.Val
open Go.RowKit Flt
theorem parts_long (l : List UInt8) : l.length + 1 = ((Sc.parts l).map (fun p => p.length + 1)).sum := by
  induction l with
  | nil => simp [Sc.parts]
  | cons b r ih =>
    rw [Sc.parts]
    split
    · rw [List.map_cons, List.sum_cons, ← ih]; simp; omega
    · cases h : Sc.parts r with
      | nil => exact absurd h (Sc.parts_ne r)
      | cons p q =>
        rw [h] at ih
        simp only [List.map_cons, List.sum_cons, List.length_cons] at ih ⊢
        omega
theorem names_long : ∀ L : List (List UInt8), L.all Sc.nameB = true → (L.map (fun p => p.length + 1)).sum ≤ 13 * L.length
  | [], _ => by simp
  | p :: L, h => by
    rw [List.all_cons, Bool.and_eq_true] at h
    have := names_long L h.2
    have h1 : p.length ≤ 12 := by
      have := h.1
      unfold Sc.nameB at this
      simp only [Bool.and_eq_true, decide_eq_true_eq] at this
      exact this.2
    rw [List.map_cons, List.sum_cons, List.length_cons]
    omega
theorem scope_short {s : List UInt8} (h : Sc.rightB s = true) : s.length ≤ 1000 := by
  unfold Sc.rightB at h
  rw [Bool.or_eq_true, Bool.and_eq_true, decide_eq_true_eq] at h
  rcases h with h | ⟨h1, h2⟩
  · have : s = [] := by simpa using h
    subst this; simp
  · have e1 := parts_long s
    have e2 := names_long _ h1
    omega
theorem fright_small {sf : List UInt8} {l : List C} (h : fRight sf l = true) (hok : ∀ x ∈ l, Open.COk x) (hn : ∀ x ∈ l, x.val.num < 18446744073709551616) : sf.length ≤ 1000 ∧ l.length ≤ 6 ∧ LOk l ∧ ∀ c ∈ l, CSmall c ∧ 0 ≤ c.op ∧ c.op ≤ 7 := by
  have hop := fright_op h
  unfold fRight at h
  simp only [Bool.and_eq_true, List.all_eq_true, decide_eq_true_eq] at h
  refine ⟨scope_short h.2.1, h.2.2, fun c hc => ⟨h.1 c hc, hn c hc⟩, fun c hc => ⟨⟨?_, ?_, hn c hc, (hok c hc).2.2.2.1.1, (hok c hc).2.2.2.1.2⟩, hop c hc⟩⟩
  · have := h.1 c hc
    unfold cRight Sc.nameB at this
    simp only [Bool.and_eq_true, decide_eq_true_eq] at this
    omega
  · have := h.1 c hc
    unfold cRight vRight at this
    simp only [Bool.and_eq_true, decide_eq_true_eq] at this
    omega
theorem flatC_apps (l m : List C) : flatC (l ++ m) = flatC l ++ flatC m := by simp [flatC]
theorem conds_lie {w : World} {a : Addr} {l : List C} (h : Conds w (some a) l) (i : Nat) : ∀ j u, (flatC (l.drop i))[j]? = some u → w.cell? ((a.add (i * 7)).add j) = some u := by
  intro j u hj
  have hjl : j < (l.drop i).length * 7 := by have := (List.getElem?_eq_some_iff.1 hj).1; rwa [flatC_len] at this
  rw [List.length_drop] at hjl
  obtain ⟨q, p, hp, rfl⟩ : ∃ q p, p < 7 ∧ j = q * 7 + p := ⟨j / 7, j % 7, Nat.mod_lt _ (by decide), by omega⟩
  have hq : i + q < l.length := by omega
  have hq2 : q < (l.drop i).length := by rw [List.length_drop]; omega
  rw [flatC_at _ q p hq2 hp] at hj
  have he : (l.drop i)[q] = l[i + q] := List.getElem_drop ..
  rw [he] at hj
  obtain ⟨a', ea, h0, h1, h2, h3, h4, h5, h6⟩ := h (i + q) hq
  cases ea
  have hadd : (a.add (i * 7)).add (q * 7 + p) = (a.add ((i + q) * 7)).add p := by rw [Deep.add_add, Deep.add_add]; congr 1; omega
  rw [hadd]
  match p, hp, hj with
  | 0, _, hj => simp [cells7] at hj; subst hj; exact h0
  | 1, _, hj => simp [cells7] at hj; subst hj; exact h1
  | 2, _, hj => simp [cells7] at hj; subst hj; exact h2
  | 3, _, hj => simp [cells7] at hj; subst hj; exact h3
  | 4, _, hj => simp [cells7] at hj; subst hj; exact h4
  | 5, _, hj => simp [cells7] at hj; subst hj; exact h5
  | 6, _, hj => simp [cells7] at hj; subst hj; exact h6
theorem conds_take {w : World} {a : Addr} {l : List C} (h : Conds w (some a) l) (r : Nat) : ∀ j u, (flatC (l.take r))[j]? = some u → w.cell? (a.add j) = some u := by
  intro j u hj
  have h1 := conds_lie h 0 j u (by
    rw [List.drop_zero]
    conv => lhs; rw [← List.take_append_drop r l]
    rw [flatC_apps, List.getElem?_append_left (List.getElem?_eq_some_iff.1 hj).1]
    exact hj)
  rw [Deep.add_add] at h1
  simpa using h1
end Go.Proofs.YtnccpddjdgndcaaGreatDoor.Val
end

section
/- WHAT FilterCovers, FilterNorms AND FilterKeys ASK, plain: conditions as they are kept imply what they did; one that none implies stays; a key tells its scope and conditions. No walk. -/
namespace Go.Proofs.YtnccpddjdgndcaaGreatDoor.Val
open Go.RowKit Flt
def KOk (v : V) : Prop := 0 ≤ v.kind ∧ v.kind ≤ 3
theorem KOk.canon {v : V} (h : KOk v) : KOk (canonV v) := by
  unfold KOk; rw [canonV_kind v h.1 h.2]; exact h
theorem four_ways {k : Int} (h0 : 0 ≤ k) (h3 : k ≤ 3) : k = 0 ∨ k = 1 ∨ k = 2 ∨ k = 3 := by omega
theorem KOk.of_right {c : C} (h : cRight c = true) : KOk c.val := ⟨(right_parts h).2.2.2.1, (right_parts h).2.2.2.2⟩
theorem KOk.canonC {c : C} (h : KOk c.val) : KOk (canonC c).val := by
  unfold Val.canonC
  split
  · exact ⟨Int.le_refl 0, by show (0 : Int) ≤ 3; decide⟩
  · exact h.canon
theorem canonV_again {v : V} (h : KOk v) : canonV (canonV v) = canonV v := by
  obtain ⟨k, n, x, t, y⟩ := v
  obtain ⟨h0, h3⟩ := h
  simp only at h0 h3
  rcases four_ways h0 h3 with rfl | rfl | rfl | rfl
  · rfl
  · show (⟨1, 0, Ord.canon (Ord.canon x), [], false⟩ : V) = ⟨1, 0, Ord.canon x, [], false⟩
    rw [canon_again]
  · rfl
  · rfl
theorem canonC_again {c : C} (h : KOk c.val) : canonC (canonC c) = canonC c := by
  cases h7 : (c.op == 7)
  · have e : canonC c = ⟨c.name, c.op, canonV c.val⟩ := by unfold canonC; simp only [h7, Bool.false_eq_true, if_false]
    rw [e]
    unfold canonC
    simp only [h7, Bool.false_eq_true, if_false, canonV_again h]
  · have e : canonC c = ⟨c.name, 7, 0, 0, 0, [], false⟩ := by unfold canonC; simp only [h7, if_true]
    rw [e]; rfl
open Classical in
/-- below every one that is there stands one below which none stands -/
theorem least {α : Type} (S : List α) (R : α → α → Prop) (irr : ∀ x, ¬ R x x) (tr : ∀ x ∈ S, ∀ y ∈ S, ∀ z ∈ S, R z y → R y x → R z x) :
    ∀ n, ∀ c ∈ S, (S.filter (fun y => @decide (R y c) (Classical.propDecidable _))).length ≤ n → ∃ x ∈ S, (∀ y ∈ S, ¬ R y x) ∧ (x = c ∨ R x c) := by
  intro n
  induction n with
  | zero =>
    intro c hc h
    refine ⟨c, hc, fun y hy hr => ?_, .inl rfl⟩
    have hm : y ∈ S.filter (fun y => @decide (R y c) (Classical.propDecidable _)) := List.mem_filter.2 ⟨hy, decide_eq_true hr⟩
    rw [List.eq_nil_of_length_eq_zero (Nat.le_zero.1 h)] at hm
    cases hm
  | succ n ih =>
    intro c hc h
    by_cases hg : ∃ y ∈ S, R y c
    · obtain ⟨y, hy, hr⟩ := hg
      have hlt : (S.filter (fun z => @decide (R z y) (Classical.propDecidable _))).length < (S.filter (fun z => @decide (R z c) (Classical.propDecidable _))).length := by
        have he : S.filter (fun z => @decide (R z y) (Classical.propDecidable _)) = (S.filter (fun z => @decide (R z c) (Classical.propDecidable _))).filter (fun z => @decide (R z y) (Classical.propDecidable _)) := by
          rw [List.filter_filter]
          refine List.filter_congr fun z hz => ?_
          by_cases h1 : R z y
          · have h2 := tr c hc y hy z hz h1 hr
            simp [h1, h2]
          · simp [h1]
        rw [he]
        exact List.length_filter_lt_length_iff_exists.2 ⟨y, List.mem_filter.2 ⟨hy, decide_eq_true hr⟩, by simp [irr]⟩
      obtain ⟨x, hx, h1, h2⟩ := ih y hy (by omega)
      refine ⟨x, hx, h1, .inr ?_⟩
      rcases h2 with rfl | h2
      · exact hr
      · exact tr c hc y hy x hx h2 hr
    · exact ⟨c, hc, fun y hy hr => hg ⟨y, hy, hr⟩, .inl rfl⟩
theorem LOk.op {L : List C} (h : LOk L) : ∀ c ∈ L, 0 ≤ c.op ∧ c.op ≤ 7 := fun c hc => ⟨(right_parts (h c hc).1).2.1, (right_parts (h c hc).1).2.2.1⟩
theorem LOk.kind {L : List C} (h : LOk L) : ∀ c ∈ L, KOk c.val := fun c hc => KOk.of_right (h c hc).1
theorem right_canon {c : C} (h : cRight c = true) : cRight (canonC c) = true := by
  have hp := right_parts h
  unfold cRight at h ⊢
  simp only [Bool.and_eq_true, decide_eq_true_eq] at h ⊢
  have nm : (canonC c).name = c.name := by unfold canonC; split <;> rfl
  rw [nm]
  refine ⟨⟨⟨h.1.1.1, (canon_op ⟨hp.2.1, hp.2.2.1⟩).1⟩, (canon_op ⟨hp.2.1, hp.2.2.1⟩).2⟩, ?_⟩
  unfold canonC
  split
  · exact (show vRight ⟨0, 0, 0, [], false⟩ = true by decide)
  · have h2 := h.2
    obtain ⟨nm, op, k, n, x, t, y⟩ := c
    obtain ⟨_, _, _, k0, k3⟩ := hp
    simp only at *
    rcases four_ways k0 k3 with rfl | rfl | rfl | rfl
    · rfl
    · rfl
    · unfold vRight at h2 ⊢
      exact h2
    · rfl
/-- the text of a filter behind its scope -/
def tailT : List C → List UInt8
  | [] => []
  | c :: r => [32, 38, 32] ++ cT c ++ tailT r
def bodyT : List C → List UInt8
  | [] => []
  | c :: r => [32] ++ cT c ++ tailT r
theorem tailT_app (l : List C) (c : C) : tailT (l ++ [c]) = tailT l ++ ([32, 38, 32] ++ cT c) := by
  induction l with
  | nil => simp [tailT]
  | cons d r ih => rw [List.cons_append, tailT, ih, tailT]; simp
theorem fprK_body (sc : List UInt8) (l : List C) : ∀ k, k ≤ l.length → fprK sc l cT k = sc ++ 58 :: bodyT (l.take k)
  | 0, _ => by simp [fprK, bodyT]
  | k + 1, h => by
    rw [fprK, fprK_body sc l k (by omega), List.take_succ_eq_append_getElem (by omega), getElem!_pos l k (by omega)]
    cases hk : l.take k with
    | nil =>
      have : k = 0 := by
        have := congrArg List.length hk
        rw [List.length_take, List.length_nil] at this
        omega
      subst this
      simp [bodyT, tailT]
    | cons d r =>
      have : k ≠ 0 := by
        rintro rfl
        simp at hk
      simp [bodyT, tailT_app, this]
theorem name_no58 {l : List UInt8} (h : Sc.nameB l = true) : ∀ x ∈ l, x ≠ 58 := by
  unfold Sc.nameB at h
  simp only [Bool.and_eq_true] at h
  have key : ∀ (l : List UInt8) (i : Nat), Sc.chsOk i l = true → ∀ x ∈ l, x ≠ 58 := by
    intro l
    induction l with
    | nil => intro _ _ x hx; cases hx
    | cons c l ih =>
      intro i h x hx
      rw [Sc.chsOk, Bool.and_eq_true] at h
      rcases List.mem_cons.1 hx with rfl | hx
      · have := h.1
        unfold Sc.chOk at this
        rintro rfl
        revert this
        simp
      · exact ih _ h.2 x hx
  exact key _ _ h.1.1
theorem parts_no58 : ∀ l : List UInt8, (∀ p ∈ Sc.parts l, ∀ x ∈ p, x ≠ 58) → ∀ x ∈ l, x ≠ 58
  | [], _, x, hx => by cases hx
  | b :: r, h, x, hx => by
    rw [Sc.parts] at h
    by_cases hb : b = 47
    · rw [if_pos hb] at h
      rcases List.mem_cons.1 hx with rfl | hx
      · rw [hb]; decide
      · exact parts_no58 r (fun p hp => h p (List.mem_cons_of_mem _ hp)) x hx
    · rw [if_neg hb] at h
      cases hp : Sc.parts r with
      | nil => exact absurd hp (Sc.parts_ne r)
      | cons p q =>
        rw [hp] at h
        simp only at h
        rcases List.mem_cons.1 hx with rfl | hx
        · exact h (x :: p) List.mem_cons_self x List.mem_cons_self
        · refine parts_no58 r (fun p' hp' y hy => ?_) x hx
          rw [hp] at hp'
          rcases List.mem_cons.1 hp' with rfl | hp'
          · exact h (b :: p') List.mem_cons_self y (List.mem_cons_of_mem _ hy)
          · exact h p' (List.mem_cons_of_mem _ hp') y hy
theorem scope_no58 {s : List UInt8} (h : Sc.rightB s = true) : ∀ x ∈ s, x ≠ 58 := by
  unfold Sc.rightB at h
  rw [Bool.or_eq_true, Bool.and_eq_true] at h
  rcases h with h | ⟨h1, _⟩
  · have : s = [] := by simpa using h
    subst this
    intro x hx; cases hx
  · exact parts_no58 s (fun p hp => name_no58 (List.all_eq_true.1 h1 p hp))
end Go.Proofs.YtnccpddjdgndcaaGreatDoor.Val
end

section
/- PLAIN: what conditions print is cut into pieces only where it should be, and blanks around it go. No program in sight. -/
namespace Go.Proofs.YtnccpddjdgndcaaGreatDoor.Pa
open Go.RowKit Flt Go.Proofs.YtnccpddjdgndcaaGreatDoor.Val Go.Proofs.YtnccpddjdgndcaaGreatDoor.Unq Go.Proofs.YtnccpddjdgndcaaGreatDoor.Quo
/-- a text that leads from one state of quoting to another one without a cut -/
def Wh (q : Bool) (u : List UInt8) (q2 : Bool) : Prop := ∀ cur rest, cutGo q cur (u ++ rest) = cutGo q2 (cur ++ u) rest
theorem Wh.nil (q : Bool) : Wh q [] q := fun cur rest => by rw [List.nil_append, List.append_nil]
theorem Wh.app {a b c : Bool} {u v : List UInt8} (h : Wh a u b) (k : Wh b v c) : Wh a (u ++ v) c := fun cur rest => by
  rw [List.append_assoc, h, k, List.append_assoc]
theorem Wh.one (q : Bool) (c : UInt8) (h1 : (q && c == 92) = false) (h2 : (c == 34) = false) (h3 : (c == 38 && !q) = false) : Wh q [c] q := fun cur rest => cutGo_else q cur c rest h1 h2 h3
theorem Wh.bare : ∀ u : List UInt8, (∀ c ∈ u, c ≠ 34 ∧ c ≠ 38) → Wh false u false
  | [], _ => Wh.nil _
  | c :: u, h => by
    have hc := h c List.mem_cons_self
    exact Wh.app (u := [c]) (Wh.one false c rfl (by simpa using hc.1) (by simpa using hc.2)) (Wh.bare u fun x hx => h x (List.mem_cons_of_mem _ hx))
theorem Wh.inq : ∀ u : List UInt8, (∀ c ∈ u, c ≠ 34 ∧ c ≠ 92) → Wh true u true
  | [], _ => Wh.nil _
  | c :: u, h => by
    have hc := h c List.mem_cons_self
    exact Wh.app (u := [c]) (Wh.one true c (by simpa using hc.2) (by simpa using hc.1) (by simp)) (Wh.inq u fun x hx => h x (List.mem_cons_of_mem _ hx))
theorem Wh.esc (c : UInt8) : Wh true [92, c] true := fun cur rest => by
  show cutGo true cur (92 :: c :: rest) = _
  rw [cutGo_skip true cur 92 (c :: rest) rfl]
  simp
theorem Wh.open : Wh false [34] true := fun cur rest => cutGo_quote false cur 34 rest rfl rfl
theorem Wh.close : Wh true [34] false := fun cur rest => cutGo_quote true cur 34 rest rfl rfl
theorem inq_map (u : List Int) (h : ∀ n ∈ u, 0 ≤ n ∧ n < 256 ∧ n ≠ 34 ∧ n ≠ 92) : Wh true (u.map tb) true := Wh.inq _ fun c hc => by
  obtain ⟨n, hn, rfl⟩ := List.mem_map.1 hc
  obtain ⟨h0, h1, h2, h3⟩ := h n hn
  have hv := tb_nat h0 h1
  constructor
  · intro e
    rw [e] at hv
    exact h2 (by rw [← hv]; rfl)
  · intro e
    rw [e] at hv
    exact h3 (by rw [← hv]; rfl)
theorem esc_map (c : Int) (u : List Int) (h : ∀ n ∈ u, 0 ≤ n ∧ n < 256 ∧ n ≠ 34 ∧ n ≠ 92) : Wh true ((92 :: c :: u).map tb) true := by
  have := Wh.app (Wh.esc (tb c)) (inq_map u h)
  exact this
theorem hex_rng (x : Nat) (h : x < 16) : 0 ≤ Lib.hexDigit x ∧ Lib.hexDigit x < 256 ∧ Lib.hexDigit x ≠ 34 ∧ Lib.hexDigit x ≠ 92 := by
  unfold Lib.hexDigit
  split <;> omega
theorem code_wh (T : Lib.PrintTabs) (s : Int) (hs : Sym s) : Wh true ((code T s).map tb) true := by
  have hx : ∀ k, 0 ≤ Lib.hexDigit (k % 16) ∧ Lib.hexDigit (k % 16) < 256 ∧ Lib.hexDigit (k % 16) ≠ 34 ∧ Lib.hexDigit (k % 16) ≠ 92 := fun k => hex_rng _ (Nat.mod_lt _ (by decide))
  have non : ∀ n ∈ ([] : List Int), 0 ≤ n ∧ n < 256 ∧ n ≠ 34 ∧ n ≠ 92 := fun n hn => by cases hn
  unfold code Sym at *
  by_cases hneg : s < 0
  · rw [if_pos hneg]
    have h1 := hex_rng ((-s).toNat / 16) (by omega)
    have h2 := hx (-s).toNat
    refine esc_map 120 _ ?_
    intro n hn
    simp only [List.mem_cons, List.not_mem_nil, or_false] at hn
    rcases hn with rfl | rfl
    · exact h1
    · exact h2
  · rw [if_neg hneg]
    rw [Lib.escRune.eq_1]
    refine dite (s = 34 ∨ s = 92) (fun h => ?_) (fun c0 => ?_)
    · rw [if_pos h]
      exact esc_map s [] non
    rw [if_neg c0]
    refine dite (Lib.isPrintR T s = true) (fun h => ?_) (fun c1 => ?_)
    · rw [if_pos h]
      refine inq_map _ ?_
      unfold Lib.encodeRuneZ
      split
      · intro n hn
        simp only [List.mem_cons, List.not_mem_nil, or_false] at hn
        omega
      split
      · intro n hn
        simp only [List.mem_cons, List.not_mem_nil, or_false] at hn
        omega
      split
      · intro n hn
        simp only [List.mem_cons, List.not_mem_nil, or_false] at hn
        omega
      split
      · intro n hn
        simp only [List.mem_cons, List.not_mem_nil, or_false] at hn
        omega
      · omega
    rw [if_neg c1]
    refine dite (s = 7) (fun h => ?_) (fun d0 => ?_)
    · rw [if_pos h]; exact esc_map _ [] non
    rw [if_neg d0]
    refine dite (s = 8) (fun h => ?_) (fun d1 => ?_)
    · rw [if_pos h]; exact esc_map _ [] non
    rw [if_neg d1]
    refine dite (s = 12) (fun h => ?_) (fun d2 => ?_)
    · rw [if_pos h]; exact esc_map _ [] non
    rw [if_neg d2]
    refine dite (s = 10) (fun h => ?_) (fun d3 => ?_)
    · rw [if_pos h]; exact esc_map _ [] non
    rw [if_neg d3]
    refine dite (s = 13) (fun h => ?_) (fun d4 => ?_)
    · rw [if_pos h]; exact esc_map _ [] non
    rw [if_neg d4]
    refine dite (s = 9) (fun h => ?_) (fun d5 => ?_)
    · rw [if_pos h]; exact esc_map _ [] non
    rw [if_neg d5]
    refine dite (s = 11) (fun h => ?_) (fun d6 => ?_)
    · rw [if_pos h]; exact esc_map _ [] non
    rw [if_neg d6]
    refine dite (s < 32 ∨ s = 127) (fun h => ?_) (fun d7 => ?_)
    · rw [if_pos h]
      have h1 := hex_rng (s.toNat / 16) (by omega)
      have h2 := hx s.toNat
      refine esc_map 120 _ ?_
      intro n hn
      simp only [List.mem_cons, List.not_mem_nil, or_false] at hn
      rcases hn with rfl | rfl
      · exact h1
      · exact h2
    rw [if_neg d7]
    have hv : ¬ Lib.validRune s = false := by
      unfold Lib.validRune
      rw [decide_eq_false_iff_not]
      omega
    rw [if_neg hv]
    refine dite (s < 65536) (fun h => ?_) (fun d8 => ?_)
    · rw [if_pos h]
      refine esc_map 117 _ ?_
      rw [hex4]
      intro n hn
      simp only [List.mem_cons, List.not_mem_nil, or_false] at hn
      rcases hn with rfl | rfl | rfl | rfl <;> exact hx _
    · rw [if_neg d8]
      refine esc_map 85 _ ?_
      rw [hex8]
      intro n hn
      simp only [List.mem_cons, List.not_mem_nil, or_false] at hn
      rcases hn with rfl | rfl | rfl | rfl | rfl | rfl | rfl | rfl <;> exact hx _
theorem qf_wh (T : Lib.PrintTabs) : ∀ (f : Nat) (l : List UInt8), Wh true ((qf T f l).map tb) true
  | 0, _ => Wh.nil _
  | f + 1, l => by
    unfold qf
    split
    · exact Wh.nil _
    · rename_i hl
      rw [List.map_append]
      exact Wh.app (code_wh T _ (sym_ok l hl).1) (qf_wh T f _)
theorem quote_wh (T : Lib.PrintTabs) (l : List UInt8) : Wh false (quoteT T l) false := by
  rw [quoteT_eq]
  exact Wh.app (u := [34]) Wh.open (Wh.app (qf_wh T _ _) Wh.close)
/-- a text that is one, and without blanks at its ends -/
def Ends (t : List UInt8) : Prop := t ≠ [] ∧ (∀ x, t.head? = some x → x ≠ 32) ∧ (∀ x, t.getLast? = some x → x ≠ 32)
theorem Ends.bare {t : List UInt8} (h0 : t ≠ []) (h : ∀ c ∈ t, c ≠ 32) : Ends t :=
  ⟨h0, fun x hx => h x (List.mem_of_mem_head? hx), fun x hx => h x (List.mem_of_mem_getLast? hx)⟩
theorem Ends.app {t u : List UInt8} (h : Ends t) (k : Ends u) (m : List UInt8) : Ends (t ++ (m ++ u)) := by
  obtain ⟨h0, h1, _⟩ := h
  obtain ⟨k0, _, k2⟩ := k
  refine ⟨fun e => h0 (List.append_eq_nil_iff.1 e).1, fun x hx => ?_, fun x hx => ?_⟩
  · cases t with
    | nil => exact absurd rfl h0
    | cons a t => exact h1 x (by simpa using hx)
  · rw [List.getLast?_append, List.getLast?_append] at hx
    cases hu : u.getLast? with
    | none => exact absurd (List.getLast?_eq_none_iff.1 hu) k0
    | some y =>
      rw [hu] at hx
      simp only [Option.some_or, Option.some.injEq] at hx
      exact k2 x (by rw [hu, hx])
theorem vT_tx (v : V) (h : VOk v) : Wh false (vT v) false ∧ Ends (vT v) := by
  rcases vT_ways v h with ⟨_, e⟩ | ⟨_, e⟩ | ⟨_, e⟩ | ⟨_, e⟩
  · rw [e]
    refine ⟨Wh.bare _ fun c hc => ?_, Ends.bare (itoa_ne _) (itoa_bare v.int).1.2.1⟩
    rcases itoa_chr _ c hc with h | h
    · exact ⟨Fmt.isD_ne h 34 (by decide), Fmt.isD_ne h 38 (by decide)⟩
    · rw [h]; decide
  · rw [e]
    have hb := (flt_bare v.num h.2.2).1
    refine ⟨Wh.bare _ fun c hc => ?_, Ends.bare hb.1 hb.2.1⟩
    rcases flt_ways v.num h.2.2 with ⟨f, _⟩ | ⟨f, _⟩ | ⟨f, _⟩ | ⟨_, X, f, _, hN⟩
    · rw [f] at hc; revert c; decide
    · rw [f] at hc; revert c; decide
    · rw [f] at hc; revert c; decide
    · rw [f] at hc
      rcases List.mem_append.1 hc with hc | hc
      · unfold Fmt.sgn at hc
        split at hc
        · rw [List.mem_singleton] at hc; rw [hc]; decide
        · cases hc
      · exact ⟨isN_ne (hN c hc) 34 (by decide), isN_ne (hN c hc) 38 (by decide)⟩
  · rw [e]
    refine ⟨quote_wh _ _, ?_⟩
    rw [quoteT_eq]
    refine ⟨by simp, fun x hx => ?_, fun x hx => ?_⟩
    · simp only [List.head?_cons, Option.some.injEq] at hx
      rw [← hx]; decide
    · have : (34 :: ((qf Lib.goPrintTabs v.text.length v.text).map tb ++ [34])).getLast? = some 34 := by
        rw [← List.cons_append, List.getLast?_append]; rfl
      rw [this, Option.some.injEq] at hx
      rw [← hx]; decide
  · rw [e]
    have hb := (bool_bare v.yes).1
    refine ⟨Wh.bare _ ?_, Ends.bare hb.1 hb.2.1⟩
    cases v.yes <;> decide
theorem name_chr {l : List UInt8} (h : Sc.nameB l = true) : l ≠ [] ∧ l.length ≤ 12 ∧ ∀ x ∈ l, (97 ≤ x.toNat ∧ x.toNat ≤ 122) ∨ (48 ≤ x.toNat ∧ x.toNat ≤ 57) := by
  unfold Sc.nameB at h
  simp only [Bool.and_eq_true] at h
  have key : ∀ (l : List UInt8) (i : Nat), Sc.chsOk i l = true → ∀ x ∈ l, (97 ≤ x.toNat ∧ x.toNat ≤ 122) ∨ (48 ≤ x.toNat ∧ x.toNat ≤ 57) := by
    intro l
    induction l with
    | nil => intro _ _ x hx; cases hx
    | cons c l ih =>
      intro i h x hx
      rw [Sc.chsOk, Bool.and_eq_true] at h
      rcases List.mem_cons.1 hx with rfl | hx
      · have := h.1
        unfold Sc.chOk at this
        simp at this
        omega
      · exact ih _ h.2 x hx
  refine ⟨fun e => ?_, by simpa using h.2, key _ _ h.1.1⟩
  rw [e] at h
  simp at h
theorem name_ne {l : List UInt8} (h : Sc.nameB l = true) (k : UInt8) (hk : k.toNat < 48) : ∀ c ∈ l, c ≠ k := fun c hc e => by
  rcases (name_chr h).2.2 c hc with ⟨a, _⟩ | ⟨a, _⟩ <;> (rw [e] at a; omega)
theorem wordB_of {o : Int} (h0 : 0 ≤ o) (h7 : o ≤ 7) : wordB o = wordL o.toNat := by unfold wordB; rw [if_neg (by omega)]
theorem wordL_tx : ∀ n : Nat, n ≤ 7 → wordL n ≠ [] ∧ ∀ c ∈ wordL n, c ≠ 32 ∧ c ≠ 34 ∧ c ≠ 38 := by decide
/-- a condition's text is one piece -/
theorem cT_tx (c : C) (h : cRight c = true) (hn : c.val.num < 18446744073709551616) : Wh false (cT c) false ∧ Ends (cT c) := by
  obtain ⟨_, o0, o7, k0, k3⟩ := right_parts h
  have hcn : Sc.nameB c.name = true := by
    unfold cRight at h; simp only [Bool.and_eq_true] at h; exact h.1.1.1
  have n34 := name_ne hcn 34 (by decide); have n38 := name_ne hcn 38 (by decide); have n32 := name_ne hcn 32 (by decide)
  have wn : Wh false c.name false := Wh.bare _ fun x hx => ⟨n34 x hx, n38 x hx⟩
  have en : Ends c.name := Ends.bare (name_chr hcn).1 n32
  have bl : Wh false [32] false := Wh.bare _ (by decide)
  unfold cT
  split
  · refine ⟨Wh.app (Wh.bare hasT (by decide)) wn, ?_⟩
    exact Ends.app (t := [104, 97, 115]) (Ends.bare (by decide) (by decide)) en [32]
  · obtain ⟨wv, ev⟩ := vT_tx c.val ⟨k0, k3, hn⟩
    obtain ⟨w0, w1⟩ := wordL_tx c.op.toNat (by omega)
    rw [wordB_of o0 o7]
    have ww : Wh false (wordL c.op.toNat) false := Wh.bare _ fun x hx => (w1 x hx).2
    refine ⟨Wh.app (Wh.app (Wh.app (Wh.app wn bl) ww) bl) wv, ?_⟩
    have := Ends.app en ev ([32] ++ wordL c.op.toNat ++ [32])
    simpa using this
theorem parts_ne32 : ∀ l : List UInt8, (∀ p ∈ Sc.parts l, ∀ x ∈ p, x ≠ 32) → ∀ x ∈ l, x ≠ 32
  | [], _, x, hx => by cases hx
  | b :: r, h, x, hx => by
    rw [Sc.parts] at h
    by_cases hb : b = 47
    · rw [if_pos hb] at h
      rcases List.mem_cons.1 hx with rfl | hx
      · rw [hb]; decide
      · exact parts_ne32 r (fun p hp => h p (List.mem_cons_of_mem _ hp)) x hx
    · rw [if_neg hb] at h
      cases hp : Sc.parts r with
      | nil => exact absurd hp (Sc.parts_ne r)
      | cons p q =>
        rw [hp] at h
        simp only at h
        rcases List.mem_cons.1 hx with rfl | hx
        · exact h (x :: p) List.mem_cons_self x List.mem_cons_self
        · refine parts_ne32 r (fun p' hp' y hy => ?_) x hx
          rw [hp] at hp'
          rcases List.mem_cons.1 hp' with rfl | hp'
          · exact h (b :: p') List.mem_cons_self y (List.mem_cons_of_mem _ hy)
          · exact h p' (List.mem_cons_of_mem _ hp') y hy
theorem scope_ne32 {s : List UInt8} (h : Sc.rightB s = true) : ∀ x ∈ s, x ≠ 32 := by
  unfold Sc.rightB at h
  rw [Bool.or_eq_true, Bool.and_eq_true] at h
  rcases h with h | ⟨h1, _⟩
  · have : s = [] := by simpa using h
    subst this
    intro x hx; cases hx
  · exact parts_ne32 s (fun p hp => name_ne (List.all_eq_true.1 h1 p hp) 32 (by decide))
theorem scope_trim {s a b : List UInt8} (h : Sc.rightB s = true) (ha : ∀ x ∈ a, x = 32) (hb : ∀ x ∈ b, x = 32) : trimP (a ++ (s ++ b)) = s :=
  trimP_of ha hb (fun x hx => scope_ne32 h x (List.mem_of_mem_head? hx)) (fun x hx => scope_ne32 h x (List.mem_of_mem_getLast? hx))
/-- pieces with & between -/
def joinA : List (List UInt8) → List UInt8
  | [] => []
  | [p] => p
  | p :: q :: r => p ++ 38 :: joinA (q :: r)
theorem cut_join : ∀ (ps : List (List UInt8)), ps ≠ [] → (∀ p ∈ ps, Wh false p false) → cutP (joinA ps) = ps
  | [], h, _ => absurd rfl h
  | [p], _, h => by
    have := h p List.mem_cons_self [] []
    unfold cutP joinA
    rw [List.append_nil, List.nil_append] at this
    rw [this]
    rfl
  | p :: q :: r, _, h => by
    have h1 := h p List.mem_cons_self [] (38 :: joinA (q :: r))
    have h2 := cut_join (q :: r) (List.cons_ne_nil _ _) fun x hx => h x (List.mem_cons_of_mem _ hx)
    unfold cutP at h2 ⊢
    rw [joinA, h1, List.nil_append, cutGo_and false p 38 _ rfl rfl rfl, h2]
/-- a condition's text with blanks around -/
def Around (p : List UInt8) (c : C) : Prop := ∃ a b, p = a ++ (cT c ++ b) ∧ (∀ x ∈ a, x = 32) ∧ (∀ x ∈ b, x = 32)
theorem Around.trim {p : List UInt8} {c : C} (h : Around p c) (hc : cRight c = true) (hn : c.val.num < 18446744073709551616) : trimP p = cT c := by
  obtain ⟨a, b, rfl, ha, hb⟩ := h
  have he := (cT_tx c hc hn).2
  exact trimP_of ha hb he.2.1 he.2.2
theorem Around.wh {p : List UInt8} {c : C} (h : Around p c) (hc : cRight c = true) (hn : c.val.num < 18446744073709551616) : Wh false p false := by
  obtain ⟨a, b, rfl, ha, hb⟩ := h
  exact Wh.app (Wh.bare a fun x hx => by rw [ha x hx]; decide) (Wh.app (cT_tx c hc hn).1 (Wh.bare b fun x hx => by rw [hb x hx]; decide))
theorem trim_ends {t : List UInt8} (h : Ends t) : trimP t = t := by
  have := trimP_of (a := []) (m := t) (b := []) (fun x hx => by cases hx) (fun x hx => by cases hx) h.2.1 h.2.2
  simpa using this
/-- what a filter prints behind its scope, in pieces -/
def piecesOf : List C → List (List UInt8)
  | [] => []
  | [c] => [[32] ++ cT c]
  | c :: d :: r => ([32] ++ cT c ++ [32]) :: piecesOf (d :: r)
theorem body_join : ∀ (l : List C), bodyT l = joinA (piecesOf l)
  | [] => rfl
  | [c] => by simp [bodyT, tailT, piecesOf, joinA]
  | c :: d :: r => by
    have ih := body_join (d :: r)
    have : ∃ p q, piecesOf (d :: r) = p :: q := by
      cases r with
      | nil => exact ⟨_, _, rfl⟩
      | cons e r => exact ⟨_, _, rfl⟩
    obtain ⟨p, q, e⟩ := this
    rw [piecesOf, e, joinA, ← e, ← ih]
    simp [bodyT, tailT]
theorem pieces_len : ∀ (l : List C), (piecesOf l).length = l.length
  | [] => rfl
  | [c] => rfl
  | c :: d :: r => by rw [piecesOf, List.length_cons, pieces_len (d :: r)]; rfl
theorem pieces_around : ∀ (l : List C) (i : Nat) (h : i < l.length), Around ((piecesOf l)[i]'(by rw [pieces_len]; exact h)) l[i]
  | [], i, h => absurd h (by simp)
  | [c], i, h => by
    obtain rfl : i = 0 := by simp at h; omega
    exact ⟨[32], [], by simp [piecesOf], by simp, by simp⟩
  | c :: d :: r, 0, h => ⟨[32], [32], by simp [piecesOf], by simp, by simp⟩
  | c :: d :: r, i + 1, h => by
    have := pieces_around (d :: r) i (by simpa using h)
    simpa only [piecesOf, List.getElem_cons_succ] using this
end Go.Proofs.YtnccpddjdgndcaaGreatDoor.Pa
end

section
/- THE WALK OF strconv.unquote AT ANY TEXT THAT A QUOTE BEGINS. -/
namespace Go.Proofs.YtnccpddjdgndcaaGreatDoor.Unq
open Go.RowKit Go.Lib Go.Proofs.YtnccpddjdgndcaaGreatDoor.Quo
/-- what unquote reads of the text behind the first quote -/
def uqR (r : List UInt8) : Option (List UInt8 × List UInt8) :=
  if Lib.indexByte r 34 < 0 then none
  else if 92 ∉ r.take (Lib.indexByte r 34).toNat ∧ 10 ∉ r.take (Lib.indexByte r 34).toNat ∧ Lib.validD (r.take (Lib.indexByte r 34).toNat) = true then some (r.take (Lib.indexByte r 34).toNat, r.drop ((Lib.indexByte r 34).toNat + 1))
  else uqGo (r.length + 1) r []
/-- what unquote answers -/
def UnR (s : ByteArray) (o : Option (List UInt8 × List UInt8)) (e : Ending) : Prop :=
  match o with
  | none => ∃ (t : TypeId) (x : Value), e = .returned (.tuple #[.string ⟨#[]⟩, .string s, .iface t x])
  | some (a, b) => e = .returned (.tuple #[.string ⟨a.toArray⟩, .string ⟨b.toArray⟩, .nilIface])
theorem app_len (v : Int) (mb : Bool) : (app v mb).length ≤ 4 := by
  unfold app
  split
  · simp
  · rw [List.length_map]
    unfold encodeRuneZ
    repeat' split
    all_goals simp
/-- an append of a byte -/
theorem wpList_byte {ops : Array Oper} {rest : List Oper} {o : Oper} {a : Act} {Q : Exit → Act → World → Prop} {w0 W : World} {base : Nat} {txt : List UInt8}
    (hgd : o.guard = none) (s x : Operand) (ho : o.op = .call { callee := .builtin .append, args := #[s, x], argTypes := #[95, 95] })
    (hs : Fmt.St w0 W base none (a.eval s) txt) (ad : Addr) (c : Nat) (b : UInt8) (hx : a.eval x = .slice (some ad) 1 c)
    (hnews : ∀ j u, [Fmt.e8 b][j]? = some u → W.cell? (ad.add j) = some u) (hb : txt.length ≤ 1000000)
    (h : ∀ v' w', Fmt.St w0 w' base none v' (txt ++ [b]) → wpList Tryz.prog ops Q rest (a.put o.dst v') w') : wpList Tryz.prog ops Q (o :: rest) a W := by
  obtain ⟨i0, hi, hz⟩ := Option.map_eq_some_iff.1 Fmt.info_u8
  injection hz with hz0 hzz
  injection hzz with hz1 hz2
  refine wpList_append_own _ hgd s x 95 ho base 5 i0 (.int .u8 0) 1 1 Tryz.underlying95 hi hz0 hz1 hz2 rfl (by decide) _ _ _ rfl hs.own ad 1 c [Fmt.e8 b] hx rfl hnews
    (by intro u hu; simp at hu; subst hu; rfl) (by unfold maxLen; omega) (by omega) hs.size ?_
  intro v' w3 ho3 hg _
  exact h v' w3 (hs.step0 ho3 hg rfl rfl)
/-- an append of a rune -/
theorem st_rune {w0 W w3 : World} {base : Nat} {v v' : Value} {txt : List UInt8} {r : Int} (h : Fmt.St w0 W base none v txt) (o : Obj)
    (ho : w3.ownsRow base 5 1 v' (txt.length + (Lib.runeCells r).length) (txt.map Fmt.e8 ++ Lib.runeCells r)) (hg : (W.alloc o).grownBy w3 v.ownBlock) : Fmt.St w0 w3 base none v' (txt ++ (encodeRuneZ r).map tb) := by
  refine h.step ho hg ?_ ?_
  · unfold Lib.runeCells
    rw [List.map_map]
    apply List.map_congr_left
    intro x hx
    have hb := Lib.encodeRuneZ_byte r x hx
    show Value.int .u8 x = Value.int .u8 ((tb x).toNat : Int)
    rw [tb_nat hb.1 hb.2]
  · unfold Lib.runeCells
    rw [List.length_map, List.length_map]
theorem list_ne (s : ByteArray) (h : 0 < s.size) : s.data.toList = (s[0]'h) :: s.data.toList.drop 1 := uqc_at s h
theorem uqGo_nil (g : Nat) (out : List UInt8) : uqGo (g + 1) [] out = none := rfl
theorem uqGo_end (g : Nat) (c : UInt8) (r out : List UInt8) (h : (c.toNat : Int) = 34) : uqGo (g + 1) (c :: r) out = some (out, r) := by unfold uqGo; simp only; rw [if_pos h]
theorem uqGo_nl (g : Nat) (c : UInt8) (r out : List UInt8) (h : ¬ (c.toNat : Int) = 34) (h2 : (c.toNat : Int) = 10) : uqGo (g + 1) (c :: r) out = none := by unfold uqGo; simp only; rw [if_neg h, if_pos h2]
theorem uqGo_none (g : Nat) (c : UInt8) (r out : List UInt8) (h : ¬ (c.toNat : Int) = 34) (hu : uqc (c :: r) = none) : uqGo (g + 1) (c :: r) out = none := by
  unfold uqGo; simp only; rw [if_neg h]
  split
  · rfl
  · rw [hu]
theorem uqGo_eq (g : Nat) (c : UInt8) (r out : List UInt8) : uqGo (g + 1) (c :: r) out = if (c.toNat : Int) = 34 then some (out, r) else if (c.toNat : Int) = 10 then none else match uqc (c :: r) with
        | none => none
        | some (v, mb, t) => uqGo g t (out ++ app v mb) := rfl
theorem uqGo_some (g : Nat) (c : UInt8) (r out : List UInt8) (v : Int) (mb : Bool) (t : List UInt8) (h : ¬ (c.toNat : Int) = 34) (h2 : ¬ (c.toNat : Int) = 10) (hu : uqc (c :: r) = some (v, mb, t)) : uqGo (g + 1) (c :: r) out = uqGo g t (out ++ app v mb) := by
  rw [uqGo_eq, if_neg h, if_neg h2, hu]
theorem hexGo_bds : ∀ (n : Nat) (l : List UInt8) (v x : Int) (q : List UInt8), -2147483648 ≤ v ∧ v ≤ 2147483647 → hexGo n l v = some (x, q) → q.length ≤ l.length ∧ -2147483648 ≤ x ∧ x ≤ 2147483647
  | 0, l, v, x, q, hv, h => by
    unfold hexGo at h
    cases h
    exact ⟨Nat.le_refl _, hv⟩
  | n + 1, [], v, x, q, hv, h => by cases h
  | n + 1, c :: l, v, x, q, hv, h => by
    unfold hexGo at h
    split at h
    · cases h
    · obtain ⟨a, b⟩ := hexGo_bds n l _ x q (or_i32_bd _ _) h
      exact ⟨by rw [List.length_cons]; omega, b⟩
theorem octGo_bds : ∀ (n : Nat) (l : List UInt8) (v x : Int) (q : List UInt8), -2147483648 ≤ v ∧ v ≤ 2147483647 → octGo n l v = some (x, q) → q.length ≤ l.length ∧ -2147483648 ≤ x ∧ x ≤ 2147483647
  | 0, l, v, x, q, hv, h => by
    unfold octGo at h
    cases h
    exact ⟨Nat.le_refl _, hv⟩
  | n + 1, [], v, x, q, hv, h => by cases h
  | n + 1, c :: l, v, x, q, hv, h => by
    unfold octGo at h
    split at h
    · cases h
    · obtain ⟨a, b⟩ := octGo_bds n l _ x q (or_i32_bd _ _) h
      exact ⟨by rw [List.length_cons]; omega, b⟩
theorem esc1_bds (e v : Int) (h : esc1 e = some v) : 0 ≤ v ∧ v ≤ 92 := by
  unfold esc1 at h
  repeat' split at h
  all_goals first | (cases h; done) | (injection h with h; omega)
/-- the number of a sign, and that some of the text is taken -/
theorem uqc_bds (l : List UInt8) (v : Int) (mb : Bool) (t : List UInt8) (h : uqc l = some (v, mb, t)) : t.length < l.length ∧ -2147483648 ≤ v ∧ v ≤ 2147483647 := by
  cases l with
  | nil => cases h
  | cons c r =>
    have hc := c.toNat_lt
    by_cases b34 : (c.toNat : Int) = 34
    · rw [uqc_34 c r b34] at h; cases h
    by_cases b128 : 128 ≤ (c.toNat : Int)
    · rw [uqc_128 c r b34 b128] at h
      simp only [Option.some.injEq, Prod.mk.injEq] at h
      obtain ⟨h1, _, h3⟩ := h
      obtain ⟨s1, s2, s3, s4⟩ := sym_ok (c :: r) (by simp)
      subst h3
      have hd : (decodeL (c :: r)).1 ≤ 1114111 := by
        by_cases hb : (decodeL (c :: r)).2 = 1 ∧ (decodeL (c :: r)).1 = 65533
        · omega
        · have hs : symOf (c :: r) = ((decodeL (c :: r)).1 : Int) := by unfold symOf; rw [if_neg hb]
          unfold Sym at s1
          omega
      rw [List.length_drop]
      omega
    by_cases b92 : (c.toNat : Int) = 92
    · cases r with
      | nil => rw [uqc_end c b92] at h; cases h
      | cons e t2 =>
        rw [uqc_92 c e t2 b92] at h
        have he := e.toNat_lt
        rw [List.length_cons, List.length_cons]
        split at h
        · rename_i v2 hv2
          simp only [Option.some.injEq, Prod.mk.injEq] at h
          obtain ⟨rfl, _, rfl⟩ := h
          have := esc1_bds _ _ hv2
          omega
        · split at h
          · cases hh : hexGo (escN (e.toNat : Int)) t2 0 with
            | none => rw [hh] at h; cases h
            | some xq =>
              obtain ⟨x, q⟩ := xq
              have hb := hexGo_bds _ _ 0 x q (by omega) hh
              rw [hh] at h
              unfold hexR at h
              simp only at h
              split at h
              · simp only [Option.some.injEq, Prod.mk.injEq] at h
                obtain ⟨rfl, _, rfl⟩ := h
                omega
              · split at h
                · simp only [Option.some.injEq, Prod.mk.injEq] at h
                  obtain ⟨rfl, _, rfl⟩ := h
                  omega
                · cases h
          · split at h
            · cases hh : octGo 2 t2 ((e.toNat : Int) - 48) with
              | none => rw [hh] at h; cases h
              | some xq =>
                obtain ⟨x, q⟩ := xq
                have hb := octGo_bds _ _ ((e.toNat : Int) - 48) x q (by omega) hh
                rw [hh] at h
                unfold octR at h
                simp only at h
                split at h
                · cases h
                · simp only [Option.some.injEq, Prod.mk.injEq] at h
                  obtain ⟨rfl, _, rfl⟩ := h
                  omega
            · cases h
    · rw [uqc_pl c r b34 b128 b92] at h
      simp only [Option.some.injEq, Prod.mk.injEq] at h
      obtain ⟨rfl, _, rfl⟩ := h
      rw [List.length_cons]
      omega
end Go.Proofs.YtnccpddjdgndcaaGreatDoor.Unq
end

section
/- THE WALK OF strconv.unquote AT ANY TEXT THAT A QUOTE BEGINS (the slow road). -/
namespace Go.Proofs.YtnccpddjdgndcaaGreatDoor.Unq
open Go.RowKit Go.Lib Go.Proofs.YtnccpddjdgndcaaGreatDoor.Quo
def szOf : Value → Nat
  | .string s => s.size
  | _ => 0
theorem st_pass {w0 W W2 : World} {base : Nat} {v : Value} {txt : List UInt8} (h : Fmt.St w0 W base none v txt) (hb : Below W.heap.size W W2) : Fmt.St w0 W2 base none v txt :=
  ⟨Fmt.own_low h.own hb h.own_lt, fun p hp => (by cases hp), h.low.trans (hb.mono h.size), Nat.le_trans h.size hb.size⟩
theorem err_below {w w' : World} (h : ErrS w) (hb : Below w.heap.size w w') : ErrS w' := by
  obtain ⟨t, x, h⟩ := h
  exact ⟨t, x, Tab.cell_below hb (Nat.le_refl _) h⟩
theorem idx_in (k : UInt8) (a : List UInt8) (hk : k ≠ 34) : (Lib.indexByte (34 :: (a ++ [34])) k != -1) = decide (k ∈ a) := by
  by_cases h : k ∈ a
  · obtain ⟨x, y, e, _, hi⟩ := ix_cases k (34 :: (a ++ [34])) (by simp [h])
    rw [hi, decide_eq_true h]
    simp
  · rw [ix_none _ k (by simp [h, hk]), decide_eq_false h]
    rfl
theorem conv_back {w W : World} {base : Nat} {v : Value} {out : List UInt8} (h : Fmt.St w W base none v out) : (convert 95 9 v).run Tryz.prog W = .ok (.string ⟨out.toArray⟩) W := by
  rcases Go.Joins.ownsRow_forms h.own with ⟨e, e0⟩ | ⟨g, cap, e⟩
  · have : out = [] := List.length_eq_zero_iff.1 e0
    subst e this
    rw [run_convert_bytes_string W 95 9 5 none 0 0 Tryz.underlying95 Tryz.underlying5 Tryz.underlying9]
    rfl
  · have ho := h.own
    rw [e] at ho
    subst e
    exact run_convert_bytes_back W 95 9 5 ⟨g, 0, none⟩ cap out Tryz.underlying95 Tryz.underlying5 Tryz.underlying9 (Fmt.own_cells ho)
theorem u8_wrap (v : Int) : IntKind.u8.wrap v = v % 256 := by go_num
theorem new_byte (w : World) (v : Int) (t : TypeId) : ∀ j u, [Fmt.e8 (tb (v % 256))][j]? = some u → (w.alloc (.cells #[.int .u8 (IntKind.u8.wrap v)] t)).cell? ((⟨w.heap.size, 0, none⟩ : Addr).add j) = some u := by
  have e : Fmt.e8 (tb (v % 256)) = .int .u8 (IntKind.u8.wrap v) := by
    show Value.int .u8 ((tb (v % 256)).toNat : Int) = _
    rw [tb_nat (by omega) (by omega), u8_wrap]
  rw [e]
  exact Fmt.cells_new1 w _ t
set_option maxRecDepth 20000 in
set_option maxHeartbeats 4000000 in
/-- the slow road: a text's index of the next quote is there, and it is not plain -/
theorem unq_slow (s t u : ByteArray) (n : Nat) (H : Option (List UInt8 × List UInt8)) (b92 b10 bv : Bool) (hq : (!b92 && !b10 && bv) = false) (hs : s.size ≤ 10000) (h0 : 0 < s.size) (h34 : ((s[0]'h0).toNat : Int) = 34) (ht : s.extract 1 s.size = t) (hn : n + 2 ≤ s.size)
    (hts : t.size + 1 = s.size) (hix : Lib.indexByte t.data.toList 34 = (n : Int)) (hu : s.extract 0 (n + 2) = u) (hc1 : (Lib.indexByte u.data.toList 92 != -1) = b92) (hc2 : (Lib.indexByte u.data.toList 10 != -1) = b10)
    (hv : Lib.validD (s.extract 1 (n + 1)).data.toList = bv) (hH : uqGo (t.size + 1) t.data.toList [] = H) (w : World) (hE : ErrS w) (hT : Tab.Tabs w) :
    Calls Tryz.prog 46 #[.string s, .bool true] w fun e w' => UnR s H e ∧ Below w.heap.size w w' := by
  obtain ⟨i0, hi, hz0, hz1, hz2⟩ := info_parts Fmt.info_u8
  have hxs : (s.extract 1 (n + 1)).size ≤ 1000000 := by simp [ByteArray.size_extract]; omega
  have hva := fun W (hW : Lib.Utf8Tabs 3 4 W) => (Go.Proofs.Any.utf8_ValidString Tryz.lays196 (s.extract 1 (n + 1)) W (by omega) hW)
  rw [hv] at hva
  have hd1 := fun W => contains_of u 92 b92 (by rw [show ((92 : Int).toNat.toUInt8) = 92 from rfl]; exact hc1) W
  have hd2 := fun W => contains_of u 10 b10 (by rw [show ((10 : Int).toNat.toUInt8) = 10 from rfl]; exact hc2) W
  have hin := fun W => index_any t 34 W
  rw [show ((34 : Int).toNat.toUInt8) = 34 from rfl, hix] at hin
  have HVA := Lib.hid hva; have HD1 := Lib.hid hd1; have HD2 := Lib.hid hd2; have HIN := Lib.hid hin; have HT := Lib.hid hT; have HE := Lib.hid hE; have HH := Lib.hid hH
  obtain ⟨c, hcap⟩ : ∃ c : Nat, 3 * ((n : Int) + 2) / 2 = (c : Int) := ⟨3 * (n + 2) / 2, by omega⟩
  have hcb : c ≤ 100000 := by omega
  have j0 : (0 : Int) < (s.size : Int) := by omega
  have j1 : (1 : Int) ≤ (s.size : Int) := by omega
  have j2 : ¬ (s.size : Int) < 2 := by omega
  have j3 : (n : Int) + 2 ≤ (s.size : Int) := by omega
  have j4 : (0 : Int) ≤ (n : Int) + 2 := by omega
  have j5 : ¬ (n : Int) < 0 := by omega
  clear hva hd1 hd2 hin hT hE hH hv hc1 hc2 hix
  go_enter Tryz.func46, Tryz.ntmps46
  go_upto_region 25 with (first | (go_at_call 70; refine (HIN.out _).mono ?_; rintro e w' ⟨rfl, rfl⟩) | fail)
  go_cut [99] from 88 to 98 (fun v wx => v = .bool (!b92 && !b10) ∧ w = wx)
  case first => as_aux_lemma =>
    have ARM : True := trivial
    cases b92 <;> cases b10
    all_goals
      go_wp2_with (first | (go_at_call 71; ((with_reducible refine (HD1.out _).mono ?_); rintro e w' ⟨rfl, rfl⟩)) | (go_at_call 71; ((with_reducible refine (HD2.out _).mono ?_); rintro e w' ⟨rfl, rfl⟩)) | fail)
      go_meet
      exact ⟨rfl, rfl⟩
  case rest => as_aux_lemma =>
    obtain ⟨rfl, rfl⟩ := hcut
    go_upto_if 99 with fail
    go_cut [] from 99 to 143 (fun wx => Hid (Below w.heap.size w wx))
    case first => as_aux_lemma =>
      cases hqq : (!b92 && !b10)
      · go_wp2_with fail
        go_meet
        exact Lib.hid (Below.refl _ _)
      · rw [hqq, Bool.true_and] at hq
        subst hq
        go_wp2_with (first | (go_at_call 72; refine (HVA.out _ HT.out.utf).mono ?_; rintro e w1 ⟨rfl, hb1⟩) | fail)
        go_meet
        exact Lib.hid hb1
    case rest => as_aux_lemma =>
      have HBW := hcut
      go_wp2_with (first | (at_make; refine wpList_make_own _ rfl _ _ 95 rfl w.heap.size 5 i0 (.int .u8 0) 1 Tryz.underlying95 hi hz0 hz1 _ _ _ c rfl rfl (by first | rfl | assumption) (by rw [hz2]; omega) (by unfold maxLen; omega) HBW.out.size ?_; intro w1 hown hg) | fail)
      have HS1 := Lib.hid (⟨hown, fun p hp => (by cases hp), HBW.out.grown hg HBW.out.size (by intro k hk; cases hk), Nat.le_trans HBW.out.size hg.size⟩ : Fmt.St w w1 w.heap.size none _ [])
      clear hown hg
      go_loopw [0, 14] (fun v0 v14 wr => ∃ (q : ByteArray) (out : List UInt8) (g : Nat), v0 = .string q ∧ Hid (Fmt.St w wr w.heap.size none v14 out) ∧ q.size + 1 ≤ g ∧ q.size ≤ 10000 ∧ out.length + 4 * q.size ≤ 50000 ∧ Hid (uqGo g q.data.toList out = H)) (fun v0 _ _ => szOf v0)
      case atStart => exact ⟨t, [], t.size + 1, rfl, Lib.hid HS1.out, by omega, by omega, by simp; omega, Lib.hid HH.out⟩
      case round =>
        obtain ⟨q, out, g, rfl, HS, hg1, hq1, ho1, HG⟩ := hrel
        clear HS1
        obtain ⟨tE, xE, hc⟩ := err_below HE.out HS.out.low
        by_cases hq0 : q.size = 0
        · have k0 : ¬ (0 : Int) < (q.size : Int) := by omega
          have hg := HG.out
          have e0 : q.data.toList = [] := List.length_eq_zero_iff.1 (by rw [Array.length_toList]; exact hq0)
          rw [e0, show g = (g - 1) + 1 by omega, uqGo_nil] at hg
          have HN := Lib.hid hg.symm
          clear hg e0 hq0
          go_wp2_with fail
          go_quiet (fail)
          go_wp2_with fail
          refine bodyPost_ret (v := .tuple #[.string ⟨#[]⟩, .string s, .iface tE xE]) (by simp [results, Tryz.results46, go_sem]; try rfl) rfl ?_
          exact ⟨by rw [HN.out]; exact ⟨_, _, rfl⟩, Val.bdrewN HS.out.low nq⟩
        have hp : 0 < q.size := by omega
        have k0 : (0 : Int) < (q.size : Int) := by omega
        have eq0 := list_ne q hp
        by_cases b34 : ((q[0]'hp).toNat : Int) = 34
        · have hg := HG.out
          rw [eq0, show g = (g - 1) + 1 by omega, uqGo_end _ _ _ _ b34] at hg
          have HN := Lib.hid hg.symm
          have hx := ext_end q 1
          have HX := Lib.hid hx
          have k1 : (1 : Int) ≤ (q.size : Int) := by omega
          have b1 : (((q[0]'hp).toNat : Int) != 34) = false := by simp [b34]
          have b2 : (((q[0]'hp).toNat : Int) == 34) = true := by simp [b34]
          have hcv := conv_back HS.out
          clear hg hx eq0
          go_wp2_with fail
          refine bodyPost_ret (v := .tuple #[.string ⟨out.toArray⟩, .string (q.extract 1 q.size), .nilIface]) (by simp [results, Tryz.results46, go_sem]; try rfl) rfl ?_
          exact ⟨by rw [HN.out, HX.out]; rfl, HS.out.low⟩
        have b1 : (((q[0]'hp).toNat : Int) != 34) = true := by simpa using b34
        have hcall := uq_any q (by omega) wr (err_below HE.out HS.out.low) (HT.out.below HS.out.low (Nat.le_refl _))
        cases hu : uqc q.data.toList with
        | none =>
          rw [hu] at hcall
          have HC := Lib.hid hcall
          have hg := HG.out
          rw [eq0, show g = (g - 1) + 1 by omega, uqGo_none _ _ _ _ b34 (by rw [← eq0]; exact hu)] at hg
          have HN := Lib.hid hg.symm
          clear hg hcall eq0
          obtain ⟨b10, hb10⟩ : ∃ b, (((q[0]'hp).toNat : Int) == 10) = b := ⟨_, rfl⟩
          cases b10
          all_goals
            go_wp2_with (first | (go_at_call 74; refine HC.out.mono ?_; rintro e w1 ⟨⟨vv, mm, qq, tt, xx, rfl⟩, hb1⟩; obtain ⟨tF, xF, hcF⟩ := err_below HE.out (st_pass HS.out hb1).low) | fail)
            go_quiet (fail)
            go_wp2_with fail
            refine bodyPost_ret (v := .tuple #[.string ⟨#[]⟩, .string s, .iface tF xF]) (by simp [results, Tryz.results46, go_sem]; try rfl) rfl ?_
            exact ⟨by rw [HN.out]; exact ⟨_, _, rfl⟩, Val.bdrewN (st_pass HS.out hb1).low nq⟩
        | some x =>
          obtain ⟨v, mb, t2⟩ := x
          rw [hu] at hcall
          have HC := Lib.hid hcall
          have hbd := uqc_bds _ _ _ _ hu
          have hlq : q.data.toList.length = q.size := by rw [Array.length_toList]; rfl
          rw [hlq] at hbd
          by_cases h10 : ((q[0]'hp).toNat : Int) = 10
          · have hg := HG.out
            rw [eq0, show g = (g - 1) + 1 by omega, uqGo_nl _ _ _ _ b34 h10] at hg
            have HN := Lib.hid hg.symm
            have b10 : (((q[0]'hp).toNat : Int) == 10) = true := by simp [h10]
            clear hg hcall eq0 hlq
            go_wp2_with (first | (go_at_call 74; refine HC.out.mono ?_; rintro e w1 ⟨hR, hb1⟩; obtain rfl : e = _ := hR; obtain ⟨tF, xF, hcF⟩ := err_below HE.out (st_pass HS.out hb1).low) | fail)
            go_quiet (fail)
            go_wp2_with fail
            refine bodyPost_ret (v := .tuple #[.string ⟨#[]⟩, .string s, .iface tF xF]) (by simp [results, Tryz.results46, go_sem]; try rfl) rfl ?_
            exact ⟨by rw [HN.out]; exact ⟨_, _, rfl⟩, Val.bdrewN (st_pass HS.out hb1).low nq⟩
          · have hg := HG.out
            rw [eq0, show g = (g - 1) + 1 by omega, uqGo_some _ _ _ _ _ _ _ b34 h10 (by rw [← eq0]; exact hu)] at hg
            have b10 : (((q[0]'hp).toNat : Int) == 10) = false := by simpa using h10
            have hal := app_len v mb
            have ht2 : (⟨t2.toArray⟩ : ByteArray).size = t2.length := by show t2.toArray.size = _; simp
            by_cases hcase : v < 128 ∨ mb = false
            · have ha : app v mb = [tb (v % 256)] := by unfold app; rw [if_pos hcase]
              rw [ha] at hg hal
              have HG2 := Lib.hid hg
              have hmb : ((decide (v < 128)) || !mb) = true := by simpa using hcase
              clear hg hcall eq0 hlq ha hcase
              obtain ⟨bL, hbL⟩ : ∃ b, decide (v < 128) = b := ⟨_, rfl⟩
              rw [hbL] at hmb
              cases bL <;> cases mb
              case false.true => cases hmb
              all_goals
                try (have vL : ¬ v < 128 := by simpa using hbL)
                try (have vL : v < 128 := by simpa using hbL)
                clear hmb hbL
                go_wp2_with (first
                | (go_at_call 74; refine HC.out.mono ?_; rintro e w1 ⟨hR, hb1⟩; obtain rfl : e = _ := hR; have HS2 := Lib.hid (st_pass HS.out hb1))
                  | (at_builtin; refine wpList_byte rfl _ _ rfl (HS2.out.alloc _) _ 1 (tb (v % 256)) rfl (new_byte _ _ _) (by omega) ?_; intro v' w3 hs3) | fail)
                exact ⟨⟨⟨t2.toArray⟩, out ++ [tb (v % 256)], g - 1, rfl, Lib.hid hs3, by omega, by omega, by simp at hal ⊢; omega, HG2⟩, by simp [szOf]; omega⟩
            · have ha : app v mb = (encodeRuneZ v).map tb := by unfold app; rw [if_neg hcase]
              rw [ha] at hg hal
              have HG2 := Lib.hid hg
              have vL : ¬ v < 128 := fun h => hcase (Or.inl h)
              obtain rfl : mb = true := by
                cases mb
                · exact absurd (Or.inr rfl) hcase
                · rfl
              clear hg hcall eq0 hlq ha hcase
              go_wp2_with (first
                | (go_at_call 74; refine HC.out.mono ?_; rintro e w1 ⟨hR, hb1⟩; obtain rfl : e = _ := hR; have HS2 := Lib.hid (st_pass HS.out hb1))
                | (go_at_call 75; refine (Tryz.utf8_AppendRune_plain w.heap.size _ _ _ v (by omega) (by omega) _ HS2.out.own (by omega) HS2.out.size).mono ?_; rintro e w3 ⟨v', rfl, hown, oo, hg3⟩; have hs3 := st_rune HS2.out oo hown hg3) | fail)
              all_goals first
                | exact ⟨⟨⟨t2.toArray⟩, out ++ (encodeRuneZ v).map tb, g - 1, rfl, Lib.hid hs3, by omega, by omega, by rw [List.length_append]; omega, HG2⟩, by simp [szOf]; omega⟩
                | omega
                | trace_state
end Go.Proofs.YtnccpddjdgndcaaGreatDoor.Unq
end

section
/- THE WALKS OF strconv.unquote AND strconv.Unquote AT ANY TEXT THAT A DOUBLE QUOTE BEGINS. -/
namespace Go.Proofs.YtnccpddjdgndcaaGreatDoor.Unq
open Go.RowKit Go.Lib Go.Proofs.YtnccpddjdgndcaaGreatDoor.Quo
set_option maxRecDepth 20000 in
set_option maxHeartbeats 4000000 in
/-- the quick road, with what stands behind the second quote -/
theorem unq_quick (s t u bd rs : ByteArray) (n : Nat) (hs : s.size ≤ 10000) (h0 : 0 < s.size) (h34 : ((s[0]'h0).toNat : Int) = 34) (ht : s.extract 1 s.size = t) (hn : n + 2 ≤ s.size)
    (hix : Lib.indexByte t.data.toList 34 = (n : Int)) (hu : s.extract 0 (n + 2) = u) (hbd : s.extract 1 (n + 1) = bd) (hrs : s.extract (n + 2) s.size = rs) (hus : u.size = n + 2) (hc1 : (Lib.indexByte u.data.toList 92 != -1) = false) (hc2 : (Lib.indexByte u.data.toList 10 != -1) = false)
    (hv : Lib.validD bd.data.toList = true) (hbs : bd.size ≤ 10000) (hub : u.extract 1 (n + 1) = bd) (w : World) (hT : Tab.Tabs w) :
    Calls Tryz.prog 46 #[.string s, .bool true] w fun e w' => e = .returned (.tuple #[.string bd, .string rs, .nilIface]) ∧ Below w.heap.size w w' := by
  have hva := fun W (hW : Lib.Utf8Tabs 3 4 W) => (Go.Proofs.Any.utf8_ValidString Tryz.lays196 bd W (by omega) hW)
  rw [hv] at hva
  have hd1 := fun W => contains_of u 92 false (by rw [show ((92 : Int).toNat.toUInt8) = 92 from rfl]; exact hc1) W
  have hd2 := fun W => contains_of u 10 false (by rw [show ((10 : Int).toNat.toUInt8) = 10 from rfl]; exact hc2) W
  have hin := fun W => index_any t 34 W
  rw [show ((34 : Int).toNat.toUInt8) = 34 from rfl, hix] at hin
  have HVA := Lib.hid hva; have HD1 := Lib.hid hd1; have HD2 := Lib.hid hd2; have HIN := Lib.hid hin; have HT := Lib.hid hT
  have HUS := Lib.hid hus
  have j0 : (0 : Int) < (s.size : Int) := by omega
  have j1 : (1 : Int) ≤ (s.size : Int) := by omega
  have j2 : ¬ (s.size : Int) < 2 := by omega
  have j3 : (n : Int) + 2 ≤ (s.size : Int) := by omega
  have j4 : (0 : Int) ≤ (n : Int) + 2 := by omega
  have j5 : ¬ (n : Int) < 0 := by omega
  have j6 : (n : Int) + 2 ≤ (u.size : Int) := by omega
  have j7 : (n : Int) + 1 ≤ (u.size : Int) := by omega
  clear hva hd1 hd2 hin hT hv hc1 hc2 hix hus
  go_enter Tryz.func46, Tryz.ntmps46
  go_wp2_with (first
    | (go_at_call 70; refine (HIN.out _).mono ?_; rintro e w' ⟨rfl, rfl⟩)
    | (go_at_call 71; ((with_reducible refine (HD1.out _).mono ?_); rintro e w' ⟨rfl, rfl⟩))
    | (go_at_call 71; ((with_reducible refine (HD2.out _).mono ?_); rintro e w' ⟨rfl, rfl⟩))
    | (go_at_call 72; refine (HVA.out _ HT.out.utf).mono ?_; rintro e w1 ⟨rfl, hb1⟩) | fail)
  go_quiet (fail)
  go_wp2_with fail
  refine bodyPost_ret (v := .tuple #[.string bd, .string rs, .nilIface]) (by simp [results, Tryz.results46, go_sem]; exact ⟨hub, hrs⟩) rfl ?_
  exact ⟨rfl, Val.bdrewN hb1 nq⟩
set_option maxRecDepth 20000 in
set_option maxHeartbeats 4000000 in
/-- no second quote -/
theorem unq_open (s t : ByteArray) (hs : s.size ≤ 10000) (h0 : 0 < s.size) (h34 : ((s[0]'h0).toNat : Int) = 34) (ht : s.extract 1 s.size = t) (hix : Lib.indexByte t.data.toList 34 = -1) (w : World) (hE : ErrS w) :
    Calls Tryz.prog 46 #[.string s, .bool true] w fun e w' => UnR s none e ∧ Below w.heap.size w w' := by
  obtain ⟨tE, xE, hc⟩ := hE
  have hin := fun W => index_any t 34 W
  rw [show ((34 : Int).toNat.toUInt8) = 34 from rfl, hix] at hin
  have HIN := Lib.hid hin
  have j0 : (0 : Int) < (s.size : Int) := by omega
  have j1 : (1 : Int) ≤ (s.size : Int) := by omega
  clear hin hix
  by_cases h2 : s.size < 2
  · have j2 : (s.size : Int) < 2 := by omega
    go_enter Tryz.func46, Tryz.ntmps46
    go_wp2_with fail
    go_quiet (fail)
    go_wp2_with fail
    refine bodyPost_ret (v := .tuple #[.string ⟨#[]⟩, .string s, .iface tE xE]) (by simp [results, Tryz.results46, go_sem]; try rfl) rfl ?_
    exact ⟨⟨_, _, rfl⟩, Val.bdrewN (Below.refl _ _) nq⟩
  · have j2 : ¬ (s.size : Int) < 2 := by omega
    go_enter Tryz.func46, Tryz.ntmps46
    go_wp2_with (first | (go_at_call 70; refine (HIN.out _).mono ?_; rintro e w' ⟨rfl, rfl⟩) | fail)
    go_quiet (fail)
    go_wp2_with fail
    refine bodyPost_ret (v := .tuple #[.string ⟨#[]⟩, .string s, .iface tE xE]) (by simp [results, Tryz.results46, go_sem]; try rfl) rfl ?_
    exact ⟨⟨_, _, rfl⟩, Val.bdrewN (Below.refl _ _) nq⟩
theorem unquote_any (r : List UInt8) (hs : r.length ≤ 9000) (w : World) (hE : ErrS w) (hT : Tab.Tabs w) :
    Calls Tryz.prog 46 #[.string ⟨(34 :: r).toArray⟩, .bool true] w fun e w' => UnR ⟨(34 :: r).toArray⟩ (uqR r) e ∧ Below w.heap.size w w' := by
  have hz : (⟨(34 :: r).toArray⟩ : ByteArray).size = r.length + 1 := by show (34 :: r).toArray.size = _; simp
  have ht : (⟨(34 :: r).toArray⟩ : ByteArray).extract 1 (⟨(34 :: r).toArray⟩ : ByteArray).size = ⟨r.toArray⟩ := ext_end _ 1
  unfold uqR
  by_cases hm : (34 : UInt8) ∈ r
  · obtain ⟨a, b, rfl, ha, hi⟩ := ix_cases 34 r hm
    rw [List.length_append, List.length_cons] at hs hz
    rw [hi, if_neg (by omega)]
    have et : (a ++ 34 :: b).take a.length = a := List.take_left' rfl
    have ed : (a ++ 34 :: b).drop (a.length + 1) = b := by rw [← List.drop_drop, List.drop_left' rfl]; rfl
    rw [show (a.length : Int).toNat = a.length by omega, et, ed]
    have hu : (⟨(34 :: (a ++ 34 :: b)).toArray⟩ : ByteArray).extract 0 (a.length + 2) = ⟨(34 :: (a ++ [34])).toArray⟩ := by
      rw [ext_list2]
      congr 2
      rw [List.drop_zero, show 34 :: (a ++ 34 :: b) = (34 :: (a ++ [34])) ++ b by simp]
      exact List.take_left' (by simp)
    have hbd : (⟨(34 :: (a ++ 34 :: b)).toArray⟩ : ByteArray).extract 1 (a.length + 1) = ⟨a.toArray⟩ := by
      rw [ext_list2]
      congr 2
    have hrs : (⟨(34 :: (a ++ 34 :: b)).toArray⟩ : ByteArray).extract (a.length + 2) (⟨(34 :: (a ++ 34 :: b)).toArray⟩ : ByteArray).size = ⟨b.toArray⟩ := by
      rw [ext_end]
      congr 2
    have hus : (⟨(34 :: (a ++ [34])).toArray⟩ : ByteArray).size = a.length + 2 := by show (34 :: (a ++ [34])).toArray.size = _; simp
    have hub : (⟨(34 :: (a ++ [34])).toArray⟩ : ByteArray).extract 1 (a.length + 1) = ⟨a.toArray⟩ := by
      rw [ext_list2]
      congr 2
      exact List.take_left' (by simp)
    have has : (⟨a.toArray⟩ : ByteArray).size = a.length := by show a.toArray.size = _; simp
    have hts : (⟨(a ++ 34 :: b).toArray⟩ : ByteArray).size = a.length + 1 + b.length := by show (a ++ 34 :: b).toArray.size = _; simp; omega
    by_cases hq : 92 ∉ a ∧ 10 ∉ a ∧ Lib.validD a = true
    · rw [if_pos hq]
      exact unq_quick _ _ _ _ _ a.length (by omega) (by omega) rfl ht (by omega) hi hu hbd hrs hus (by rw [idx_in 92 a (by decide)]; simpa using hq.1) (by rw [idx_in 10 a (by decide)]; simpa using hq.2.1) hq.2.2 (by omega) hub w hT
    · rw [if_neg hq]
      refine unq_slow _ _ _ a.length _ (decide (92 ∈ a)) (decide (10 ∈ a)) (Lib.validD a) ?_ (by omega) (by omega) rfl ht (by omega) (by omega) hi hu (idx_in 92 a (by decide)) (idx_in 10 a (by decide)) (by rw [hbd]) ?_ w hE hT
      · by_cases q1 : 92 ∈ a
        · rw [decide_eq_true q1]; rfl
        · by_cases q2 : 10 ∈ a
          · rw [decide_eq_true q2]; simp
          · have : ¬ Lib.validD a = true := fun h => hq ⟨q1, q2, h⟩
            simp [this]
      · rw [hts, List.length_append, List.length_cons]
        rw [show a.length + 1 + b.length = a.length + (b.length + 1) by omega]
  · have hi := ix_none r 34 hm
    rw [hi, if_pos (by omega)]
    exact unq_open _ _ (by omega) (by omega) rfl ht hi w hE
set_option maxHeartbeats 1000000 in
theorem unqP_eq (r : List UInt8) : unqP r = match uqR r with | some (a, []) => some a | _ => none := by
  unfold unqP uqR
  split
  · rfl
  · simp only
    split
    · split
      · rename_i h; rw [h]
      · rename_i h
        split
        · rename_i e; injection e with e; injection e with e1 e2; exact absurd e2 h
        · rfl
    · split <;> simp_all
/-- what Unquote answers -/
def UQ (o : Option (List UInt8)) (e : Ending) : Prop :=
  match o with
  | none => ∃ (t : TypeId) (x : Value), e = .returned (.tuple #[.string ⟨#[]⟩, .iface t x])
  | some a => e = .returned (.tuple #[.string ⟨a.toArray⟩, .nilIface])
set_option maxRecDepth 20000 in
set_option maxHeartbeats 2000000 in
theorem Unquote_any (r : List UInt8) (hs : r.length ≤ 9000) (w : World) (hE : ErrS w) (hT : Tab.Tabs w) :
    Calls Tryz.prog 29 #[.string ⟨(34 :: r).toArray⟩] w fun e w' => UQ (unqP r) e ∧ Below w.heap.size w w' := by
  have hu := unquote_any r hs w hE hT
  have hc := fun w1 (h : Below w.heap.size w w1) => err_below hE h
  have HC := Lib.hid hc
  rw [unqP_eq]
  have hlen : 0 < (34 :: r).length := by simp
  generalize (34 :: r) = l at *
  generalize uqR r = o at *
  have HU := Lib.hid hu
  clear hu hc hE hT
  match o with
  | none =>
    go_enter Tryz.func29, Tryz.ntmps29
    go_wp2_with (first | (go_at_call 46; refine HU.out.mono ?_; rintro e w1 ⟨⟨tE, xE, rfl⟩, hb1⟩; obtain ⟨tF, xF, hcF⟩ := HC.out w1 hb1) | fail)
    go_quiet (fail)
    go_wp2_with fail
    refine bodyPost_ret (v := .tuple #[.string ⟨#[]⟩, .iface tF xF]) (by simp [results, Tryz.results29, go_sem]; try rfl) rfl ?_
    exact ⟨⟨_, _, rfl⟩, Val.bdrewN hb1 nq⟩
  | some (a, []) =>
    go_enter Tryz.func29, Tryz.ntmps29
    go_wp2_with (first | (go_at_call 46; refine HU.out.mono ?_; rintro e w1 ⟨hR, hb1⟩; obtain rfl : e = _ := hR) | fail)
    refine bodyPost_ret (v := .tuple #[.string ⟨a.toArray⟩, .nilIface]) (by simp [results, Tryz.results29, go_sem]; try rfl) rfl ?_
    exact ⟨rfl, hb1⟩
  | some (a, c :: b) =>
    have hz : (0 : Int) < ((⟨(c :: b).toArray⟩ : ByteArray).size : Int) := by
      have : (⟨(c :: b).toArray⟩ : ByteArray).size = b.length + 1 := by show (c :: b).toArray.size = _; simp
      omega
    generalize (⟨(c :: b).toArray⟩ : ByteArray) = q at *
    go_enter Tryz.func29, Tryz.ntmps29
    go_wp2_with (first | (go_at_call 46; refine HU.out.mono ?_; rintro e w1 ⟨hR, hb1⟩; obtain rfl : e = _ := hR; obtain ⟨tF, xF, hcF⟩ := HC.out w1 hb1) | fail)
    go_quiet (fail)
    go_wp2_with fail
    refine bodyPost_ret (v := .tuple #[.string ⟨#[]⟩, .iface tF xF]) (by simp [results, Tryz.results29, go_sem]; try rfl) rfl ?_
    exact ⟨⟨_, _, rfl⟩, Val.bdrewN hb1 nq⟩
end Go.Proofs.YtnccpddjdgndcaaGreatDoor.Unq
end

section
/- value.Read AT A TEXT AS Quote WRITES IT. -/
namespace Go.Proofs.YtnccpddjdgndcaaGreatDoor.Val
open Go.RowKit Flt
attribute [local go_sem] run_store_flt
theorem quote_tail (t : List UInt8) : ∃ r, Quo.quoteT Lib.goPrintTabs t = 34 :: r ∧ Unq.unqP r = some t ∧ r.length ≤ 10 * t.length + 1 := by
  have h := quoteT_len t
  rw [Unq.quoteT_eq, List.length_cons] at h
  exact ⟨_, Unq.quoteT_eq _ _, Unq.unq_quote _ _, by omega⟩
set_option maxRecDepth 20000 in
set_option maxHeartbeats 4000000 in
theorem read_text (body : List UInt8) (w : World) (hl : body.length ≤ 40) (hT : Tab.Tabs w) (hE : Unq.ErrS w) :
    Calls Tryz.prog 10 #[.string ⟨(Quo.quoteT Lib.goPrintTabs body).toArray⟩] w fun e w' => e = .returned (.tuple #[val 2 0 0 body false, .bool true]) ∧ Below w.heap.size w w' := by
  obtain ⟨r, hq, hun, hrl⟩ := quote_tail body
  have hu := fun W hEW hW => Unq.Unquote_any r (by omega) W hEW hW
  rw [hun] at hu
  have hp := fun W hW => vprint_any 2 0 0 body false W (by decide) (by decide) (by decide) (by omega) hW
  have hvt : vT ⟨2, 0, 0, body, false⟩ = 34 :: r := hq
  rw [hvt] at hp
  rw [hq]
  have hr := fun W => vright_any 2 0 0 body false W (by omega)
  have hrr : vRight ⟨2, 0, 0, body, false⟩ = true := by
    show (true && true && decide (body.length ≤ 40)) = _
    simp; omega
  rw [hrr] at hr
  have HU := Lib.hid hu; have HPR := Lib.hid hp; have HR := Lib.hid hr; have HT := Lib.hid hT; have HE := Lib.hid hE
  clear hu hp hvt hr hrr hT hE hq hun
  go_enter Tryz.func10, Tryz.ntmps10
  go_wp2_with (first
    | (go_at_call 29; refine (HU.out _ (Unq.err_below HE.out (by repeat (first | assumption | (with_reducible exact Below.refl _ _) | exact balloc _ _ | exact balloc2 _ _ _ | refine btrans ?_ (by assumption) | refine btrans ?_ (balloc _ _)))) (HT.out.below (by repeat (first | assumption | (with_reducible exact Below.refl _ _) | exact balloc _ _ | exact balloc2 _ _ _ | refine btrans ?_ (by assumption) | refine btrans ?_ (balloc _ _))) (Nat.le_refl _))).mono ?_; rintro e w1 ⟨hR, hb1⟩; obtain rfl : e = _ := hR; have HB1 := Lib.hid hb1; obtain ⟨c0, c1, f0, f1, hz1, hl1⟩ := two_box hb1; clear hb1) | fail)
  obtain ⟨W2, hW2, d0, ⟨e0, e1, e2, e3, e4⟩, g0, hz2, hl2⟩ := two_set HB1.out rfl (.int .i64 2) (.int .i64 0) (.float .f64 0) (.string ⟨body.toArray⟩) (.bool false)
  rw [← hW2]
  clear c0 c1 f0 f1 hz1 hl1 HB1 hW2
  have HB := Lib.hid hl2; clear hl2
  go_wp2_with (first
    | (go_at_call 12; refine (HR.out _).mono ?_; rintro e w3 ⟨rfl, hb3⟩; obtain ⟨hc3, hf3⟩ := bcell hb3; have hs3 := Nat.lt_of_lt_of_le hz2 hb3.size; have hs3' : w.heap.size < W2.heap.size := by omega)
    | (go_at_call 13; refine (HPR.out _ (HT.out.below (btrans HB.out hb3) (Nat.le_refl _))).mono ?_; rintro e w4 ⟨rfl, hb4⟩; obtain ⟨hc4, hf4⟩ := bcell hb4; have hs4' : w.heap.size < w3.heap.size := by omega) | fail)
  obtain ⟨r0, r1, r2, r3, r4, hb5⟩ := set5_at w4 w.heap.size (.int .i64 2) (.int .i64 0) (.float .f64 0) (.string ⟨body.toArray⟩) (.bool false) (fun j hj => by
    rw [hc4 _ _ (by omega), hc3 _ _ (by omega), d0, Array.getElem?_eq_getElem (by exact hj)]; rfl)
  generalize World.setCell _ _ _ = W5 at *
  refine bodyPost_ret (v := .tuple #[val 2 0 0 body false, .bool true]) (by simp [results, Tryz.results10, go_sem, r0, r1, r2, r3, r4]; try rfl) rfl ?_
  exact ⟨rfl, (btrans (btrans HB.out hb3) hb4).trans hb5⟩
set_option maxRecDepth 20000 in
set_option maxHeartbeats 4000000 in
theorem read_text_no (body : List UInt8) (w : World) (hl : body.length ≤ 800) (h40 : 40 < body.length) (hT : Tab.Tabs w) (hE : Unq.ErrS w) :
    Calls Tryz.prog 10 #[.string ⟨(Quo.quoteT Lib.goPrintTabs body).toArray⟩] w fun e w' => e = .returned (.tuple #[val 0 0 0 [] false, .bool false]) ∧ Below w.heap.size w w' := by
  obtain ⟨r, hq, hun, hrl⟩ := quote_tail body
  have hu := fun W hEW hW => Unq.Unquote_any r (by omega) W hEW hW
  rw [hun] at hu
  have hp := fun W hW => vprint_any 2 0 0 body false W (by decide) (by decide) (by decide) (by omega) hW
  have hvt : vT ⟨2, 0, 0, body, false⟩ = 34 :: r := hq
  rw [hvt] at hp
  rw [hq]
  have hr := fun W => vright_any 2 0 0 body false W (by omega)
  have hrr : vRight ⟨2, 0, 0, body, false⟩ = false := by
    show (true && true && decide (body.length ≤ 40)) = _
    simp; omega
  rw [hrr] at hr
  have HU := Lib.hid hu; have HPR := Lib.hid hp; have HR := Lib.hid hr; have HT := Lib.hid hT; have HE := Lib.hid hE
  clear hu hp hvt hr hrr hT hE hq hun
  go_enter Tryz.func10, Tryz.ntmps10
  go_wp2_with (first
    | (go_at_call 29; refine (HU.out _ (Unq.err_below HE.out (by repeat (first | assumption | (with_reducible exact Below.refl _ _) | exact balloc _ _ | exact balloc2 _ _ _ | refine btrans ?_ (by assumption) | refine btrans ?_ (balloc _ _)))) (HT.out.below (by repeat (first | assumption | (with_reducible exact Below.refl _ _) | exact balloc _ _ | exact balloc2 _ _ _ | refine btrans ?_ (by assumption) | refine btrans ?_ (balloc _ _))) (Nat.le_refl _))).mono ?_; rintro e w1 ⟨hR, hb1⟩; obtain rfl : e = _ := hR; have HB1 := Lib.hid hb1; obtain ⟨c0, c1, f0, f1, hz1, hl1⟩ := two_box hb1; clear hb1) | fail)
  obtain ⟨W2, hW2, d0, ⟨e0, e1, e2, e3, e4⟩, g0, hz2, hl2⟩ := two_set HB1.out rfl (.int .i64 2) (.int .i64 0) (.float .f64 0) (.string ⟨body.toArray⟩) (.bool false)
  rw [← hW2]
  clear c0 c1 f0 f1 hz1 hl1 HB1 hW2
  have HB := Lib.hid hl2; clear hl2
  go_wp2_with (first
    | (go_at_call 12; refine (HR.out _).mono ?_; rintro e w3 ⟨rfl, hb3⟩; obtain ⟨hc3, hf3⟩ := bcell hb3; have hs3 := Nat.lt_of_lt_of_le hz2 hb3.size; have hs3' : w.heap.size < W2.heap.size := by omega)
    | (go_at_call 13; refine (HPR.out _ (HT.out.below (btrans HB.out hb3) (Nat.le_refl _))).mono ?_; rintro e w4 ⟨rfl, hb4⟩; obtain ⟨hc4, hf4⟩ := bcell hb4; have hs4' : w.heap.size < w3.heap.size := by omega) | fail)
  obtain ⟨r0, r1, r2, r3, r4, hb5⟩ := set5_at w3 w.heap.size (.int .i64 0) (.int .i64 0) (.float .f64 0) (.string ⟨#[]⟩) (.bool false) (fun j hj => by
    rw [hc3 _ _ (by omega), d0, Array.getElem?_eq_getElem (by exact hj)]; rfl)
  generalize World.setCell _ _ _ = W5 at *
  refine bodyPost_ret (v := .tuple #[val 0 0 0 [] false, .bool false]) (by simp [results, Tryz.results10, go_sem, r0, r1, r2, r3, r4]; try rfl) rfl ?_
  exact ⟨rfl, (btrans HB.out hb3).trans hb5⟩
end Go.Proofs.YtnccpddjdgndcaaGreatDoor.Val
end

section
/- WHAT strconv.readFloat READS OF A DECIMAL TEXT. No walk. -/
namespace Go.Proofs.YtnccpddjdgndcaaGreatDoor.Pf
open Go.RowKit Go.Proofs.YtnccpddjdgndcaaGreatDoor.Fmt
/-- what is kept of digits: their number, below ten to their number -/
def Sig (r : RS) (D : List UInt8) : Prop := r.m = (dval D : Int) ∧ r.us = false ∧ r.tr = false ∧ r.nd = r.ndm ∧ 0 ≤ r.nd ∧ (r.nd = 0 → dval D = 0) ∧ (1 ≤ r.nd → 10 ^ (r.nd - 1).toNat ≤ dval D)
theorem dval_one (D : List UInt8) (c : UInt8) : dval (D ++ [c]) = dval D * 10 + (c.toNat - 48) := by
  rw [dval_append]; simp [dval]
theorem dval_mono (D i : List UInt8) : dval D ≤ dval (D ++ i) := by
  rw [dval_append]
  have := Nat.pow_pos (n := i.length) (show 0 < 10 by decide)
  have := Nat.le_mul_of_pos_right (dval D) this
  omega
/-- one digit more -/
theorem sig_step (D : List UInt8) (c : UInt8) (r : RS) (hc : IsD c) (hs : Sig r D) (hl : dval (D ++ [c]) < 1000000000000000000) :
    ∃ r2, rfStep false (c.toNat : Int) r = some r2 ∧ Sig r2 (D ++ [c]) ∧ r2.dot = r.dot ∧ r2.dig = true ∧ r2.dp - r2.nd = r.dp - r.nd - 1 := by
  obtain ⟨h1, h2, h3, h4, h5, h6, h7⟩ := hs
  unfold IsD at hc
  have hv := dval_one D c
  unfold rfStep
  rw [if_neg (by omega), if_neg (by omega), if_pos (by omega)]
  by_cases hz : (c.toNat : Int) = 48 ∧ r.nd = 0
  · rw [if_pos hz]
    have := h6 hz.2
    refine ⟨_, rfl, ⟨by simp only; rw [h1, hv]; omega, h2, h3, h4, h5, fun _ => by rw [hv]; omega, fun h => absurd h (by simp only; omega)⟩, rfl, rfl, by simp only; omega⟩
  · rw [if_neg hz]
    unfold rfDig
    have hn : r.nd ≤ 18 := by
      rcases Int.lt_or_le 18 r.nd with g | g
      · exfalso
        have a := h7 (by omega)
        have b : 10 ^ 18 ≤ 10 ^ (r.nd - 1).toNat := Nat.pow_le_pow_right (by decide) (by omega)
        rw [show (10 : Nat) ^ 18 = 1000000000000000000 by decide] at b
        omega
      · exact g
    rw [if_pos (by unfold mostZ; rw [if_neg (by decide)]; omega)]
    have hw : IntKind.u64.wrap (IntKind.u64.wrap (r.m * baseZ false) + ((c.toNat : Int) - 48)) = (dval (D ++ [c]) : Int) := by
      have e : baseZ false = 10 := rfl
      rw [e, h1, hv, IntKind.wrap_u64, IntKind.wrap_u64]
      omega
    refine ⟨_, rfl, ⟨hw, h2, h3, by simp only; omega, by simp only; omega, fun h => by simp only at h; omega, fun _ => ?_⟩, rfl, rfl, by simp only; omega⟩
    simp only
    rw [show (r.nd + 1 - 1).toNat = r.nd.toNat by omega, hv]
    rcases Int.lt_or_le 0 r.nd with g | g
    · have a := h7 (by omega)
      rw [show r.nd.toNat = (r.nd - 1).toNat + 1 by omega, Nat.pow_succ]
      omega
    · rw [show r.nd.toNat = 0 by omega]
      have : ¬ (c.toNat : Int) = 48 := fun h => hz ⟨h, by omega⟩
      omega
/-- many digits -/
theorem sig_run : ∀ (i D rest : List UInt8) (r : RS), (∀ c ∈ i, IsD c) → Sig r D → dval (D ++ i) < 1000000000000000000 →
    ∃ r2, rfGo false (i ++ rest) r = rfGo false rest r2 ∧ Sig r2 (D ++ i) ∧ r2.dot = r.dot ∧ (r.dig = true ∨ i ≠ [] → r2.dig = true) ∧ r2.dp - r2.nd = r.dp - r.nd - (i.length : Int)
  | [], D, rest, r, _, hs, _ => ⟨r, rfl, by rw [List.append_nil]; exact hs, rfl, fun h => h.elim id (fun h => absurd rfl h), by simp⟩
  | c :: l, D, rest, r, hi, hs, hl => by
    have e : D ++ c :: l = (D ++ [c]) ++ l := by simp
    rw [e] at hl ⊢
    obtain ⟨r1, g1, g2, g3, g4, g5⟩ := sig_step D c r (hi c (List.mem_cons_self ..)) hs (Nat.lt_of_le_of_lt (dval_mono _ l) hl)
    obtain ⟨r2, k1, k2, k3, k4, k5⟩ := sig_run l (D ++ [c]) rest r1 (fun x hx => hi x (List.mem_cons_of_mem _ hx)) g2 hl
    refine ⟨r2, ?_, k2, k3.trans g3, fun _ => k4 (Or.inl g4), by rw [k5, g5, List.length_cons]; omega⟩
    rw [List.cons_append, rfGo, g1]
    exact k1
theorem sig0 : Sig rs0 [] := ⟨rfl, rfl, rfl, rfl, Int.le_refl _, fun _ => rfl, fun h => absurd h (by decide)⟩
theorem ex_run : ∀ (l : List UInt8) (a : Nat), (∀ c ∈ l, IsD c) → a * 10 ^ l.length + dval l < 10000 → exGo l a false = (((a * 10 ^ l.length + dval l : Nat) : Int), false, [])
  | [], a, _, _ => by simp [exGo, dval]
  | c :: l, a, hi, hl => by
    have hc := hi c (List.mem_cons_self ..)
    unfold IsD at hc
    rw [dval_cons, List.length_cons, Nat.pow_succ] at hl
    have p := Nat.pow_pos (n := l.length) (show 0 < 10 by decide)
    have e : a * (10 ^ l.length * 10) + ((c.toNat - 48) * 10 ^ l.length + dval l) = (a * 10 + (c.toNat - 48)) * 10 ^ l.length + dval l := by grind
    rw [e] at hl
    have ha : a < 10000 := by
      have := Nat.le_mul_of_pos_right (a * 10 + (c.toNat - 48)) p
      omega
    unfold exGo
    rw [if_neg (by omega), if_pos (by omega), if_pos (by omega)]
    have h2 : (a : Int) * 10 + (c.toNat : Int) - 48 = ((a * 10 + (c.toNat - 48) : Nat) : Int) := by omega
    rw [h2, ex_run l _ (fun x hx => hi x (List.mem_cons_of_mem _ hx)) hl, dval_cons, List.length_cons, Nat.pow_succ, e]
/-- an exponent's text -/
def ExpT (s : List UInt8) (e : Int) : Prop := (s = [] ∧ e = 0) ∨ ∃ g ds, s = 101 :: g :: ds ∧ ds ≠ [] ∧ (∀ c ∈ ds, IsD c) ∧ dval ds < 1000 ∧ ((g = 43 ∧ e = (dval ds : Int)) ∨ (g = 45 ∧ e = -(dval ds : Int)))
/-- a decimal text: digits ahead of the point, digits behind it, an exponent -/
def Frm (X i f : List UInt8) (e : Int) : Prop := (∀ c ∈ i, IsD c) ∧ (∀ c ∈ f, IsD c) ∧ i ≠ [] ∧ ∃ s, ExpT s e ∧ (X = i ++ 46 :: (f ++ s) ∨ (f = [] ∧ X = i ++ s))
theorem stop_at (s : List UInt8) (e : Int) (h : ExpT s e) (r : RS) : rfGo false s r = (r, s) := by
  rcases h with ⟨rfl, _⟩ | ⟨g, ds, rfl, _⟩
  · rfl
  · have : rfStep false ((101 : UInt8).toNat : Int) r = none := rfl
    rw [rfGo, this]
theorem low_e : low ((101 : UInt8).toNat : Int) = 101 := by decide
theorem rf_end (r : RS) (s : List UInt8) (e : Int) (h : ExpT s e) (hu : r.us = false) (ht : r.tr = false) (hd : r.dig = true) :
    rfEnd false (r, s) = some ⟨r.m, if r.m = 0 then 0 else (if r.dot then r.dp else r.nd) + e - r.ndm, false, false, []⟩ := by
  unfold rfEnd
  simp only
  rw [if_neg (by rw [hd]; decide), hu, ht]
  simp only [Bool.false_eq_true, if_false, Int.mul_one]
  rcases h with ⟨rfl, rfl⟩ | ⟨g, ds, rfl, hne, hdd, hl, hg⟩
  · rw [if_neg (by decide), Int.add_zero]
  · have h1 : isX false (101 :: g :: ds) = true := by show (low ((101 : UInt8).toNat : Int) == 101) = true; rw [low_e]; rfl
    rw [if_pos h1]
    have hx : exAll (g :: ds) false = some (e, false, []) := by
      obtain ⟨d, t, rfl⟩ := List.exists_cons_of_ne_nil hne
      have hd0 := hdd d (List.mem_cons_self ..)
      unfold IsD at hd0
      have hr := ex_run (d :: t) 0 hdd (by rw [Nat.zero_mul]; omega)
      rw [Nat.zero_mul, Nat.zero_add] at hr
      rcases hg with ⟨rfl, rfl⟩ | ⟨rfl, rfl⟩
      · have : exSg (43 :: d :: t) = (1, d :: t) := rfl
        unfold exAll
        rw [this]
        simp only
        rw [if_pos (by omega), show exGo (d :: t) 0 false = exGo (d :: t) ((0 : Nat) : Int) false from rfl, hr]
        simp
      · have : exSg (45 :: d :: t) = (-1, d :: t) := rfl
        unfold exAll
        rw [this]
        simp only
        rw [if_pos (by omega), show exGo (d :: t) 0 false = exGo (d :: t) ((0 : Nat) : Int) false from rfl, hr]
        simp
    rw [List.drop_one, List.tail_cons, hx]
/-- what is read of a decimal text -/
theorem rf_form (X i f : List UInt8) (e : Int) (h : Frm X i f e) (hl : dval (i ++ f) < 1000000000000000000) :
    rfDec X = some ⟨(dval (i ++ f) : Int), if dval (i ++ f) = 0 then 0 else e - (f.length : Int), false, false, []⟩ := by
  obtain ⟨hi, hf, hne, s, hs, hX⟩ := h
  have z : ((dval (i ++ f) : Int) = 0) ↔ (dval (i ++ f) = 0) := by omega
  rcases hX with rfl | ⟨rfl, rfl⟩
  · obtain ⟨r1, a1, a2, a3, a4, a5⟩ := sig_run i [] (46 :: (f ++ s)) rs0 hi sig0 (Nat.lt_of_le_of_lt (dval_mono i f) hl)
    have hdg := a4 (Or.inr hne)
    have h46 : rfStep false ((46 : UInt8).toNat : Int) r1 = some { r1 with dot := true, dp := r1.nd } := by
      unfold rfStep
      rw [if_neg (by decide), if_pos (by decide), if_neg (by rw [a3]; decide)]
    obtain ⟨b1, b2, b3, b4, b5, b6, b7⟩ := a2
    obtain ⟨r2, c1, c2, c3, c4, c5⟩ := sig_run f ([] ++ i) s { r1 with dot := true, dp := r1.nd } hf ⟨b1, b2, b3, b4, b5, b6, b7⟩ hl
    have hdg2 := c4 (Or.inl hdg)
    unfold rfDec
    rw [a1, rfGo, h46]
    simp only
    rw [c1, stop_at s e hs]
    obtain ⟨d1, d2, d3, d4, _⟩ := c2
    simp only at c5 c3
    rw [rf_end r2 s e hs d2 d3 hdg2, c3, d1, List.nil_append]
    have he : (if (dval (i ++ f) : Int) = 0 then (0 : Int) else (if true = true then r2.dp else r2.nd) + e - r2.ndm) = (if dval (i ++ f) = 0 then 0 else e - (f.length : Int)) := by
      rw [if_pos rfl]
      by_cases h : dval (i ++ f) = 0
      · rw [if_pos (z.2 h), if_pos h]
      · rw [if_neg (fun q => h (z.1 q)), if_neg h]; omega
    rw [he]
  · obtain ⟨r1, a1, a2, a3, a4, a5⟩ := sig_run i [] s rs0 hi sig0 (by simpa using hl)
    have hdg := a4 (Or.inr hne)
    unfold rfDec
    rw [a1, stop_at s e hs]
    obtain ⟨d1, d2, d3, d4, _⟩ := a2
    rw [rf_end r1 s e hs d2 d3 hdg, a3, d1, List.nil_append]
    rw [List.append_nil] at z ⊢
    have he : (if (dval i : Int) = 0 then (0 : Int) else (if rs0.dot = true then r1.dp else r1.nd) + e - r1.ndm) = (if dval i = 0 then 0 else e - (([] : List UInt8).length : Int)) := by
      rw [if_neg (show ¬ rs0.dot = true by decide)]
      by_cases h : dval i = 0
      · rw [if_pos (z.2 h), if_pos h]
      · rw [if_neg (fun q => h (z.1 q)), if_neg h, List.length_nil]; omega
    rw [he]
end Go.Proofs.YtnccpddjdgndcaaGreatDoor.Pf
end

section
/- WHAT IS READ OF A NUMBER's OWN TEXT: digits and a power of ten that lie where the number is the nearest one. No walk. -/
namespace Go.Proofs.YtnccpddjdgndcaaGreatDoor.Pf
open Go.RowKit Go.Proofs.YtnccpddjdgndcaaGreatDoor.Fmt Go.Proofs.YtnccpddjdgndcaaGreatDoor.Nt
theorem exps_ne (x : Nat) : exps x ≠ [] := by unfold exps; split <;> simp
theorem expT_of (x : Int) (h0 : -1000 < x) (h1 : x < 1000) : ExpT (101 :: ((if x < 0 then [45] else [43]) ++ exps x.natAbs)) x := by
  right
  have hv := exps_val x.natAbs (by omega)
  by_cases h : x < 0
  · rw [if_pos h]
    exact ⟨45, exps x.natAbs, rfl, exps_ne _, exps_isD _, by omega, Or.inr ⟨rfl, by omega⟩⟩
  · rw [if_neg h]
    exact ⟨43, exps x.natAbs, rfl, exps_ne _, exps_isD _, by omega, Or.inl ⟨rfl, by omega⟩⟩
/-- the two ways of a number's text: with a point or an 'e'; digits alone -/
theorem g_frm (D : List UInt8) (dp : Int) (hD : ∀ c ∈ D, IsD c) (h1 : 1 ≤ D.length) (hlo : -400 ≤ dp) (hhi : dp ≤ 400) :
    (∃ i f e, Frm (gText D dp) i f e ∧ dval (i ++ f) = dval D ∧ e - (f.length : Int) = dp - (D.length : Int) ∧ ∃ c ∈ gText D dp, c = 46 ∨ c = 101) ∨
    (∃ i, gText D dp = i ∧ (∀ c ∈ i, IsD c) ∧ i ≠ [] ∧ i.length ≤ 6 ∧ (D.length : Int) ≤ dp ∧ dval i = dval D * 10 ^ (dp - (D.length : Int)).toNat) := by
  unfold gText
  split
  · left
    have hx := expT_of (dp - 1) (by omega) (by omega)
    obtain ⟨d, r, rfl⟩ : ∃ d r, D = d :: r := by
      cases D with
      | nil => simp at h1
      | cons d r => exact ⟨d, r, rfl⟩
    have hd : ∀ c ∈ [d], IsD c := fun c hc => hD c (by rw [List.mem_singleton] at hc; subst hc; exact List.mem_cons_self ..)
    have hr : ∀ c ∈ r, IsD c := fun c hc => hD c (List.mem_cons_of_mem _ hc)
    cases r with
    | nil =>
      have e : eText [d] dp = [d] ++ 101 :: ((if dp - 1 < 0 then [45] else [43]) ++ exps (dp - 1).natAbs) := by
        unfold eText; simp
      refine ⟨[d], [], dp - 1, ⟨hd, by simp, by simp, _, hx, Or.inr ⟨rfl, e⟩⟩, by simp, by simp, 101, by rw [e]; simp, Or.inr rfl⟩
    | cons x r =>
      have e : eText (d :: x :: r) dp = [d] ++ 46 :: ((x :: r) ++ 101 :: ((if dp - 1 < 0 then [45] else [43]) ++ exps (dp - 1).natAbs)) := by
        unfold eText; simp
      refine ⟨[d], x :: r, dp - 1, ⟨hd, hr, by simp, _, hx, Or.inl e⟩, by simp, by simp; omega, 46, by rw [e]; simp, Or.inl rfl⟩
  · rename_i hcase
    rcases Int.lt_or_le 0 dp with hp | hp
    · obtain ⟨q, rfl⟩ : ∃ q : Nat, dp = (q : Int) := ⟨dp.toNat, by omega⟩
      rcases Nat.lt_or_ge q D.length with hq | hq
      · left
        have e : fText D (q : Int) = D.take q ++ 46 :: D.drop q := by
          have h3 : (-(q : Int)).toNat = 0 := by omega
          have h4 : q - D.length = 0 := by omega
          rw [fText, if_pos hp, if_pos (by omega), Int.toNat_natCast, h3, h4]
          simp
        refine ⟨D.take q, D.drop q, 0, ⟨fun c hc => hD c (List.mem_of_mem_take hc), fun c hc => hD c (List.mem_of_mem_drop hc), ?_, [], Or.inl ⟨rfl, rfl⟩, Or.inl (by rw [e, List.append_nil])⟩, by rw [List.take_append_drop], by rw [List.length_drop]; omega, 46, by rw [e]; simp, Or.inl rfl⟩
        intro h
        have := congrArg List.length h
        rw [List.length_take, List.length_nil] at this
        omega
      · right
        have e : fText D (q : Int) = D ++ List.replicate (q - D.length) 48 := by
          rw [fText, if_pos hp, if_neg (by omega), Int.toNat_natCast, List.take_of_length_le hq]
          simp
        refine ⟨_, rfl, ?_, ?_, ?_, by omega, ?_⟩
        · rw [e]; exact app_isD hD (zeros_isD _)
        · rw [e]; intro h; have := congrArg List.length h; rw [List.length_append, List.length_nil] at this; omega
        · rw [e, List.length_append, List.length_replicate]; omega
        · rw [e, dval_append, dval_zeros, List.length_replicate, Nat.add_zero]
          congr 2
          omega
    · left
      have e : fText D dp = [48] ++ 46 :: (List.replicate (-dp).toNat 48 ++ D) := by
        have h3 : dp.toNat = 0 := by omega
        rw [fText, if_neg (by omega), if_pos (by omega), h3]; simp
      refine ⟨[48], List.replicate (-dp).toNat 48 ++ D, 0, ⟨zeros_isD 1, app_isD (zeros_isD _) hD, by simp, [], Or.inl ⟨rfl, rfl⟩, Or.inl (by rw [e, List.append_nil])⟩, ?_, by simp; omega, 46, by rw [e]; simp, Or.inl rfl⟩
      rw [show [48] ++ (List.replicate (-dp).toNat 48 ++ D) = (List.replicate 1 48 ++ List.replicate (-dp).toNat 48) ++ D by simp, dval_append, List.replicate_append_replicate, dval_zeros, Nat.zero_mul, Nat.zero_add]
theorem dval_lt : ∀ (l : List UInt8), (∀ c ∈ l, IsD c) → dval l < 10 ^ l.length
  | [], _ => by simp [dval]
  | c :: l, h => by
    have hc := h c (List.mem_cons_self ..)
    unfold IsD at hc
    have := dval_lt l (fun x hx => h x (List.mem_cons_of_mem _ hx))
    have m := Nat.mul_le_mul_right (10 ^ l.length) (show c.toNat - 48 ≤ 9 by omega)
    rw [dval_cons, List.length_cons, Nat.pow_succ]
    omega
/-- the least place of a number's digits -/
def P0 (b : Nat) : Int := -sfP (fm b) (fE b)
theorem p0_tab : ∀ k : Nat, k < 2046 → pw2 ((k : Int) - 1074) * pw10 0 ≤ 16 * (pw2 0 * pw10 (lg10 ((k : Int) - 1074))) ∧ pw2 ((k : Int) - 1074) * pw10 0 ≤ 16 * (pw2 0 * pw10 (skew ((k : Int) - 1074))) ∧
    -340 ≤ lg10 ((k : Int) - 1074) ∧ -340 ≤ skew ((k : Int) - 1074) := by decide +kernel
theorem p0_ok (b : Nat) (h : bexp b ≤ 2046) (h0 : bexp b ≠ 0 ∨ bman b ≠ 0) : pw2 (bE b) * pw10 0 ≤ 16 * (pw2 0 * pw10 (P0 b)) ∧ -340 ≤ P0 b := by
  have hb := bman_lt b
  unfold P0
  by_cases hx : bexp b = 0
  · obtain ⟨z, _, z1, z2, _, hm, hE, hz, _, _⟩ := sub_facts b hx (by omega)
    have hbE : bE b = -1074 := by unfold bE; rw [if_pos hx]
    have hsf : sfP (fm b) (fE b) = -lg10 (-1074) := by unfold sfP; rw [if_neg (by omega), if_neg (by omega)]
    rw [hbE, hsf, Int.neg_neg]
    obtain ⟨t1, _, t3, _⟩ := p0_tab 0 (by decide)
    rw [show ((0 : Nat) : Int) - 1074 = -1074 by decide] at t1 t3
    exact ⟨t1, t3⟩
  · have hE : fE b = (bexp b : Int) - 1086 := by unfold fE; rw [if_neg hx]
    have hbE : bE b = ((bexp b - 1 : Nat) : Int) - 1074 := by unfold bE; rw [if_neg hx]; omega
    obtain ⟨t1, t2, t3, t4⟩ := p0_tab (bexp b - 1) (by omega)
    have e11 : fE b + 11 = ((bexp b - 1 : Nat) : Int) - 1074 := by omega
    rw [hbE]
    unfold sfP
    rw [e11]
    split
    · rw [Int.neg_neg]; exact ⟨t2, t4⟩
    · rw [if_pos (by omega), Int.neg_neg]; exact ⟨t1, t3⟩
theorem short_p0 (b : Nat) : P0 b ≤ (short (fm b) (fE b)).2 := by
  unfold P0 short
  split
  · simp only; omega
  · split <;> simp only <;> omega
theorem pw10_309 : 36028797018963968 * pw2 969 * pw10 0 < pw2 0 * pw10 309 := by decide +kernel
theorem pw10_mono {a b : Int} (h : a ≤ b) : pw10 a ≤ pw10 b := Nat.pow_le_pow_right (by decide) (by omega)
/-- digits that lie where a number is the nearest one are few -/
theorem inr_small (b m : Nat) (p : Int) (h1 : 1 ≤ b) (h2 : b < 9218868437227405312) (hm : 1 ≤ m) (hr : InR b (m * pw2 0 * pw10 p)) : p ≤ 308 ∧ (P0 b ≤ p → m < 144115188075855872) := by
  obtain ⟨f1, f2, f3, f4, f5, f6, f7⟩ := bM_facts b h1 h2
  obtain ⟨_, r2, _⟩ := hr
  have c4 : (4 * bM b + 2) * pw2 (bE b - 2) * pw10 0 < 36028797018963968 * pw2 (bE b - 2) * pw10 0 := Nat.mul_lt_mul_of_pos_right (Nat.mul_lt_mul_of_pos_right (by omega) (pw2_pos _)) (pw10_pos _)
  have b0 : bexp b = b / 4503599627370496 := by unfold bexp; omega
  have b1 : bman b = b % 4503599627370496 := rfl
  constructor
  · rcases Int.lt_or_le 308 p with g | g
    · exfalso
      have a1 := pw10_mono (show (309 : Int) ≤ p by omega)
      have a2 := Nat.mul_le_mul_left (pw2 0) a1
      have a3 := Nat.mul_le_mul_right (pw10 0) (Nat.mul_le_mul_left 36028797018963968 (pw2_mono (show bE b - 2 ≤ 969 by omega)))
      have a4 := pw10_309
      have a5 := Nat.mul_le_mul_right (pw2 0 * pw10 p) hm
      rw [Nat.mul_assoc m] at r2
      omega
    · exact g
  · intro hp
    obtain ⟨t1, _⟩ := p0_ok b (by omega) (by omega)
    have a1 := pw10_mono hp
    have a2 := Nat.mul_le_mul_left (pw2 0) a1
    have e : pw2 (bE b) = pw2 (bE b - 2) * 2 ^ 2 := pw2_step _ _ _ (by omega) (by omega)
    have X := Nat.mul_pos (pw2_pos 0) (pw10_pos p)
    rw [e] at t1
    have e2 : pw2 (bE b - 2) * 2 ^ 2 * pw10 0 = 4 * (pw2 (bE b - 2) * pw10 0) := by grind
    have e3 : 36028797018963968 * pw2 (bE b - 2) * pw10 0 = 36028797018963968 * (pw2 (bE b - 2) * pw10 0) := by grind
    have e4 : m * pw2 0 * pw10 p = m * (pw2 0 * pw10 p) := by grind
    rw [e2] at t1
    rw [e3] at c4
    rw [e4] at r2
    have : m * (pw2 0 * pw10 p) < 144115188075855872 * (pw2 0 * pw10 p) := by omega
    exact Nat.lt_of_mul_lt_mul_right this
/-- a number's text -/
theorem flt_form (b : Nat) (hb : bexp b ≤ 2046) (h0 : bexp b ≠ 0 ∨ bman b ≠ 0) :
    ∃ X i f e, fltT b = sgn (bneg b) ++ X ∧ Frm X i f e ∧ 1 ≤ dval (i ++ f) ∧ dval (i ++ f) < 144115188075855872 ∧ -340 ≤ e - (f.length : Int) ∧ e - (f.length : Int) ≤ 308 ∧
      InR (b % 9223372036854775808) (dval (i ++ f) * pw2 0 * pw10 (e - (f.length : Int))) := by
  have hn : Num b := ⟨hb, h0⟩
  have hft : ftoaT b = sgn (bneg b) ++ numT b := by unfold ftoaT; rw [if_neg (by omega), if_neg (by omega)]
  obtain ⟨g1, g2, g3, g4⟩ := hn.facts
  obtain ⟨k1, k2, k3, k4⟩ := hn.nd
  have hl := digs_len_le (short (fm b) (fE b)).1
  have hv := digs_val (short (fm b) (fE b)).1
  have hDD := digs_isD (short (fm b) (fE b)).1
  have hp0 := short_p0 b
  have m0 : bman (b % 9223372036854775808) = bman b := by unfold bman; omega
  have x0 : bexp (b % 9223372036854775808) = bexp b := by unfold bexp; omega
  have hsm : b % 9223372036854775808 < 9218868437227405312 ∧ 1 ≤ b % 9223372036854775808 := by unfold bexp bman at *; omega
  have hin := short_in _ hsm.2 hsm.1
  rw [fkey_low] at hin
  have hP : P0 (b % 9223372036854775808) = P0 b := by
    unfold P0
    congr 2
    · unfold fm fz; rw [m0, x0]
    · unfold fE fz; rw [m0, x0]
  have small := fun m p => inr_small (b % 9223372036854775808) m p hsm.2 hsm.1
  rw [hP] at small
  have hp1 := (p0_ok b hb h0).2
  have hfk : fkey b = (short (fm b) (fE b)).1 * pw10 (short (fm b) (fE b)).2 := rfl
  rw [hfk] at hin
  have hnum : numT b = gText (digs (short (fm b) (fE b)).1) ((Lib.nDigits (short (fm b) (fE b)).1 : Int) + (short (fm b) (fE b)).2) := rfl
  have hgf := g_frm (digs (short (fm b) (fE b)).1) ((Lib.nDigits (short (fm b) (fE b)).1 : Int) + (short (fm b) (fE b)).2) hDD k1 (by omega) (by omega)
  rw [← hnum] at hgf
  generalize (short (fm b) (fE b)).2 = p at *
  generalize (short (fm b) (fE b)).1 = d at *
  generalize digs d = D at *
  generalize Lib.nDigits d = n at *
  have hD1 : 1 ≤ dval D := by
    rcases Nat.eq_zero_or_pos (dval D) with z | z
    · rw [z, Nat.zero_mul] at hv; omega
    · exact z
  rcases hgf with ⟨i, f, e, h1, h2, h3, c, hc, hcc⟩ | ⟨i, h1, h2, h3, h4, h5, h6⟩
  · have hmk : marked (ftoaT b) = true := by
      rw [marked_iff, hft]
      refine ⟨c, List.mem_append_right _ hc, ?_⟩
      rcases hcc with h | h
      · exact Or.inl h
      · exact Or.inr (Or.inl h)
    have hT : InR (b % 9223372036854775808) (dval (i ++ f) * pw2 0 * pw10 (e - (f.length : Int))) := by
      rw [h2, h3]
      have e1 : dval D * pw2 0 * pw10 ((n : Int) + p - (D.length : Int)) = d * pw10 p * pw2 0 := by
        rw [← hv, show (n : Int) + p - (D.length : Int) = p + ((n - D.length : Nat) : Int) by omega, pw10_step p _ (n - D.length) rfl (by omega)]
        grind
      rw [e1]
      exact hin
    have hs := small _ _ (by rw [h2]; exact hD1) hT
    refine ⟨numT b, i, f, e, by unfold fltT; rw [hmk, if_pos rfl, hft], h1, by rw [h2]; exact hD1, hs.2 (by omega), by omega, hs.1, hT⟩
  · have hmk : marked (ftoaT b) = false := by
      cases hm : marked (ftoaT b)
      · rfl
      · exfalso
        rw [marked_iff, hft] at hm
        obtain ⟨c, hc, hcc⟩ := hm
        rcases List.mem_append.1 hc with q | q
        · unfold sgn at q
          split at q
          · rw [List.mem_singleton] at q; subst q; revert hcc; decide
          · cases q
        · have := h2 c (h1 ▸ q)
          unfold IsD at this
          rcases hcc with rfl | rfl | rfl | rfl <;> revert this <;> decide
    have hm10 : dval (i ++ [48]) = dval i * 10 := dval_end i
    have hT : InR (b % 9223372036854775808) (dval (i ++ [48]) * pw2 0 * pw10 (-1)) := by
      have e1 : dval (i ++ [48]) * pw2 0 * pw10 (-1) = d * pw10 p * pw2 0 := by
        have a1 : pw10 0 = pw10 (-1) * 10 ^ 1 := pw10_step _ _ _ (by omega) (by omega)
        have a2 : dval i * pw10 0 = d * pw10 p := by
          rw [h6, ← hv]
          have q1 := pw10_add ((n : Int) + p - (D.length : Int)) 0 (((n - D.length : Nat) : Int) + p) 0 (by omega) (by omega) (by omega) (by omega) (by omega)
          have q2 : pw10 ((n : Int) + p - (D.length : Int)) = pw10 0 * 10 ^ ((n : Int) + p - (D.length : Int)).toNat := pw10_step _ _ _ (by omega) (by omega)
          have q3 : pw10 ((n : Int) + p - (D.length : Int)) = pw10 p * 10 ^ (n - D.length) := pw10_step _ _ _ (by omega) (by omega)
          rw [show dval D * 10 ^ ((n : Int) + p - (D.length : Int)).toNat * pw10 0 = dval D * (pw10 0 * 10 ^ ((n : Int) + p - (D.length : Int)).toNat) by grind, ← q2, q3]
          grind
        rw [hm10, ← a2, a1]
        grind
      rw [e1]
      exact hin
    have hs := small _ _ (by rw [hm10]; rcases Nat.eq_zero_or_pos (dval i) with z | z; (exfalso; rw [h6] at z; have := Nat.mul_pos hD1 (Nat.pow_pos (n := ((n : Int) + p - (D.length : Int)).toNat) (show 0 < 10 by decide)); omega); omega) hT
    have hlt := dval_lt i h2
    have hle : 10 ^ i.length ≤ 10 ^ 6 := Nat.pow_le_pow_right (by decide) h4
    rw [show (10 : Nat) ^ 6 = 1000000 by decide] at hle
    refine ⟨numT b ++ [46, 48], i, [48], 0, by unfold fltT; rw [hmk, if_neg (by decide), hft, List.append_assoc], ⟨h2, zeros_isD 1, h3, [], Or.inl ⟨rfl, rfl⟩, Or.inl (by rw [h1]; simp)⟩, ?_, by rw [hm10]; omega, by decide, by decide, hT⟩
    rw [hm10, h6]
    have := Nat.mul_pos hD1 (Nat.pow_pos (n := ((n : Int) + p - (D.length : Int)).toNat) (show 0 < 10 by decide))
    omega
end Go.Proofs.YtnccpddjdgndcaaGreatDoor.Pf
end

section
/- THE WALKS OF strconv.atof64 AND ParseFloat AT A NUMBER's TEXT. -/
namespace Go.Proofs.YtnccpddjdgndcaaGreatDoor.Pf
open Go.RowKit Go.Proofs.YtnccpddjdgndcaaGreatDoor.Fmt Go.Proofs.YtnccpddjdgndcaaGreatDoor.Nt Ieee
/-- "infinity", "nan" -/
abbrev tInf : ByteArray := ⟨#[105, 110, 102, 105, 110, 105, 116, 121]⟩
theorem gi0 (h : 0 < tInf.size) : (tInf[0]'h) = 105 := rfl
attribute [local go_sem] gi0
set_option maxRecDepth 20000 in
set_option maxHeartbeats 1000000 in
theorem prefix0 (s : ByteArray) (h0 : 0 < s.size) (hd : 48 ≤ ((s[0]'h0).toNat : Int) ∧ ((s[0]'h0).toNat : Int) ≤ 57) (w : World) :
    Calls Tryz.prog 187 #[.string s, .string tInf] w fun e w' => e = .returned (.int .i64 0) ∧ w = w' := by
  have i0 : (0 : Int) < (s.size : Int) := by omega
  have i1 : (0 : Int) < min 8 (s.size : Int) := by omega
  have d1 : ¬ (65 : Int) ≤ ((s[0]'h0).toNat : Int) := by omega
  have d2 : (((s[0]'h0).toNat : Int) != 105) = true := by simp; omega
  clear hd
  go_enter Tryz.func187, Tryz.ntmps187
  go_wp2_with fail
  go_rounds 1
  go_ret
  exact ⟨rfl, rfl⟩
set_option maxRecDepth 20000 in
set_option maxHeartbeats 1000000 in
/-- digits ahead: nothing special -/
theorem special_pos (s : ByteArray) (h0 : 0 < s.size) (hd : 48 ≤ ((s[0]'h0).toNat : Int) ∧ ((s[0]'h0).toNat : Int) ≤ 57) (w : World) :
    Calls Tryz.prog 147 #[.string s] w fun e w' => e = .returned (.tuple #[.float .f64 0, .int .i64 0, .bool false]) ∧ w = w' := by
  have i0 : (0 : Int) < (s.size : Int) := by omega
  have z0 : ((s.size : Int) == 0) = false := beq_eq_false_iff_ne.2 (by omega)
  have d1 : (((s[0]'h0).toNat : Int) == 43) = false := by simp; omega
  have d2 : (((s[0]'h0).toNat : Int) == 45) = false := by simp; omega
  have d3 : (((s[0]'h0).toNat : Int) == 105) = false := by simp; omega
  have d4 : (((s[0]'h0).toNat : Int) == 73) = false := by simp; omega
  have d5 : (((s[0]'h0).toNat : Int) == 110) = false := by simp; omega
  have d6 : (((s[0]'h0).toNat : Int) == 78) = false := by simp; omega
  clear hd
  go_enter Tryz.func147, Tryz.ntmps147
  go_wp2
  go_returns
  exact ⟨rfl, rfl⟩
set_option maxRecDepth 20000 in
set_option maxHeartbeats 1000000 in
theorem special_neg (s t : ByteArray) (h0 : 0 < s.size) (h45 : ((s[0]'h0).toNat : Int) = 45) (ht : s.extract 1 s.size = t) (ht0 : 0 < t.size) (hd : 48 ≤ ((t[0]'ht0).toNat : Int) ∧ ((t[0]'ht0).toNat : Int) ≤ 57) (w : World) :
    Calls Tryz.prog 147 #[.string s] w fun e w' => e = .returned (.tuple #[.float .f64 0, .int .i64 0, .bool false]) ∧ w = w' := by
  have hpre := fun W => prefix0 t ht0 hd W
  have HPRE := Lib.hid hpre
  have i0 : (0 : Int) < (s.size : Int) := by omega
  have i1 : (1 : Int) ≤ (s.size : Int) := by omega
  have z0 : ((s.size : Int) == 0) = false := beq_eq_false_iff_ne.2 (by omega)
  have d1 : (((s[0]'h0).toNat : Int) == 43) = false := by simp; omega
  have d2 : (((s[0]'h0).toNat : Int) == 45) = true := by simp; omega
  clear hpre hd h45
  go_enter Tryz.func147, Tryz.ntmps147
  go_wp2_with (first | (go_at_call 187; refine (HPRE.out _).mono ?_; rintro e w' ⟨rfl, rfl⟩) | fail)
  go_returns
  exact ⟨rfl, rfl⟩
/-- the numbers' texts that are none, or have no end -/
abbrev tNaN : ByteArray := ⟨#[78, 97, 78]⟩
abbrev tnan : ByteArray := ⟨#[110, 97, 110]⟩
abbrev tInf3 : ByteArray := ⟨#[73, 110, 102]⟩
abbrev tPInf : ByteArray := ⟨#[43, 73, 110, 102]⟩
abbrev tNInf : ByteArray := ⟨#[45, 73, 110, 102]⟩
theorem gn0 (h : 0 < tNaN.size) : (tNaN[0]'h) = 78 := rfl
theorem gn1 (h : 1 < tNaN.size) : (tNaN[1]'h) = 97 := rfl
theorem gn2 (h : 2 < tNaN.size) : (tNaN[2]'h) = 78 := rfl
theorem gm0 (h : 0 < tnan.size) : (tnan[0]'h) = 110 := rfl
theorem gm1 (h : 1 < tnan.size) : (tnan[1]'h) = 97 := rfl
theorem gm2 (h : 2 < tnan.size) : (tnan[2]'h) = 110 := rfl
theorem gi1 (h : 1 < tInf.size) : (tInf[1]'h) = 110 := rfl
theorem gi2 (h : 2 < tInf.size) : (tInf[2]'h) = 102 := rfl
theorem gj0 (h : 0 < tInf3.size) : (tInf3[0]'h) = 73 := rfl
theorem gj1 (h : 1 < tInf3.size) : (tInf3[1]'h) = 110 := rfl
theorem gj2 (h : 2 < tInf3.size) : (tInf3[2]'h) = 102 := rfl
theorem gp0 (h : 0 < tPInf.size) : (tPInf[0]'h) = 43 := rfl
theorem gq0 (h : 0 < tNInf.size) : (tNInf[0]'h) = 45 := rfl
theorem xp : tPInf.extract 1 4 = tInf3 := rfl
theorem xq : tNInf.extract 1 4 = tInf3 := rfl
attribute [local go_sem] gi1 gi2 gn0 gn1 gn2 gm0 gm1 gm2 gj0 gj1 gj2 gp0 gq0 xp xq
set_option maxRecDepth 20000 in
set_option maxHeartbeats 1000000 in
theorem prefix_nan (w : World) : Calls Tryz.prog 187 #[.string tNaN, .string tnan] w fun e w' => e = .returned (.int .i64 3) ∧ w = w' := by
  go_enter Tryz.func187, Tryz.ntmps187
  go_wp2_with fail
  go_rounds 5
  go_ret
  exact ⟨rfl, rfl⟩
set_option maxRecDepth 20000 in
set_option maxHeartbeats 1000000 in
theorem prefix_inf (w : World) : Calls Tryz.prog 187 #[.string tInf3, .string tInf] w fun e w' => e = .returned (.int .i64 3) ∧ w = w' := by
  go_enter Tryz.func187, Tryz.ntmps187
  go_wp2_with fail
  go_rounds 5
  go_ret
  exact ⟨rfl, rfl⟩
theorem nan_call (w : World) : Calls Tryz.prog 189 #[] w fun e w' => e = .returned (.float .f64 9221120237041090561) ∧ w = w' := by
  go_enter Tryz.func189, Tryz.ntmps189
  go_wp2_with (first | (simp only [sfrom_call]) | fail)
  go_ret
  exact ⟨rfl, rfl⟩
theorem inf_pos (w : World) : Calls Tryz.prog 188 #[.int .i64 1] w fun e w' => e = .returned (.float .f64 9218868437227405312) ∧ w = w' := by
  go_enter Tryz.func188, Tryz.ntmps188
  go_wp2_with (first | (simp only [sfrom_call]) | fail)
  go_ret
  exact ⟨rfl, rfl⟩
theorem inf_neg (w : World) : Calls Tryz.prog 188 #[.int .i64 (-1)] w fun e w' => e = .returned (.float .f64 18442240474082181120) ∧ w = w' := by
  go_enter Tryz.func188, Tryz.ntmps188
  go_wp2_with (first | (simp only [sfrom_call]) | fail)
  go_ret
  exact ⟨rfl, rfl⟩
set_option maxRecDepth 20000 in
set_option maxHeartbeats 1000000 in
theorem special_nan (w : World) : Calls Tryz.prog 147 #[.string tNaN] w fun e w' => e = .returned (.tuple #[.float .f64 9221120237041090561, .int .i64 3, .bool true]) ∧ w = w' := by
  go_enter Tryz.func147, Tryz.ntmps147
  go_wp2_with (first | (go_at_call 187; refine (prefix_nan _).mono ?_; rintro e w' ⟨rfl, rfl⟩) | (go_at_call 189; refine (nan_call _).mono ?_; rintro e w' ⟨rfl, rfl⟩) | fail)
  go_returns
  exact ⟨rfl, rfl⟩
set_option maxRecDepth 20000 in
set_option maxHeartbeats 1000000 in
theorem special_pinf (w : World) : Calls Tryz.prog 147 #[.string tPInf] w fun e w' => e = .returned (.tuple #[.float .f64 9218868437227405312, .int .i64 4, .bool true]) ∧ w = w' := by
  go_enter Tryz.func147, Tryz.ntmps147
  go_wp2_with (first | (go_at_call 187; refine (prefix_inf _).mono ?_; rintro e w' ⟨rfl, rfl⟩) | (go_at_call 188; refine (inf_pos _).mono ?_; rintro e w' ⟨rfl, rfl⟩) | fail)
  go_returns
  exact ⟨rfl, rfl⟩
set_option maxRecDepth 20000 in
set_option maxHeartbeats 1000000 in
theorem special_ninf (w : World) : Calls Tryz.prog 147 #[.string tNInf] w fun e w' => e = .returned (.tuple #[.float .f64 18442240474082181120, .int .i64 4, .bool true]) ∧ w = w' := by
  go_enter Tryz.func147, Tryz.ntmps147
  go_wp2_with (first | (go_at_call 187; refine (prefix_inf _).mono ?_; rintro e w' ⟨rfl, rfl⟩) | (go_at_call 188; refine (inf_neg _).mono ?_; rintro e w' ⟨rfl, rfl⟩) | fail)
  go_returns
  exact ⟨rfl, rfl⟩
end Go.Proofs.YtnccpddjdgndcaaGreatDoor.Pf
end

section
/- THE WALKS OF strconv.atof64 AND ParseFloat AT A NUMBER's TEXT (second part). -/
namespace Go.Proofs.YtnccpddjdgndcaaGreatDoor.Pf
open Go.RowKit Go.Proofs.YtnccpddjdgndcaaGreatDoor.Fmt Go.Proofs.YtnccpddjdgndcaaGreatDoor.Nt Ieee
theorem rf_num (s : ByteArray) (ng : Bool) (j d : Nat) (p : Int) (hs : s.size ≤ 100000) (h0 : s.size ≠ 0) (hj : sgP s.data.toList = (ng, j)) (hx : hexP s.data.toList j = false) (ho : rfDec (s.data.toList.drop j) = some ⟨(d : Int), p, false, false, []⟩) (w : World) :
    Calls Tryz.prog 148 #[.string s] w fun e w' => e = .returned (.tuple #[.int .u64 d, .int .i64 p, .bool ng, .bool false, .bool false, .int .i64 s.size, .bool true]) ∧ Below w.heap.size w w' := by
  refine (rf_dec s w ng j hs h0 hj hx).mono ?_
  rintro e w' ⟨h, hb⟩
  have h1 : rfEnd false (rfGo false (s.data.toList.drop j) rs0) = some ⟨(d : Int), p, false, false, []⟩ := ho
  rw [h1] at h
  obtain ⟨m, x, tr, n, ok, rfl, n0, n1, m0, m1, x0, x1, hno, hyes⟩ := h
  obtain ⟨q1, q2, q3, q4, q5⟩ := hyes _ rfl
  refine ⟨?_, hb⟩
  have q6 := q1 rfl
  simp only [List.length_nil] at q2 q3 q4 q5
  have q7 : n = (s.size : Int) := by omega
  rw [q2, q3, q4, q6, q7]
/-- what a number's text is read as -/
structure NumT (s : ByteArray) (v : Nat) : Prop where
  hs : s.size ≤ 100000
  h0 : s.size ≠ 0
  spec : ∀ w, Calls Tryz.prog 147 #[.string s] w fun e w' => e = .returned (.tuple #[.float .f64 0, .int .i64 0, .bool false]) ∧ w = w'
  num : ∃ (ng : Bool) (j d : Nat) (p : Int), sgP s.data.toList = (ng, j) ∧ hexP s.data.toList j = false ∧ rfDec (s.data.toList.drop j) = some ⟨(d : Int), p, false, false, []⟩ ∧
    ((d = 0 ∧ v = sgN ng) ∨ (1 ≤ d ∧ d < 144115188075855872 ∧ -340 ≤ p ∧ p ≤ 308 ∧ ∃ b, 1 ≤ b ∧ b < 9218868437227405312 ∧ InR b (d * pw2 0 * pw10 p) ∧ v = double.word ng b))
set_option maxRecDepth 20000 in
set_option maxHeartbeats 2000000 in
theorem atof_num (s : ByteArray) (v : Nat) (h : NumT s v) (w : World) (hW : PfW w) (hP : Pow w) :
    Calls Tryz.prog 111 #[.string s] w fun e w' => e = .returned (.tuple #[.float .f64 v, .int .i64 s.size, .nilIface]) ∧ Below w.heap.size w w' := by
  obtain ⟨hs, h0, hsp, ng, j, d, p, hj, hx, ho, hv⟩ := h
  have hrf := fun W => rf_num s ng j d p hs h0 hj hx ho W
  have hb2 := fun W => bool2_any ng W
  have HSP := Lib.hid hsp; have HRF := Lib.hid hrf; have HB2 := Lib.hid hb2
  clear hsp hrf hj hx ho hb2
  have o0 : bits .or .u64 0 0 = 0 := by decide
  have o1 : bits .or .u64 9223372036854775808 0 = 9223372036854775808 := by decide
  have O0 := Lib.hid o0; have O1 := Lib.hid o1
  have HP := Lib.hid hP; have HWW := Lib.hid hW
  clear o0 o1 hP hW
  rcases hv with ⟨rfl, rfl⟩ | ⟨d1, d2, p1, p2, b, b1, b2, hr, rfl⟩
  · cases ng
    all_goals
      go_enter Tryz.func111, Tryz.ntmps111
      go_wp2_with (first | (go_at_call 147; refine (HSP.out _).mono ?_; rintro e w1 ⟨rfl, rfl⟩) | (go_at_call 148; refine (HRF.out _).mono ?_; rintro e w1 ⟨rfl, hb1⟩; have hopt := Tab.cell_below hb1 (Nat.le_refl _) HWW.out.opt) | (go_at_call 156; refine (bool2_any _ _).mono ?_; rintro e w2 ⟨rfl, rfl⟩) | (simp only [sfrom_call, O0.out, O1.out]) | fail)
      try simp only [O0.out, O1.out]
      go_returns
      exact ⟨rfl, hb1⟩
  · have hv2 := pfV_of b d p ng b1 b2 d1 d2 (by omega) (by omega) hr
    have hor : bits .or .u64 ((sgN ng : Nat) : Int) 0 = ((sgN ng : Nat) : Int) := by
      have := or_u (sgN ng) 0 (by cases ng <;> decide) (by decide)
      rw [Nat.or_zero] at this
      exact this
    have hpf := fun W hW => pf64_any d p (sgN ng : Nat) d1 (by omega) (by omega) (by omega) hor W hW
    rw [hv2] at hpf
    simp only [Int.toNat_natCast, errV, Bool.false_eq_true, if_false] at hpf
    have hex := fun W hW => exact_any d p ng d1 (by omega) (by omega) (by omega) W hW
    have HPF := Lib.hid hpf; have HEX := Lib.hid hex; have HR := Lib.hid hr
    have dB : ((d : Int) == 0) = false := beq_eq_false_iff_ne.2 (by omega)
    clear hv2 hor hpf hex hr
    have hp1 : ¬ (310 : Int) < p := by omega
    have hp2 : ¬ p < -345 := by omega
    cases ng
    all_goals
      have hpf2 := HPF.out
      try rw [show ((sgN false : Nat) : Int) = 0 from rfl] at hpf2
      try rw [show ((sgN true : Nat) : Int) = 9223372036854775808 from rfl] at hpf2
      have HPF2 := Lib.hid hpf2
      clear hpf2 HPF
      go_enter Tryz.func111, Tryz.ntmps111
      go_upto_region 19 with (first | (go_at_call 147; refine (HSP.out _).mono ?_; rintro e w1 ⟨rfl, rfl⟩) | (go_at_call 148; refine (HRF.out _).mono ?_; rintro e w1 ⟨rfl, hb1⟩; have hopt := Tab.cell_below hb1 (Nat.le_refl _) HWW.out.opt) | (go_at_call 156; refine (bool2_any _ _).mono ?_; rintro e w2 ⟨rfl, rfl⟩) | fail)
      have hW1 := HWW.out.below hb1 (Nat.le_refl _)
      have hP1 : Pow w1 := fun i hi => ⟨Tab.cell_below hb1 (Nat.le_refl _) (HP.out i hi).1, Tab.cell_below hb1 (Nat.le_refl _) (HP.out i hi).2⟩
      have HW1 := Lib.hid hW1; have HP1 := Lib.hid hP1
      clear hW1 hP1
      go_upto_region 20 with (first | (go_at_call 158; refine (HEX.out _ HW1.out).mono ?_; rintro e w2 ⟨⟨x, ok, rfl, _, hx⟩, rfl⟩) | fail)
      cases ok
      · clear hx
        go_wp2_with (first | (go_at_call 159; refine (HPF2.out _ HP1.out).mono ?_; rintro e w3 ⟨rfl, hb3⟩) | fail)
        go_returns
        exact ⟨rfl, Val.btrans hb1 hb3⟩
      · have hxx := hx rfl b b1 b2 HR.out
        subst hxx
        clear hx
        go_wp2_with fail
        go_returns
        exact ⟨rfl, hb1⟩
/-- the text's whole road -/
theorem prefix_num (s : ByteArray) (v : Nat) (h : NumT s v) (w : World) (hW : PfW w) (hP : Pow w) :
    Calls Tryz.prog 79 #[.string s, .int .i64 64] w fun e w' => e = .returned (.tuple #[.float .f64 v, .int .i64 s.size, .nilIface]) ∧ Below w.heap.size w w' := by
  have ha := atof_num s v h w hW hP
  have HA := Lib.hid ha; clear ha h
  go_enter Tryz.func79, Tryz.ntmps79
  go_wp2_with (go_at_call 111; refine HA.out.mono ?_; rintro e w' ⟨rfl, hb⟩)
  go_returns
  exact ⟨rfl, hb⟩
theorem iparse_num (s : ByteArray) (v : Nat) (h : NumT s v) (w : World) (hW : PfW w) (hP : Pow w) :
    Calls Tryz.prog 48 #[.string s, .int .i64 64] w fun e w' => e = .returned (.tuple #[.float .f64 v, .nilIface]) ∧ Below w.heap.size w w' := by
  have ha := prefix_num s v h w hW hP
  have HA := Lib.hid ha; clear ha h
  go_enter Tryz.func48, Tryz.ntmps48
  go_wp2_with (go_at_call 79; refine HA.out.mono ?_; rintro e w' ⟨rfl, hb⟩)
  go_returns
  exact ⟨rfl, hb⟩
theorem parse_num (s : ByteArray) (v : Nat) (h : NumT s v) (w : World) (hW : PfW w) (hP : Pow w) :
    Calls Tryz.prog 31 #[.string s, .int .i64 64] w fun e w' => e = .returned (.tuple #[.float .f64 v, .nilIface]) ∧ Below w.heap.size w w' := by
  have ha := iparse_num s v h w hW hP
  have HA := Lib.hid ha; clear ha h
  go_enter Tryz.func31, Tryz.ntmps31
  go_wp2_with (go_at_call 48; refine HA.out.mono ?_; rintro e w' ⟨rfl, hb⟩)
  go_returns
  exact ⟨rfl, hb⟩
end Go.Proofs.YtnccpddjdgndcaaGreatDoor.Pf
end

section
/- ParseFloat GIVES BACK THE NUMBER WHOSE TEXT IS READ. -/
namespace Go.Proofs.YtnccpddjdgndcaaGreatDoor.Pf
open Go.RowKit Go.Proofs.YtnccpddjdgndcaaGreatDoor.Fmt Go.Proofs.YtnccpddjdgndcaaGreatDoor.Nt Ieee
theorem frm_head (X i f : List UInt8) (e : Int) (h : Frm X i f e) : ∃ c r, X = c :: r ∧ IsD c := by
  obtain ⟨hi, hf, hne, s, hs, hX⟩ := h
  obtain ⟨c, t, rfl⟩ := List.exists_cons_of_ne_nil hne
  rcases hX with rfl | ⟨_, rfl⟩
  · exact ⟨c, _, rfl, hi c (List.mem_cons_self ..)⟩
  · exact ⟨c, _, rfl, hi c (List.mem_cons_self ..)⟩
theorem frm_chr (X i f : List UInt8) (e : Int) (h : Frm X i f e) : ∀ c ∈ X, IsN c := by
  obtain ⟨hi, hf, hne, s, hs, hX⟩ := h
  have hsn : ∀ c ∈ s, IsN c := by
    intro c hc
    rcases hs with ⟨rfl, _⟩ | ⟨g, ds, rfl, _, hd, _, hg⟩
    · cases hc
    · rcases List.mem_cons.1 hc with rfl | hc
      · exact .inr (.inr (.inr (.inr rfl)))
      rcases List.mem_cons.1 hc with rfl | hc
      · rcases hg with ⟨rfl, _⟩ | ⟨rfl, _⟩
        · exact .inr (.inl rfl)
        · exact .inr (.inr (.inl rfl))
      · exact .inl (hd c hc)
  intro c hc
  rcases hX with rfl | ⟨_, rfl⟩
  · rcases List.mem_append.1 hc with hc | hc
    · exact .inl (hi c hc)
    rcases List.mem_cons.1 hc with rfl | hc
    · exact .inr (.inr (.inr (.inl rfl)))
    rcases List.mem_append.1 hc with hc | hc
    · exact .inl (hf c hc)
    · exact hsn c hc
  · rcases List.mem_append.1 hc with hc | hc
    · exact .inl (hi c hc)
    · exact hsn c hc
theorem low_n : ∀ c : Nat, c < 256 → (48 ≤ c ∧ c ≤ 57) ∨ c = 43 ∨ c = 45 ∨ c = 46 ∨ c = 101 → (low (c : Int) == 120) = false := by decide +kernel
theorem low_isN (c : UInt8) (h : IsN c) : (low (c.toNat : Int) == 120) = false := by
  refine low_n c.toNat c.toNat_lt ?_
  rcases h with h | rfl | rfl | rfl | rfl
  · exact .inl h
  · exact .inr (.inl rfl)
  · exact .inr (.inr (.inl rfl))
  · exact .inr (.inr (.inr (.inl rfl)))
  · exact .inr (.inr (.inr (.inr rfl)))
theorem hexP_no (l X : List UInt8) (j : Nat) (hl : l.drop j = X) (hX : ∀ c ∈ X, IsN c) : hexP l j = false := by
  unfold hexP
  by_cases h : j + 2 < l.length
  · have : IsN (l.getD (j + 1) 0) := by
      refine hX _ ?_
      rw [← hl, List.getD_eq_getElem?_getD, List.getElem?_eq_getElem (by omega), Option.getD_some]
      refine List.mem_drop_iff_getElem.2 ⟨1, by omega, ?_⟩
      congr 1
    rw [low_isN _ this, Bool.and_false, Bool.and_false]
  · rw [decide_eq_false h, Bool.false_and]
theorem size_list (l : List UInt8) : (⟨l.toArray⟩ : ByteArray).size = l.length := by simp [ByteArray.size]
theorem numT_make (ng : Bool) (X i f : List UInt8) (e : Int) (v d : Nat) (p : Int) (h : Frm X i f e) (hl : (sgn ng ++ X).length ≤ 100000) (hr : rfDec X = some ⟨(d : Int), p, false, false, []⟩)
    (hv : (d = 0 ∧ v = sgN ng) ∨ (1 ≤ d ∧ d < 144115188075855872 ∧ -340 ≤ p ∧ p ≤ 308 ∧ ∃ b, 1 ≤ b ∧ b < 9218868437227405312 ∧ InR b (d * pw2 0 * pw10 p) ∧ v = double.word ng b)) : NumT ⟨(sgn ng ++ X).toArray⟩ v := by
  obtain ⟨c, r, rfl, hc⟩ := frm_head X i f e h
  have hn := frm_chr _ i f e h
  have hcd : 48 ≤ (c.toNat : Int) ∧ (c.toNat : Int) ≤ 57 := by unfold IsD at hc; omega
  have hz := size_list (sgn ng ++ c :: r)
  cases ng
  · have e0 : sgn false ++ c :: r = c :: r := rfl
    rw [e0] at hz hl ⊢
    have hp : 0 < (⟨(c :: r).toArray⟩ : ByteArray).size := by rw [hz]; simp
    refine ⟨by rw [hz]; exact hl, by omega, fun w => special_pos _ hp (by exact hcd) w, false, 0, d, p, ?_, ?_, ?_, hv⟩
    · show sgP (c :: r) = _
      unfold sgP
      simp only
      rw [if_neg (by omega), if_neg (by omega)]
    · exact hexP_no _ (c :: r) 0 rfl hn
    · exact hr
  · have e0 : sgn true ++ c :: r = 45 :: c :: r := rfl
    rw [e0] at hz hl ⊢
    have hp : 0 < (⟨(45 :: c :: r).toArray⟩ : ByteArray).size := by rw [hz]; simp
    have hz2 := size_list (c :: r)
    have hx : (⟨(45 :: c :: r).toArray⟩ : ByteArray).extract 1 (⟨(45 :: c :: r).toArray⟩ : ByteArray).size = ⟨(c :: r).toArray⟩ := by
      apply ByteArray.ext
      rw [ByteArray.data_extract, hz]
      simp
    refine ⟨by rw [hz]; exact hl, by omega, fun w => special_neg _ ⟨(c :: r).toArray⟩ hp (by rfl) hx (by rw [hz2]; simp) (by exact hcd) w, true, 1, d, p, ?_, ?_, ?_, hv⟩
    · rfl
    · exact hexP_no _ (c :: r) 1 rfl hn
    · exact hr
theorem flt_len2 (v : Nat) : (fltT v).length ≤ 2000 := by
  have h := Val.flt_len v
  unfold fltT
  split
  · omega
  · rw [List.length_append]; simp; omega
theorem numT_of (v : Nat) (hv : v < 18446744073709551616) (hb : bexp v ≤ 2046) : NumT ⟨(fltT v).toArray⟩ v := by
  have hlen := flt_len2 v
  have hsplit : v = sgN (bneg v) + v % 9223372036854775808 := by
    unfold bneg sgN
    by_cases h : v / 9223372036854775808 = 0
    · simp [h]; omega
    · have : v / 9223372036854775808 = 1 := by omega
      simp [this]; omega
  by_cases hz : bexp v = 0 ∧ bman v = 0
  · have hft : ftoaT v = sgn (bneg v) ++ [48] := by unfold ftoaT; rw [if_neg (by omega), if_pos hz]
    have hm : marked (ftoaT v) = false := by rw [hft]; cases bneg v <;> decide
    have ht : fltT v = sgn (bneg v) ++ [48, 46, 48] := by unfold fltT; rw [hm, if_neg (by decide), hft, List.append_assoc]; rfl
    have hfr : Frm [48, 46, 48] [48] [48] 0 := ⟨zeros_isD 1, zeros_isD 1, by simp, [], Or.inl ⟨rfl, rfl⟩, Or.inl rfl⟩
    have hr := rf_form _ _ _ _ hfr (by decide)
    have hv0 : v % 9223372036854775808 = 0 := by unfold bexp bman at hz; omega
    rw [ht] at hlen ⊢
    refine numT_make (bneg v) _ _ _ _ v 0 0 hfr (by omega) (by rw [hr]; rfl) (Or.inl ⟨rfl, by omega⟩)
  · obtain ⟨X, i, f, e, ht, hfr, m1, m2, p1, p2, hr⟩ := flt_form v hb (by omega)
    have hrr := rf_form X i f e hfr (by omega)
    rw [if_neg (by omega)] at hrr
    rw [ht] at hlen ⊢
    have hbb : 1 ≤ v % 9223372036854775808 ∧ v % 9223372036854775808 < 9218868437227405312 := by unfold bexp bman at *; omega
    exact numT_make (bneg v) X i f e v _ _ hfr (by omega) hrr (Or.inr ⟨m1, m2, p1, p2, v % 9223372036854775808, hbb.1, hbb.2, hr, by rw [word_eq]; exact hsplit⟩)
end Go.Proofs.YtnccpddjdgndcaaGreatDoor.Pf
end

section
/- ParseFloat GIVES BACK ANY NUMBER's TEXT; value.Read AT A NUMBER's TEXT. -/
namespace Go.Proofs.YtnccpddjdgndcaaGreatDoor.Pf
open Go.RowKit Go.Proofs.YtnccpddjdgndcaaGreatDoor.Fmt Go.Proofs.YtnccpddjdgndcaaGreatDoor.Nt Ieee
theorem atof_spec (s : ByteArray) (v : Nat) (h : ∀ w, Calls Tryz.prog 147 #[.string s] w fun e w' => e = .returned (.tuple #[.float .f64 v, .int .i64 s.size, .bool true]) ∧ w = w') (w : World) :
    Calls Tryz.prog 111 #[.string s] w fun e w' => e = .returned (.tuple #[.float .f64 v, .int .i64 s.size, .nilIface]) ∧ Below w.heap.size w w' := by
  have HA := Lib.hid h; clear h
  go_enter Tryz.func111, Tryz.ntmps111
  go_wp2_with (first | (go_at_call 147; refine (HA.out _).mono ?_; rintro e w1 ⟨rfl, rfl⟩) | fail)
  go_returns
  exact ⟨rfl, Below.refl _ _⟩
theorem parse_of (s : ByteArray) (v : Nat) (w : World) (ha : Calls Tryz.prog 111 #[.string s] w fun e w' => e = .returned (.tuple #[.float .f64 v, .int .i64 s.size, .nilIface]) ∧ Below w.heap.size w w') :
    Calls Tryz.prog 31 #[.string s, .int .i64 64] w fun e w' => e = .returned (.tuple #[.float .f64 v, .nilIface]) ∧ Below w.heap.size w w' := by
  have h1 : Calls Tryz.prog 79 #[.string s, .int .i64 64] w fun e w' => e = .returned (.tuple #[.float .f64 v, .int .i64 s.size, .nilIface]) ∧ Below w.heap.size w w' := by
    have HA := Lib.hid ha; clear ha
    go_enter Tryz.func79, Tryz.ntmps79
    go_wp2_with (go_at_call 111; refine HA.out.mono ?_; rintro e w' ⟨rfl, hb⟩)
    go_returns
    exact ⟨rfl, hb⟩
  have h2 : Calls Tryz.prog 48 #[.string s, .int .i64 64] w fun e w' => e = .returned (.tuple #[.float .f64 v, .nilIface]) ∧ Below w.heap.size w w' := by
    have HA := Lib.hid h1; clear h1 ha
    go_enter Tryz.func48, Tryz.ntmps48
    go_wp2_with (go_at_call 79; refine HA.out.mono ?_; rintro e w' ⟨rfl, hb⟩)
    go_returns
    exact ⟨rfl, hb⟩
  have HA := Lib.hid h2; clear h1 h2 ha
  go_enter Tryz.func31, Tryz.ntmps31
  go_wp2_with (go_at_call 48; refine HA.out.mono ?_; rintro e w' ⟨rfl, hb⟩)
  go_returns
  exact ⟨rfl, hb⟩
/-- the text of any number that is kept -/
theorem parse_flt (v : Nat) (hv : v < 18446744073709551616) (hc : Ord.canon v = v) (w : World) (hW : PfW w) (hP : Pow w) :
    Calls Tryz.prog 31 #[.string ⟨(fltT v).toArray⟩, .int .i64 64] w fun e w' => e = .returned (.tuple #[.float .f64 v, .nilIface]) ∧ Below w.heap.size w w' := by
  have hx : bexp v < 2048 := Nat.mod_lt _ (by decide)
  by_cases hb : bexp v = 2047
  · by_cases hm : bman v = 0
    · rw [fltT_inf v hb hm]
      cases hn : bneg v
      · have : v = 9218868437227405312 := by unfold bexp bman bneg at *; simp at hn; omega
        subst this
        exact parse_of _ _ w (atof_spec _ _ (fun w => special_pinf w) w)
      · have : v = 18442240474082181120 := by unfold bexp bman bneg at *; simp at hn; omega
        subst this
        exact parse_of _ _ w (atof_spec _ _ (fun w => special_ninf w) w)
    · rw [fltT_nan v hb hm]
      have hnan : Flt.nan v = true := by
        unfold Flt.nan Flt.rung
        rw [decide_eq_true_iff, show Flt.inf = 9218868437227405312 by decide, show (2 : Nat) ^ 63 = 9223372036854775808 by decide]
        unfold bexp bman at *
        omega
      have : v = 9221120237041090561 := by
        unfold Ord.canon at hc
        rw [hnan, if_pos rfl] at hc
        exact hc.symm
      subst this
      exact parse_of _ _ w (atof_spec _ _ (fun w => special_nan w) w)
  · exact parse_num _ v (numT_of v hv (by omega)) w hW hP
theorem flt_marked (v : Nat) : marked (fltT v) = true := by
  unfold fltT
  cases h : marked (ftoaT v)
  · rw [if_neg (by decide), marked_iff]
    exact ⟨46, by simp, Or.inl rfl⟩
  · rw [if_pos rfl]; exact h
theorem flt_head (v : Nat) : ∃ c r, fltT v = c :: r ∧ c ≠ 34 ∧ c ≠ 121 ∧ c ≠ 110 := by
  have h0 : ∃ c r, ftoaT v = c :: r ∧ c ≠ 34 ∧ c ≠ 121 ∧ c ≠ 110 := by
    have hx : bexp v < 2048 := Nat.mod_lt _ (by decide)
    unfold ftoaT
    split
    · split
      · exact ⟨_, _, rfl, by decide, by decide, by decide⟩
      · split
        · exact ⟨_, _, rfl, by decide, by decide, by decide⟩
        · exact ⟨_, _, rfl, by decide, by decide, by decide⟩
    · have key : ∀ (X : List UInt8), (∃ c r, X = c :: r ∧ IsD c) → ∃ c r, sgn (bneg v) ++ X = c :: r ∧ c ≠ 34 ∧ c ≠ 121 ∧ c ≠ 110 := by
        rintro X ⟨c, r, rfl, hd⟩
        cases bneg v
        · exact ⟨c, r, rfl, isD_ne hd _ (by decide), isD_ne hd _ (by decide), isD_ne hd _ (by decide)⟩
        · exact ⟨45, _, rfl, by decide, by decide, by decide⟩
      split
      · exact key _ ⟨48, [], rfl, by unfold IsD; decide⟩
      · exact key _ (Num.mk (by omega) (by omega) : Num v).head
  obtain ⟨c, r, h, q⟩ := h0
  unfold fltT
  split
  · exact ⟨c, r, h, q⟩
  · exact ⟨c, r ++ [46, 48], by rw [h]; rfl, q⟩
end Go.Proofs.YtnccpddjdgndcaaGreatDoor.Pf
namespace Go.Proofs.YtnccpddjdgndcaaGreatDoor.Val
open Go.RowKit Flt
attribute [local go_sem] run_store_flt
theorem idx0 (c : UInt8) (r : List UInt8) (h : 0 < (⟨(c :: r).toArray⟩ : ByteArray).size) : ((⟨(c :: r).toArray⟩ : ByteArray)[0]'h) = c := rfl
attribute [local go_sem] idx0
theorem any_at2 (t : List UInt8) (W : World) (ha : ∀ c ∈ t, c.toNat < 128) (hl : t.length ≤ 100000) :
    Calls Tryz.prog 30 #[.string ⟨t.toArray⟩, .string ⟨#[46, 101, 73, 78]⟩] W fun e w' => e = .returned (.bool (Fmt.marked t)) ∧ Below W.heap.size W w' := by
  have h : (⟨t.toArray⟩ : ByteArray).size = t.length := by simp [ByteArray.size]
  refine Tryz.strings_ContainsAny_laid ⟨t.toArray⟩ ⟨#[46, 101, 73, 78]⟩ W (by rw [h]; omega) (by decide) (fun j b hb => ha b ?_) (fun j b hb => ?_)
  · exact List.mem_of_getElem? hb
  · have : b ∈ [46, 101, 73, 78] := List.mem_of_getElem? hb
    simp only [List.mem_cons, List.not_mem_nil, or_false] at this
    rcases this with rfl | rfl | rfl | rfl <;> decide
theorem flt_ascii2 (b : Nat) : ∀ c ∈ Fmt.fltT b, c.toNat < 128 := by
  intro c hc
  unfold Fmt.fltT at hc
  split at hc
  · exact flt_ascii b c hc
  · rcases List.mem_append.1 hc with h | h
    · exact flt_ascii b c h
    · simp only [List.mem_cons, List.not_mem_nil, or_false] at h
      rcases h with rfl | rfl <;> decide
set_option maxRecDepth 20000 in
set_option maxHeartbeats 4000000 in
theorem read_num (v : Nat) (hv : v < 18446744073709551616) (hc : Ord.canon v = v) (w : World) (hT : Tab.Tabs w) (hP : Pf.PfW w) :
    Calls Tryz.prog 10 #[.string ⟨(Fmt.fltT v).toArray⟩] w fun e w' => e = .returned (.tuple #[val 1 0 v [] false, .bool true]) ∧ Below w.heap.size w w' := by
  have hpa := fun W hW hP2 => Pf.parse_flt v hv hc W hW hP2
  have hlen := Pf.flt_len2 v
  have hany := fun W => any_at2 (Fmt.fltT v) W (flt_ascii2 v) (by omega)
  rw [Pf.flt_marked] at hany
  have hpr := fun W hW => vprint_any 1 0 v [] false W hv (by decide) (by decide) (by decide) hW
  have hvt : vT ⟨1, 0, v, [], false⟩ = Fmt.fltT v := by
    show Fmt.fltT (Ord.canon v) = _
    rw [hc]
  rw [hvt] at hpr
  have hcan := fun W => Ord.canon_any v W
  rw [hc] at hcan
  have hri := fun W => vright_any 1 0 v [] false W (by decide)
  rw [show vRight ⟨1, 0, v, [], false⟩ = true from rfl] at hri
  obtain ⟨c, r, hl, n34, n121, n110⟩ := Pf.flt_head v
  rw [hl] at hlen hpa hany hpr ⊢
  have HPA := Lib.hid hpa; have HAN := Lib.hid hany; have HPR := Lib.hid hpr; have HC := Lib.hid hcan; have HR := Lib.hid hri; have HT := Lib.hid hT; have HP := Lib.hid hP
  clear hpa hany hpr hcan hri hT hP hvt hc hl
  have m34 : (((c.toNat : Int)) == 34) = false := beq_eq_false_iff_ne.2 (fun h => n34 (UInt8.toNat_inj.1 (by show c.toNat = 34; omega)))
  have m121 : (c == 121) = false := beq_eq_false_iff_ne.2 n121
  have m110 : (c == 110) = false := beq_eq_false_iff_ne.2 n110
  have hP10 : Fmt.Pow w := HT.out.pow
  have HP1 := Lib.hid hP10; clear hP10
  go_enter Tryz.func10, Tryz.ntmps10
  go_wp2_with (first
    | (go_at_call 30; refine (HAN.out _).mono ?_; rintro e w1 ⟨rfl, hb1⟩; have HB1 := Lib.hid hb1; obtain ⟨c0, c1, f0, f1, hz1, hl1⟩ := two_box hb1; clear hb1)
    | (go_at_call 31; refine (HPA.out _ (HP.out.below hl1 (Nat.le_refl _)) ((HT.out.below hl1 (Nat.le_refl _)).pow)).mono ?_; rintro e w2 ⟨rfl, hb2⟩; have HB2 := Lib.hid (btrans HB1.out hb2); clear c0 c1 f0 f1 hz1 hl1 hb2; obtain ⟨c0, c1, f0, f1, hz1, hl1⟩ := two_box HB2.out)
    | (go_at_call 32; refine (HC.out _).mono ?_; rintro e w' ⟨rfl, rfl⟩) | fail)
  obtain ⟨W2, hW2, d0, ⟨e0, e1, e2, e3, e4⟩, g0, hz2, hl2⟩ := two_set HB2.out rfl (.int .i64 1) (.int .i64 0) (.float .f64 v) (.string ⟨#[]⟩) (.bool false)
  rw [← hW2]
  clear c0 c1 f0 f1 hz1 hl1 HB1 HB2 hW2
  have HB := Lib.hid hl2; clear hl2
  go_wp2_with (first
    | (go_at_call 12; refine (HR.out _).mono ?_; rintro e w3 ⟨rfl, hb3⟩; obtain ⟨hc3, hf3⟩ := bcell hb3; have hs3 := Nat.lt_of_lt_of_le hz2 hb3.size; have hs3' : w.heap.size < W2.heap.size := by omega)
    | (go_at_call 13; refine (HPR.out _ (HT.out.below (btrans HB.out hb3) (Nat.le_refl _))).mono ?_; rintro e w4 ⟨rfl, hb4⟩; obtain ⟨hc4, hf4⟩ := bcell hb4; have hs4' : w.heap.size < w3.heap.size := by omega) | fail)
  obtain ⟨r0, r1, r2, r3, r4, hb5⟩ := set5_at w4 w.heap.size (.int .i64 1) (.int .i64 0) (.float .f64 v) (.string ⟨#[]⟩) (.bool false) (fun j hj => by
    rw [hc4 _ _ (by omega), hc3 _ _ (by omega), d0, Array.getElem?_eq_getElem (by exact hj)]; rfl)
  generalize World.setCell _ _ _ = W5 at *
  refine bodyPost_ret (v := .tuple #[val 1 0 v [] false, .bool true]) (by simp [results, Tryz.results10, go_sem, r0, r1, r2, r3, r4]; try rfl) rfl ?_
  exact ⟨rfl, (btrans (btrans HB.out hb3) hb4).trans hb5⟩
end Go.Proofs.YtnccpddjdgndcaaGreatDoor.Val
end

section
/- value.Read AT A WHOLE NUMBER's TEXT, AND AT YES AND NO. -/
namespace Go.Proofs.YtnccpddjdgndcaaGreatDoor.Val
open Go.RowKit Flt
attribute [local go_sem] run_store_flt idx0
theorem uint_run : ∀ (l : List UInt8) (a : Nat), (∀ c ∈ l, Fmt.IsD c) → a * 10 ^ l.length + Fmt.dval l < 18446744073709551616 → Lib.parseUint10 a l = .ok (a * 10 ^ l.length + Fmt.dval l)
  | [], a, _, _ => by simp [Lib.parseUint10, Fmt.dval]
  | c :: l, a, hi, hl => by
    have hc := hi c (List.mem_cons_self ..)
    unfold Fmt.IsD at hc
    rw [Fmt.dval_cons, List.length_cons, Nat.pow_succ] at hl ⊢
    have p := Nat.pow_pos (n := l.length) (show 0 < 10 by decide)
    have e : a * (10 ^ l.length * 10) + ((c.toNat - 48) * 10 ^ l.length + Fmt.dval l) = (a * 10 + (c.toNat - 48)) * 10 ^ l.length + Fmt.dval l := by grind
    rw [e] at hl ⊢
    have ha := Nat.le_mul_of_pos_right (a * 10 + (c.toNat - 48)) p
    unfold Lib.parseUint10
    rw [if_pos hc, if_neg (by omega), if_neg (by omega)]
    exact uint_run l _ (fun x hx => hi x (List.mem_cons_of_mem _ hx)) hl
theorem mag_dec (u : Nat) (h : u < 18446744073709551616) : Lib.parseMag (Lib.decDigits u) = .ok u := by
  obtain ⟨hv, hd⟩ := Fmt.decDigits_val u
  have hne : Lib.decDigits u ≠ [] := by
    intro e
    have h2 := Lib.decDigits_length u
    rw [e, List.length_nil] at h2
    have := Lib.nDigits_pos u
    omega
  unfold Lib.parseMag
  rw [if_neg hne, uint_run _ 0 hd (by rw [hv]; omega), hv, Nat.zero_mul, Nat.zero_add]
theorem int_back (n : Int) (h0 : -9223372036854775808 ≤ n) (h1 : n ≤ 9223372036854775807) : Lib.parseIntB 64 (Lib.itoa n) = .ok n := by
  rw [Lib.parseIntB_64]
  by_cases hn : n < 0
  · obtain ⟨u, rfl⟩ : ∃ u : Nat, n = -(u : Int) := ⟨n.natAbs, by omega⟩
    rw [Lib.itoa_neg u (by omega), Lib.atoiAll_minus, mag_dec u (by omega)]
    unfold Lib.signed
    simp only
    rw [if_neg (by omega)]
  · obtain ⟨u, rfl⟩ : ∃ u : Nat, n = (u : Int) := ⟨n.toNat, by omega⟩
    rw [Lib.itoa_nonneg]
    obtain ⟨hv, hd⟩ := Fmt.decDigits_val u
    have hm := mag_dec u (by omega)
    cases hl : Lib.decDigits u with
    | nil =>
      have h2 := Lib.decDigits_length u
      rw [hl, List.length_nil] at h2
      have := Lib.nDigits_pos u
      omega
    | cons c r =>
      have hc := hd c (by rw [hl]; exact List.mem_cons_self ..)
      unfold Fmt.IsD at hc
      rw [← hl, hl, Lib.atoiAll_plain c r (by omega) (by omega), ← hl, hm]
      unfold Lib.signless
      simp only
      rw [if_neg (by omega)]
theorem itoa_sig (n : Int) : ∀ c ∈ Lib.itoa n, Fmt.IsD c ∨ c = 45 := by
  intro c hc
  unfold Lib.itoa at hc
  split at hc
  · rcases List.mem_cons.1 hc with rfl | h
    · exact Or.inr rfl
    · exact Or.inl ((Fmt.decDigits_val _).2 c h)
  · exact Or.inl ((Fmt.decDigits_val _).2 c hc)
theorem itoa_no (n : Int) : Fmt.marked (Lib.itoa n) = false := by
  cases h : Fmt.marked (Lib.itoa n)
  · rfl
  · rw [Fmt.marked_iff] at h
    obtain ⟨c, hc, q⟩ := h
    exfalso
    rcases itoa_sig n c hc with k | rfl
    · unfold Fmt.IsD at k
      rcases q with rfl | rfl | rfl | rfl <;> revert k <;> decide
    · revert q; decide
theorem itoa_head (n : Int) : ∃ c r, Lib.itoa n = c :: r ∧ c ≠ 34 ∧ c ≠ 121 ∧ c ≠ 110 := by
  have hc := itoa_sig n
  cases h : Lib.itoa n with
  | nil =>
    exfalso
    unfold Lib.itoa at h
    split at h
    · cases h
    · have h2 := Lib.decDigits_length n.toNat
      rw [h, List.length_nil] at h2
      have := Lib.nDigits_pos n.toNat
      omega
  | cons c r =>
    refine ⟨c, r, rfl, ?_⟩
    rw [h] at hc
    rcases hc c (List.mem_cons_self ..) with k | rfl
    · exact ⟨Fmt.isD_ne k _ (by decide), Fmt.isD_ne k _ (by decide), Fmt.isD_ne k _ (by decide)⟩
    · decide
set_option maxRecDepth 20000 in
set_option maxHeartbeats 4000000 in
theorem read_int (n : Int) (h0 : -9223372036854775808 ≤ n) (h1 : n ≤ 9223372036854775807) (w : World) (hT : Tab.Tabs w) :
    Calls Tryz.prog 10 #[.string ⟨(Lib.itoa n).toArray⟩] w fun e w' => e = .returned (.tuple #[val 0 n 0 [] false, .bool true]) ∧ Below w.heap.size w w' := by
  have hlen := Lib.itoa_length_le n h0 h1
  have hsz := Pf.size_list (Lib.itoa n)
  have hpa : ∀ W, Calls Tryz.prog 33 #[.string ⟨(Lib.itoa n).toArray⟩, .int .i64 10, .int .i64 64] W fun e w' => e = .returned (.tuple #[.int .i64 n, .nilIface]) ∧ Below W.heap.size W w' := fun W => by
    refine (Tryz.strconv_ParseInt_10_at64_ok ⟨(Lib.itoa n).toArray⟩ (by rw [hsz]; omega) n (int_back n h0 h1) W).mono ?_
    rintro e w' ⟨rfl, h⟩
    refine ⟨rfl, ?_⟩
    rcases h with rfl | ⟨t, rfl⟩
    · exact Below.refl _ _
    · exact Lib.bytesWorld_below _ _ _
  have hany := fun W => any_at2 (Lib.itoa n) W (fun c hc => by rcases itoa_sig n c hc with k | rfl; (unfold Fmt.IsD at k; omega); decide) (by omega)
  rw [itoa_no] at hany
  have hpr := fun W hW => vprint_any 0 n 0 [] false W (by decide) h0 h1 (by decide) hW
  have hvt : vT ⟨0, n, 0, [], false⟩ = Lib.itoa n := rfl
  rw [hvt] at hpr
  have hri := fun W => vright_any 0 n 0 [] false W (by decide)
  rw [show vRight ⟨0, n, 0, [], false⟩ = true from rfl] at hri
  obtain ⟨c, r, hl, n34, n121, n110⟩ := itoa_head n
  rw [hl] at hlen hpa hany hpr ⊢
  have HPA := Lib.hid hpa; have HAN := Lib.hid hany; have HPR := Lib.hid hpr; have HR := Lib.hid hri; have HT := Lib.hid hT
  clear hpa hany hpr hri hT hvt hl hsz
  have m34 : (((c.toNat : Int)) == 34) = false := beq_eq_false_iff_ne.2 (fun h => n34 (UInt8.toNat_inj.1 (by show c.toNat = 34; omega)))
  have m121 : (c == 121) = false := beq_eq_false_iff_ne.2 n121
  have m110 : (c == 110) = false := beq_eq_false_iff_ne.2 n110
  go_enter Tryz.func10, Tryz.ntmps10
  go_wp2_with (first
    | (go_at_call 30; refine (HAN.out _).mono ?_; rintro e w1 ⟨rfl, hb1⟩; have HB1 := Lib.hid hb1; obtain ⟨c0, c1, f0, f1, hz1, hl1⟩ := two_box hb1; clear hb1)
    | (go_at_call 33; refine (HPA.out _).mono ?_; rintro e w2 ⟨rfl, hb2⟩; have HB2 := Lib.hid (btrans HB1.out hb2); clear c0 c1 f0 f1 hz1 hl1 hb2; obtain ⟨c0, c1, f0, f1, hz1, hl1⟩ := two_box HB2.out) | fail)
  obtain ⟨W2, hW2, d0, ⟨e0, e1, e2, e3, e4⟩, g0, hz2, hl2⟩ := two_set HB2.out rfl (.int .i64 0) (.int .i64 n) (.float .f64 0) (.string ⟨#[]⟩) (.bool false)
  rw [← hW2]
  clear c0 c1 f0 f1 hz1 hl1 HB1 HB2 hW2
  have HB := Lib.hid hl2; clear hl2
  go_wp2_with (first
    | (go_at_call 12; refine (HR.out _).mono ?_; rintro e w3 ⟨rfl, hb3⟩; obtain ⟨hc3, hf3⟩ := bcell hb3; have hs3 := Nat.lt_of_lt_of_le hz2 hb3.size; have hs3' : w.heap.size < W2.heap.size := by omega)
    | (go_at_call 13; refine (HPR.out _ (HT.out.below (btrans HB.out hb3) (Nat.le_refl _))).mono ?_; rintro e w4 ⟨rfl, hb4⟩; obtain ⟨hc4, hf4⟩ := bcell hb4; have hs4' : w.heap.size < w3.heap.size := by omega) | fail)
  obtain ⟨r0, r1, r2, r3, r4, hb5⟩ := set5_at w4 w.heap.size (.int .i64 0) (.int .i64 n) (.float .f64 0) (.string ⟨#[]⟩) (.bool false) (fun j hj => by
    rw [hc4 _ _ (by omega), hc3 _ _ (by omega), d0, Array.getElem?_eq_getElem (by exact hj)]; rfl)
  generalize World.setCell _ _ _ = W5 at *
  refine bodyPost_ret (v := .tuple #[val 0 n 0 [] false, .bool true]) (by simp [results, Tryz.results10, go_sem, r0, r1, r2, r3, r4]; try rfl) rfl ?_
  exact ⟨rfl, (btrans (btrans HB.out hb3) hb4).trans hb5⟩
set_option maxRecDepth 20000 in
set_option maxHeartbeats 4000000 in
theorem read_bool (b : Bool) (w : World) (hT : Tab.Tabs w) :
    Calls Tryz.prog 10 #[.string ⟨(if b then yesT else noT).toArray⟩] w fun e w' => e = .returned (.tuple #[val 3 0 0 [] b, .bool true]) ∧ Below w.heap.size w w' := by
  have hpr := fun W hW => vprint_any 3 0 0 [] b W (by decide) (by decide) (by decide) (by decide) hW
  have hri := fun W => vright_any 3 0 0 [] b W (by decide)
  rw [show vRight ⟨3, 0, 0, [], b⟩ = true from rfl] at hri
  rw [show vT ⟨3, 0, 0, [], b⟩ = (if b then yesT else noT) from rfl] at hpr
  have HPR := Lib.hid hpr; have HR := Lib.hid hri; have HT := Lib.hid hT
  clear hpr hri hT
  have hq : (noT == [121, 101, 115]) = false := by decide
  cases b
  · skip
    go_enter Tryz.func10, Tryz.ntmps10
    go_wp2_with (first
      | (go_at_call 12; refine (HR.out _).mono ?_; rintro e w3 ⟨rfl, hb3⟩; obtain ⟨c0, c1, f0, f1, hz1, hl1⟩ := two_box hb3)
      | (go_at_call 13; refine (HPR.out _ (HT.out.below hl1 (Nat.le_refl _))).mono ?_; rintro e w4 ⟨rfl, hb4⟩; obtain ⟨hc4, hf4⟩ := bcell hb4; have hs4' : w.heap.size < w3.heap.size := by omega) | fail)
    obtain ⟨r0, r1, r2, r3, r4, hb5⟩ := set5_at w4 w.heap.size (.int .i64 3) (.int .i64 0) (.float .f64 0) (.string ⟨#[]⟩) (.bool false) (fun j hj => by
      rw [hc4 _ _ (by omega), c0, Array.getElem?_eq_getElem (by exact hj)]; rfl)
    generalize World.setCell _ _ _ = W5 at *
    refine bodyPost_ret (v := .tuple #[val 3 0 0 [] false, .bool true]) (by simp [results, Tryz.results10, go_sem, r0, r1, r2, r3, r4]; try rfl) rfl ?_
    exact ⟨rfl, (btrans hl1 hb4).trans hb5⟩
  · skip
    go_enter Tryz.func10, Tryz.ntmps10
    go_wp2_with (first
      | (go_at_call 12; refine (HR.out _).mono ?_; rintro e w3 ⟨rfl, hb3⟩; obtain ⟨c0, c1, f0, f1, hz1, hl1⟩ := two_box hb3)
      | (go_at_call 13; refine (HPR.out _ (HT.out.below hl1 (Nat.le_refl _))).mono ?_; rintro e w4 ⟨rfl, hb4⟩; obtain ⟨hc4, hf4⟩ := bcell hb4; have hs4' : w.heap.size < w3.heap.size := by omega) | fail)
    obtain ⟨r0, r1, r2, r3, r4, hb5⟩ := set5_at w4 w.heap.size (.int .i64 3) (.int .i64 0) (.float .f64 0) (.string ⟨#[]⟩) (.bool true) (fun j hj => by
      rw [hc4 _ _ (by omega), c0, Array.getElem?_eq_getElem (by exact hj)]; rfl)
    generalize World.setCell _ _ _ = W5 at *
    refine bodyPost_ret (v := .tuple #[val 3 0 0 [] true, .bool true]) (by simp [results, Tryz.results10, go_sem, r0, r1, r2, r3, r4]; try rfl) rfl ?_
    exact ⟨rfl, (btrans hl1 hb4).trans hb5⟩
end Go.Proofs.YtnccpddjdgndcaaGreatDoor.Val
end

section
/- value.Read AT THE TEXT OF ANY VALUE IN ITS OWN FORM. -/
namespace Go.Proofs.YtnccpddjdgndcaaGreatDoor.Val
open Go.RowKit Flt
theorem canon2_two (x : Nat) : Ord.canon (Ord.canon x) = Ord.canon x := by
  unfold Ord.canon
  cases h : nan x
  · cases h2 : Ord.zero x
    · simp only [h, h2, Bool.false_eq_true, if_false]
    · simp only [Bool.false_eq_true, if_false, if_true]
      rw [if_neg (by decide), if_pos (by decide)]
  · simp only [if_true]
    rw [if_pos (by decide)]
/-- what Read answers at the text of a value in its own form -/
def back (c : V) : Value := .tuple #[if vRight c then vv c else val 0 0 0 [] false, .bool (vRight c)]
theorem read_back (v : V) (hx : v.num < 18446744073709551616) (hn : -9223372036854775808 ≤ v.int ∧ v.int ≤ 9223372036854775807) (ht : v.text.length ≤ 800) (w : World) (hT : Tab.Tabs w) (hE : Unq.ErrS w) (hP : Pf.PfW w) :
    Calls Tryz.prog 10 #[.string ⟨(vT (canonV v)).toArray⟩] w fun e w' => e = .returned (back (canonV v)) ∧ Below w.heap.size w w' := by
  obtain ⟨k, n, x, t, y⟩ := v
  dsimp only at hx hn ht
  rcases kind_ways k with h | ⟨h0, h⟩ | ⟨h0, h1, h⟩ | ⟨h0, h1, h2, h⟩ | ⟨h0, h1, h2, h3⟩
  · have e : canonV ⟨k, n, x, t, y⟩ = ⟨0, n, 0, [], false⟩ := by simp only [canonV, h, if_true]
    rw [e]
    exact read_int n hn.1 hn.2 w hT
  · have e : canonV ⟨k, n, x, t, y⟩ = ⟨1, 0, Ord.canon x, [], false⟩ := by simp only [canonV, h0, h, if_true, Bool.false_eq_true, if_false]
    rw [e]
    have e2 : vT ⟨1, 0, Ord.canon x, [], false⟩ = Fmt.fltT (Ord.canon x) := by
      show Fmt.fltT (Ord.canon (Ord.canon x)) = _
      rw [canon2_two]
    rw [e2]
    exact read_num (Ord.canon x) (canon_bits x hx).1 (canon2_two x) w hT hP
  · have e : canonV ⟨k, n, x, t, y⟩ = ⟨2, 0, 0, t, false⟩ := by simp only [canonV, h0, h1, h, if_true, Bool.false_eq_true, if_false]
    rw [e]
    by_cases hl : t.length ≤ 40
    · have hr : vRight ⟨2, 0, 0, t, false⟩ = true := by
        show (true && true && decide (t.length ≤ 40)) = _
        simp; omega
      have := read_text t w hl hT hE
      unfold back
      rw [hr]
      exact this
    · have hr : vRight ⟨2, 0, 0, t, false⟩ = false := by
        show (true && true && decide (t.length ≤ 40)) = _
        simp; omega
      have := read_text_no t w ht (by omega) hT hE
      unfold back
      rw [hr]
      exact this
  · have e : canonV ⟨k, n, x, t, y⟩ = ⟨3, 0, 0, [], y⟩ := by simp only [canonV, h0, h1, h2, h, if_true, Bool.false_eq_true, if_false]
    rw [e]
    exact read_bool y w hT
  · have e : canonV ⟨k, n, x, t, y⟩ = ⟨0, 0, 0, [], false⟩ := by simp only [canonV, h0, h1, h2, h3, Bool.false_eq_true, if_false]
    rw [e]
    exact read_int 0 (by decide) (by decide) w hT
end Go.Proofs.YtnccpddjdgndcaaGreatDoor.Val
end

section
/- WHAT FILTERS PRINT IS READ BACK: parse.one at a condition's text, parse.Filter at a filter's. -/
namespace Go.Proofs.YtnccpddjdgndcaaGreatDoor.Pa
open Go.RowKit Flt Go.Proofs.YtnccpddjdgndcaaGreatDoor.Val
/-- a condition in its own form, that may be -/
structure CK (c : C) : Prop where
  right : cRight c = true
  kept : canonC c = c
  small : CSmall c
theorem CK.num {c : C} (h : CK c) : c.val.num < 18446744073709551616 := h.small.2.2.1
theorem CK.name {c : C} (h : CK c) : Sc.nameB c.name = true := by
  have := h.right
  unfold cRight at this; simp only [Bool.and_eq_true] at this; exact this.1.1.1
theorem CK.vright {c : C} (h : CK c) : vRight c.val = true := by
  have := h.right
  unfold cRight at this; simp only [Bool.and_eq_true] at this; exact this.2
theorem CK.has {c : C} (h : CK c) (h7 : c.op = 7) : c = ⟨c.name, 7, ⟨0, 0, 0, [], false⟩⟩ := by
  have := h.kept
  unfold canonC at this
  rw [if_pos (by simp [h7])] at this
  exact this.symm
theorem CK.val {c : C} (h : CK c) (h7 : ¬ c.op = 7) : canonV c.val = c.val := by
  have := h.kept
  unfold canonC at this
  rw [if_neg (by simpa using h7)] at this
  exact congrArg C.val this
theorem CK.len {c : C} (h : CK c) : (cT c).length ≤ 3000 := by
  obtain ⟨_, _, _, q4, q5⟩ := h.small
  have h1 := vT_len c.val q4 q5
  have h3 := wordB_len c.op
  have h4 := (name_chr h.name).2.1
  have h5 := h.vright
  unfold vRight at h5
  simp only [Bool.and_eq_true, decide_eq_true_eq] at h5
  unfold cT hasT
  split
  · simp only [List.length_append, List.length_cons, List.length_nil]; omega
  · simp only [List.length_append, List.length_cons, List.length_nil]; omega
theorem shape_has {p : List UInt8} {c : C} (ha : Around p c) (k : CK c) (h7 : c.op = 7) : shape p = .has c.name := by
  have ht := ha.trim k.right k.num
  have hn := name_chr k.name
  have n32 := name_ne k.name 32 (by decide)
  have e : cT c = [104, 97, 115] ++ 32 :: c.name := by
    unfold cT; rw [if_pos (by simp [h7])]; rfl
  have hs : trimP c.name = c.name := trim_ends (Ends.bare hn.1 n32)
  unfold shape
  rw [ht, e, cut1_some _ _ (by decide)]
  simp only
  rw [hs, if_pos ⟨trivial, hn.1, fun h => n32 32 h rfl⟩]
theorem shape_cmp {p : List UInt8} {c : C} (ha : Around p c) (k : CK c) (h7 : ¬ c.op = 7) : shape p = .cmp c.name (wordL c.op.toNat) (vT c.val) := by
  have ht := ha.trim k.right k.num
  obtain ⟨_, o0, o7, k0, k3⟩ := right_parts k.right
  have n32 := name_ne k.name 32 (by decide)
  obtain ⟨w0, w1⟩ := wordL_tx c.op.toNat (by omega)
  have hv := (vT_tx c.val ⟨k0, k3, k.num⟩).2
  have e : cT c = c.name ++ 32 :: (wordL c.op.toNat ++ 32 :: vT c.val) := by
    unfold cT; rw [if_neg (by simpa using h7), wordB_of o0 o7]; simp
  have hs : trimP (wordL c.op.toNat ++ 32 :: vT c.val) = wordL c.op.toNat ++ 32 :: vT c.val :=
    trim_ends (Ends.app (Ends.bare w0 fun x hx => (w1 x hx).1) hv [32])
  unfold shape
  rw [ht, e, cut1_some _ _ (fun h => n32 32 h rfl)]
  simp only
  rw [hs, if_neg (fun h => h.2.2 (by simp)), cut1_some _ _ (fun h => (w1 32 h).1 rfl)]
  simp only
  rw [trim_ends hv]
/-- A CONDITION'S TEXT IS READ BACK -/
theorem one_back (p : List UInt8) (c : C) (ha : Around p c) (k : CK c) (hl : p.length ≤ 100000) (w : World) (hw : Words w) (hT : Tab.Tabs w) (hE : Unq.ErrS w) (hP : Pf.PfW w) :
    Calls Tryz.prog 42 #[.string ⟨p.toArray⟩] w fun e w' => e = .returned (oneOut (some c)) ∧ Below w.heap.size w w' := by
  have h := one_any p (fun _ => some c.val) w hw hl (fun nm wo vt hs W hb => by
    by_cases h7 : c.op = 7
    · rw [shape_has ha k h7] at hs; cases hs
    · rw [shape_cmp ha k h7] at hs
      injection hs with _ _ hv
      subst hv
      obtain ⟨_, q2, q3, q4, q5⟩ := k.small
      have hr := read_back c.val q3 ⟨q4, q5⟩ (by
        have h5 := k.vright
        unfold vRight at h5
        simp only [Bool.and_eq_true, decide_eq_true_eq] at h5
        omega) W (hT.below hb (Nat.le_refl _)) (Unq.err_below hE hb) (hP.below hb (Nat.le_refl _))
      rw [k.val h7] at hr
      unfold back at hr
      rw [k.vright] at hr
      exact hr)
  have e : oneC (fun _ => some c.val) p = some c := by
    unfold oneC
    by_cases h7 : c.op = 7
    · rw [shape_has ha k h7]
      simp only
      rw [← k.has h7]
    · obtain ⟨_, o0, o7, _, _⟩ := right_parts k.right
      rw [shape_cmp ha k h7]
      simp only
      rw [wordIx_at c.op.toNat (by omega)]
      show some (⟨c.name, ((c.op.toNat : Nat) : Int), c.val⟩ : C) = some c
      rw [Int.toNat_of_nonneg o0]
  rw [e] at h
  exact h
theorem dw_nil (p : UInt8 → Bool) : ∀ (l : List UInt8), l.dropWhile p = [] → ∀ x ∈ l, p x = true
  | [], _, x, hx => by cases hx
  | y :: l, h, x, hx => by
    rw [List.dropWhile_cons] at h
    split at h
    · rcases List.mem_cons.1 hx with rfl | hx
      · assumption
      · exact dw_nil p l h x hx
    · cases h
theorem trimP_nil {s : List UInt8} (h : trimP s = []) : ∀ x ∈ s, x = 32 := by
  have h1 : ∀ x ∈ Lib.trimRightB s 32, x = 32 := by
    have : (Lib.trimRightB s 32).dropWhile (· == 32) = [] := h
    intro x hx
    simpa using dw_nil _ _ this x hx
  by_cases hz : Lib.trimRightB s 32 = []
  · have : s.reverse.dropWhile (· == 32) = [] := by
      unfold Lib.trimRightB at hz
      simpa using hz
    intro x hx
    simpa using dw_nil _ _ this x (by simpa using hx)
  · exfalso
    obtain ⟨y, hy⟩ : ∃ y, (Lib.trimRightB s 32).getLast? = some y := ⟨_, List.getLast?_eq_some_getLast hz⟩
    have h2 := h1 y (List.mem_of_mem_getLast? hy)
    unfold Lib.trimRightB at hy
    rw [List.getLast?_reverse] at hy
    have := dropWhile_head (· == (32 : UInt8)) _ y hy
    rw [h2] at this
    exact absurd this (by decide)
theorem join_len : ∀ (ps : List (List UInt8)) (m : Nat), (∀ p ∈ ps, p.length ≤ m) → (joinA ps).length ≤ ps.length * (m + 1)
  | [], _, _ => by simp [joinA]
  | [p], m, h => by
    have := h p List.mem_cons_self
    simp [joinA]; omega
  | p :: q :: r, m, h => by
    have h1 := h p List.mem_cons_self
    have h2 := join_len (q :: r) m fun x hx => h x (List.mem_cons_of_mem _ hx)
    rw [joinA]
    simp only [List.length_append, List.length_cons, Nat.add_mul, Nat.one_mul] at h2 ⊢
    omega
theorem join_mem : ∀ (ps : List (List UInt8)) (p : List UInt8), p ∈ ps → ∀ x ∈ p, x ∈ joinA ps
  | [], _, h, _, _ => by cases h
  | [q], p, h, x, hx => by
    rw [List.mem_singleton] at h; subst h; exact hx
  | q :: r :: s, p, h, x, hx => by
    rw [joinA]
    rcases List.mem_cons.1 h with rfl | h
    · exact List.mem_append_left _ hx
    · exact List.mem_append_right _ (List.mem_cons_of_mem _ (join_mem (r :: s) p h x hx))
/-- A FILTER'S TEXT IS READ BACK -/
theorem filter_back (sc0 sc rest : List UInt8) (ps : List (List UInt8)) (l : List C) (w : World) (hw : Words w) (hT : Tab.Tabs w) (hE : Unq.ErrS w) (hP : Pf.PfW w) (hlen : ps.length = l.length) (hps : ∀ i (h : i < l.length), Around (ps[i]'(by omega)) l[i]) (hck : ∀ c ∈ l, CK c) (hsc : trimP sc0 = sc) (h58 : 58 ∉ sc0)
    (hrest : (l = [] ∧ trimP rest = []) ∨ (l ≠ [] ∧ rest = joinA ps)) (hpl : ∀ p ∈ ps, p.length ≤ 4000) (hsl : sc0.length ≤ 2000) (hrl : rest.length ≤ 90000) (hright : fRight sc l = true) :
    Calls Tryz.prog 18 #[.string ⟨(sc0 ++ 58 :: rest).toArray⟩] w fun e w' => (∃ b0 cp, e = .returned (.tuple #[ev sc b0 l.length cp, .int .i64 0]) ∧ Conds w' b0 l) ∧ Below w.heap.size w w' := by
  have h6 : l.length ≤ 6 := by
    unfold fRight at hright
    simp only [Bool.and_eq_true, decide_eq_true_eq] at hright
    exact hright.2.2
  have fin : ∀ e w', Made sc l e w' → ∃ b0 cp, e = .returned (.tuple #[ev sc b0 l.length cp, .int .i64 0]) ∧ Conds w' b0 l := fun e w' hm => by
    unfold Made at hm
    rw [if_neg (by omega), if_pos hright] at hm
    exact hm
  rcases hrest with ⟨rfl, h0⟩ | ⟨hl0, rfl⟩
  · refine (pfilter_none sc0 rest w h58 (by omega) h0).mono ?_
    rintro e w' ⟨hm, hb⟩
    rw [hsc] at hm
    exact ⟨fin e w' hm, hb⟩
  · have hps0 : ps ≠ [] := fun e => hl0 (List.length_eq_zero_iff.1 (by rw [← hlen, e]; rfl))
    have hcut := cut_join ps hps0 (fun p hp => by
      obtain ⟨i, hi, rfl⟩ := List.getElem_of_mem hp
      exact (hps i (by omega)).wh (hck _ (List.getElem_mem _)).right (hck _ (List.getElem_mem _)).num)
    have hne : trimP (joinA ps) ≠ [] := fun e => by
      have hall := trimP_nil e
      have h0 : 0 < l.length := List.length_pos_iff.2 hl0
      obtain ⟨a, b, ep, _, _⟩ := hps 0 h0
      have hk := hck _ (List.getElem_mem h0)
      have he := (cT_tx l[0] hk.right hk.num).2
      cases hc : cT l[0] with
      | nil => exact he.1 hc
      | cons x r =>
        refine he.2.1 x (by rw [hc]; rfl) (hall x (join_mem ps _ (List.getElem_mem (by omega : 0 < ps.length)) x ?_))
        rw [ep, hc]
        simp
    refine (pfilter_any sc0 (joinA ps) l w h58 (by omega) hne (by rw [hcut, hlen]) (by omega) (by have := trimP_le sc0; omega) (fun i h W hb => ?_) (fun x hx => ?_)).mono ?_
    · have e1 : (cutP (joinA ps))[i]'(by rw [hcut]; omega) = ps[i]'(by omega) := by simp only [hcut]
      rw [e1]
      exact one_back _ _ (hps i h) (hck _ (List.getElem_mem h)) (by have := hpl _ (List.getElem_mem (by omega : i < ps.length)); omega) W (hw.below hb) (hT.below hb (Nat.le_refl _)) (Unq.err_below hE hb) (hP.below hb (Nat.le_refl _))
    · obtain ⟨q1, q2, _⟩ := (hck x hx).small
      omega
    · rintro e w' ⟨hm, hb⟩
      rw [hsc] at hm
      exact ⟨fin e w' hm, hb⟩
theorem right_scope {sc : List UInt8} {l : List C} (h : fRight sc l = true) : Sc.rightB sc = true := by
  unfold fRight at h
  simp only [Bool.and_eq_true] at h
  exact h.2.1
end Go.Proofs.YtnccpddjdgndcaaGreatDoor.Pa
end

section
/- THE WALKS OF Light, few and Event of chapter 07's laws. -/
namespace Go.Proofs.YtnccpddjdgndcaaGreatDoor.Val
open Go.RowKit Flt
attribute [local go_sem] run_store_flt
set_option maxHeartbeats 2000000 in
theorem light07_any (sf : List UInt8) (a0 : Option Addr) (cap : Nat) (l : List C) (w : World) (hl : Conds w a0 l) (hlm : l.length ≤ maxLen) :
    Calls Tryz.prog 23 #[ev sf a0 l.length cap] w fun e w' => (∃ b : Bool, e = .returned (.bool b) ∧ (b = true → l.length ≤ 20)) ∧ Below w.heap.size w w' := by
  have HL := Lib.hid hl
  unfold maxLen at hlm
  clear hl
  go_enter Tryz.func23, Tryz.ntmps23
  go_wp2_with fail
  have hx1 := box2_new w sf a0 l.length cap 35
  have hbw := balloc w (.cells #[.string ⟨sf.toArray⟩, .slice a0 l.length cap] 35)
  have HX1 := Lib.hid hx1; have HBW := Lib.hid hbw
  clear hx1 hbw
  generalize w.alloc _ = W0 at *
  go_loopw [3, 12] (fun vn vi wr => ∃ (k : Nat) (z : Int), k ≤ l.length ∧ vn = .int .i64 z ∧ vi = .int .i64 k ∧ Below W0.heap.size W0 wr) (fun _ vi _ => l.length - (intOf vi).toNat)
  case atStart => exact ⟨0, _, Nat.zero_le _, rfl, rfl, Below.refl _ _⟩
  case round =>
    obtain ⟨k, z, hk, rfl, rfl, hbr⟩ := hrel
    have hbz := btrans HBW.out hbr
    have hy1 := HX1.out.below hbr
    have hs1 := hy1.lt
    obtain ⟨f0, f1⟩ := hy1
    have HBZ := Lib.hid hbz; have HBR := Lib.hid hbr
    clear hbz hbr
    by_cases hlt : k < l.length
    · have i1 : (k : Int) < (l.length : Int) := by omega
      have i0 : (0 : Int) ≤ (k : Int) := by omega
      obtain ⟨a, rfl, v0, v1, v2, v3, v4, v5, v6⟩ := (HL.out.below HBZ.out) k hlt
      go_wp2_with fail
      exact ⟨⟨k + 1, _, by omega, rfl, by go_num, btrans HBR.out (balloc _ _)⟩, by simp [intOf]; go_num⟩
    · obtain rfl : k = l.length := by omega
      cases hd : decide (z ≤ 2000)
      · go_wp2_with fail
        go_ret
        exact ⟨⟨_, rfl, fun h => by cases h⟩, HBZ.out⟩
      · go_wp2_with fail
        go_ret
        exact ⟨⟨_, rfl, fun h => by simp at h; omega⟩, HBZ.out⟩
end Go.Proofs.YtnccpddjdgndcaaGreatDoor.Val
end

section
/- A FILTER THAT IS LIGHT. -/
namespace Go.Proofs.YtnccpddjdgndcaaGreatDoor.Val
open Go.RowKit Flt
attribute [local go_sem] run_store_flt
def sumC (l : List C) : Nat := (l.map fun c => c.name.length + c.val.text.length).sum
theorem sumC_step (l : List C) (k : Nat) (h : k < l.length) : sumC (l.take (k + 1)) = sumC (l.take k) + (l[k].name.length + l[k].val.text.length) := by
  unfold sumC
  rw [List.take_succ_eq_append_getElem h, List.map_append, List.sum_append]
  simp
theorem sumC_le (l : List C) (k : Nat) : sumC (l.take k) ≤ sumC l := by
  unfold sumC
  have : l = l.take k ++ l.drop k := (List.take_append_drop k l).symm
  conv => rhs; rw [this, List.map_append, List.sum_append]
  omega
set_option maxHeartbeats 2000000 in
theorem light07_yes (sf : List UInt8) (a0 : Option Addr) (cap : Nat) (l : List C) (w : World) (hl : Conds w a0 l) (hlm : l.length ≤ 20) (hs : sf.length + sumC l ≤ 2000) :
    Calls Tryz.prog 23 #[ev sf a0 l.length cap] w fun e w' => e = .returned (.bool true) ∧ Below w.heap.size w w' := by
  have HL := Lib.hid hl
  clear hl
  go_enter Tryz.func23, Tryz.ntmps23
  go_wp2_with fail
  have hx1 := box2_new w sf a0 l.length cap 35
  have hbw := balloc w (.cells #[.string ⟨sf.toArray⟩, .slice a0 l.length cap] 35)
  have HX1 := Lib.hid hx1; have HBW := Lib.hid hbw
  clear hx1 hbw
  generalize w.alloc _ = W0 at *
  go_loopw [3, 12] (fun vn vi wr => ∃ k : Nat, k ≤ l.length ∧ vn = .int .i64 ((sf.length + sumC (l.take k) : Nat) : Int) ∧ vi = .int .i64 k ∧ Below W0.heap.size W0 wr) (fun _ vi _ => l.length - (intOf vi).toNat)
  case atStart => exact ⟨0, Nat.zero_le _, by simp [sumC], rfl, Below.refl _ _⟩
  case round =>
    obtain ⟨k, hk, rfl, rfl, hbr⟩ := hrel
    have hbz := btrans HBW.out hbr
    have hy1 := HX1.out.below hbr
    have hs1 := hy1.lt
    obtain ⟨f0, f1⟩ := hy1
    have HBZ := Lib.hid hbz; have HBR := Lib.hid hbr
    clear hbz hbr
    by_cases hlt : k < l.length
    · have i1 : (k : Int) < (l.length : Int) := by omega
      have i0 : (0 : Int) ≤ (k : Int) := by omega
      obtain ⟨a, rfl, v0, v1, v2, v3, v4, v5, v6⟩ := (HL.out.below HBZ.out) k hlt
      have hle := sumC_le l (k + 1)
      have hst := sumC_step l k hlt
      generalize l[k] = x at *
      have n1 : (0 : Int) ≤ (x.name.length : Int) := by omega
      have HST := Lib.hid hst; have HLE := Lib.hid hle
      clear hst hle
      go_wp2_with fail
      refine ⟨⟨k + 1, by omega, ?_, by go_num, btrans HBR.out (balloc _ _)⟩, by simp [intOf]; go_num⟩
      have h1 := HST.out; have h2 := HLE.out
      have hwr : ∀ z : Int, 0 ≤ z → z < 9223372036854775808 → wrap64 z = z := fun z h0 h3 => by unfold wrap64; omega
      rw [hwr ((x.name.length : Int) + (x.val.text.length : Int)) (by omega) (by omega), hwr _ (by omega) (by omega), h1]
      congr 1
      push_cast
      omega
    · obtain rfl : k = l.length := by omega
      have i2 : ((sf.length + sumC l : Nat) : Int) ≤ 2000 := by omega
      have i3 : (l.length : Int) ≤ 20 := by omega
      rw [List.take_length]
      go_wp2_with fail
      go_ret
      exact ⟨rfl, HBZ.out⟩
end Go.Proofs.YtnccpddjdgndcaaGreatDoor.Val
end

section
/- THE WALK OF the fit of chapter 8's laws. -/
namespace Go.Proofs.YtnccpddjdgndcaaGreatDoor.Pa
open Go.RowKit Flt Go.Proofs.YtnccpddjdgndcaaGreatDoor.Val
attribute [local go_sem] run_store_flt
abbrev fitC : List C := [⟨[120], 6, ⟨2, 0, 0, [112], false⟩⟩, ⟨[121], 7, ⟨0, 0, 0, [], false⟩⟩]
abbrev fitR : List UInt8 := [32, 120, 32, 94, 32, 34, 112, 34, 32, 38, 32, 104, 97, 115, 32, 121]
theorem fit_cut : cutP fitR = [[32, 120, 32, 94, 32, 34, 112, 34, 32], [32, 104, 97, 115, 32, 121]] := by decide
theorem pl_p : ∀ b ∈ ([112] : List UInt8), Pl b := by
  intro b hb
  rw [List.mem_singleton] at hb
  subst hb
  unfold Pl; decide
theorem fit_filter (w : World) (hw : Words w) (hT : Tab.Tabs w) :
    Calls Tryz.prog 18 #[.string ⟨#[97, 58, 32, 120, 32, 94, 32, 34, 112, 34, 32, 38, 32, 104, 97, 115, 32, 121]⟩] w fun e w' => (∃ b0 cp, e = .returned (.tuple #[ev [97] b0 2 cp, .int .i64 0]) ∧ Conds w' b0 fitC) ∧ Below w.heap.size w w' := by
  have h := pfilter_any [97] fitR fitC w (by decide) (by decide) (by decide) (by rw [fit_cut]; rfl) (by decide) (by decide) (fun i hi W hb => by
    have hi2 : i = 0 ∨ i = 1 := by simp only [List.length_cons, List.length_nil] at hi; omega
    rcases hi2 with rfl | rfl
    · have h0 := one_cmp [32, 120, 32, 94, 32, 34, 112, 34, 32] [120] [94, 32, 34, 112, 34] [34, 112, 34] [112] 6 W (hw.below hb) (hT.below hb (Nat.le_refl _)) (by decide) (by decide) (by decide) (by decide) (by decide) (by decide) (by decide) (bare_pl _ pl_p) (by decide) (by decide) (by decide)
      exact h0
    · have h0 := one_has [32, 104, 97, 115, 32, 121] [121] W (by decide) (by decide) (by decide) (by decide) (by decide) (by decide)
      exact h0) (by decide)
  refine h.mono ?_
  rintro e w' ⟨hm, hb⟩
  refine ⟨?_, hb⟩
  unfold Made at hm
  rw [if_neg (by decide), show trimP [97] = [97] from by decide, if_pos (by decide)] at hm
  exact hm
set_option maxRecDepth 20000 in
set_option maxHeartbeats 2000000 in
theorem fit08_any (w : World) (hw : Words w) (hT : Tab.Tabs w) : Calls Tryz.prog 17 #[] w fun e w' => e = .returned (.bool true) ∧ Below w.heap.size w w' := by
  have hff := fit_filter w hw hT
  have hwd : ∀ W, Below w.heap.size w W → Calls Tryz.prog 19 #[.int .i64 7] W fun e w' => e = .returned (.string ⟨#[104, 97, 115]⟩) ∧ W = w' := fun W hb => word_any 7 W (hw.below hb)
  have hvr := fun W => vright_any 2 0 0 [112] false W (by decide)
  rw [show vRight ⟨2, 0, 0, [112], false⟩ = true from by decide] at hvr
  have HFF := Lib.hid hff; have HWD := Lib.hid hwd; have HVR := Lib.hid hvr
  clear hff hwd hvr hw hT
  go_enter Tryz.func17, Tryz.ntmps17
  go_upto_region 2 with (first | (go_at_call 18; (refine HFF.out.mono ?_); rintro e w1 ⟨⟨b0, cp, rfl, hcs⟩, hb1⟩) | fail)
  have hb2 := balloc w1 (.cells #[.string ⟨[97].toArray⟩, .slice b0 2 cp] 35)
  have f0 : (w1.alloc (.cells #[.string ⟨[97].toArray⟩, .slice b0 2 cp] 35)).cell? ⟨w1.heap.size, 0, none⟩ = some (.string ⟨[97].toArray⟩) := World.cell?_alloc_at _ _ _ _ rfl
  have f1 : (w1.alloc (.cells #[.string ⟨[97].toArray⟩, .slice b0 2 cp] 35)).cell? ⟨w1.heap.size, 1, none⟩ = some (.slice b0 2 cp) := World.cell?_alloc_at _ _ _ _ rfl
  have hlt2 : w1.heap.size < (w1.alloc (.cells #[.string ⟨[97].toArray⟩, .slice b0 2 cp] 35)).heap.size := by simp
  have hcs2 := hcs.below hb2
  have HB2 := Lib.hid (btrans hb1 hb2)
  clear hcs hb2 hb1
  generalize World.alloc w1 _ = W2 at *
  generalize w1.heap.size = pf at *
  obtain ⟨a, rfl, d0, d1, d2, d3, d4, d5, d6⟩ := hcs2 0 (by decide)
  obtain ⟨a', ea, e0, e1, e2, e3, e4, e5, e6⟩ := hcs2 1 (by decide)
  obtain rfl : a = a' := by injection ea
  have hli := fun W (hb : Below W2.heap.size W2 W) => light07_yes [97] (some a) cp fitC W (hcs2.below hb) (by decide) (by decide)
  have HLI := Lib.hid hli
  clear hli hcs2 ea
  obtain ⟨ab, ao, spot⟩ := a
  have hspot : spot = none := by simpa [Addr.add] using World.cell?_spot d0
  subst hspot
  simp only [Addr.add_lit, Nat.zero_mul, Nat.one_mul, Nat.add_zero] at d0 d1 d2 d3 d4 d5 d6 e0 e1 e2 e3 e4 e5 e6
  go_wp2_with (first | (go_at_call 19; (refine (HWD.out _ HB2.out).mono ?_); rintro e w3 ⟨rfl, rfl⟩) | (go_at_call 12; (refine (HVR.out _).mono ?_); rintro e w5 ⟨rfl, hb5⟩; have x0 := (hb5.cell (p := ⟨pf, 0, none⟩) hlt2).trans f0; have x1 := (hb5.cell (p := ⟨pf, 1, none⟩) hlt2).trans f1) | (go_at_call 23; (refine (HLI.out _ hb5).mono ?_); rintro e w6 ⟨rfl, hb6⟩) | fail)
  go_ret
  exact ⟨rfl, btrans (btrans HB2.out hb5) hb6⟩
end Go.Proofs.YtnccpddjdgndcaaGreatDoor.Pa
end

section
/- THE WALK OF gazettelaw08.ParseKeys. -/
namespace Go.Proofs.YtnccpddjdgndcaaGreatDoor.Pa
open Go.RowKit Flt Go.Proofs.YtnccpddjdgndcaaGreatDoor.Val
attribute [local go_sem] run_store_flt
theorem pieces_mem (l : List C) (p : List UInt8) (h : p ∈ piecesOf l) : ∃ c ∈ l, Around p c ∧ p.length ≤ (cT c).length + 2 := by
  induction l with
  | nil => cases h
  | cons c r ih =>
    cases r with
    | nil =>
      rw [piecesOf, List.mem_singleton] at h
      subst h
      exact ⟨c, List.mem_cons_self, ⟨[32], [], by simp, by simp, by simp⟩, by simp⟩
    | cons d r =>
      rw [piecesOf] at h
      rcases List.mem_cons.1 h with rfl | h
      · exact ⟨c, List.mem_cons_self, ⟨[32], [32], by simp, by simp, by simp⟩, by simp⟩
      · obtain ⟨x, hx, hh⟩ := ih h
        exact ⟨x, List.mem_cons_of_mem _ hx, hh⟩
/-- A FILTER'S OWN TEXT IS READ BACK -/
theorem print_back (sf : List UInt8) (N : List C) (w : World) (hw : Words w) (hT : Tab.Tabs w) (hE : Unq.ErrS w) (hP : Pf.PfW w) (hck : ∀ c ∈ N, CK c) (hr : fRight sf N = true) (h1000 : sf.length ≤ 1000) :
    Calls Tryz.prog 18 #[.string ⟨(sf ++ 58 :: bodyT N).toArray⟩] w fun e w' => (∃ b0 cp, e = .returned (.tuple #[ev sf b0 N.length cp, .int .i64 0]) ∧ Conds w' b0 N) ∧ Below w.heap.size w w' := by
  have hs := right_scope hr
  have h6 : N.length ≤ 6 := by
    unfold fRight at hr
    simp only [Bool.and_eq_true, decide_eq_true_eq] at hr
    exact hr.2.2
  have hpl : ∀ p ∈ piecesOf N, p.length ≤ 4000 := fun p hp => by
    obtain ⟨c, hc, _, hl⟩ := pieces_mem N p hp
    have := (hck c hc).len
    omega
  have hjl := join_len (piecesOf N) 4000 hpl
  rw [pieces_len] at hjl
  have hbl : (bodyT N).length ≤ 90000 := by rw [body_join]; omega
  refine filter_back sf sf (bodyT N) (piecesOf N) N w hw hT hE hP (pieces_len N) (fun i h => pieces_around N i h) hck (by simpa using scope_trim hs (a := []) (b := []) (by simp) (by simp)) (fun h => scope_no58 hs 58 h rfl) ?_ hpl (by omega) hbl hr
  by_cases h0 : N = []
  · left
    subst h0
    exact ⟨rfl, by decide⟩
  · exact .inr ⟨h0, body_join N⟩
end Go.Proofs.YtnccpddjdgndcaaGreatDoor.Pa
end

section
/- THE WALK OF gazettelaw08.same, at two filters of one scope and one list of conditions. -/
namespace Go.Proofs.YtnccpddjdgndcaaGreatDoor.Pa
open Go.RowKit Flt Go.Proofs.YtnccpddjdgndcaaGreatDoor.Val
attribute [local go_sem] run_store_flt
theorem same_me (c : V) : sameB c c = true := by
  have h : Ord.same c.num c.num = true := by unfold Ord.same; simp
  unfold sameB
  simp [h]
/-- a condition's box -/
def Box7 (W : World) (b : Nat) (c : C) : Prop := W.cell? ⟨b, 0, none⟩ = some (.string ⟨c.name.toArray⟩) ∧ W.cell? ⟨b, 1, none⟩ = some (.int .i64 c.op) ∧ W.cell? ⟨b, 2, none⟩ = some (.int .i64 c.val.kind) ∧ W.cell? ⟨b, 3, none⟩ = some (.int .i64 c.val.int) ∧ W.cell? ⟨b, 4, none⟩ = some (.float .f64 c.val.num) ∧ W.cell? ⟨b, 5, none⟩ = some (.string ⟨c.val.text.toArray⟩) ∧ W.cell? ⟨b, 6, none⟩ = some (.bool c.val.yes)
theorem Box7.below {W W2 : World} {b : Nat} {c : C} (h : Box7 W b c) (hb : Below W.heap.size W W2) : Box7 W2 b c := by
  obtain ⟨h0, h1, h2, h3, h4, h5, h6⟩ := h
  have z := World.block_lt_of_cell? _ _ h0
  have e : ∀ o, W2.cell? ⟨b, o, none⟩ = W.cell? ⟨b, o, none⟩ := fun o => hb.cell (p := ⟨b, o, none⟩) z
  exact ⟨(e 0).trans h0, (e 1).trans h1, (e 2).trans h2, (e 3).trans h3, (e 4).trans h4, (e 5).trans h5, (e 6).trans h6⟩
theorem box7_new (w : World) (c : C) : Box7 (w.alloc (.cells #[.string ⟨c.name.toArray⟩, .int .i64 c.op, .int .i64 c.val.kind, .int .i64 c.val.int, .float .f64 c.val.num, .string ⟨c.val.text.toArray⟩, .bool c.val.yes] 41)) w.heap.size c := by
  have e : ∀ o, (w.alloc (.cells #[.string ⟨c.name.toArray⟩, .int .i64 c.op, .int .i64 c.val.kind, .int .i64 c.val.int, .float .f64 c.val.num, .string ⟨c.val.text.toArray⟩, .bool c.val.yes] 41)).cell? ⟨w.heap.size, o, none⟩ = #[Value.string ⟨c.name.toArray⟩, .int .i64 c.op, .int .i64 c.val.kind, .int .i64 c.val.int, .float .f64 c.val.num, .string ⟨c.val.text.toArray⟩, .bool c.val.yes][o]? := fun o => World.cell?_alloc_at _ _ _ _ rfl
  exact ⟨e 0, e 1, e 2, e 3, e 4, e 5, e 6⟩
set_option maxRecDepth 20000 in
set_option maxHeartbeats 2000000 in
theorem same_yes (sf : List UInt8) (a0 b0 : Option Addr) (c1 c2 : Nat) (l : List C) (w : World) (h1 : Conds w a0 l) (h2 : Conds w b0 l) (hlm : l.length ≤ 1000) (hn : ∀ c ∈ l, c.val.num < 18446744073709551616) :
    Calls Tryz.prog 22 #[ev sf a0 l.length c1, ev sf b0 l.length c2] w fun e w' => e = .returned (.bool true) ∧ Below w.heap.size w w' := by
  have H1 := Lib.hid h1; have H2 := Lib.hid h2
  have hsm : ∀ c ∈ l, ∀ W, Calls Tryz.prog 11 #[vv c.val, vv c.val] W fun e w' => e = .returned (.bool true) ∧ Below W.heap.size W w' := fun c hc W => by
    have h := same_any c.val.kind c.val.int c.val.num c.val.text c.val.yes c.val.kind c.val.int c.val.num c.val.text c.val.yes W (hn c hc) (hn c hc)
    have e : sameB ⟨c.val.kind, c.val.int, c.val.num, c.val.text, c.val.yes⟩ ⟨c.val.kind, c.val.int, c.val.num, c.val.text, c.val.yes⟩ = true := same_me _
    rw [e] at h
    exact h
  have HSM := Lib.hid hsm
  clear h1 h2 hn hsm
  go_enter Tryz.func22, Tryz.ntmps22
  go_upto_region 4 with fail
  have hx1 := (box2_new w sf a0 l.length c1 35).below (balloc (w.alloc (.cells #[.string ⟨sf.toArray⟩, .slice a0 l.length c1] 35)) (.cells #[.string ⟨sf.toArray⟩, .slice b0 l.length c2] 35))
  have hx2 := box2_new (w.alloc (.cells #[.string ⟨sf.toArray⟩, .slice a0 l.length c1] 35)) sf b0 l.length c2 35
  have hbw := balloc2 w (.cells #[.string ⟨sf.toArray⟩, .slice a0 l.length c1] 35) (.cells #[.string ⟨sf.toArray⟩, .slice b0 l.length c2] 35)
  have hsz : (w.alloc (.cells #[.string ⟨sf.toArray⟩, .slice a0 l.length c1] 35)).heap.size = w.heap.size + 1 := by simp
  rw [hsz] at hx2
  have HX1 := Lib.hid hx1; have HX2 := Lib.hid hx2; have HBW := Lib.hid hbw
  clear hx1 hx2 hbw hsz
  generalize (w.alloc _).alloc _ = W0 at *
  go_loopw [25] (fun vi wr => ∃ k : Nat, k ≤ l.length ∧ vi = .int .i64 k ∧ Below W0.heap.size W0 wr) (fun vi _ => l.length - (intOf vi).toNat)
  case atStart => exact ⟨0, Nat.zero_le _, rfl, Below.refl _ _⟩
  case round =>
    obtain ⟨k, hk, rfl, hbr⟩ := hrel
    have HBZ := Lib.hid (btrans HBW.out hbr); have HBR := Lib.hid hbr
    have HG := Lib.hid (HX2.out.below hbr)
    clear hbr
    by_cases hlt : k < l.length
    · have i1 : (k : Int) < (l.length : Int) := by omega
      have i0 : (0 : Int) ≤ (k : Int) := by omega
      obtain ⟨a, rfl, v0, v1, v2, v3, v4, v5, v6⟩ := (H1.out.below HBZ.out) k hlt
      have hs := HSM.out l[k] (List.getElem_mem hlt)
      have hat : Hid (∀ W, Below W0.heap.size W0 W → ∃ b, b0 = some b ∧ CAt W (b.add (k * 7)) l[k]) := Lib.hid fun W hb => (H2.out.below (btrans HBW.out hb)) k hlt
      generalize l[k] = c at *
      have HS := Lib.hid hs
      clear hs
      go_upto_region 6 with fail
      have hb1 := balloc wr (.cells #[.string ⟨c.name.toArray⟩, .int .i64 c.op, .int .i64 c.val.kind, .int .i64 c.val.int, .float .f64 c.val.num, .string ⟨c.val.text.toArray⟩, .bool c.val.yes] 41)
      have hx := box7_new wr c
      have HB1 := Lib.hid (btrans HBR.out hb1)
      obtain ⟨g0, g1⟩ := HG.out.below hb1
      clear hb1 v0 v1 v2 v3 v4 v5 v6
      generalize World.alloc wr _ = W1 at *
      generalize wr.heap.size = p1 at *
      obtain ⟨b, rfl, u0, u1, u2, u3, u4, u5, u6⟩ := hat.out W1 HB1.out
      have HX := Lib.hid hx
      clear hx hat
      go_upto_region 7 with fail
      have hb2 := balloc W1 (.cells #[.string ⟨c.name.toArray⟩, .int .i64 c.op, .int .i64 c.val.kind, .int .i64 c.val.int, .float .f64 c.val.num, .string ⟨c.val.text.toArray⟩, .bool c.val.yes] 41)
      have hx := HX.out.below hb2
      have hy := box7_new W1 c
      have HB2 := Lib.hid (btrans HB1.out hb2)
      clear hb2 u0 u1 u2 u3 u4 u5 u6 g0 g1 HX
      generalize World.alloc W1 _ = W2 at *
      generalize W1.heap.size = p2 at *
      obtain ⟨x0, x1, x2, x3, x4, x5, x6⟩ := hx
      obtain ⟨y0, y1, y2, y3, y4, y5, y6⟩ := hy
      obtain ⟨cn, co, ck, ci, cx, ct, cy⟩ := c
      by_cases h7 : co = 7
      · have e7 : (co != 7) = false := by rw [h7]; rfl
        go_wp2_with fail
        exact ⟨⟨k + 1, by omega, by go_num, HB2.out⟩, by simp [intOf]; go_num⟩
      · have e7 : (co != 7) = true := by rw [bne_iff_ne]; exact h7
        go_wp2_with (first | (go_at_call 11; (refine (HS.out _).mono ?_); rintro e w5 ⟨rfl, hb5⟩) | fail)
        exact ⟨⟨k + 1, by omega, by go_num, btrans HB2.out hb5⟩, by simp [intOf]; go_num⟩
    · obtain rfl : k = l.length := by omega
      go_wp2_with fail
      go_ret
      exact ⟨rfl, HBZ.out⟩
end Go.Proofs.YtnccpddjdgndcaaGreatDoor.Pa
end
