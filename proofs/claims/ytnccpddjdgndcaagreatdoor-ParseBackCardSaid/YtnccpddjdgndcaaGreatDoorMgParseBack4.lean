/- MERGED BY A PROGRAM OF MINE (pmg.py) out of my own texts, pruned, in their order: PaBackA, PaBackL. -/
import Derived.Test.YtnccpddjdgndcaaGreatDoorMgParseBack3
import Derived.Deep.DeepCutAuto
import Derived.Deep.CutBlock
import Derived.Deep.CutRange

section
/- FOR THE WALK OF gazettelaw08.ParseBack: rows of conditions of one's own, blanks around. -/
namespace Go.Proofs.YtnccpddjdgndcaaGreatDoor.Pa
open Go.RowKit Flt Go.Proofs.YtnccpddjdgndcaaGreatDoor.Val
attribute [local go_sem] run_store_flt
/-- a row of conditions of one's own -/
def RowC (W : World) (b0 : Option Addr) (base : Nat) (N : List C) : Prop := (b0 = none ∧ N = []) ∨ ∃ g, b0 = some ⟨g, 0, none⟩ ∧ base ≤ g ∧ g < W.heap.size ∧ Conds W (some ⟨g, 0, none⟩) N ∧ ∀ o, W.frozen? ⟨g, o, none⟩ = false
theorem row_own {W : World} {v : Value} {N : List C} {base : Nat} (h : W.ownsRow base 41 7 v N.length (Val.flatC N)) : ∃ b0 cp, v = .slice b0 N.length cp ∧ RowC W b0 base N := by
  obtain ⟨b0, cp, e, hc⟩ := Val.own_conds h
  refine ⟨b0, cp, e, ?_⟩
  rcases h.2 with ⟨h1, h2⟩ | ⟨g, cap, cur, h1, h2, h3, _⟩
  · rw [e] at h1
    injection h1 with a1 _ _
    exact .inl ⟨a1, List.eq_nil_of_length_eq_zero h2⟩
  · rw [e] at h1
    injection h1 with a1 _ _
    subst a1
    refine .inr ⟨g, rfl, h2, ?_, hc, fun o => ?_⟩
    · rcases Nat.lt_or_ge g W.heap.size with q | q
      · exact q
      · rw [Array.getElem?_eq_none q] at h3; cases h3
    · simp [World.frozen?, h3]
theorem addr_at (g k : Nat) : (⟨g, 0, none⟩ : Addr).add (k * 7) = ⟨g, k * 7, none⟩ := by unfold Addr.add; split <;> simp_all
/-- a condition is written over another one -/
theorem conds_set {W : World} {g : Nat} {l : List C} (h : Conds W (some ⟨g, 0, none⟩) l) (k : Nat) (hk : k < l.length) (c : C) :
    Conds (((((((W.setCell ⟨g, k * 7, none⟩ (.string ⟨c.name.toArray⟩)).setCell ⟨g, k * 7 + 1, none⟩ (.int .i64 c.op)).setCell ⟨g, k * 7 + 2, none⟩ (.int .i64 c.val.kind)).setCell ⟨g, k * 7 + 3, none⟩ (.int .i64 c.val.int)).setCell ⟨g, k * 7 + 4, none⟩ (.float .f64 c.val.num)).setCell ⟨g, k * 7 + 5, none⟩ (.string ⟨c.val.text.toArray⟩)).setCell ⟨g, k * 7 + 6, none⟩ (.bool c.val.yes)) (some ⟨g, 0, none⟩) (l.set k c) := fun i hi => by
  rw [List.length_set] at hi
  have hall : ∀ j (hj : j < l.length) t, t < 7 → (W.cell? ⟨g, j * 7 + t, none⟩).isSome = true := fun j hj t ht => by
    obtain ⟨a, e, d0, d1, d2, d3, d4, d5, d6⟩ := h j hj
    cases e
    rw [addr_at] at d0 d1 d2 d3 d4 d5 d6
    have ht' : t = 0 ∨ t = 1 ∨ t = 2 ∨ t = 3 ∨ t = 4 ∨ t = 5 ∨ t = 6 := by omega
    rcases ht' with rfl | rfl | rfl | rfl | rfl | rfl | rfl
    · exact congrArg Option.isSome d0
    · exact congrArg Option.isSome d1
    · exact congrArg Option.isSome d2
    · exact congrArg Option.isSome d3
    · exact congrArg Option.isSome d4
    · exact congrArg Option.isSome d5
    · exact congrArg Option.isSome d6
  refine ⟨⟨g, 0, none⟩, rfl, ?_⟩
  rw [addr_at]
  have far : ∀ (w : World) (o o2 : Nat) (v : Value), o ≠ o2 → (w.setCell ⟨g, o, none⟩ v).cell? ⟨g, o2, none⟩ = w.cell? ⟨g, o2, none⟩ := fun w o o2 v hne => World.cell?_setCell_other _ _ _ _ (by intro e; exact hne (congrArg Addr.off e))
  have near : ∀ (w : World) (o : Nat) (v : Value), (w.cell? ⟨g, o, none⟩).isSome = true → (w.setCell ⟨g, o, none⟩ v).cell? ⟨g, o, none⟩ = some v := fun w o v hs => by
    obtain ⟨x, hx⟩ := Option.isSome_iff_exists.1 hs
    exact World.cell?_setCell_same _ _ _ hx
  by_cases hik : i = k
  · subst hik
    rw [List.getElem_set_self]
    have s : ∀ t, t < 7 → (W.cell? ⟨g, i * 7 + t, none⟩).isSome = true := hall i hk
    refine ⟨?_, ?_, ?_, ?_, ?_, ?_, ?_⟩
    · rw [far _ _ _ _ (by omega), far _ _ _ _ (by omega), far _ _ _ _ (by omega), far _ _ _ _ (by omega), far _ _ _ _ (by omega), far _ _ _ _ (by omega)]
      exact near _ _ _ (s 0 (by omega))
    · show World.cell? _ ⟨g, i * 7 + 1, none⟩ = _
      rw [far _ _ _ _ (by omega), far _ _ _ _ (by omega), far _ _ _ _ (by omega), far _ _ _ _ (by omega), far _ _ _ _ (by omega), near _ _ _ (by rw [far _ _ _ _ (by omega)]; exact s 1 (by omega))]
    · show World.cell? _ ⟨g, i * 7 + 2, none⟩ = _
      rw [far _ _ _ _ (by omega), far _ _ _ _ (by omega), far _ _ _ _ (by omega), far _ _ _ _ (by omega), near _ _ _ (by rw [far _ _ _ _ (by omega), far _ _ _ _ (by omega)]; exact s 2 (by omega))]
    · show World.cell? _ ⟨g, i * 7 + 3, none⟩ = _
      rw [far _ _ _ _ (by omega), far _ _ _ _ (by omega), far _ _ _ _ (by omega), near _ _ _ (by rw [far _ _ _ _ (by omega), far _ _ _ _ (by omega), far _ _ _ _ (by omega)]; exact s 3 (by omega))]
    · show World.cell? _ ⟨g, i * 7 + 4, none⟩ = _
      rw [far _ _ _ _ (by omega), far _ _ _ _ (by omega), near _ _ _ (by rw [far _ _ _ _ (by omega), far _ _ _ _ (by omega), far _ _ _ _ (by omega), far _ _ _ _ (by omega)]; exact s 4 (by omega))]
    · show World.cell? _ ⟨g, i * 7 + 5, none⟩ = _
      rw [far _ _ _ _ (by omega), near _ _ _ (by rw [far _ _ _ _ (by omega), far _ _ _ _ (by omega), far _ _ _ _ (by omega), far _ _ _ _ (by omega), far _ _ _ _ (by omega)]; exact s 5 (by omega))]
    · show World.cell? _ ⟨g, i * 7 + 6, none⟩ = _
      rw [near _ _ _ (by rw [far _ _ _ _ (by omega), far _ _ _ _ (by omega), far _ _ _ _ (by omega), far _ _ _ _ (by omega), far _ _ _ _ (by omega), far _ _ _ _ (by omega)]; exact s 6 (by omega))]
  · rw [List.getElem_set_ne (fun e => hik e.symm)]
    obtain ⟨a, e, d0, d1, d2, d3, d4, d5, d6⟩ := h i hi
    cases e
    rw [addr_at] at d0 d1 d2 d3 d4 d5 d6
    have thr : ∀ t, t < 7 → (((((((W.setCell ⟨g, k * 7, none⟩ (.string ⟨c.name.toArray⟩)).setCell ⟨g, k * 7 + 1, none⟩ (.int .i64 c.op)).setCell ⟨g, k * 7 + 2, none⟩ (.int .i64 c.val.kind)).setCell ⟨g, k * 7 + 3, none⟩ (.int .i64 c.val.int)).setCell ⟨g, k * 7 + 4, none⟩ (.float .f64 c.val.num)).setCell ⟨g, k * 7 + 5, none⟩ (.string ⟨c.val.text.toArray⟩)).setCell ⟨g, k * 7 + 6, none⟩ (.bool c.val.yes)).cell? ⟨g, i * 7 + t, none⟩ = W.cell? ⟨g, i * 7 + t, none⟩ := fun t ht => by
      rw [far _ _ _ _ (by omega), far _ _ _ _ (by omega), far _ _ _ _ (by omega), far _ _ _ _ (by omega), far _ _ _ _ (by omega), far _ _ _ _ (by omega), far _ _ _ _ (by omega)]
    exact ⟨(thr 0 (by omega)).trans d0, (thr 1 (by omega)).trans d1, (thr 2 (by omega)).trans d2, (thr 3 (by omega)).trans d3, (thr 4 (by omega)).trans d4, (thr 5 (by omega)).trans d5, (thr 6 (by omega)).trans d6⟩
theorem nk_set7 (g p : Nat) (W : World) (v0 v1 v2 v3 v4 v5 v6 : Value) : NK g W (((((((W.setCell ⟨g, p, none⟩ v0).setCell ⟨g, p + 1, none⟩ v1).setCell ⟨g, p + 2, none⟩ v2).setCell ⟨g, p + 3, none⟩ v3).setCell ⟨g, p + 4, none⟩ v4).setCell ⟨g, p + 5, none⟩ v5).setCell ⟨g, p + 6, none⟩ v6) :=
  (nk_set _ _ _ _).trans ((nk_set _ _ _ _).trans ((nk_set _ _ _ _).trans ((nk_set _ _ _ _).trans ((nk_set _ _ _ _).trans ((nk_set _ _ _ _).trans (nk_set _ _ _ _))))))
/-- the pieces that ParseBack builds with blanks around -/
abbrev blanksP (bl : List UInt8) (N : List C) : List (List UInt8) := N.map fun c => bl ++ (cT c ++ bl)
def blanksR (bl : List UInt8) (N : List C) (k : Nat) : List UInt8 := if k = 0 then bl else joinA ((blanksP bl N).take k)
theorem join_snoc : ∀ (ps : List (List UInt8)) (p : List UInt8), ps ≠ [] → joinA (ps ++ [p]) = joinA ps ++ 38 :: p
  | [], _, h => absurd rfl h
  | [q], p, _ => rfl
  | q :: r :: s, p, _ => by
    have ih := join_snoc (r :: s) p (List.cons_ne_nil _ _)
    rw [List.cons_append, List.cons_append, joinA, ← List.cons_append, ih, joinA]
    simp
theorem blanksR_step (bl : List UInt8) (N : List C) (k : Nat) (hk : k < N.length) : blanksR bl N (k + 1) = if k = 0 then bl ++ (cT N[k] ++ bl) else blanksR bl N k ++ 38 :: (bl ++ (cT N[k] ++ bl)) := by
  have hlen : k < (blanksP bl N).length := by rw [List.length_map]; exact hk
  have hst := List.take_succ_eq_append_getElem hlen
  have he : (blanksP bl N)[k]'hlen = bl ++ (cT N[k] ++ bl) := List.getElem_map ..
  unfold blanksR
  rw [if_neg (by omega), hst, he]
  by_cases h0 : k = 0
  · subst h0
    rw [if_pos rfl]
    rfl
  · have hne : (blanksP bl N).take k ≠ [] := fun e => by
      have h1 : ((blanksP bl N).take k).length = 0 := by rw [e]; rfl
      rw [List.length_take] at h1
      omega
    rw [if_neg h0, if_neg h0, join_snoc _ _ hne]
theorem blanks_back (sf : List UInt8) (N : List C) (bl : List UInt8) (w : World) (hw : Words w) (hT : Tab.Tabs w) (hE : Unq.ErrS w) (hP : Pf.PfW w) (hck : ∀ c ∈ N, CK c) (hr : fRight sf N = true) (h1000 : sf.length ≤ 1000) (hbl : ∀ x ∈ bl, x = 32) (hb3 : bl.length ≤ 3) :
    Calls Tryz.prog 18 #[.string ⟨((bl ++ (sf ++ bl)) ++ 58 :: blanksR bl N N.length).toArray⟩] w fun e w' => (∃ b0 cp, e = .returned (.tuple #[ev sf b0 N.length cp, .int .i64 0]) ∧ Conds w' b0 N) ∧ Below w.heap.size w w' := by
  have hs := right_scope hr
  have h6 : N.length ≤ 6 := by
    unfold fRight at hr
    simp only [Bool.and_eq_true, decide_eq_true_eq] at hr
    exact hr.2.2
  have hpl : ∀ p ∈ blanksP bl N, p.length ≤ 4000 := fun p hp => by
    obtain ⟨c, hc, rfl⟩ := List.mem_map.1 hp
    have := (hck c hc).len
    simp only [List.length_append]
    omega
  have hjl := join_len (blanksP bl N) 4000 hpl
  rw [List.length_map] at hjl
  have hrl : (blanksR bl N N.length).length ≤ 90000 := by
    unfold blanksR
    split
    · omega
    · rw [List.take_of_length_le (by rw [List.length_map]; exact Nat.le_refl _)]
      omega
  have n58 : 58 ∉ bl ++ (sf ++ bl) := fun h => by
    rcases List.mem_append.1 h with h | h
    · exact absurd (hbl 58 h) (by decide)
    · rcases List.mem_append.1 h with h | h
      · exact scope_no58 hs 58 h rfl
      · exact absurd (hbl 58 h) (by decide)
  refine filter_back (bl ++ (sf ++ bl)) sf _ (blanksP bl N) N w hw hT hE hP (List.length_map ..) (fun i h => ?_) hck (scope_trim hs hbl hbl) n58 ?_ hpl (by simp only [List.length_append]; omega) hrl hr
  · rw [List.getElem_map]
    exact ⟨bl, bl, rfl, hbl, hbl⟩
  · by_cases h0 : N = []
    · left
      subst h0
      refine ⟨rfl, ?_⟩
      show trimP bl = []
      have := trimP_of (a := bl) (m := []) (b := []) hbl (by simp) (by simp) (by simp)
      simpa using this
    · refine .inr ⟨h0, ?_⟩
      unfold blanksR
      rw [if_neg (by have := List.length_pos_iff.2 h0; omega), List.take_of_length_le (by rw [List.length_map]; exact Nat.le_refl _)]
theorem list_step (l : List C) (k : Nat) (hk : k < l.length) : ((l.take k).map canonC ++ l.drop k).length = l.length ∧ (∀ h, ((l.take k).map canonC ++ l.drop k)[k]'h = l[k]) ∧ ((l.take k).map canonC ++ l.drop k).set k (canonC l[k]) = (l.take (k + 1)).map canonC ++ l.drop (k + 1) := by
  have hlt : ((l.take k).map canonC).length = k := by rw [List.length_map, List.length_take]; omega
  refine ⟨?_, fun h => ?_, ?_⟩
  · rw [List.length_append, hlt, List.length_drop]; omega
  · rw [List.getElem_append_right (by omega)]
    simp only [List.getElem_drop, hlt, Nat.sub_self, Nat.add_zero]
  · rw [List.drop_eq_getElem_cons hk, List.take_succ_eq_append_getElem hk, List.map_append, List.append_assoc, List.set_append_right _ _ (by omega), hlt, Nat.sub_self]
    rfl
theorem RowC.below {W W2 : World} {b0 : Option Addr} {base : Nat} {N : List C} (h : RowC W b0 base N) (hb : Below W.heap.size W W2) : RowC W2 b0 base N := by
  rcases h with h | ⟨g, e, h1, h2, h3, h4⟩
  · exact .inl h
  · exact .inr ⟨g, e, h1, Nat.lt_of_lt_of_le h2 hb.size, h3.below hb, fun o => (hb.frozen (p := ⟨g, o, none⟩) h2).trans (h4 o)⟩
theorem RowC.conds {W : World} {b0 : Option Addr} {base : Nat} {N : List C} (h : RowC W b0 base N) : Conds W b0 N := by
  rcases h with ⟨rfl, rfl⟩ | ⟨g, rfl, _, _, h3, _⟩
  · exact fun i hi => absurd hi (by simp)
  · exact h3
theorem and_smallB (a : Int) (k m : Nat) (hm : m = 2 ^ k - 1) (hk : k < 60) : ∃ A : Nat, A < 2 ^ k ∧ bits .and .i64 a (m : Int) = (A : Int) := by
  have h60 : 2 ^ k ≤ 2 ^ 60 := Nat.pow_le_pow_right (by decide) (by omega)
  have hp : 0 < 2 ^ k := Nat.two_pow_pos k
  refine ⟨(BitVec.ofInt 64 a).toNat &&& m, ?_, ?_⟩
  · rw [hm]; exact Nat.lt_of_le_of_lt Nat.and_le_right (by omega)
  · have hle : (BitVec.ofInt 64 a).toNat &&& m ≤ m := Nat.and_le_right
    have e : (BitVec.ofInt 64 (m : Int)).toNat = m := by
      rw [BitVec.ofInt_natCast, BitVec.toNat_ofNat]; exact Nat.mod_eq_of_lt (by omega)
    show IntKind.i64.wrap ((BitVec.ofInt 64 a &&& BitVec.ofInt 64 (m : Int)).toNat : Int) = _
    rw [BitVec.toNat_and, e]
    generalize (BitVec.ofInt 64 a).toNat &&& m = z at *
    simp only [IntKind.wrap, IntKind.bits, IntKind.signed]; simp; omega
theorem conds_at {W : World} {g : Nat} {N : List C} (h : Conds W (some ⟨g, 0, none⟩) N) (k : Nat) (hk : k < N.length) (c : C) (hc : N[k] = c) :
    W.cell? ⟨g, k * 7, none⟩ = some (.string ⟨c.name.toArray⟩) ∧ W.cell? ⟨g, k * 7 + 1, none⟩ = some (.int .i64 c.op) ∧ W.cell? ⟨g, k * 7 + 2, none⟩ = some (.int .i64 c.val.kind) ∧ W.cell? ⟨g, k * 7 + 3, none⟩ = some (.int .i64 c.val.int) ∧ W.cell? ⟨g, k * 7 + 4, none⟩ = some (.float .f64 c.val.num) ∧ W.cell? ⟨g, k * 7 + 5, none⟩ = some (.string ⟨c.val.text.toArray⟩) ∧ W.cell? ⟨g, k * 7 + 6, none⟩ = some (.bool c.val.yes) := by
  obtain ⟨a, e, d0, d1, d2, d3, d4, d5, d6⟩ := h k hk
  cases e
  rw [addr_at] at d0 d1 d2 d3 d4 d5 d6
  rw [hc] at d0 d1 d2 d3 d4 d5 d6
  exact ⟨d0, d1, d2, d3, d4, d5, d6⟩
abbrev BS (W : World) (q p g n cp : Nat) (c : C) : Prop := W.cell? ⟨q, 1, none⟩ = some (.slice (some ⟨g, 0, none⟩) n cp) ∧ W.cell? ⟨p, 0, none⟩ = some (.string ⟨c.name.toArray⟩) ∧ W.cell? ⟨p, 1, none⟩ = some (.int .i64 c.op) ∧ W.cell? ⟨p, 2, none⟩ = some (.int .i64 c.val.kind) ∧ W.cell? ⟨p, 3, none⟩ = some (.int .i64 c.val.int) ∧ W.cell? ⟨p, 4, none⟩ = some (.float .f64 c.val.num) ∧ W.cell? ⟨p, 5, none⟩ = some (.string ⟨c.val.text.toArray⟩) ∧ W.cell? ⟨p, 6, none⟩ = some (.bool c.val.yes) ∧ g < W.heap.size ∧ (∀ o, W.frozen? ⟨g, o, none⟩ = false)
theorem bs_below {W W2 : World} {q p g n cp : Nat} {c : C} (hb : Below W.heap.size W W2) (h : BS W q p g n cp c) : BS W2 q p g n cp c := by
  obtain ⟨h1, x0, x1, x2, x3, x4, x5, x6, hg, hf⟩ := h
  have z1 := World.block_lt_of_cell? _ _ h1
  have z := World.block_lt_of_cell? _ _ x0
  have e : ∀ o, W2.cell? ⟨p, o, none⟩ = W.cell? ⟨p, o, none⟩ := fun o => hb.cell (p := ⟨p, o, none⟩) z
  exact ⟨(hb.cell (p := ⟨q, 1, none⟩) z1).trans h1, (e 0).trans x0, (e 1).trans x1, (e 2).trans x2, (e 3).trans x3, (e 4).trans x4, (e 5).trans x5, (e 6).trans x6, Nat.lt_of_lt_of_le hg hb.size, fun o => (hb.frozen (p := ⟨g, o, none⟩) hg).trans (hf o)⟩
theorem bs_set {W : World} {q p g n cp o : Nat} {c : C} {v0 v1 v2 v3 v4 v5 v6 : Value} (hq : q ≠ g) (hp : p ≠ g) (h : BS W q p g n cp c) : BS (((((((W.setCell ⟨g, o, none⟩ v0).setCell ⟨g, o + 1, none⟩ v1).setCell ⟨g, o + 2, none⟩ v2).setCell ⟨g, o + 3, none⟩ v3).setCell ⟨g, o + 4, none⟩ v4).setCell ⟨g, o + 5, none⟩ v5).setCell ⟨g, o + 6, none⟩ v6) q p g n cp c := by
  have hn := nk_set7 g o W v0 v1 v2 v3 v4 v5 v6
  obtain ⟨h1, x0, x1, x2, x3, x4, x5, x6, hg, hf⟩ := h
  have z1 := World.block_lt_of_cell? _ _ h1
  have z := World.block_lt_of_cell? _ _ x0
  have e : ∀ i, (((((((W.setCell ⟨g, o, none⟩ v0).setCell ⟨g, o + 1, none⟩ v1).setCell ⟨g, o + 2, none⟩ v2).setCell ⟨g, o + 3, none⟩ v3).setCell ⟨g, o + 4, none⟩ v4).setCell ⟨g, o + 5, none⟩ v5).setCell ⟨g, o + 6, none⟩ v6).cell? ⟨p, i, none⟩ = W.cell? ⟨p, i, none⟩ := fun i => hn.cell (p := ⟨p, i, none⟩) z hp
  refine ⟨(hn.cell (p := ⟨q, 1, none⟩) z1 hq).trans h1, (e 0).trans x0, (e 1).trans x1, (e 2).trans x2, (e 3).trans x3, (e 4).trans x4, (e 5).trans x5, (e 6).trans x6, Nat.lt_of_lt_of_le hg hn.size, fun i => ?_⟩
  simp only [World.frozen?_setCell]
  exact hf i
theorem box2_nk {W W2 : World} {q g n cp : Nat} {s : List UInt8} {b : Option Addr} (hn : NK g W W2) (hq : q ≠ g) (h : Box2 W q s b n cp) : Box2 W2 q s b n cp := ⟨(hn.cell (p := ⟨q, 0, none⟩) h.lt hq).trans h.1, (hn.cell (p := ⟨q, 1, none⟩) h.lt hq).trans h.2⟩
/-- one round of the loop that writes the canonic conditions -/
theorem row_step {w w5 : World} {q g base n cp : Nat} {sf : List UInt8} {l : List C} {k : Nat} (c : C) (hk : k < l.length) (hc : l[k] = c) (hB : Below w.heap.size w w5) (hx : Box2 w5 q sf (some ⟨g, 0, none⟩) n cp) (hC : Conds w5 (some ⟨g, 0, none⟩) ((l.take k).map canonC ++ l.drop k)) (hfz : ∀ o, w5.frozen? ⟨g, o, none⟩ = false) (h1 : base ≤ g) (h2 : g < w5.heap.size) (hne : q ≠ g) (hge : w.heap.size ≤ g) :
    Box2 (((((((w5.setCell ⟨g, k * 7, none⟩ (.string ⟨(canonC c).name.toArray⟩)).setCell ⟨g, k * 7 + 1, none⟩ (.int .i64 (canonC c).op)).setCell ⟨g, k * 7 + 2, none⟩ (.int .i64 (canonC c).val.kind)).setCell ⟨g, k * 7 + 3, none⟩ (.int .i64 (canonC c).val.int)).setCell ⟨g, k * 7 + 4, none⟩ (.float .f64 (canonC c).val.num)).setCell ⟨g, k * 7 + 5, none⟩ (.string ⟨(canonC c).val.text.toArray⟩)).setCell ⟨g, k * 7 + 6, none⟩ (.bool (canonC c).val.yes)) q sf (some ⟨g, 0, none⟩) n cp ∧
    RowC (((((((w5.setCell ⟨g, k * 7, none⟩ (.string ⟨(canonC c).name.toArray⟩)).setCell ⟨g, k * 7 + 1, none⟩ (.int .i64 (canonC c).op)).setCell ⟨g, k * 7 + 2, none⟩ (.int .i64 (canonC c).val.kind)).setCell ⟨g, k * 7 + 3, none⟩ (.int .i64 (canonC c).val.int)).setCell ⟨g, k * 7 + 4, none⟩ (.float .f64 (canonC c).val.num)).setCell ⟨g, k * 7 + 5, none⟩ (.string ⟨(canonC c).val.text.toArray⟩)).setCell ⟨g, k * 7 + 6, none⟩ (.bool (canonC c).val.yes)) (some ⟨g, 0, none⟩) base ((l.take (k + 1)).map canonC ++ l.drop (k + 1)) ∧
    Below w.heap.size w (((((((w5.setCell ⟨g, k * 7, none⟩ (.string ⟨(canonC c).name.toArray⟩)).setCell ⟨g, k * 7 + 1, none⟩ (.int .i64 (canonC c).op)).setCell ⟨g, k * 7 + 2, none⟩ (.int .i64 (canonC c).val.kind)).setCell ⟨g, k * 7 + 3, none⟩ (.int .i64 (canonC c).val.int)).setCell ⟨g, k * 7 + 4, none⟩ (.float .f64 (canonC c).val.num)).setCell ⟨g, k * 7 + 5, none⟩ (.string ⟨(canonC c).val.text.toArray⟩)).setCell ⟨g, k * 7 + 6, none⟩ (.bool (canonC c).val.yes)) := by
  obtain ⟨hL1, _, hL3⟩ := list_step l k hk
  have hnk := nk_set7 g (k * 7) w5 (.string ⟨(canonC c).name.toArray⟩) (.int .i64 (canonC c).op) (.int .i64 (canonC c).val.kind) (.int .i64 (canonC c).val.int) (.float .f64 (canonC c).val.num) (.string ⟨(canonC c).val.text.toArray⟩) (.bool (canonC c).val.yes)
  have hcs := conds_set hC k (by rw [hL1]; exact hk) (canonC c)
  rw [← hc] at hcs ⊢
  rw [hL3] at hcs
  rw [← hc] at hnk
  refine ⟨box2_nk hnk hne hx, .inr ⟨g, rfl, h1, Nat.lt_of_lt_of_le h2 hnk.size, hcs, fun o => ?_⟩, hB.trans (hnk.low hge hB.size)⟩
  simp only [World.frozen?_setCell]
  exact hfz o
theorem blanksR_len (bl : List UInt8) (N : List C) (hN : N.length ≤ 6) (hc : ∀ c ∈ N, (cT c).length ≤ 3000) (hb : bl.length ≤ 3) (k : Nat) : (blanksR bl N k).length ≤ 90000 := by
  unfold blanksR
  split
  · omega
  · have hpl : ∀ p ∈ (blanksP bl N).take k, p.length ≤ 4000 := fun p hp => by
      obtain ⟨c, hc2, rfl⟩ := List.mem_map.1 (List.mem_of_mem_take hp)
      have := hc c hc2
      simp only [List.length_append]
      omega
    have hj := join_len _ 4000 hpl
    have hl : ((blanksP bl N).take k).length ≤ 6 := by
      rw [List.length_take, List.length_map]
      omega
    generalize ((blanksP bl N).take k).length = z at *
    have : z * 4000 ≤ 24000 := by omega
    omega
theorem blank_row (A : Nat) (h : A < 4) : ∃ bl : List UInt8, (⟨#[32, 32, 32]⟩ : ByteArray).extract 0 A = ⟨bl.toArray⟩ ∧ (∀ x ∈ bl, x = 32) ∧ bl.length ≤ 3 := by
  have hA : A = 0 ∨ A = 1 ∨ A = 2 ∨ A = 3 := by omega
  rcases hA with rfl | rfl | rfl | rfl
  · exact ⟨[], by decide, by decide, by decide⟩
  · exact ⟨[32], by decide, by decide, by decide⟩
  · exact ⟨[32, 32], by decide, by decide, by decide⟩
  · exact ⟨[32, 32, 32], by decide, by decide, by decide⟩
end Go.Proofs.YtnccpddjdgndcaaGreatDoor.Pa
end

section
/- THE WALK OF gazettelaw08.ParseBack. -/
namespace Go.Proofs.YtnccpddjdgndcaaGreatDoor.Pa
open Go.RowKit Flt Go.Proofs.YtnccpddjdgndcaaGreatDoor.Val
attribute [local go_sem] run_store_flt
set_option maxRecDepth 20000 in
set_option maxHeartbeats 4000000 in
theorem pback_any (sf : List UInt8) (a0 : Option Addr) (cap : Nat) (l : List C) (n : Int) (w : World) (hw : Words w) (hT : Tab.Tabs w) (hE : Unq.ErrS w) (hP : Pf.PfW w) (hz : sf.length ≤ 140737488351232) (hq : l.length ≤ cap) (hm : cap ≤ maxLen) (hcs : Conds w a0 l) (hok : ∀ x ∈ l, Open.COk x) (hnil : a0 = none → l = [] ∧ cap = 0) :
    Calls Tryz.prog 7 #[ev sf a0 l.length cap, .int .i64 n] w fun e w' => e = .returned (.bool true) ∧ Below w.heap.size w w' := by
  have hfit := fun W (hb : Below w.heap.size w W) => fit08_any W (hw.below hb) (hT.below hb (Nat.le_refl _))
  have hli (W : World) (hb : Below w.heap.size w W) := light07_any sf a0 cap l W (hcs.below hb) (Nat.le_trans hq hm)
  have hri (W : World) (hb : Below w.heap.size w W) (h : l.length ≤ 1000000) := fright_any sf a0 cap l W (hcs.below hb) h hz (fun c hc => ⟨(hok c hc).1, (hok c hc).2.2.2.2.2⟩)
  have hsm := fun h : fRight sf l = true => fright_small h hok (fun c hc => (hok c hc).2.2.2.2.1)
  have hNl : (l.map canonC).length = l.length := List.length_map ..
  have hck : fRight sf l = true → ∀ c ∈ l.map canonC, CK c := fun h c hc => by
    obtain ⟨d, hd, rfl⟩ := List.mem_map.1 hc
    obtain ⟨_, _, h3, h4⟩ := hsm h
    exact ⟨right_canon (h3 d hd).1, canonC_again (KOk.of_right (h3 d hd).1), (canon_small (h4 d hd)).1⟩
  have hrN : fRight sf l = true → fRight sf (l.map canonC) = true := fun h => by
    unfold fRight at h ⊢
    simp only [Bool.and_eq_true, List.all_eq_true, List.length_map] at h ⊢
    refine ⟨fun c hc => ?_, h.2⟩
    obtain ⟨d, hd, rfl⟩ := List.mem_map.1 hc
    exact right_canon (h.1 d hd)
  have hpr := fun (h : fRight sf l = true) b0 cp W (hc : Conds W b0 (l.map canonC)) (hb : Below w.heap.size w W) => fprint_any sf b0 cp (l.map canonC) cT W (hw.below hb) hc (by have := (hsm h).2.1; omega) (by have := (hsm h).1; omega) (fun c hc2 => by have := (hck h c hc2).len; omega) (fun c hc2 W2 hw2 hb2 => by
      obtain ⟨q1, q2, q3, q4, q5⟩ := (hck h c hc2).small
      exact cprint_any c.name c.op c.val.kind c.val.int c.val.num c.val.text c.val.yes W2 hw2 (hT.below (hb.trans (hb2.mono hb.size)) (Nat.le_refl _)) (by omega) (by omega) q3 q4 q5)
  have hkt : fprK sf (l.map canonC) cT (l.map canonC).length = sf ++ 58 :: bodyT (l.map canonC) := by rw [fprK_body sf _ _ (Nat.le_refl _), List.take_length]
  rw [hkt] at hpr
  have hbk := fun (h : fRight sf l = true) W (hb : Below w.heap.size w W) => print_back sf (l.map canonC) W (hw.below hb) (hT.below hb (Nat.le_refl _)) (Unq.err_below hE hb) (hP.below hb (Nat.le_refl _)) (hck h) (hrN h) (hsm h).1
  have hcp := fun (h : fRight sf l = true) c (hc2 : c ∈ l.map canonC) W (hb : Below w.heap.size w W) => by
    obtain ⟨q1, q2, q3, q4, q5⟩ := (hck h c hc2).small
    exact cprint_any c.name c.op c.val.kind c.val.int c.val.num c.val.text c.val.yes W (hw.below hb) (hT.below hb (Nat.le_refl _)) (by omega) (by omega) q3 q4 q5
  have hbl := fun (h : fRight sf l = true) (bl : List UInt8) (hbl : ∀ x ∈ bl, x = 32) (hb3 : bl.length ≤ 3) W (hb : Below w.heap.size w W) => blanks_back sf (l.map canonC) bl W (hw.below hb) (hT.below hb (Nat.le_refl _)) (Unq.err_below hE hb) (hP.below hb (Nat.le_refl _)) (hck h) (hrN h) (hsm h).1 hbl hb3
  have hsa := fun (h : fRight sf l = true) b0 b1 c0 c1 W (h1 : Conds W b0 (l.map canonC)) (h2 : Conds W b1 (l.map canonC)) => same_yes sf b0 b1 c0 c1 (l.map canonC) W h1 h2 (by have := (hsm h).2.1; omega) (fun c hc => (hck h c hc).num)
  have hlen : fRight sf l = true → ∀ c ∈ l.map canonC, (cT c).length ≤ 3000 := fun h c hc => (hck h c hc).len
  have hs1 : fRight sf l = true → sf.length ≤ 1000 ∧ l.length ≤ 6 := fun h => ⟨(hsm h).1, (hsm h).2.1⟩
  have hca : ∀ c ∈ l, ∀ W, Calls Tryz.prog 24 #[cc c] W fun e w' => e = .returned (cc (canonC c)) ∧ Below W.heap.size W w' := fun c _ W => ccanon_any c.name c.op c.val.kind c.val.int c.val.num c.val.text c.val.yes W
  rw [hNl] at hpr hbk hbl hsa
  have HFIT := Lib.hid hfit; have HLI := Lib.hid hli; have HRI := Lib.hid hri; have HPR := Lib.hid hpr; have HBK := Lib.hid hbk; have HCP := Lib.hid hcp; have HBL := Lib.hid hbl; have HSA := Lib.hid hsa; have HLEN := Lib.hid hlen; have HS1 := Lib.hid hs1; have HCS := Lib.hid hcs; have HNIL := Lib.hid hnil; have HCA := Lib.hid hca
  clear hfit hli hri hsm hpr hbk hcp hbl hsa hlen hs1 hcs hnil hca hck hrN hkt hNl hw hT hE hP hok hz
  generalize hFR : fRight sf l = FR at *
  clear hFR
  obtain ⟨j0, hj, hj0, hj1, hj2⟩ := info_parts Val.info_cond
  unfold maxLen at hm
  go_enter Tryz.func7, Tryz.ntmps7
  go_upto_region 3 with (first | (go_at_call 17; (refine (HFIT.out _ (balloc _ _)).mono ?_); rintro e w1 ⟨rfl, hb1⟩) | fail)
  have HBX := Lib.hid ((box2_new w sf a0 l.length cap 35).below hb1)
  have HFZ := Lib.hid (show w1.frozen? ⟨w.heap.size, 1, none⟩ = false from (hb1.frozen (p := ⟨w.heap.size, 1, none⟩) (by simp)).trans (by simp))
  have HB1 := Lib.hid (btrans (balloc w (.cells #[.string ⟨sf.toArray⟩, .slice a0 l.length cap] 35)) hb1)
  clear hb1
  obtain ⟨f0, f1⟩ := HBX.out
  go_wp2_with fail
  refine (HLI.out _ HB1.out).mono ?_; rintro e w2 ⟨⟨fb, rfl, hfl⟩, hbn⟩; (replace HFZ := Lib.hid ((hbn.frozen (p := ⟨w.heap.size, 1, none⟩) HBX.out.lt).trans HFZ.out); replace HBX := Lib.hid (HBX.out.below hbn); replace HB1 := Lib.hid (btrans HB1.out hbn); clear hbn f0 f1; obtain ⟨f0, f1⟩ := HBX.out)
  cases fb
  · go_wp2_with fail
    go_ret
    exact ⟨rfl, HB1.out⟩
  have hl20 := hfl rfl
  clear hfl
  go_wp2_with fail
  refine (HRI.out _ HB1.out (by omega)).mono ?_; rintro e w3 ⟨rfl, hbn⟩; (replace HFZ := Lib.hid ((hbn.frozen (p := ⟨w.heap.size, 1, none⟩) HBX.out.lt).trans HFZ.out); replace HBX := Lib.hid (HBX.out.below hbn); replace HB1 := Lib.hid (btrans HB1.out hbn); clear hbn f0 f1; obtain ⟨f0, f1⟩ := HBX.out)
  cases FR
  · go_wp2_with fail
    go_ret
    exact ⟨rfl, HB1.out⟩
  obtain ⟨hsf, hl6⟩ := HS1.out rfl
  have hpf := HBX.out.lt
  have hfz := HFZ.out
  go_upto_region 5 with fail
  go_cut [] from 26 to 29 (fun wx => ∃ b0 cp, Hid (Box2 wx w.heap.size sf b0 l.length cp) ∧ Hid (RowC wx b0 w3.heap.size l) ∧ Hid (Below w.heap.size w wx))
  case first => as_aux_lemma =>
    cases a0 with
    | none =>
      obtain ⟨rfl, rfl⟩ := HNIL.out rfl
      go_wp2_with (first | (at_builtin; refine wpList_append_own_none rfl _ _ 33 rfl w3.heap.size 41 j0 7 Tryz.underlying33 hj (.slice none 0 0) 0 [] rfl (World.ownsRow_nil _ _ _ _) rfl ?_) | fail)
      go_meet
      exact ⟨none, 0, Lib.hid ⟨(World.cell?_setCell_other _ _ _ _ (by simp)).trans f0, World.cell?_setCell_same _ _ _ f1⟩, Lib.hid (.inl ⟨rfl, rfl⟩), Lib.hid (HB1.out.setCell (Nat.le_refl _) _)⟩
    | some ad =>
      have hall : ∀ j u, (Val.flatC l)[j]? = some u → w3.cell? (ad.add j) = some u := by
        have := Val.conds_take (HCS.out.below HB1.out) l.length
        rwa [List.take_length] at this
      have HALL := Lib.hid hall
      clear hall
      go_wp2_with (first | (at_builtin; refine wpList_append_own _ rfl _ _ 33 rfl w3.heap.size 41 j0 (.agg #[.string .empty, .int .i64 0, .int .i64 0, .int .i64 0, .float .f64 0, .string .empty, .bool false]) 7 72 Tryz.underlying33 hj hj0 hj1 hj2 rfl (by decide) (.slice none 0 0) 0 [] rfl (World.ownsRow_nil _ _ _ _) ad l.length cap (Val.flatC l) rfl (Val.flatC_len l) HALL.out (Val.flatC_one l) (by unfold maxLen; omega) (by omega) (Nat.le_refl _) ?_; intro v5 w5 hown5 hgrow5 hnil5; clear hnil5; have hb5 : Below w3.heap.size w3 w5 := Below.grown (Below.refl _ _) hgrow5 (Nat.le_refl _) (fun q hq => by cases hq); have g0 := (hb5.cell (p := ⟨w.heap.size, 0, none⟩) hpf).trans f0; have g1 := (hb5.cell (p := ⟨w.heap.size, 1, none⟩) hpf).trans f1; have gz := (hb5.frozen (p := ⟨w.heap.size, 1, none⟩) hpf).trans hfz; obtain ⟨b5, cp5, hv5, hrow5⟩ := row_own (show w5.ownsRow w3.heap.size 41 7 v5 l.length (Val.flatC l) from by simpa using hown5); subst hv5; clear hown5) | fail)
      go_meet
      refine ⟨b5, cp5, Lib.hid ⟨(World.cell?_setCell_other _ _ _ _ (by simp)).trans g0, World.cell?_setCell_same _ _ _ g1⟩, Lib.hid ?_, Lib.hid ((btrans HB1.out hb5).setCell (Nat.le_refl _) _)⟩
      rcases hrow5 with ⟨h1, h2⟩ | ⟨g, h1, h2, h3, h4, h5⟩
      · exact .inl ⟨h1, h2⟩
      · have hne : g ≠ w.heap.size := by omega
        have hnk := nk_set w.heap.size 1 w5 (.slice b5 l.length cp5)
        refine .inr ⟨g, h1, h2, by simpa using h3, fun i hi => ?_, fun o => by rw [World.frozen?_setCell]; exact h5 o⟩
        obtain ⟨a, e, d0, d1, d2, d3, d4, d5, d6⟩ := h4 i hi
        cases e
        have eo : ∀ o, (w5.setCell ⟨w.heap.size, 1, none⟩ (.slice b5 l.length cp5)).cell? ⟨g, o, none⟩ = w5.cell? ⟨g, o, none⟩ := fun o => hnk.cell (p := ⟨g, o, none⟩) h3 hne
        refine ⟨⟨g, 0, none⟩, rfl, ?_⟩
        rw [addr_at] at d0 d1 d2 d3 d4 d5 d6 ⊢
        exact ⟨(eo _).trans d0, (eo _).trans d1, (eo _).trans d2, (eo _).trans d3, (eo _).trans d4, (eo _).trans d5, (eo _).trans d6⟩
  case rest => as_aux_lemma =>
    obtain ⟨b0, cp, HX, HR, HB⟩ := hcut
    clear f0 f1 hfz HBX HFZ HB1 HFIT HLI HRI HNIL HCS
    obtain ⟨f0, f1⟩ := HX.out
    go_wp2_with fail
    go_loopw [33] (fun vi wr => ∃ k : Nat, k ≤ l.length ∧ vi = .int .i64 k ∧ Hid (Box2 wr w.heap.size sf b0 l.length cp) ∧ Hid (RowC wr b0 w3.heap.size ((l.take k).map canonC ++ l.drop k)) ∧ Hid (Below w.heap.size w wr)) (fun vi _ => l.length - (intOf vi).toNat)
    case atStart => exact ⟨0, Nat.zero_le _, rfl, HX, HR, HB⟩
    case round =>
      obtain ⟨k, hk, rfl, HXr, HRr, HBr⟩ := hrel
      clear f0 f1
      obtain ⟨f0, f1⟩ := HXr.out
      by_cases hlt : k < l.length
      · have i1 : (k : Int) < (l.length : Int) := by omega
        have i0 : (0 : Int) ≤ (k : Int) := by omega
        obtain ⟨hL1, hL2, _⟩ := list_step l k hlt
        rcases HRr.out with ⟨_, hnil⟩ | ⟨g, rfl, hg1, hg2, hC, hfz⟩
        · rw [hnil] at hL1
          simp only [List.length_nil] at hL1
          omega
        have hkl : k < ((l.take k).map canonC ++ l.drop k).length := by rw [hL1]; exact hlt
        have hat := conds_at hC k hkl l[k] (hL2 _)
        have hca := HCA.out l[k] (List.getElem_mem hlt)
        obtain ⟨c, hc⟩ : ∃ c, l[k] = c := ⟨_, rfl⟩
        rw [hc] at hat hca
        have HEL := Lib.hid (show ∃ h : k < ((l.take k).map canonC ++ l.drop k).length, ((l.take k).map canonC ++ l.drop k)[k]'h = c from ⟨hkl, (hL2 hkl).trans hc⟩)
        have HCC := Lib.hid hC; have HFF := Lib.hid hfz; have HLC := Lib.hid hc; have HCN := Lib.hid hca
        clear hC hfz hc hca hL1 hL2 hkl HRr
        obtain ⟨v0, v1, v2, v3, v4, v5, v6⟩ := hat
        go_upto_region 9 with fail
        have hb1 := balloc wr (.cells #[.string ⟨c.name.toArray⟩, .int .i64 c.op, .int .i64 c.val.kind, .int .i64 c.val.int, .float .f64 c.val.num, .string ⟨c.val.text.toArray⟩, .bool c.val.yes] 41)
        have hx := box7_new wr c
        have HB1 := Lib.hid (btrans HBr.out hb1)
        have HX1 := Lib.hid (HXr.out.below hb1)
        have HC1 := Lib.hid (HCC.out.below hb1)
        have HF1 := Lib.hid (fun o => (hb1.frozen (p := ⟨g, o, none⟩) hg2).trans (HFF.out o))
        have hg3 : g < (wr.alloc (.cells #[.string ⟨c.name.toArray⟩, .int .i64 c.op, .int .i64 c.val.kind, .int .i64 c.val.int, .float .f64 c.val.num, .string ⟨c.val.text.toArray⟩, .bool c.val.yes] 41)).heap.size := Nat.lt_of_lt_of_le hg2 hb1.size
        have hgp : wr.heap.size ≠ g := by omega
        have hgq : w.heap.size ≠ g := by omega
        have hge : w.heap.size ≤ g := by omega
        clear hb1 v0 v1 v2 v3 v4 v5 v6 f0 f1 hg2
        generalize World.alloc wr _ = W1 at *
        generalize wr.heap.size = p1 at *
        have HBS := Lib.hid (show BS W1 w.heap.size p1 g l.length cp c from ⟨HX1.out.2, hx.1, hx.2.1, hx.2.2.1, hx.2.2.2.1, hx.2.2.2.2.1, hx.2.2.2.2.2.1, hx.2.2.2.2.2.2, hg3, HF1.out⟩)
        clear hx
        refine wp_region_held_drew (S := (fun w' => w'.cell? ⟨w.heap.size, 1, none⟩ = some (.slice (some ⟨g, 0, none⟩) l.length cp) ∧ w'.cell? ⟨p1, 0, none⟩ = some (.string ⟨c.name.toArray⟩) ∧ w'.cell? ⟨p1, 1, none⟩ = some (.int .i64 c.op) ∧ w'.cell? ⟨p1, 2, none⟩ = some (.int .i64 c.val.kind) ∧ w'.cell? ⟨p1, 3, none⟩ = some (.int .i64 c.val.int) ∧ w'.cell? ⟨p1, 4, none⟩ = some (.float .f64 c.val.num) ∧ w'.cell? ⟨p1, 5, none⟩ = some (.string ⟨c.val.text.toArray⟩) ∧ w'.cell? ⟨p1, 6, none⟩ = some (.bool c.val.yes) ∧ g < w'.heap.size ∧ (∀ o, w'.frozen? ⟨g, o, none⟩ = false))) (by kernel_rfl) ?_ (fun hq0 => ?_)
        · ((try dsimp only); (first | (with_reducible exact bs_set hgq hgp (by assumption)) | (with_reducible exact HBS.out) | (with_reducible exact bs_below (bdrewN (Below.refl _ _) 1) HBS.out) | (with_reducible assumption) | (with_reducible exact bs_below (by assumption) (by assumption)) | fail))
        (refine wpAnyH_take (i := 0) (oi := ?_) (v := ?_) ?_ (by kernel_rfl) (by kernel_rfl) (by kernel_rfl) ?_ (Or.inl ⟨?_, ?_⟩) (by assumption) ?_; rotate_left 2; (· (simp only [List.getElem?_toArray, List.getElem?_cons_zero]; first | done | rfl)); (· exact (fun _ _ _ h => h)); (· rfl); (· (intro w hSw; (try dsimp only at hSw); go_simp; (try with_reducible rfl))))
        (try simp only [Act.put, List.setIfInBounds_toArray, List.set_cons_zero, List.set_cons_succ])
        (refine wpAnyH_take (i := 1) (oi := ?_) (v := ?_) ?_ (by kernel_rfl) (by kernel_rfl) (by kernel_rfl) ?_ (Or.inl ⟨?_, ?_⟩) (by assumption) ?_; rotate_left 2; (· (simp only [List.getElem?_toArray, List.getElem?_cons_succ, List.getElem?_cons_zero]; first | done | rfl)); (· exact (fun _ _ _ h => h)); (· rfl); (· (intro w hSw; (try dsimp only at hSw); go_simp; (try with_reducible rfl))))
        (try simp only [Act.put, List.setIfInBounds_toArray, List.set_cons_zero, List.set_cons_succ])
        (refine wpAnyH_take (i := 2) (oi := ?_) (v := ?_) ?_ (by kernel_rfl) (by kernel_rfl) (by kernel_rfl) ?_ (Or.inl ⟨?_, ?_⟩) (by assumption) ?_; rotate_left 2; (· (simp only [List.getElem?_toArray, List.getElem?_cons_succ, List.getElem?_cons_zero]; first | done | rfl)); (· exact (fun _ _ _ h => h)); (· rfl); (· (intro w hSw; (try dsimp only at hSw); go_simp; (try with_reducible rfl))))
        (try simp only [Act.put, List.setIfInBounds_toArray, List.set_cons_zero, List.set_cons_succ])
        (refine wpAnyH_take (i := 3) (oi := ?_) (v := ?_) ?_ (by kernel_rfl) (by kernel_rfl) (by kernel_rfl) ?_ (Or.inl ⟨?_, ?_⟩) (by assumption) ?_; rotate_left 2; (· (simp only [List.getElem?_toArray, List.getElem?_cons_succ, List.getElem?_cons_zero]; first | done | rfl)); (· exact (fun _ _ _ h => h)); (· rfl); (· (intro w hSw; (try dsimp only at hSw); go_simp; (try with_reducible rfl))))
        (try simp only [Act.put, List.setIfInBounds_toArray, List.set_cons_zero, List.set_cons_succ])
        refine wpAnyH_ready (rs := [4]) (by kernel_rfl) (by simp) ?_
        refine AllReadyH.cons (o := ?_) ?_ (fun K hK => ?_) AllReadyH.nil
        rotate_left 1
        · (simp only [List.getElem?_toArray, List.getElem?_cons_succ, List.getElem?_cons_zero]; first | done | rfl)
        go_simp
        first | (refine hK.out _ _ ?_ (fun hq1 => ?_)) | ((go_at_call 24; (refine (HCN.out _).mono ?_); rintro e w5 ⟨rfl, hb5⟩; obtain ⟨z1, z2⟩ := HEL.out; obtain ⟨y0, y1, y2, y3, y4, y5, y6⟩ := conds_at (HC1.out.below (bdrew0 hb5)) k z1 c z2; clear z2); refine hK.out _ _ ?_ (fun hq1 => ?_)) | ((go_at_call 24; (refine (HCN.out _).mono ?_); rintro e w5 ⟨rfl, hb5⟩; obtain ⟨z1, z2⟩ := HEL.out; obtain ⟨y0, y1, y2, y3, y4, y5, y6⟩ := conds_at (HC1.out.below (bdrew0 hb5)) k z1 c z2; clear z2); go_wp2_with fail; refine hK.out _ _ ?_ (fun hq1 => ?_)) | fail
        · ((try dsimp only); (first | (with_reducible exact bs_set hgq hgp (by assumption)) | (with_reducible exact HBS.out) | (with_reducible exact bs_below (bdrewN (Below.refl _ _) 1) HBS.out) | (with_reducible assumption) | (with_reducible exact bs_below (by assumption) (by assumption)) | fail))
        clear hK K
        (try simp only [Act.put, List.setIfInBounds_toArray, List.set_cons_zero, List.set_cons_succ])
        clear hq0
        (refine wpAnyH_take (i := 5) (oi := ?_) (v := ?_) ?_ (by kernel_rfl) (by kernel_rfl) (by kernel_rfl) ?_ (Or.inl ⟨?_, ?_⟩) (by assumption) ?_; rotate_left 2; (· (simp only [List.getElem?_toArray, List.getElem?_cons_succ, List.getElem?_cons_zero]; first | done | rfl)); (· exact (fun _ _ _ h => h)); (· rfl); (· (intro w hSw; (try dsimp only at hSw); go_simp; (try with_reducible rfl))))
        (try simp only [Act.put, List.setIfInBounds_toArray, List.set_cons_zero, List.set_cons_succ])
        refine wpAnyH_ready (rs := [6]) (by kernel_rfl) (by simp) ?_
        refine AllReadyH.cons (o := ?_) ?_ (fun K hK => ?_) AllReadyH.nil
        rotate_left 1
        · (simp only [List.getElem?_toArray, List.getElem?_cons_succ, List.getElem?_cons_zero]; first | done | rfl)
        go_simp
        first | (refine hK.out _ _ ?_ (fun hq2 => ?_)) | ((go_at_call 24; (refine (HCN.out _).mono ?_); rintro e w5 ⟨rfl, hb5⟩; obtain ⟨z1, z2⟩ := HEL.out; obtain ⟨y0, y1, y2, y3, y4, y5, y6⟩ := conds_at (HC1.out.below (bdrew0 hb5)) k z1 c z2; clear z2); refine hK.out _ _ ?_ (fun hq2 => ?_)) | ((go_at_call 24; (refine (HCN.out _).mono ?_); rintro e w5 ⟨rfl, hb5⟩; obtain ⟨z1, z2⟩ := HEL.out; obtain ⟨y0, y1, y2, y3, y4, y5, y6⟩ := conds_at (HC1.out.below (bdrew0 hb5)) k z1 c z2; clear z2); go_wp2_with fail; refine hK.out _ _ ?_ (fun hq2 => ?_)) | fail
        · ((try dsimp only); (first | (with_reducible exact bs_set hgq hgp (by assumption)) | (with_reducible exact HBS.out) | (with_reducible exact bs_below (bdrewN (Below.refl _ _) 1) HBS.out) | (with_reducible assumption) | (with_reducible exact bs_below (by assumption) (by assumption)) | fail))
        clear hK K
        (try simp only [Act.put, List.setIfInBounds_toArray, List.set_cons_zero, List.set_cons_succ])
        clear hq1
        refine wpAnyH_done (by kernel_rfl) ?_ _
        go_wp2
        obtain ⟨r1, r2, r3⟩ := row_step c hlt HLC.out (btrans HB1.out (bdrew0 hb5)) (HX1.out.below (bdrew0 hb5)) (HC1.out.below (bdrew0 hb5)) (fun o => ((bdrew0 hb5).frozen (p := ⟨g, o, none⟩) hg3).trans (HF1.out o)) hg1 (Nat.lt_of_lt_of_le hg3 (bdrew0 hb5).size) hgq hge
        exact ⟨⟨k + 1, by omega, by go_num, Lib.hid r1, Lib.hid r2, Lib.hid r3⟩, by simp [intOf]; go_num⟩
      · obtain rfl : k = l.length := by omega
        have hRn := HRr.out
        rw [List.take_length, List.drop_length, List.append_nil] at hRn
        have HC := Lib.hid hRn.conds
        have hNl : (l.map canonC).length = l.length := List.length_map ..
        clear hRn HRr HCA HX HR HB
        generalize l.map canonC = N at *
        generalize wr = WE at *
        go_upto_region 13 with (first | (go_at_call 20; (refine (HPR.out (by trivial) _ _ _ HC.out HBr.out).mono ?_); rintro e w4 ⟨rfl, hb4⟩) | (go_at_call 18; (refine (HBK.out (by trivial) _ (btrans HBr.out hb4)).mono ?_); rintro e w5 ⟨⟨b1, cp1, rfl, hcs5⟩, hb5⟩) | fail)
        have hb6 := balloc w5 (.cells #[.string ⟨sf.toArray⟩, .slice b1 l.length cp1] 35)
        have HG6 := Lib.hid (box2_new w5 sf b1 l.length cp1 35)
        have HX6 := Lib.hid (((HXr.out.below hb4).below hb5).below hb6)
        have HC6 := Lib.hid (((HC.out.below hb4).below hb5).below hb6)
        have HD6 := Lib.hid (hcs5.below hb6)
        have HB6 := Lib.hid (btrans (btrans (btrans HBr.out hb4) hb5) hb6)
        clear hcs5 hb4 hb5 hb6 f0 f1 HXr HC HBr HPR HBK
        generalize World.alloc w5 _ = W6 at *
        generalize w5.heap.size = pg at *
        obtain ⟨f0, f1⟩ := HX6.out
        obtain ⟨A, hA, hand⟩ := and_smallB n 2 3 (by decide) (by decide)
        have hand3 : bits .and .i64 n 3 = (A : Int) := hand
        obtain ⟨bl, hbl1, hbl2, hbl3⟩ := blank_row A hA
        have a1 : (A : Int) ≤ 3 := by omega
        have a0 : (0 : Int) ≤ (A : Int) := by omega
        have HBL2 := Lib.hid hbl2
        clear hand hbl2
        go_wp2_with fail
        go_loopw [11, 67] (fun vt vi wr => ∃ k : Nat, k ≤ l.length ∧ vt = .string ⟨(bl ++ (sf ++ (bl ++ 58 :: blanksR bl N k))).toArray⟩ ∧ vi = .int .i64 k ∧ Hid (Below W6.heap.size W6 wr)) (fun _ vi _ => l.length - (intOf vi).toNat)
        case atStart => exact ⟨0, Nat.zero_le _, congrArg Value.string (Sc.of_data (by simp [blanksR])), rfl, Lib.hid (Below.refl _ _)⟩
        case round =>
          obtain ⟨k, hk, rfl, rfl, HBr2⟩ := hrel
          have HBQ := Lib.hid (btrans HB6.out HBr2.out)
          by_cases hlt : k < l.length
          · have i1 : (k : Int) < (l.length : Int) := by omega
            have i0 : (0 : Int) ≤ (k : Int) := by omega
            have hkN : k < N.length := by omega
            obtain ⟨a, rfl, v0, v1, v2, v3, v4, v5, v6⟩ := (HC6.out.below HBr2.out) k hkN
            have hcp := HCP.out (by trivial) N[k] (List.getElem_mem hkN)
            have hst := blanksR_step bl N k hkN
            have hB2 := HLEN.out (by trivial) N[k] (List.getElem_mem hkN)
            have hB1 := blanksR_len bl N (by omega) (HLEN.out (by trivial)) hbl3 k
            obtain ⟨c, hc⟩ : ∃ c, N[k] = c := ⟨_, rfl⟩
            rw [hc] at v0 v1 v2 v3 v4 v5 v6 hcp hst hB2
            obtain ⟨tc, htc⟩ : ∃ tc, cT c = tc := ⟨_, rfl⟩
            rw [htc] at hst hB2
            have hcp2 : ∀ W, Below w.heap.size w W → Calls Tryz.prog 25 #[cond c.name c.op c.val.kind c.val.int c.val.num c.val.text c.val.yes] W fun e w' => e = .returned (.string ⟨tc.toArray⟩) ∧ Below W.heap.size W w' := fun W hb => by rw [← htc]; exact hcp W hb
            have HCPk := Lib.hid hcp2; have HST := Lib.hid hst
            clear hcp hcp2 hst hc htc
            go_upto_region 18 with fail
            have hb1 := balloc wr (.cells #[.string ⟨c.name.toArray⟩, .int .i64 c.op, .int .i64 c.val.kind, .int .i64 c.val.int, .float .f64 c.val.num, .string ⟨c.val.text.toArray⟩, .bool c.val.yes] 41)
            have hx := box7_new wr c
            have HB1 := Lib.hid (btrans HBQ.out hb1)
            have HB2 := Lib.hid (btrans HBr2.out hb1)
            clear hb1 v0 v1 v2 v3 v4 v5 v6
            generalize World.alloc wr _ = W1 at *
            generalize wr.heap.size = p1 at *
            obtain ⟨x0, x1, x2, x3, x4, x5, x6⟩ := hx
            by_cases h0 : k = 0
            · have i2 : ¬ (0 : Int) < (k : Int) := by omega
              have HK0 := Lib.hid h0
              clear h0
              go_wp2_with (first | (go_at_call 25; (with_reducible refine (HCPk.out _ HB1.out).mono ?_); rintro e w7 ⟨rfl, hb7⟩) | fail)
              exact ⟨⟨k + 1, by omega, congrArg Value.string (by rw [HST.out, if_pos HK0.out, HK0.out]; exact Sc.of_data (by simp [blanksR])), by go_num, Lib.hid (btrans HB2.out hb7)⟩, by simp [intOf]; go_num⟩
            · have i2 : (0 : Int) < (k : Int) := by omega
              have HK0 := Lib.hid h0
              clear h0
              go_wp2_with (first | (go_at_call 25; (with_reducible refine (HCPk.out _ HB1.out).mono ?_); rintro e w7 ⟨rfl, hb7⟩) | fail)
              exact ⟨⟨k + 1, by omega, congrArg Value.string (by rw [HST.out, if_neg HK0.out]; exact Sc.of_data (by simp)), by go_num, Lib.hid (btrans HB2.out hb7)⟩, by simp [intOf]; go_num⟩
          · obtain rfl : k = l.length := by omega
            have hbb := HBL.out (by trivial) bl HBL2.out hbl3
            simp only [List.append_assoc] at hbb
            have hB1 := blanksR_len bl N (by omega) (HLEN.out (by trivial)) hbl3 l.length
            have HBB := Lib.hid hbb
            clear hbb
            go_upto_region 23 with (first | (go_at_call 18; (with_reducible refine (HBB.out _ HBQ.out).mono ?_); rintro e w8 ⟨⟨b2, cp2, rfl, hcs8⟩, hb8⟩) | fail)
            have hb9 := balloc w8 (.cells #[.string ⟨sf.toArray⟩, .slice b2 l.length cp2] 35)
            have HH9 := Lib.hid (box2_new w8 sf b2 l.length cp2 35)
            have HX9 := Lib.hid (((HX6.out.below HBr2.out).below hb8).below hb9)
            have HG9 := Lib.hid (((HG6.out.below HBr2.out).below hb8).below hb9)
            have HC9 := Lib.hid (((HC6.out.below HBr2.out).below hb8).below hb9)
            have HD9 := Lib.hid (((HD6.out.below HBr2.out).below hb8).below hb9)
            have HE9 := Lib.hid (hcs8.below hb9)
            have HB9 := Lib.hid (btrans (btrans HBQ.out hb8) hb9)
            clear hcs8 hb8 hb9 f0 f1
            generalize World.alloc w8 _ = W9 at *
            generalize w8.heap.size = ph at *
            obtain ⟨f0, f1⟩ := HX9.out
            obtain ⟨g0, g1⟩ := HG9.out
            obtain ⟨h0, h1⟩ := HH9.out
            go_wp2_with (first | (go_at_call 22; (with_reducible refine (HSA.out (by trivial) _ _ _ _ _ HC9.out HD9.out).mono ?_); rintro e w10 ⟨rfl, hb10⟩; obtain ⟨m0, m1⟩ := HX9.out.below hb10; obtain ⟨m2, m3⟩ := HH9.out.below hb10) | (go_at_call 22; (with_reducible refine (HSA.out (by trivial) _ _ _ _ _ (HC9.out.below hb10) (HE9.out.below hb10)).mono ?_); rintro e w11 ⟨rfl, hb11⟩) | fail)
            go_ret
            exact ⟨rfl, btrans (btrans HB9.out hb10) hb11⟩
end Go.Proofs.YtnccpddjdgndcaaGreatDoor.Pa
end
