/- PLAIN LAW OF EVENTS: attributes that rise by their names, what the search finds among them, what New makes. No program in sight. -/
import Derived.Test.YtpbdgbejcdncgaaFlatA
import Derived.Test.YtpbdgbejcdncgaaImplFn
namespace Go.Proofs.Ytpbdgbejcdncgaa.Val
open Flt
theorem cb_anti (a b : List UInt8) : (Lib.compareBytes a b < 0 ↔ 0 < Lib.compareBytes b a) ∧ (Lib.compareBytes a b = 0 ↔ Lib.compareBytes b a = 0) := by
  have h1 := cb_ord a b a
  have h2 := cb_ord b a b
  rw [(cb_zero a a).2 rfl] at h1
  rw [(cb_zero b b).2 rfl] at h2
  have h3 := cb_zero a b
  have h4 := cb_zero b a
  unfold Ord3 at h1 h2
  refine ⟨by omega, ?_⟩
  rw [h3, h4]; exact eq_comm
theorem cb_trans {a b c : List UInt8} (h1 : Lib.compareBytes a b < 0) (h2 : Lib.compareBytes b c < 0) : Lib.compareBytes a c < 0 := (cb_lt a b c).1 h1 h2
theorem cb_irr (a : List UInt8) : ¬ Lib.compareBytes a a < 0 := by rw [(cb_zero a a).2 rfl]; decide
/-- each name stands ahead of those behind it -/
def Rising (l : List A) : Prop := l.Pairwise fun x y => Lib.compareBytes x.name y.name < 0
def getL (l : List A) (t : List UInt8) : Option V := (l.find? fun a => a.name == t).map (·.val)
theorem getL_cons (x : A) (l : List A) (t : List UInt8) : getL (x :: l) t = if x.name = t then some x.val else getL l t := by
  unfold getL
  rw [List.find?_cons]
  by_cases h : x.name = t
  · simp [h]
  · have : (x.name == t) = false := by simpa using h
    simp [h, this]
theorem getL_none {l : List A} {t : List UInt8} (h : ∀ a ∈ l, a.name ≠ t) : getL l t = none := by
  induction l with
  | nil => rfl
  | cons x l ih => rw [getL_cons, if_neg (h x (by simp))]; exact ih fun a ha => h a (by simp [ha])
theorem getL_some {l : List A} {t : List UInt8} {v : V} (h : getL l t = some v) : ∃ a ∈ l, a.name = t ∧ a.val = v := by
  induction l with
  | nil => cases h
  | cons x l ih =>
    rw [getL_cons] at h
    by_cases e : x.name = t
    · rw [if_pos e] at h; cases h; exact ⟨x, by simp, e, rfl⟩
    · rw [if_neg e] at h
      obtain ⟨a, ha, h1, h2⟩ := ih h
      exact ⟨a, by simp [ha], h1, h2⟩
theorem name_ne {x y : A} (h : Lib.compareBytes x.name y.name < 0) : x.name ≠ y.name := fun e => by rw [e] at h; exact cb_irr _ h
theorem getL_mem {l : List A} (hr : Rising l) {a : A} (ha : a ∈ l) : getL l a.name = some a.val := by
  induction l with
  | nil => cases ha
  | cons x l ih =>
    have hp := List.pairwise_cons.1 hr
    rw [getL_cons]
    rcases List.mem_cons.1 ha with rfl | ha
    · rw [if_pos rfl]
    · rw [if_neg (name_ne (hp.1 a ha))]
      exact ih hp.2 ha
theorem rising_ext : ∀ {l m : List A}, Rising l → Rising m → (∀ t, getL l t = getL m t) → l = m
  | [], [], _, _, _ => rfl
  | [], y :: m, _, _, h => by have := h y.name; rw [getL_cons, if_pos rfl] at this; cases this
  | x :: l, [], _, _, h => by have := h x.name; rw [getL_cons, if_pos rfl] at this; cases this
  | x :: l, y :: m, hl, hm, h => by
    have hl2 := List.pairwise_cons.1 hl
    have hm2 := List.pairwise_cons.1 hm
    by_cases e : x.name = y.name
    · have hx := h x.name
      rw [getL_cons, if_pos rfl, getL_cons, if_pos e.symm] at hx
      have hv : x.val = y.val := Option.some.inj hx
      have exy : x = y := by cases x; cases y; simp_all
      subst exy
      have : l = m := rising_ext hl2.2 hm2.2 fun t => by
        by_cases ht : x.name = t
        · subst ht
          rw [getL_none fun a ha => (name_ne (hl2.1 a ha)).symm, getL_none fun a ha => (name_ne (hm2.1 a ha)).symm]
        · have := h t
          rwa [getL_cons, if_neg ht, getL_cons, if_neg ht] at this
      rw [this]
    · exfalso
      have h0 := cb_zero x.name y.name
      have ha := (cb_anti x.name y.name).1
      rcases Int.lt_trichotomy (Lib.compareBytes x.name y.name) 0 with hc | hc | hc
      · have hx := h x.name
        rw [getL_cons, if_pos rfl, getL_cons, if_neg (Ne.symm e), getL_none fun a ha => (name_ne (cb_trans hc (hm2.1 a ha))).symm] at hx
        cases hx
      · exact e (h0.1 hc)
      · have hc' := (cb_anti y.name x.name).1.2 hc
        have hx := h y.name
        rw [getL_cons, if_neg e, getL_cons, if_pos rfl, getL_none fun a ha => (name_ne (cb_trans hc' (hl2.1 a ha))).symm] at hx
        cases hx
/-- an attribute laid in its place -/
def insL (a : A) : List A → List A
  | [] => [a]
  | x :: l => if Lib.compareBytes x.name a.name < 0 then x :: insL a l else if Lib.compareBytes x.name a.name = 0 then a :: l else a :: x :: l
theorem insL_mem {a : A} : ∀ {l : List A} {y : A}, y ∈ insL a l → y = a ∨ y ∈ l
  | [], y, h => by simpa [insL] using h
  | x :: l, y, h => by
    unfold insL at h
    split at h
    · rcases List.mem_cons.1 h with rfl | h
      · simp
      · rcases insL_mem h with h | h <;> simp [h]
    · split at h
      · rcases List.mem_cons.1 h with rfl | h <;> simp [*]
      · rcases List.mem_cons.1 h with rfl | h
        · simp
        · exact Or.inr h
theorem insL_rising {a : A} : ∀ {l : List A}, Rising l → Rising (insL a l)
  | [], _ => by unfold insL Rising; simp
  | x :: l, h => by
    have hp := List.pairwise_cons.1 h
    unfold insL
    split
    · rename_i hc
      refine List.pairwise_cons.2 ⟨fun y hy => ?_, insL_rising hp.2⟩
      rcases insL_mem hy with rfl | hy
      · exact hc
      · exact hp.1 y hy
    · rename_i hc
      split
      · rename_i h0
        have e := (cb_zero _ _).1 h0
        exact List.pairwise_cons.2 ⟨fun y hy => by rw [← e]; exact hp.1 y hy, hp.2⟩
      · rename_i h0
        have hc' : Lib.compareBytes a.name x.name < 0 := (cb_anti _ _).1.2 (by omega)
        exact List.pairwise_cons.2 ⟨fun y hy => by
          rcases List.mem_cons.1 hy with rfl | hy
          · exact hc'
          · exact cb_trans hc' (hp.1 y hy), h⟩
theorem insL_get {a : A} (t : List UInt8) : ∀ {l : List A}, getL (insL a l) t = if a.name = t then some a.val else getL l t
  | [] => by unfold insL; rw [getL_cons]
  | x :: l => by
    unfold insL
    split
    · rename_i hc
      rw [getL_cons, getL_cons, insL_get t]
      by_cases h1 : x.name = t
      · have : a.name ≠ t := by subst h1; exact (name_ne hc).symm
        simp [h1, this]
      · simp [h1]
    · split
      · rename_i h0
        have e := (cb_zero _ _).1 h0
        rw [getL_cons, getL_cons, ← e]
        by_cases h1 : x.name = t <;> simp [h1]
      · rw [getL_cons]
theorem insL_len {a : A} : ∀ {l : List A}, (insL a l).length = l.length + (if (getL l a.name).isSome then 0 else 1) ∨ ¬ Rising l
  | [] => Or.inl (by simp [insL, getL])
  | x :: l => by
    by_cases hr : Rising (x :: l)
    · left
      have hp := List.pairwise_cons.1 hr
      unfold insL
      rw [getL_cons]
      split
      · rename_i hc
        rw [if_neg (name_ne hc)]
        rcases insL_len (a := a) (l := l) with h | h
        · simp only [List.length_cons, h]; omega
        · exact absurd hp.2 h
      · rename_i hc
        split
        · rename_i h0
          rw [if_pos ((cb_zero _ _).1 h0)]; simp
        · rename_i h0
          rw [if_neg (fun e => h0 ((cb_zero _ _).2 e)), getL_none]
          · simp
          · intro y hy e
            have := hp.1 y hy
            rw [e] at this
            omega
    · exact Or.inr hr
theorem insL_le (a : A) : ∀ (l : List A), (insL a l).length ≤ l.length + 1
  | [] => by simp [insL]
  | x :: l => by
    unfold insL
    split
    · simpa using insL_le a l
    · split <;> simp
/-- where the search ends among rising names -/
theorem bs_spec (l : List A) (t : List UInt8) (hr : Rising l) (i j : Nat) (hij : i ≤ j) (hj : j ≤ l.length) (h1 : ∀ k (h : k < l.length), k < i → Lib.compareBytes l[k].name t < 0) (h2 : ∀ k (h : k < l.length), j ≤ k → ¬ Lib.compareBytes l[k].name t < 0) :
    (∀ k (h : k < l.length), k < bs l t i j → Lib.compareBytes l[k].name t < 0) ∧ (∀ k (h : k < l.length), bs l t i j ≤ k → ¬ Lib.compareBytes l[k].name t < 0) := by
  have hx := List.pairwise_iff_getElem.1 hr
  rw [bs]
  split
  · rename_i hlt
    have hm : (i + j) / 2 < l.length := by omega
    rw [show l[(i + j) / 2]! = l[(i + j) / 2] from getElem!_pos l _ hm]
    split
    · rename_i hc
      refine bs_spec l t hr _ j (by omega) hj (fun k h hk => ?_) h2
      by_cases e : k = (i + j) / 2
      · subst e; exact hc
      · exact cb_trans (hx k _ h hm (by omega)) hc
    · rename_i hc
      refine bs_spec l t hr i _ (by omega) (by omega) h1 (fun k h hk hk2 => ?_)
      by_cases e : k = (i + j) / 2
      · subst e; exact hc hk2
      · exact hc (cb_trans (hx _ k hm h (by omega)) hk2)
  · exact ⟨fun k h hk => h1 k h hk, fun k h hk => h2 k h (by omega)⟩
termination_by j - i
theorem bs_at (l : List A) (t : List UInt8) (hr : Rising l) : (∀ k (h : k < l.length), k < bs l t 0 l.length → Lib.compareBytes l[k].name t < 0) ∧ (∀ k (h : k < l.length), bs l t 0 l.length ≤ k → ¬ Lib.compareBytes l[k].name t < 0) :=
  bs_spec l t hr 0 l.length (Nat.zero_le _) (Nat.le_refl _) (fun _ _ h => absurd h (Nat.not_lt_zero _)) (fun k h hk => absurd h (by omega))
theorem found_at {l : List A} {t : List UInt8} (h : foundB l t = true) : ∃ hR : bs l t 0 l.length < l.length, (l[bs l t 0 l.length]'hR).name = t := by
  unfold foundB at h
  simp only [Bool.and_eq_true, decide_eq_true_eq, beq_iff_eq] at h
  refine ⟨h.1, ?_⟩
  have := (cb_zero _ _).1 h.2
  rwa [show l[bs l t 0 l.length]! = l[bs l t 0 l.length]'h.1 from getElem!_pos l _ h.1] at this
theorem found_of {l : List A} {t : List UInt8} (hr : Rising l) {a : A} (ha : a ∈ l) (e : a.name = t) : foundB l t = true := by
  obtain ⟨k, hk, hak⟩ := List.mem_iff_getElem.1 ha
  have ⟨s1, s2⟩ := bs_at l t hr
  have hx := List.pairwise_iff_getElem.1 hr
  have hkR : bs l t 0 l.length ≤ k := by
    by_cases h : k < bs l t 0 l.length
    · have := s1 k hk h
      rw [hak, e] at this
      exact absurd this (cb_irr _)
    · omega
  have hR : bs l t 0 l.length < l.length := by omega
  have hRk : bs l t 0 l.length = k := by
    by_cases h : bs l t 0 l.length = k
    · exact h
    · have h1 := hx _ k hR hk (by omega)
      rw [hak, e] at h1
      exact absurd h1 (s2 _ hR (Nat.le_refl _))
  unfold foundB
  rw [show l[bs l t 0 l.length]! = l[bs l t 0 l.length]'hR from getElem!_pos l _ hR]
  have hn : (l[bs l t 0 l.length]'hR).name = t := by
    have : l[bs l t 0 l.length]'hR = l[k] := by congr 1
    rw [this, hak, e]
  rw [hn, (cb_zero t t).2 rfl]
  simp [hR]
/-- a name is found just if it is there, with its value -/
theorem found_get {l : List A} (hr : Rising l) (t : List UInt8) : getL l t = if foundB l t then some (l[bs l t 0 l.length]!).val else none := by
  cases hf : foundB l t
  · simp only [Bool.false_eq_true, if_false]
    refine getL_none fun a ha e => ?_
    rw [found_of hr ha e] at hf
    cases hf
  · obtain ⟨hR, hn⟩ := found_at hf
    rw [if_pos rfl, show l[bs l t 0 l.length]! = l[bs l t 0 l.length]'hR from getElem!_pos l _ hR]
    have := getL_mem hr (List.getElem_mem hR)
    rwa [hn] at this
def canonA (a : A) : A := ⟨a.name, canonV a.val⟩
/-- one round of New -/
def stepA (acc : List A) (a : A) : List A := if foundB acc a.name then acc.set (bs acc a.name 0 acc.length) (canonA a) else acc.take (bs acc a.name 0 acc.length) ++ canonA a :: acc.drop (bs acc a.name 0 acc.length)
def newB (l : List A) : List A := l.foldl stepA []
theorem ins_at (a : A) : ∀ (l : List A) (R : Nat), R ≤ l.length → (∀ k (h : k < l.length), k < R → Lib.compareBytes l[k].name a.name < 0) → (∀ k (h : k < l.length), R ≤ k → ¬ Lib.compareBytes l[k].name a.name < 0) →
    (if decide (R < l.length) && Lib.compareBytes (l[R]!).name a.name == 0 then l.set R a else l.take R ++ a :: l.drop R) = insL a l
  | [], R, hR, _, _ => by simp at hR; subst hR; simp [insL]
  | x :: l, 0, _, _, h2 => by
    have hx := h2 0 (by simp) (Nat.le_refl _)
    simp only [List.getElem_cons_zero] at hx
    unfold insL
    rw [if_neg hx]
    by_cases h0 : Lib.compareBytes x.name a.name = 0
    · simp [h0]
    · simp [h0]
  | x :: l, R + 1, hR, h1, h2 => by
    have hx := h1 0 (by simp) (by omega)
    simp only [List.getElem_cons_zero] at hx
    have ih := ins_at a l R (by simpa using hR) (fun k h hk => by have := h1 (k + 1) (by simpa using h) (by omega); simpa using this) (fun k h hk => by have := h2 (k + 1) (by simpa using h) (by omega); simpa using this)
    unfold insL
    rw [if_pos hx, ← ih]
    have e : (x :: l)[R + 1]! = l[R]! := by simp
    rw [e]
    simp only [List.length_cons, Nat.add_lt_add_iff_right]
    split <;> simp
theorem step_ins {acc : List A} (hr : Rising acc) (a : A) : stepA acc a = insL (canonA a) acc := by
  have ⟨s1, s2⟩ := bs_at acc a.name hr
  exact ins_at (canonA a) acc (bs acc a.name 0 acc.length) (bs_le _ _ _ _ (Nat.zero_le _)) s1 s2
theorem foldl_rising : ∀ (l : List A) (acc : List A), Rising acc → Rising (l.foldl stepA acc)
  | [], _, h => h
  | a :: l, acc, h => foldl_rising l _ (by rw [step_ins h]; exact insL_rising h)
theorem newB_rising (l : List A) : Rising (newB l) := foldl_rising l [] List.Pairwise.nil
/-- the last one of a name, as it is kept -/
def lastV (l : List A) (t : List UInt8) : Option V := l.foldl (fun o a => if a.name = t then some (canonV a.val) else o) none
theorem foldl_get (t : List UInt8) : ∀ (l : List A) (acc : List A), Rising acc → getL (l.foldl stepA acc) t = l.foldl (fun o a => if a.name = t then some (canonV a.val) else o) (getL acc t)
  | [], _, _ => rfl
  | a :: l, acc, h => by
    rw [List.foldl_cons, List.foldl_cons, foldl_get t l _ (by rw [step_ins h]; exact insL_rising h), step_ins h, insL_get]
    rfl
theorem newB_get (l : List A) (t : List UInt8) : getL (newB l) t = lastV l t := foldl_get t l [] List.Pairwise.nil
theorem newB_snoc (l : List A) (a : A) : newB (l ++ [a]) = stepA (newB l) a := by unfold newB; rw [List.foldl_append]; rfl
theorem lastV_snoc (l : List A) (a : A) (t : List UInt8) : lastV (l ++ [a]) t = if a.name = t then some (canonV a.val) else lastV l t := by unfold lastV; rw [List.foldl_append]; rfl
theorem stepA_le (acc : List A) (a : A) : (stepA acc a).length ≤ acc.length + 1 := by
  unfold stepA
  split
  · simp
  · simp only [List.length_append, List.length_take, List.length_cons, List.length_drop]; omega
theorem newB_len (l : List A) : (newB l).length ≤ l.length := by
  have : ∀ (l acc : List A), (l.foldl stepA acc).length ≤ acc.length + l.length := by
    intro l
    induction l with
    | nil => intro acc; simp
    | cons a l ih => intro acc; rw [List.foldl_cons]; have := ih (stepA acc a); have := stepA_le acc a; simp; omega
  unfold newB; have h := this l []; simpa using h
/-- of a name in any list the last one -/
theorem lastV_none {l : List A} {t : List UInt8} (h : ∀ a ∈ l, a.name ≠ t) : lastV l t = none := by
  unfold lastV
  have : ∀ (l : List A) (o : Option V), (∀ a ∈ l, a.name ≠ t) → l.foldl (fun o a => if a.name = t then some (canonV a.val) else o) o = o := by
    intro l
    induction l with
    | nil => intro o _; rfl
    | cons a l ih => intro o h; rw [List.foldl_cons, if_neg (h a (by simp))]; exact ih o fun b hb => h b (by simp [hb])
  exact this l none h
/-- rising attributes, as they are kept, are what New makes of them -/
theorem newB_self {l : List A} (hr : Rising l) (hc : ∀ a ∈ l, canonV a.val = a.val) : newB l = l := by
  refine rising_ext (newB_rising l) hr fun t => ?_
  rw [newB_get]
  have : ∀ (l : List A) (o : Option V), Rising l → (∀ a ∈ l, canonV a.val = a.val) → l.foldl (fun o a => if a.name = t then some (canonV a.val) else o) o = (getL l t).or o := by
    intro l
    induction l with
    | nil => intro o _ _; simp [getL]
    | cons x l ih =>
      intro o hr hc
      have hp := List.pairwise_cons.1 hr
      rw [List.foldl_cons, getL_cons, ih _ hp.2 fun a ha => hc a (by simp [ha])]
      by_cases e : x.name = t
      · rw [if_pos e, if_pos e, hc x (by simp), getL_none fun a ha => by rw [← e]; exact (name_ne (hp.1 a ha)).symm]; simp
      · rw [if_neg e, if_neg e]
  rw [show lastV l t = _ from this l none hr hc]; simp
theorem canon_twice (b : Nat) : Ord.canon (Ord.canon b) = Ord.canon b := by
  have h0 : nan 0 = false := by decide
  have h1 : nan Ord.nan0 = true := by decide
  unfold Ord.canon
  cases hn : nan b
  · cases hz : Ord.zero b
    · simp [hn, hz]
    · simp [h0]
  · simp [h1]
theorem canonV_twice (v : V) : canonV (canonV v) = canonV v := by
  unfold canonV
  rcases kind_ways v.kind with h | ⟨h, h1⟩ | ⟨h, h1, h2⟩ | ⟨h, h1, h2, h3⟩ | ⟨h, h1, h2, h3⟩ <;> simp [*, canon_twice]
theorem newB_canon (l : List A) : ∀ a ∈ newB l, canonV a.val = a.val := by
  intro a ha
  have h := getL_mem (newB_rising l) ha
  rw [newB_get] at h
  have : ∀ (t : List UInt8) (l : List A) (o : Option V) (v : V), (∀ u, o = some u → canonV u = u) → l.foldl (fun o a => if a.name = t then some (canonV a.val) else o) o = some v → canonV v = v := by
    intro t l
    induction l with
    | nil => intro o v ho h; exact ho v h
    | cons x l ih =>
      intro o v ho h
      rw [List.foldl_cons] at h
      refine ih _ v ?_ h
      intro u hu
      split at hu
      · cases hu; exact canonV_twice _
      · exact ho u hu
  exact this a.name l none a.val (fun u h => by cases h) h
theorem newB_twice (l : List A) : newB (newB l) = newB l := newB_self (newB_rising l) (newB_canon l)
theorem keepB_rising {zs : List ByteArray} {l : List A} (h : Rising l) : Rising (keepB zs l) := List.Pairwise.filter _ h
end Go.Proofs.Ytpbdgbejcdncgaa.Val
