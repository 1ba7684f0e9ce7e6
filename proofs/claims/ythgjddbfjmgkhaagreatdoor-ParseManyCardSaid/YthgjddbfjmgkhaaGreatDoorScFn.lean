/- PLAIN FUNCTIONS ON TEXTS: names, what stands between the /, scopes, what is below a scope. No program in sight. -/
import Derived.Test.YthgjddbfjmgkhaaGreatDoorNameFn
import Derived.Lib.Bytealg
import Derived.Lib.Strings
namespace Go.Proofs.YthgjddbfjmgkhaaGreatDoor.Sc

/-- what stands between the / -/
def parts : List UInt8 → List (List UInt8)
  | [] => [[]]
  | b :: r => if b = 47 then [] :: parts r else
    match parts r with
    | [] => [[b]]
    | p :: q => (b :: p) :: q
theorem parts_ne (l : List UInt8) : parts l ≠ [] := by
  cases l with
  | nil => simp [parts]
  | cons b r =>
    unfold parts; split
    · simp
    · split <;> simp
theorem parts_cons {c : UInt8} {r p : List UInt8} {q : List (List UInt8)} (hc : ¬ c = 47) (h : parts r = p :: q) : parts (c :: r) = (c :: p) :: q := by
  rw [parts, if_neg hc, h]
theorem parts_slash (a b : List UInt8) (h : 47 ∉ a) : parts (a ++ 47 :: b) = a :: parts b := by
  induction a with
  | nil => simp [parts]
  | cons c a ih =>
    have hc : ¬ c = 47 := fun e => h (by simp [e])
    have ih := ih (fun m => h (by simp [m]))
    rw [List.cons_append]; exact parts_cons hc ih
theorem parts_none (a : List UInt8) (h : 47 ∉ a) : parts a = [a] := by
  induction a with
  | nil => simp [parts]
  | cons c a ih =>
    have hc : ¬ c = 47 := fun e => h (by simp [e])
    have ih := ih (fun m => h (by simp [m]))
    exact parts_cons hc ih
theorem parts_length (l : List UInt8) : (parts l).length ≤ l.length + 1 := by
  induction l with
  | nil => simp [parts]
  | cons b r ih =>
    unfold parts; split
    · simp; omega
    · split <;> simp_all; omega

/-- the first / -/
theorem slash_cases (l : List UInt8) : (Lib.indexByte l 47 = -1 ∧ 47 ∉ l) ∨
    (∃ a b, l = a ++ 47 :: b ∧ 47 ∉ a ∧ Lib.indexByte l 47 = a.length) := by
  induction l with
  | nil => left; simp [Lib.indexByte]
  | cons c r ih =>
    by_cases hc : c = 47
    · right; exact ⟨[], r, by simp [hc], by simp, by simp [Lib.indexByte, hc]⟩
    · have h1 : (c == (47 : UInt8)) = false := by simp [hc]
      rcases ih with ⟨e, hn⟩ | ⟨a, b, e, hn, hi⟩
      · left; refine ⟨?_, by simp [hn]; exact fun h => hc h.symm⟩
        unfold Lib.indexByte; rw [h1, e]; rfl
      · right
        refine ⟨c :: a, b, by simp [e], by simp [hn]; exact fun h => hc h.symm, ?_⟩
        have h2 : ((a.length : Int) == -1) = false := by rw [beq_eq_false_iff_ne]; omega
        unfold Lib.indexByte; rw [h1, hi, h2]; simp

/-- may it be a scope? -/
def rightB (l : List UInt8) : Bool := l.isEmpty || ((parts l).all nameB && decide ((parts l).length ≤ 4))
/-- is it the other one, or below it? -/
def underB (s t : List UInt8) : Bool := t.isEmpty || s == t || (t.isPrefixOf s && (s.drop t.length).head? == some 47)
theorem under_cases (a b : List UInt8) : (b.isEmpty = true) ∨ (b.isEmpty = false ∧ a = b) ∨
    (b.isEmpty = false ∧ (a == b) = false ∧ Lib.hasPrefix a b = false ∧ underB a b = false) ∨
    (∃ x r, b.isEmpty = false ∧ a = b ++ x :: r ∧ (a == b) = false ∧ Lib.hasPrefix a b = true ∧ underB a b = (x == 47)) := by
  cases h0 : b.isEmpty
  · by_cases h1 : a = b
    · exact Or.inr (Or.inl ⟨rfl, h1⟩)
    · have h1' : (a == b) = false := by simpa using h1
      cases h2 : Lib.hasPrefix a b
      · refine Or.inr (Or.inr (Or.inl ⟨rfl, h1', rfl, ?_⟩))
        unfold underB; rw [h0, h1']; unfold Lib.hasPrefix at h2; rw [h2]; rfl
      · have h3 : b <+: a := by unfold Lib.hasPrefix at h2; exact List.isPrefixOf_iff_prefix.1 h2
        obtain ⟨t, rfl⟩ := h3
        cases t with
        | nil => simp at h1
        | cons x r =>
          refine Or.inr (Or.inr (Or.inr ⟨x, r, rfl, rfl, h1', rfl, ?_⟩))
          unfold underB; unfold Lib.hasPrefix at h2
          rw [h0, h1', h2]
          simp
  · exact Or.inl rfl
theorem under_iff (a b : List UInt8) : underB a b = true ↔ b = [] ∨ a = b ∨ ∃ r, a = b ++ 47 :: r := by
  rcases under_cases a b with h | ⟨h0, rfl⟩ | ⟨h0, h1, h2, h3⟩ | ⟨x, r, h0, rfl, h1, h2, h3⟩
  · have e : b = [] := by cases b <;> simp_all
    subst e; simp [underB]
  · simp [underB]
  · rw [h3]; simp only [Bool.false_eq_true, false_iff]
    have h0' : ¬ b = [] := by cases b <;> simp_all
    have h1' : ¬ a = b := by simpa using h1
    rintro (h | h | ⟨r, rfl⟩)
    · exact h0' h
    · exact h1' h
    · unfold Lib.hasPrefix at h2
      have : b.isPrefixOf (b ++ 47 :: r) = true := List.isPrefixOf_iff_prefix.2 ⟨_, rfl⟩
      rw [this] at h2; cases h2
  · rw [h3]
    have h0' : ¬ b = [] := by cases b <;> simp_all
    have e1 : (b ++ x :: r = b) = False := by simp
    simp [h0', e1]
theorem under_anti {a b : List UInt8} (h1 : underB a b = true) (h2 : underB b a = true) : a = b := by
  rw [under_iff] at h1 h2
  rcases h1 with rfl | rfl | ⟨r, rfl⟩
  · rcases h2 with rfl | h2 | ⟨t, h⟩
    · rfl
    · exact h2.symm
    · cases a <;> simp at h
  · rfl
  · rcases h2 with h | h | ⟨t, h⟩
    · simp at h
    · exact h.symm
    · have := congrArg List.length h; simp at this
theorem under_trans {a b c : List UInt8} (h1 : underB a b = true) (h2 : underB b c = true) : underB a c = true := by
  rw [under_iff] at h1 h2 ⊢
  rcases h2 with rfl | rfl | ⟨t, rfl⟩
  · exact Or.inl rfl
  · exact h1
  · rcases h1 with h | rfl | ⟨r, rfl⟩
    · simp at h
    · exact Or.inr (Or.inr ⟨t, rfl⟩)
    · exact Or.inr (Or.inr ⟨t ++ 47 :: r, by simp⟩)
/-- all that may be of the three -/
theorem chain_ways (a b c : List UInt8) :
    (underB a b = false ∧ underB b a = underB b a) ∨ (underB a b = true ∧ underB b a = false ∧ underB b c = false) ∨ (underB a b = true ∧ underB b a = false ∧ underB b c = true ∧ underB a c = true) ∨
    (underB a b = true ∧ underB b a = true ∧ a = b ∧ underB b c = false) ∨ (underB a b = true ∧ underB b a = true ∧ a = b ∧ underB b c = true ∧ underB a c = true) := by
  cases h1 : underB a b
  · simp
  · cases h2 : underB b a
    · cases h3 : underB b c
      · simp
      · simp [under_trans h1 h3]
    · have e := under_anti h1 h2
      cases h3 : underB b c
      · simp [e]
      · simp [e, h3]
theorem parts_bound (l : List UInt8) : ∀ p ∈ parts l, p.length ≤ l.length := by
  induction l with
  | nil => simp [parts]
  | cons c r ih =>
    by_cases hc : c = 47
    · subst hc
      intro p hp
      rw [parts, if_pos rfl] at hp
      rcases List.mem_cons.1 hp with rfl | h
      · simp
      · have := ih p h; simp; omega
    · cases hr : parts r with
      | nil => exact absurd hr (parts_ne r)
      | cons q t =>
        rw [parts_cons hc hr]
        intro p hp
        rcases List.mem_cons.1 hp with rfl | h
        · have := ih q (by rw [hr]; simp); simp; omega
        · have := ih p (by rw [hr]; simp [h]); simp; omega
theorem parts_append (a b : List UInt8) : parts (a ++ 47 :: b) = parts a ++ parts b := by
  induction a with
  | nil => simp [parts]
  | cons c r ih =>
    by_cases hc : c = 47
    · subst hc
      rw [List.cons_append, parts, if_pos rfl, ih, parts, if_pos rfl]; rfl
    · cases hr : parts r with
      | nil => exact absurd hr (parts_ne r)
      | cons q t =>
        rw [hr] at ih
        rw [List.cons_append, parts_cons hc ih, parts_cons hc hr]; rfl
def join : List (List UInt8) → List UInt8
  | [] => []
  | [p] => p
  | p :: q :: t => p ++ 47 :: join (q :: t)
theorem join_cons (p : List UInt8) (q : List (List UInt8)) (h : q ≠ []) : join (p :: q) = p ++ 47 :: join q := by
  cases q with
  | nil => exact absurd rfl h
  | cons a t => rfl
theorem join_parts (l : List UInt8) : join (parts l) = l := by
  induction l with
  | nil => rfl
  | cons c r ih =>
    by_cases hc : c = 47
    · subst hc
      rw [parts, if_pos rfl, join_cons _ _ (parts_ne r), ih]; rfl
    · cases hr : parts r with
      | nil => exact absurd hr (parts_ne r)
      | cons q t =>
        rw [hr] at ih
        rw [parts_cons hc hr]
        cases t with
        | nil => simp only [join] at ih ⊢; rw [ih]
        | cons x y => simp only [join] at ih ⊢; rw [List.cons_append, ih]
theorem join_append (p q : List (List UInt8)) (hp : p ≠ []) (hq : q ≠ []) : join (p ++ q) = join p ++ 47 :: join q := by
  induction p with
  | nil => exact absurd rfl hp
  | cons a t ih =>
    cases t with
    | nil => rw [List.cons_append, List.nil_append, join_cons _ _ hq]; rfl
    | cons b u =>
      rw [List.cons_append, join_cons a (b :: u ++ q) (by simp), ih (by simp), join_cons a (b :: u) (by simp), List.append_assoc]; rfl
theorem under_parts (s t : List UInt8) (ht : t.isEmpty = false) : underB s t = (decide ((parts t).length ≤ (parts s).length) && ((parts s).take (parts t).length == parts t)) := by
  have ht' : ¬ t = [] := by cases t <;> simp_all
  rw [Bool.eq_iff_iff, under_iff, Bool.and_eq_true, decide_eq_true_iff, beq_iff_eq]
  constructor
  · rintro (h | rfl | ⟨r, rfl⟩)
    · exact absurd h ht'
    · exact ⟨Nat.le_refl _, List.take_length⟩
    · rw [parts_append]
      exact ⟨by simp, by simp⟩
  · rintro ⟨_, h⟩
    have e : parts s = parts t ++ (parts s).drop (parts t).length := by
      have := (List.take_append_drop (parts t).length (parts s)).symm
      rw [h] at this; exact this
    by_cases hq : (parts s).drop (parts t).length = []
    · rw [hq, List.append_nil] at e
      have := congrArg join e
      rw [join_parts, join_parts] at this
      exact Or.inr (Or.inl this)
    · have := congrArg join e
      rw [join_parts, join_append _ _ (parts_ne t) hq, join_parts] at this
      exact Or.inr (Or.inr ⟨_, this⟩)
end Go.Proofs.YthgjddbfjmgkhaaGreatDoor.Sc
