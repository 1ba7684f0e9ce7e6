/- PLAIN FUNCTIONS ON TEXTS: names, what stands between the /, scopes, what is below a scope. No program in sight. -/
import Derived.Lib.Bytealg
namespace Go.Proofs.Ytpmgooefkkbpbaa.Sc

/-- may a letter stand at a place of a name? -/
def chOk (i : Nat) (c : UInt8) : Bool := (decide (97 ≤ c.toNat) && decide (c.toNat ≤ 122)) || (decide (0 < i) && decide (48 ≤ c.toNat) && decide (c.toNat ≤ 57))
/-- may the letters stand from a place on? -/
def chsOk : Nat → List UInt8 → Bool
  | _, [] => true
  | i, c :: l => chOk i c && chsOk (i + 1) l
def nameB (l : List UInt8) : Bool := chsOk 0 l && !l.isEmpty && decide (l.length ≤ 12)

theorem chsOk_append (i : Nat) (a b : List UInt8) : chsOk i (a ++ b) = (chsOk i a && chsOk (i + a.length) b) := by
  induction a generalizing i with
  | nil => simp [chsOk]
  | cons c a ih =>
    simp only [List.cons_append, chsOk, ih, List.length_cons, Bool.and_assoc]
    rw [show i + 1 + a.length = i + (a.length + 1) by omega]
theorem chsOk_snoc (l : List UInt8) (k : Nat) (h : k < l.length) : chsOk 0 (l.take (k + 1)) = (chsOk 0 (l.take k) && chOk k l[k]) := by
  rw [List.take_succ_eq_append_getElem h, chsOk_append]
  simp [chsOk, List.length_take, Nat.min_eq_left (Nat.le_of_lt h)]
theorem chsOk_bad (l : List UInt8) (k : Nat) (h : k < l.length) (hc : chOk k l[k] = false) : chsOk 0 l = false := by
  have e : l = l.take (k + 1) ++ l.drop (k + 1) := (List.take_append_drop _ _).symm
  rw [e, chsOk_append, chsOk_snoc l k h, hc]; simp

/-- what stands between the / -/
def parts : List UInt8 → List (List UInt8)
  | [] => [[]]
  | b :: r => if b = 47 then [] :: parts r else
    match parts r with
    | [] => [[b]]
    | p :: q => (b :: p) :: q
theorem parts_ne (l : List UInt8) : parts l ≠ [] := by
  cases l with
  | nil => simp [parts]
  | cons b r =>
    unfold parts; split
    · simp
    · split <;> simp
theorem parts_cons {c : UInt8} {r p : List UInt8} {q : List (List UInt8)} (hc : ¬ c = 47) (h : parts r = p :: q) : parts (c :: r) = (c :: p) :: q := by
  rw [parts, if_neg hc, h]
theorem parts_slash (a b : List UInt8) (h : 47 ∉ a) : parts (a ++ 47 :: b) = a :: parts b := by
  induction a with
  | nil => simp [parts]
  | cons c a ih =>
    have hc : ¬ c = 47 := fun e => h (by simp [e])
    have ih := ih (fun m => h (by simp [m]))
    rw [List.cons_append]; exact parts_cons hc ih
theorem parts_none (a : List UInt8) (h : 47 ∉ a) : parts a = [a] := by
  induction a with
  | nil => simp [parts]
  | cons c a ih =>
    have hc : ¬ c = 47 := fun e => h (by simp [e])
    have ih := ih (fun m => h (by simp [m]))
    exact parts_cons hc ih
theorem parts_length (l : List UInt8) : (parts l).length ≤ l.length + 1 := by
  induction l with
  | nil => simp [parts]
  | cons b r ih =>
    unfold parts; split
    · simp; omega
    · split <;> simp_all; omega

/-- the first / -/
theorem slash_cases (l : List UInt8) : (Lib.indexByte l 47 = -1 ∧ 47 ∉ l) ∨
    (∃ a b, l = a ++ 47 :: b ∧ 47 ∉ a ∧ Lib.indexByte l 47 = a.length) := by
  induction l with
  | nil => left; simp [Lib.indexByte]
  | cons c r ih =>
    by_cases hc : c = 47
    · right; exact ⟨[], r, by simp [hc], by simp, by simp [Lib.indexByte, hc]⟩
    · have h1 : (c == (47 : UInt8)) = false := by simp [hc]
      rcases ih with ⟨e, hn⟩ | ⟨a, b, e, hn, hi⟩
      · left; refine ⟨?_, by simp [hn]; exact fun h => hc h.symm⟩
        unfold Lib.indexByte; rw [h1, e]; rfl
      · right
        refine ⟨c :: a, b, by simp [e], by simp [hn]; exact fun h => hc h.symm, ?_⟩
        have h2 : ((a.length : Int) == -1) = false := by rw [beq_eq_false_iff_ne]; omega
        unfold Lib.indexByte; rw [h1, hi, h2]; simp

/-- may it be a scope? -/
def rightB (l : List UInt8) : Bool := l.isEmpty || ((parts l).all nameB && decide ((parts l).length ≤ 4))
/-- is it the other one, or below it? -/
def underB (s t : List UInt8) : Bool := t.isEmpty || s == t || (t.isPrefixOf s && (s.drop t.length).head? == some 47)
end Go.Proofs.Ytpmgooefkkbpbaa.Sc
