/- PLAIN FUNCTIONS ON NAMES. No program in sight. -/
namespace Go.Proofs.YthgjddbfjmgkhaaGreatDoor.Sc
/-- may a letter stand at a place of a name? -/
def chOk (i : Nat) (c : UInt8) : Bool := (decide (97 ≤ c.toNat) && decide (c.toNat ≤ 122)) || (decide (0 < i) && decide (48 ≤ c.toNat) && decide (c.toNat ≤ 57))
/-- may the letters stand from a place on? -/
def chsOk : Nat → List UInt8 → Bool
  | _, [] => true
  | i, c :: l => chOk i c && chsOk (i + 1) l
def nameB (l : List UInt8) : Bool := chsOk 0 l && !l.isEmpty && decide (l.length ≤ 12)

theorem chsOk_append (i : Nat) (a b : List UInt8) : chsOk i (a ++ b) = (chsOk i a && chsOk (i + a.length) b) := by
  induction a generalizing i with
  | nil => simp [chsOk]
  | cons c a ih =>
    simp only [List.cons_append, chsOk, ih, List.length_cons, Bool.and_assoc]
    rw [show i + 1 + a.length = i + (a.length + 1) by omega]
theorem chsOk_snoc (l : List UInt8) (k : Nat) (h : k < l.length) : chsOk 0 (l.take (k + 1)) = (chsOk 0 (l.take k) && chOk k l[k]) := by
  rw [List.take_succ_eq_append_getElem h, chsOk_append]
  simp [chsOk, List.length_take, Nat.min_eq_left (Nat.le_of_lt h)]
theorem chsOk_bad (l : List UInt8) (k : Nat) (h : k < l.length) (hc : chOk k l[k] = false) : chsOk 0 l = false := by
  have e : l = l.take (k + 1) ++ l.drop (k + 1) := (List.take_append_drop _ _).symm
  rw [e, chsOk_append, chsOk_snoc l k h, hc]; simp

end Go.Proofs.YthgjddbfjmgkhaaGreatDoor.Sc
