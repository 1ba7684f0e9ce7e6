/- PLAIN: a filter's text in pieces; blanks around. No program in sight. -/
import Derived.Lib.TrimByte
namespace Go.Proofs.YthgjddbfjmgkhaaGreatDoor.Pa
/-- the pieces of a text between its & outside of quotes (q: inside; cur: what stands since the last piece) -/
def cutGo : Bool → List UInt8 → List UInt8 → List (List UInt8)
  | _, cur, [] => [cur]
  | q, cur, [c] => if (q && c == 92) = true then [cur ++ [c]] else if (c == 34) = true then [cur ++ [c]] else if (c == 38 && !q) = true then [cur, []] else [cur ++ [c]]
  | q, cur, c :: d :: r => if (q && c == 92) = true then cutGo q (cur ++ [c, d]) r else if (c == 34) = true then cutGo (!q) (cur ++ [c]) (d :: r) else if (c == 38 && !q) = true then cur :: cutGo false [] (d :: r) else cutGo q (cur ++ [c]) (d :: r)
def cutP (s : List UInt8) : List (List UInt8) := cutGo false [] s
theorem cutGo_skip (q : Bool) (cur : List UInt8) (c : UInt8) (r : List UInt8) (h : (q && c == 92) = true) : cutGo q cur (c :: r) = cutGo q (cur ++ c :: r.take 1) (r.drop 1) := by
  cases r with
  | nil => simp [cutGo, h]
  | cons d r => simp only [cutGo, h, if_true]; simp
theorem cutGo_quote (q : Bool) (cur : List UInt8) (c : UInt8) (r : List UInt8) (h : (q && c == 92) = false) (h2 : (c == 34) = true) : cutGo q cur (c :: r) = cutGo (!q) (cur ++ [c]) r := by
  cases r with
  | nil => simp [cutGo, h, h2]
  | cons d r => simp only [cutGo, h, h2, if_true]; simp
theorem cutGo_and (q : Bool) (cur : List UInt8) (c : UInt8) (r : List UInt8) (h : (q && c == 92) = false) (h2 : (c == 34) = false) (h3 : (c == 38 && !q) = true) : cutGo q cur (c :: r) = cur :: cutGo false [] r := by
  cases r with
  | nil => simp only [cutGo, h, h2, h3]; simp
  | cons d r => simp only [cutGo, h, h2, h3, if_true]; simp
theorem cutGo_else (q : Bool) (cur : List UInt8) (c : UInt8) (r : List UInt8) (h : (q && c == 92) = false) (h2 : (c == 34) = false) (h3 : (c == 38 && !q) = false) : cutGo q cur (c :: r) = cutGo q (cur ++ [c]) r := by
  cases r with
  | nil => simp only [cutGo, h, h2, h3]; simp
  | cons d r => simp only [cutGo, h, h2, h3]; simp
theorem cur_more {s r : List UInt8} {fr i : Nat} {c : UInt8} (h : s.drop i = c :: r) (hfr : fr ≤ i) : (s.drop fr).take (i - fr) ++ [c] = (s.drop fr).take (i + 1 - fr) ∧ r = s.drop (i + 1) := by
  constructor
  · rw [show i + 1 - fr = (i - fr) + 1 from by omega, List.take_add, List.drop_drop, show fr + (i - fr) = i from by omega, h]; rfl
  · rw [← List.drop_drop, h]; rfl
theorem cur_skip {s r : List UInt8} {fr i : Nat} {c : UInt8} (h : s.drop i = c :: r) (hfr : fr ≤ i) : (s.drop fr).take (i - fr) ++ c :: r.take 1 = (s.drop fr).take (i + 2 - fr) ∧ r.drop 1 = s.drop (i + 2) := by
  constructor
  · rw [show i + 2 - fr = (i - fr) + 2 from by omega, List.take_add, List.drop_drop, show fr + (i - fr) = i from by omega, h]; rfl
  · rw [show i + 2 = i + 1 + 1 from rfl, ← List.drop_drop, ← List.drop_drop, h]; rfl
/-- blanks around -/
abbrev trimP (s : List UInt8) : List UInt8 := Lib.trimB s 32
theorem dropWhile_app (p : UInt8 → Bool) : ∀ (l m : List UInt8), (∀ x ∈ l, p x = true) → (l ++ m).dropWhile p = m.dropWhile p
  | [], _, _ => rfl
  | x :: l, m, h => by
    rw [List.cons_append, List.dropWhile_cons, if_pos (h x (by simp))]
    exact dropWhile_app p l m (fun y hy => h y (by simp [hy]))
theorem dropWhile_stop (p : UInt8 → Bool) (m : List UInt8) (h : ∀ x, m.head? = some x → p x = false) : m.dropWhile p = m := by
  cases m with
  | nil => rfl
  | cons x m => rw [List.dropWhile_cons, if_neg (by rw [h x rfl]; simp)]
/-- blanks, a text without blanks at its ends, blanks -/
theorem trimP_of {a m b : List UInt8} (ha : ∀ x ∈ a, x = 32) (hb : ∀ x ∈ b, x = 32) (h1 : ∀ x, m.head? = some x → x ≠ 32) (h2 : ∀ x, m.getLast? = some x → x ≠ 32) : trimP (a ++ (m ++ b)) = m := by
  show Lib.trimLeftB (Lib.trimRightB (a ++ (m ++ b)) 32) 32 = m
  cases m with
  | nil =>
    have : Lib.trimRightB (a ++ ([] ++ b)) 32 = [] := by
      unfold Lib.trimRightB
      have e := dropWhile_app (· == 32) (a ++ ([] ++ b)).reverse [] (fun x hx => by
        have : x ∈ a ∨ x ∈ b := by simpa [or_comm] using hx
        rcases this with h | h
        · simp [ha x h]
        · simp [hb x h])
      rw [List.append_nil] at e
      rw [e]; rfl
    rw [this]; rfl
  | cons y m =>
    have e : Lib.trimRightB (a ++ (y :: m ++ b)) 32 = a ++ y :: m := by
      unfold Lib.trimRightB
      rw [show (a ++ (y :: m ++ b)).reverse = b.reverse ++ (a ++ y :: m).reverse from by simp]
      rw [dropWhile_app _ _ _ (fun x hx => by simp [hb x (by simpa using hx)])]
      rw [dropWhile_stop _ _ (fun x hx => ?_), List.reverse_reverse]
      have : (y :: m).getLast? = some x := by
        rw [List.head?_reverse, List.getLast?_append] at hx
        simpa using hx
      simpa using h2 x this
    rw [e]
    unfold Lib.trimLeftB
    rw [dropWhile_app _ _ _ (fun x hx => by simp [ha x hx])]
    exact dropWhile_stop _ _ (fun x hx => by simpa using h1 x hx)
theorem takeWhile_all (p : UInt8 → Bool) : ∀ (l : List UInt8), ∀ x ∈ l.takeWhile p, p x = true
  | [], x, h => by simp at h
  | y :: l, x, h => by
    rw [List.takeWhile_cons] at h
    split at h
    · rcases List.mem_cons.1 h with rfl | h
      · assumption
      · exact takeWhile_all p l x h
    · simp at h
theorem dropWhile_head (p : UInt8 → Bool) : ∀ (l : List UInt8) (x : UInt8), (l.dropWhile p).head? = some x → p x = false
  | [], x, h => by simp at h
  | y :: l, x, h => by
    rw [List.dropWhile_cons] at h
    split at h
    · exact dropWhile_head p l x h
    · rename_i hy
      simp only [List.head?_cons, Option.some.injEq] at h
      subst h
      simpa using hy
/-- the two orders of trimming -/
theorem trim_turn (s : List UInt8) : Lib.trimRightB (Lib.trimLeftB s 32) 32 = trimP s := by
  obtain ⟨a, m', e, ha, hm⟩ : ∃ a m', s = a ++ m' ∧ (∀ x ∈ a, x = 32) ∧ (∀ x, m'.head? = some x → x ≠ 32) :=
    ⟨s.takeWhile (· == 32), s.dropWhile (· == 32), (List.takeWhile_append_dropWhile).symm, fun x hx => by simpa using takeWhile_all _ s x hx, fun x hx => by simpa using dropWhile_head _ s x hx⟩
  have e1 : Lib.trimLeftB s 32 = m' := by
    unfold Lib.trimLeftB
    rw [e, dropWhile_app _ _ _ (fun x hx => by simp [ha x hx])]
    exact dropWhile_stop _ _ (fun x hx => by simpa using hm x hx)
  rw [e1]
  obtain ⟨b, m, e2, hb, hl⟩ : ∃ b m, m' = m ++ b ∧ (∀ x ∈ b, x = 32) ∧ (∀ x, m.getLast? = some x → x ≠ 32) := by
    refine ⟨(m'.reverse.takeWhile (· == 32)).reverse, (m'.reverse.dropWhile (· == 32)).reverse, ?_, fun x hx => ?_, fun x hx => ?_⟩
    · rw [← List.reverse_append, List.takeWhile_append_dropWhile, List.reverse_reverse]
    · have h := takeWhile_all _ m'.reverse x (by simpa using hx)
      simp only [beq_iff_eq] at h
      exact h
    · rw [List.getLast?_reverse] at hx
      simpa using dropWhile_head _ m'.reverse x hx
  have e3 : Lib.trimRightB m' 32 = m := by
    unfold Lib.trimRightB
    rw [e2, List.reverse_append, dropWhile_app _ _ _ (fun x hx => by simp [hb x (by simpa using hx)]), dropWhile_stop _ _ (fun x hx => ?_), List.reverse_reverse]
    rw [List.head?_reverse] at hx
    simpa using hl x hx
  rw [e3, e, e2]
  refine (trimP_of ha hb (fun x hx => ?_) hl).symm
  refine hm x ?_
  rw [e2]
  cases m with
  | nil => simp at hx
  | cons y m => simpa using hx
end Go.Proofs.YthgjddbfjmgkhaaGreatDoor.Pa
