/- A NUMBER's TEXT AS A VALUE HAS IT (a point at its end where it has none): unlike numbers have unlike texts. No walk. -/
import Derived.Test.YtnccpddjdgndcaaGreatDoorFmtV
import Derived.Lib.IndexAny
namespace Go.Proofs.YtnccpddjdgndcaaGreatDoor.Fmt
open Go.RowKit Go.Lib
/-- has it a point, an exponent, or is it none, or without end? -/
def marked (t : List UInt8) : Bool := Lib.containsAny t [46, 101, 73, 78]
/-- a number's text as a value has it -/
def fltT (b : Nat) : List UInt8 := if marked (ftoaT b) then ftoaT b else ftoaT b ++ [46, 48]
theorem indexAny_iff (t cs : List UInt8) : (0 ≤ Lib.indexAny t cs) ↔ ∃ c ∈ t, c ∈ cs := by
  induction t with
  | nil => simp [Lib.indexAny]
  | cons b l ih =>
    have hge := Lib.indexAny_ge cs l
    unfold Lib.indexAny
    by_cases hb : b ∈ cs
    · simp [hb]
    · simp only [List.contains_iff_mem, hb, if_false, List.mem_cons]
      split
      · rename_i h
        rw [beq_iff_eq] at h
        constructor
        · intro h2; exact absurd h2 (by decide)
        · rintro ⟨c, hc | hc, hcs⟩
          · subst hc; exact absurd hcs hb
          · have := ih.2 ⟨c, hc, hcs⟩; omega
      · rename_i h
        rw [beq_iff_eq] at h
        have : 0 ≤ Lib.indexAny l cs := by omega
        obtain ⟨c, hc, hcs⟩ := ih.1 this
        constructor
        · intro _; exact ⟨c, .inr hc, hcs⟩
        · intro _; omega
theorem marked_iff (t : List UInt8) : marked t = true ↔ ∃ c ∈ t, c = 46 ∨ c = 101 ∨ c = 73 ∨ c = 78 := by
  unfold marked Lib.containsAny
  rw [decide_eq_true_eq, indexAny_iff]
  simp
theorem gText_point (D : List UInt8) (dp : Int) (hD : ∀ c ∈ D, IsD c) (h : ∀ c ∈ gText D dp, c ≠ 101) : ∀ c ∈ gText D dp, IsD c ∨ c = 46 := by
  intro c hc
  unfold gText at hc h
  split at hc
  · rename_i he
    rw [if_pos he] at h
    exact absurd rfl (h 101 (by unfold eText; simp))
  · unfold fText at hc
    rcases List.mem_append.1 hc with hc | hc
    · split at hc
      · rcases List.mem_append.1 hc with hc | hc
        · exact .inl (hD c (List.mem_of_mem_take hc))
        · exact .inl (zeros_isD _ c hc)
      · exact .inl (zeros_isD 1 c hc)
    · split at hc
      · rcases List.mem_append.1 hc with hc | hc
        · rcases List.mem_append.1 hc with hc | hc
          · rw [List.mem_singleton] at hc; exact .inr hc
          · exact .inl (zeros_isD _ c hc)
        · exact .inl (hD c (List.mem_of_mem_drop hc))
      · cases hc
/-- the part behind the sign, of what is finite: a digit first; read back it is the decimal -/
structure Body (b : Nat) (X : List UInt8) : Prop where
  txt : fltT b = sgn (bneg b) ++ X
  head : ∃ c r, X = c :: r ∧ IsD c
  chr : ∀ c ∈ X, IsN c
  read : ∀ j, 600 ≤ j → rdN (400 + j) X = (if bexp b = 0 ∧ bman b = 0 then 0 else fkey b * 10 ^ j)
theorem fkey_pos {b : Nat} (h : Num b) : 1 ≤ fkey b := by
  obtain ⟨f1, _⟩ := h.facts
  unfold fkey vN
  exact Nat.mul_pos f1 (Nat.pow_pos (by decide))
theorem dval_end (i : List UInt8) : dval (i ++ [48]) = dval i * 10 := by
  rw [dval_append]
  simp [dval]
theorem body_fin (b : Nat) (h : bexp b ≤ 2046) : ∃ X, Body b X := by
  by_cases hz : bexp b = 0 ∧ bman b = 0
  · have hft : ftoaT b = sgn (bneg b) ++ [48] := by unfold ftoaT; rw [if_neg (by omega), if_pos hz]
    have hm : marked (ftoaT b) = false := by
      rw [hft]
      cases bneg b <;> decide
    refine ⟨[48, 46, 48], ?_, ⟨48, _, rfl, by unfold IsD; decide⟩, ?_, ?_⟩
    · unfold fltT
      rw [hm, if_neg (by decide), hft, List.append_assoc]; rfl
    · intro c hc
      simp only [List.mem_cons, List.not_mem_nil, or_false] at hc
      rcases hc with rfl | rfl | rfl
      · exact .inl (by unfold IsD; decide)
      · exact .inr (.inr (.inr (.inl rfl)))
      · exact .inl (by unfold IsD; decide)
    · intro j _
      rw [if_pos hz]
      refine (rd_point _ [48] [48] (zeros_isD 1) (zeros_isD 1)).trans ?_
      rw [show dval ([48] ++ [48]) = 0 by decide, Nat.zero_mul]
  · have hn : Num b := ⟨h, by omega⟩
    have hft : ftoaT b = sgn (bneg b) ++ numT b := by unfold ftoaT; rw [if_neg (by omega), if_neg hz]
    obtain ⟨c0, r0, he, hd0⟩ := hn.head
    cases hm : marked (ftoaT b)
    · have hno : ∀ c ∈ numT b, c ≠ 101 ∧ c ≠ 46 := by
        intro c hc
        have : ¬ ∃ c ∈ ftoaT b, c = 46 ∨ c = 101 ∨ c = 73 ∨ c = 78 := by rw [← marked_iff, hm]; decide
        refine ⟨fun e => this ⟨c, by rw [hft]; exact List.mem_append_right _ hc, .inr (.inl e)⟩, fun e => this ⟨c, by rw [hft]; exact List.mem_append_right _ hc, .inl e⟩⟩
      have hD : ∀ c ∈ numT b, IsD c := fun c hc => (gText_point _ _ (digs_isD _) (fun c hc => (hno c hc).1) c hc).elim id (fun e => absurd e (hno c hc).2)
      refine ⟨numT b ++ [46, 48], ?_, ⟨c0, r0 ++ [46, 48], by rw [he]; rfl, hd0⟩, ?_, ?_⟩
      · unfold fltT
        rw [hm, if_neg (by decide), hft, List.append_assoc]
      · intro c hc
        rcases List.mem_append.1 hc with hc | hc
        · exact .inl (hD c hc)
        · simp only [List.mem_cons, List.not_mem_nil, or_false] at hc
          rcases hc with rfl | rfl
          · exact .inr (.inr (.inr (.inl rfl)))
          · exact .inl (by unfold IsD; decide)
      · intro j hj
        have hr := hn.read j hj
        rw [rd_plain _ _ hD] at hr
        rw [if_neg hz, ← hr]
        refine (rd_point _ (numT b) [48] hD (zeros_isD 1)).trans ?_
        rw [dval_end]
        rw [show (((400 + j : Nat) : Int) - (([48] : List UInt8).length : Int)).toNat = 399 + j by simp; omega, show 400 + j = (399 + j) + 1 by omega, Nat.pow_succ, Nat.mul_assoc, Nat.mul_comm 10]
    · refine ⟨numT b, by unfold fltT; rw [hm, if_pos rfl, hft], ⟨c0, r0, he, hd0⟩, hn.isN, ?_⟩
      intro j hj
      rw [if_neg hz]
      exact hn.read j hj
theorem fkey_low (b : Nat) : fkey (b % 9223372036854775808) = fkey b := by
  have e1 : bexp (b % 9223372036854775808) = bexp b := by unfold bexp; omega
  have e2 : bman (b % 9223372036854775808) = bman b := by unfold bman; omega
  unfold fkey fm fE fz
  rw [e1, e2]
/-- finite numbers with one text are one number -/
theorem fltT_fin (a b : Nat) (ha : a < 18446744073709551616) (hb : b < 18446744073709551616) (fa : bexp a ≤ 2046) (fb : bexp b ≤ 2046) (h : fltT a = fltT b) : a = b := by
  obtain ⟨X, hX⟩ := body_fin a fa
  obtain ⟨Y, hY⟩ := body_fin b fb
  have h2 := h
  rw [hX.txt, hY.txt] at h2
  obtain ⟨x, xs, ex, dx⟩ := hX.head
  obtain ⟨y, ys, ey, dy⟩ := hY.head
  have n45 : ∀ {c : UInt8}, IsD c → c ≠ 45 := fun hc => isD_ne hc 45 (by decide)
  have hs : bneg a = bneg b ∧ X = Y := by
    cases na : bneg a <;> cases nb : bneg b <;> rw [na, nb] at h2
    · exact ⟨rfl, h2⟩
    · exfalso
      rw [ex] at h2
      exact n45 dx (List.cons.inj h2).1
    · exfalso
      rw [ey] at h2
      exact n45 dy (List.cons.inj h2).1.symm
    · exact ⟨rfl, (List.cons.inj h2).2⟩
  obtain ⟨hn, rfl⟩ := hs
  have hk : ∀ j, 600 ≤ j → (if bexp a = 0 ∧ bman a = 0 then 0 else fkey a * 10 ^ j) = (if bexp b = 0 ∧ bman b = 0 then 0 else fkey b * 10 ^ j) := fun j hj => (hX.read j hj).symm.trans (hY.read j hj)
  obtain ⟨j, hj⟩ : ∃ j, j = 600 := ⟨600, rfl⟩
  have key := hk j (by omega)
  clear hk
  have pw : 0 < 10 ^ j := Nat.pow_pos (by decide)
  generalize 10 ^ j = W at *
  have pa : a = (if bneg a then 9223372036854775808 else 0) + bexp a * 4503599627370496 + bman a := by
    unfold bneg bexp bman
    by_cases hq : a / 9223372036854775808 = 0
    · simp only [hq, ne_eq, not_true, decide_false, Bool.false_eq_true, if_false]; omega
    · simp only [hq, ne_eq, not_false_eq_true, decide_true, if_true]; omega
  have pb : b = (if bneg b then 9223372036854775808 else 0) + bexp b * 4503599627370496 + bman b := by
    unfold bneg bexp bman
    by_cases hq : b / 9223372036854775808 = 0
    · simp only [hq, ne_eq, not_true, decide_false, Bool.false_eq_true, if_false]; omega
    · simp only [hq, ne_eq, not_false_eq_true, decide_true, if_true]; omega
  have la := bman_lt a
  have lb := bman_lt b
  by_cases za : bexp a = 0 ∧ bman a = 0
  · by_cases zb : bexp b = 0 ∧ bman b = 0
    · rw [pa, pb, hn, za.1, za.2, zb.1, zb.2]
    · exfalso
      have := Nat.mul_pos (fkey_pos ⟨fb, by omega⟩) pw
      rw [if_pos za, if_neg zb] at key
      omega
  · by_cases zb : bexp b = 0 ∧ bman b = 0
    · exfalso
      have := Nat.mul_pos (fkey_pos ⟨fa, by omega⟩) pw
      rw [if_neg za, if_pos zb] at key
      omega
    · rw [if_neg za, if_neg zb] at key
      have hfk := Nat.eq_of_mul_eq_mul_right pw key
      rw [← fkey_low a, ← fkey_low b] at hfk
      have low : ∀ c, c < 18446744073709551616 → bexp c ≤ 2046 → ¬ (bexp c = 0 ∧ bman c = 0) → 1 ≤ c % 9223372036854775808 ∧ c % 9223372036854775808 < 9218868437227405312 := by
        intro c _ h1 h2
        unfold bexp bman at *
        omega
      have la2 := low a ha fa za
      have lb2 := low b hb fb zb
      have := fkey_inj _ _ la2.1 lb2.1 la2.2 lb2.2 hfk
      have e1 : bexp a = bexp b := by unfold bexp; omega
      have e2 : bman a = bman b := by unfold bman; omega
      rw [pa, pb, hn, e1, e2]
/-- the texts of what is without end, and of what is none -/
theorem fltT_inf (b : Nat) (he : bexp b = 2047) (hm : bman b = 0) : fltT b = (if bneg b then [45, 73, 110, 102] else [43, 73, 110, 102]) := by
  have : ftoaT b = (if bneg b then [45, 73, 110, 102] else [43, 73, 110, 102]) := by unfold ftoaT; rw [if_pos he, if_neg (by omega)]
  unfold fltT
  rw [this]
  cases bneg b <;> rfl
theorem fltT_nan (b : Nat) (he : bexp b = 2047) (hm : bman b ≠ 0) : fltT b = [78, 97, 78] := by
  have : ftoaT b = [78, 97, 78] := by unfold ftoaT; rw [if_pos he, if_pos hm]
  unfold fltT
  rw [this]
  rfl
end Go.Proofs.YtnccpddjdgndcaaGreatDoor.Fmt
