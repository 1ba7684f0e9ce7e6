/- NUMBERS THAT ARE NOT ALIKE HAVE TEXTS THAT ARE NOT ALIKE. No walk. -/
import Derived.Test.YtnccpddjdgndcaaGreatDoorFmtL
namespace Go.Proofs.YtnccpddjdgndcaaGreatDoor.Fmt
open Go.RowKit Go.Lib
/-- the text of a number above nought -/
def numT (b : Nat) : List UInt8 := gText (digs (short (fm b) (fE b)).1) ((nDigits (short (fm b) (fE b)).1 : Int) + (short (fm b) (fE b)).2)
/-- what FormatFloat writes of a number's bits ('g', the shortest) -/
def ftoaT (b : Nat) : List UInt8 :=
  if bexp b = 2047 then (if bman b ≠ 0 then [78, 97, 78] else if bneg b then [45, 73, 110, 102] else [43, 73, 110, 102])
  else if bexp b = 0 ∧ bman b = 0 then sgn (bneg b) ++ [48] else sgn (bneg b) ++ numT b
theorem short_p (m : Nat) (E : Int) (h : -348 ≤ sfP m E ∧ sfP m E ≤ 347) : -347 ≤ (short m E).2 ∧ (short m E).2 ≤ 349 := by
  unfold short
  split
  · show -347 ≤ -(sfP m E - 1) ∧ -(sfP m E - 1) ≤ 349; omega
  · split
    · show -347 ≤ -sfP m E ∧ -sfP m E ≤ 349; omega
    · show -347 ≤ -sfP m E ∧ -sfP m E ≤ 349; omega
theorem sfP_range (m : Nat) (E : Int) (h1 : -1137 ≤ E) (h2 : E ≤ 971) : -348 ≤ sfP m E ∧ sfP m E ≤ 347 := by
  have hP : sfP m E = sfP m E := rfl
  conv at hP => rhs; unfold sfP lg10 skew
  rw [hP]; split <;> (try split) <;> omega
/-- what is known of a number that is not nought -/
structure Num (b : Nat) : Prop where
  fin : bexp b ≤ 2046
  pos : bexp b ≠ 0 ∨ bman b ≠ 0
theorem bman_lt (b : Nat) : bman b < 4503599627370496 := Nat.mod_lt _ (by decide)
theorem Num.facts {b : Nat} (h : Num b) : 1 ≤ (short (fm b) (fE b)).1 ∧ (short (fm b) (fE b)).1 < 18446744073709551616 ∧ -347 ≤ (short (fm b) (fE b)).2 ∧ (short (fm b) (fE b)).2 ≤ 349 := by
  have hf := bman_lt b
  have hfin := h.fin
  by_cases he : bexp b = 0
  · have h0 : 1 ≤ bman b := by have := h.pos; omega
    obtain ⟨z, hz, z1, z2, hl, hm, hE, hZ, l1, l2⟩ := sub_facts b he h0
    have hlow : 2 ^ (63 - z) * 2 ^ z ≤ bman b * 2 ^ z := Nat.mul_le_mul_right _ l1
    have hhigh : (bman b + 1) * 2 ^ z ≤ 2 ^ (64 - z) * 2 ^ z := Nat.mul_le_mul_right _ l2
    rw [pow_join _ _ 63 (by omega), show (2 : Nat) ^ 63 = 9223372036854775808 by decide] at hlow
    rw [pow_join _ _ 64 (by omega), show (2 : Nat) ^ 64 = 18446744073709551616 by decide, Nat.succ_mul] at hhigh
    have hT : 0 < 2 ^ z := Nat.two_pow_pos _
    have h1 := short_oks (fm b) (fE b) z (by rw [hE]; omega) z1 z2 (by rw [hm]; omega) (by rw [hm]; omega)
    have h2 := short_p (fm b) (fE b) (sfP_range _ _ (by rw [hE]; omega) (by rw [hE]; omega))
    exact ⟨h1.1, h1.2, h2⟩
  · have hm : fm b = (4503599627370496 + bman b) * 2048 := by unfold fm; rw [if_neg he]
    have hE : fE b = (bexp b : Int) - 1086 := by unfold fE; rw [if_neg he]
    have h1 := short_okn (fm b) (fE b) (by rw [hm]; omega) (by rw [hm]; omega) (by rw [hE]; omega) (by rw [hE]; omega)
    have h2 := short_p (fm b) (fE b) (sfP_range _ _ (by rw [hE]; omega) (by rw [hE]; omega))
    exact ⟨h1.1, h1.2, h2⟩
theorem Num.nd {b : Nat} (h : Num b) : 1 ≤ (digs (short (fm b) (fE b)).1).length ∧ (digs (short (fm b) (fE b)).1).length ≤ 20 ∧ nDigits (short (fm b) (fE b)).1 ≤ 20 ∧ 1 ≤ nDigits (short (fm b) (fE b)).1 := by
  obtain ⟨f1, f2, _, _⟩ := h.facts
  exact ⟨digs_pos _ f1, digs_le _ f2, nDigits_le20 f2, nDigits_pos _⟩
/-- its text read back is its decimal -/
theorem Num.read {b : Nat} (h : Num b) (j : Nat) (hj : 600 ≤ j) : rdN (400 + j) (numT b) = fkey b * 10 ^ j := by
  obtain ⟨f1, f2, f3, f4⟩ := h.facts
  obtain ⟨g1, g2, g3, g4⟩ := h.nd
  have hl := digs_len_le (short (fm b) (fE b)).1
  have hv := digs_val (short (fm b) (fE b)).1
  have hD := digs_isD (short (fm b) (fE b)).1
  unfold numT fkey vN gText
  generalize (short (fm b) (fE b)).2 = p at *
  generalize (short (fm b) (fE b)).1 = d at *
  generalize digs d = D at *
  generalize nDigits d = n at *
  have key : dval D * 10 ^ (((400 + j : Nat) : Int) + ((n : Int) + p) - (D.length : Int)).toNat = d * 10 ^ (p + 400).toNat * 10 ^ j := by
    rw [← hv, Nat.mul_assoc, Nat.mul_assoc, ← Nat.pow_add, ← Nat.pow_add]
    congr 2
    omega
  rw [← key]
  split
  · exact rd_e (400 + j) D _ hD g1 (by omega) (by omega)
  · exact rd_f (400 + j) (by omega) D _ hD g1 g2 (by omega)
/-- the bytes of a number's text -/
def IsN (c : UInt8) : Prop := IsD c ∨ c = 43 ∨ c = 45 ∨ c = 46 ∨ c = 101
theorem exps_isD (x : Nat) : ∀ c ∈ exps x, IsD c := by
  intro c hc
  have hd : ∀ k, IsD (dg k) := fun k => by unfold IsD; rw [dg_nat]; omega
  unfold exps at hc
  split at hc
  · simp only [List.mem_cons, List.not_mem_nil, or_false] at hc
    rcases hc with rfl | rfl <;> exact hd _
  · simp only [List.mem_cons, List.not_mem_nil, or_false] at hc
    rcases hc with rfl | rfl | rfl <;> exact hd _
theorem gText_isN (D : List UInt8) (dp : Int) (hD : ∀ c ∈ D, IsD c) (h1 : 1 ≤ D.length) : ∀ c ∈ gText D dp, IsN c := by
  intro c hc
  unfold gText at hc
  split at hc
  · unfold eText at hc
    simp only [List.append_assoc, List.mem_append, List.mem_singleton] at hc
    rcases hc with hc | hc | hc | hc | hc
    · subst hc
      cases D with
      | nil => simp at h1
      | cons d r => exact .inl (hD d (List.mem_cons_self ..))
    · split at hc
      · rcases List.mem_append.1 hc with hc | hc
        · rw [List.mem_singleton] at hc; exact .inr (.inr (.inr (.inl hc)))
        · exact .inl (hD c (List.mem_of_mem_drop hc))
      · cases hc
    · exact .inr (.inr (.inr (.inr hc)))
    · split at hc
      · rw [List.mem_singleton] at hc; exact .inr (.inr (.inl hc))
      · rw [List.mem_singleton] at hc; exact .inr (.inl hc)
    · exact .inl (exps_isD _ c hc)
  · unfold fText at hc
    rcases List.mem_append.1 hc with hc | hc
    · split at hc
      · rcases List.mem_append.1 hc with hc | hc
        · exact .inl (hD c (List.mem_of_mem_take hc))
        · exact .inl (zeros_isD _ c hc)
      · exact .inl (zeros_isD 1 c hc)
    · split at hc
      · rcases List.mem_append.1 hc with hc | hc
        · rcases List.mem_append.1 hc with hc | hc
          · rw [List.mem_singleton] at hc; exact .inr (.inr (.inr (.inl hc)))
          · exact .inl (zeros_isD _ c hc)
        · exact .inl (hD c (List.mem_of_mem_drop hc))
      · cases hc
theorem gText_head (D : List UInt8) (dp : Int) (hD : ∀ c ∈ D, IsD c) (h1 : 1 ≤ D.length) : ∃ c r, gText D dp = c :: r ∧ IsD c := by
  cases D with
  | nil => simp at h1
  | cons d r =>
    have hd := hD d (List.mem_cons_self ..)
    unfold gText
    split
    · exact ⟨d, _, by unfold eText; rfl, hd⟩
    · unfold fText
      split
      · rename_i hp
        obtain ⟨q, hq⟩ : ∃ q, dp.toNat = q + 1 := ⟨dp.toNat - 1, by omega⟩
        exact ⟨d, _, by rw [hq]; rfl, hd⟩
      · exact ⟨48, _, rfl, by unfold IsD; decide⟩
theorem Num.isN {b : Nat} (h : Num b) : ∀ c ∈ numT b, IsN c := gText_isN _ _ (digs_isD _) h.nd.1
theorem Num.head {b : Nat} (h : Num b) : ∃ c r, numT b = c :: r ∧ IsD c := gText_head _ _ (digs_isD _) h.nd.1
end Go.Proofs.YtnccpddjdgndcaaGreatDoor.Fmt
