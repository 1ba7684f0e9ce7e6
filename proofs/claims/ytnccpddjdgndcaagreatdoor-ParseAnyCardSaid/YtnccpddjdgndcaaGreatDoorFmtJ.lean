/- THE SHORTEST DIGITS TELL NUMBERS APART: number by number they rise. No walk. -/
import Derived.Test.YtnccpddjdgndcaaGreatDoorFmtI
import Derived.Test.YtnccpddjdgndcaaGreatDoorFmtH
namespace Go.Proofs.YtnccpddjdgndcaaGreatDoor.Fmt
theorem loT_lt (i : Nat) : loT i < 18446744073709551616 := by
  have h : ∀ x ∈ Go.Pinned.pow10Rows, x.1 < 18446744073709551616 ∧ x.2 < 18446744073709551616 := by decide +kernel
  unfold loT
  by_cases hi : i < Go.Pinned.pow10Rows.length
  · rw [List.getD_eq_getElem?_getD, List.getElem?_eq_getElem hi]
    exact (h _ (List.getElem_mem hi)).2
  · rw [List.getD_eq_getElem?_getD, List.getElem?_eq_none (by omega)]
    decide
/-- a number of a binade that is not the binade's foot -/
structure Plain (m : Nat) (E : Int) : Prop where
  ok : okE E = true
  ns : ¬ (m = 9223372036854775808 ∧ -1085 < E)
  low : 9223372036854775808 ≤ m
  high : m + 2 ^ (sfZ E - 1) < 18446744073709551616
  whole : E = -11 → m % 2048 = 0
theorem Plain.facts {m : Nat} {E : Int} (h : Plain m E) : iN E < 696 ∧ 1 ≤ sN E ∧ sN E ≤ 58 ∧ 1 ≤ sfZ E ∧ sfZ E ≤ 63 ∧
    (2 * 2 ^ (sfZ E - 1) * loT (iN E) / 18446744073709551616 + 1 + (18446744073709551616 * 2 ^ sN E * 4 + 2) ≤ 2 * 2 ^ (sfZ E - 1) * hiT (iN E) ∨ E = -11) := by
  have := h.ok
  unfold okE at this
  simp only [Bool.and_eq_true, Bool.or_eq_true, decide_eq_true_eq] at this
  obtain ⟨⟨⟨⟨⟨a, b⟩, c⟩, d⟩, e⟩, f⟩ := this
  exact ⟨a, b, c, d, e, f⟩
theorem Plain.p {m : Nat} {E : Int} (h : Plain m E) : sfP m E = pN E := by unfold sfP; rw [if_neg h.ns]; rfl
theorem Plain.u {m : Nat} {E : Int} (h : Plain m E) (x : Nat) : sfU m E x = usc x (hiT (iN E)) (loT (iN E)) (sN E) := by
  unfold sfU sfI sfS iN sN; rw [h.p]
theorem nudge_up (u o : Nat) (h : u < 9223372036854775808) (ho : o < 2) : cl (nudge u o) = (u + o + 3) / 4 := by unfold cl nudge; omega
theorem nudge_dn (u o : Nat) (h : u < 9223372036854775808) (ho : o < 2) (h7 : 7 ≤ u) : flr (nudge u (-(o : Int))) = (u - o) / 4 := by unfold flr nudge; omega
/-- what is taken lies between the bounds -/
theorem Plain.key {m : Nat} {E : Int} (h : Plain m E) : ∃ c, vN (short m E) = c * 10 ^ (400 - pN E).toNat ∧ sfLo m E ≤ c ∧ c ≤ sfHi m E := by
  obtain ⟨f1, f2, f3, f4, f5, f6⟩ := h.facts
  obtain ⟨t1, t2⟩ := hiT_big _ f1
  have t3 := loT_lt (iN E)
  have hp : pN E < 348 := by unfold iN at f1; omega
  have hmin : sfMin m E = m - 2 ^ (sfZ E - 1) := by unfold sfMin; rw [if_neg h.ns]
  have hmax : sfMax m E = m + 2 ^ (sfZ E - 1) := rfl
  have hlo : sfLo m E = cl (nudge (sfU m E (m - 2 ^ (sfZ E - 1))) (sfOdd m E)) := by unfold sfLo; rw [hmin]
  have hhi : sfHi m E = flr (nudge (sfU m E (m + 2 ^ (sfZ E - 1))) (-(sfOdd m E : Int))) := by unfold sfHi; rw [hmax]
  have ho : sfOdd m E < 2 := Nat.mod_lt _ (by decide)
  have hT : 2 ^ (sfZ E - 1) ≤ 2 ^ 62 := Nat.pow_le_pow_right (by decide) (by omega)
  have hT0 : 0 < 2 ^ (sfZ E - 1) := Nat.two_pow_pos _
  rw [show (2 : Nat) ^ 62 = 4611686018427387904 by decide] at hT
  have hl := h.low
  have hx := h.high
  have hwh := h.whole
  have hS : 0 < 2 ^ sN E := Nat.two_pow_pos _
  have hW : 18446744073709551616 * 2 ^ sN E * 4 = 18446744073709551616 * 2 ^ sN E * 4 := rfl
  obtain ⟨qn, rn, en, ln, an, bn⟩ := u_spec (m - 2 ^ (sfZ E - 1)) (hiT (iN E)) (loT (iN E)) (sN E) _ (by omega) (by omega) (by omega) t2 t3 hW
  obtain ⟨qm, rm, em, lm, am, bm⟩ := u_spec m (hiT (iN E)) (loT (iN E)) (sN E) _ (by omega) (by omega) (by omega) t2 t3 hW
  obtain ⟨qx, rx, ex, lx, ax, bx⟩ := u_spec (m + 2 ^ (sfZ E - 1)) (hiT (iN E)) (loT (iN E)) (sN E) _ (by omega) (by omega) (by omega) t2 t3 hW
  have g1 := usc_lt63 (m - 2 ^ (sfZ E - 1)) _ (loT (iN E)) (sN E) (by omega) t2 f2
  have g2 := usc_lt63 m _ (loT (iN E)) (sN E) (by omega) t2 f2
  have g3 := usc_lt63 (m + 2 ^ (sfZ E - 1)) _ (loT (iN E)) (sN E) (by omega) t2 f2
  have k3 := usc_ge (m + 2 ^ (sfZ E - 1)) _ (loT (iN E)) (sN E) (by omega) (by omega) t1 t2 f3
  have hmid := gsc_mid m (2 ^ (sfZ E - 1)) (hiT (iN E)) (loT (iN E)) (by omega) (by omega) (by omega) t3
  have hN : gsc (m - 2 ^ (sfZ E - 1)) (hiT (iN E)) (loT (iN E)) + 18446744073709551616 * 2 ^ sN E * 4 + 2 ≤ gsc (m + 2 ^ (sfZ E - 1)) (hiT (iN E)) (loT (iN E)) ∨
      (gsc (m - 2 ^ (sfZ E - 1)) (hiT (iN E)) (loT (iN E)) + 18446744073709551616 * 2 ^ sN E * 4 ≤ gsc (m + 2 ^ (sfZ E - 1)) (hiT (iN E)) (loT (iN E)) ∧ 2 ≤ rn) := by
    rcases f6 with f6 | f6
    · left
      have := gsc_gap m (2 ^ (sfZ E - 1)) (hiT (iN E)) (loT (iN E)) _ (by omega) (by omega) (by omega) t3 f6
      omega
    · right
      subst f6
      have hz : sfZ (-11) = 11 := by decide
      obtain ⟨r1, r2, r3⟩ := row_one
      have hw := hwh rfl
      have gone : ∀ x, gsc x 9223372036854775808 0 = x * 9223372036854775808 := fun x => by unfold gsc; simp
      simp only [hz, r1, r2, r3, gone, show (2 : Nat) ^ (11 - 1) = 1024 by decide, show (2 : Nat) ^ 8 = 256 by decide] at en ln hx ⊢
      clear hW em ex hmid am ax an bm bn bx g1 g2 g3 k3 hlo hhi
      omega
  have key := pick (18446744073709551616 * 2 ^ sN E * 4) _ _ _ qn rn qm rm qx rx _ _ _ (sfLo m E) (sfHi m E) (sfOdd m E) (by omega) en em ex ln lm lx an am ax bn bm bx hmid.1 hmid.2 hN ho (by omega)
    (by rw [hlo, h.u, nudge_up _ _ g1 ho]) (by rw [hhi, h.u, nudge_dn _ _ g3 ho k3]) g2
  rw [← h.u m] at key
  have hpw : (400 - pN E).toNat = (400 - pN E).toNat := rfl
  unfold short vN
  rw [h.p]
  split
  · rename_i hc
    refine ⟨sfHi m E / 10 * 10, ?_, hc, by omega⟩
    show sfHi m E / 10 * 10 ^ (-(pN E - 1) + 400).toNat = _
    rw [show (-(pN E - 1) + 400).toNat = (400 - pN E).toNat + 1 by omega, Nat.pow_succ, Nat.mul_comm (10 ^ _) 10, ← Nat.mul_assoc]
  · split
    · rename_i hc
      refine ⟨rnd (sfU m E m), ?_, (key.2 hc).1, (key.2 hc).2⟩
      show rnd (sfU m E m) * 10 ^ (-pN E + 400).toNat = _
      rw [show (-pN E + 400).toNat = (400 - pN E).toNat by omega]
    · refine ⟨sfLo m E, ?_, Nat.le_refl _, key.1⟩
      show sfLo m E * 10 ^ (-pN E + 400).toNat = _
      rw [show (-pN E + 400).toNat = (400 - pN E).toNat by omega]
/-- neighbours' bounds do not meet -/
theorem Plain.apart {m : Nat} {E : Int} (h : Plain m E) (k : Plain (m + 2 ^ sfZ E) E) : sfHi m E < sfLo (m + 2 ^ sfZ E) E := by
  obtain ⟨f1, f2, f3, f4, f5, _⟩ := h.facts
  obtain ⟨t1, t2⟩ := hiT_big _ f1
  have hT2 : 2 ^ sfZ E = 2 ^ (sfZ E - 1) * 2 := by rw [← Nat.pow_succ]; congr 1; omega
  have hT0 : 0 < 2 ^ (sfZ E - 1) := Nat.two_pow_pos _
  have hmin : sfMin (m + 2 ^ sfZ E) E = m + 2 ^ (sfZ E - 1) := by unfold sfMin; rw [if_neg k.ns]; omega
  have hlo : sfLo (m + 2 ^ sfZ E) E = cl (nudge (usc (m + 2 ^ (sfZ E - 1)) (hiT (iN E)) (loT (iN E)) (sN E)) (sfOdd (m + 2 ^ sfZ E) E)) := by unfold sfLo; rw [hmin, k.u]
  have hhi : sfHi m E = flr (nudge (usc (m + 2 ^ (sfZ E - 1)) (hiT (iN E)) (loT (iN E)) (sN E)) (-(sfOdd m E : Int))) := by unfold sfHi; rw [h.u]; rfl
  have ho : sfOdd m E < 2 := Nat.mod_lt _ (by decide)
  have ho2 : sfOdd (m + 2 ^ sfZ E) E < 2 := Nat.mod_lt _ (by decide)
  have hoo : sfOdd (m + 2 ^ sfZ E) E = (sfOdd m E + 1) % 2 := by
    unfold sfOdd
    rw [Nat.add_div_right _ (Nat.two_pow_pos _)]
    omega
  have hl := h.low
  have hx := h.high
  have g3 := usc_lt63 (m + 2 ^ (sfZ E - 1)) _ (loT (iN E)) (sN E) (by omega) t2 f2
  have k3 := usc_ge (m + 2 ^ (sfZ E - 1)) _ (loT (iN E)) (sN E) (by omega) (by omega) t1 t2 f3
  rw [hlo, hhi, nudge_up _ _ g3 ho2, nudge_dn _ _ g3 ho k3]
  omega
theorem Plain.step {m : Nat} {E : Int} (h : Plain m E) (k : Plain (m + 2 ^ sfZ E) E) : vN (short m E) < vN (short (m + 2 ^ sfZ E) E) := by
  obtain ⟨c, e, _, h2⟩ := h.key
  obtain ⟨d, f, k1, _⟩ := k.key
  have := h.apart k
  rw [e, f]
  exact Nat.mul_lt_mul_of_pos_right (by omega) (Nat.pow_pos (by decide))
end Go.Proofs.YtnccpddjdgndcaaGreatDoor.Fmt
