/- A NUMBER's TEXT READ BACK: the text tells the number apart. No walk. -/
import Derived.Test.YtnccpddjdgndcaaGreatDoorFmtE
import Derived.Test.YtnccpddjdgndcaaGreatDoorFmtK
namespace Go.Proofs.YtnccpddjdgndcaaGreatDoor.Fmt
open Go.RowKit Go.Lib
/-- a row of digits as a number -/
def dval (l : List UInt8) : Nat := l.foldl (fun a c => a * 10 + (c.toNat - 48)) 0
theorem dval_from (l : List UInt8) : ∀ a, l.foldl (fun a c => a * 10 + (c.toNat - 48)) a = a * 10 ^ l.length + dval l := by
  unfold dval
  induction l with
  | nil => intro a; simp
  | cons c l ih =>
    intro a
    rw [List.foldl_cons, List.foldl_cons, ih, ih (0 * 10 + (c.toNat - 48)), List.length_cons, Nat.pow_succ, Nat.add_mul, Nat.add_mul, Nat.mul_assoc, Nat.mul_comm 10]
    omega
theorem dval_append (a b : List UInt8) : dval (a ++ b) = dval a * 10 ^ b.length + dval b := by
  conv => lhs; unfold dval
  rw [List.foldl_append]
  exact dval_from b _
theorem dval_cons (c : UInt8) (l : List UInt8) : dval (c :: l) = (c.toNat - 48) * 10 ^ l.length + dval l := by
  rw [show c :: l = [c] ++ l from rfl, dval_append]
  congr 2
  simp [dval]
theorem dval_zeros (n : Nat) : dval (List.replicate n 48) = 0 := by
  induction n with
  | zero => rfl
  | succ n ih => rw [List.replicate_succ, dval_cons, ih]; simp
theorem dg_chr (u : Nat) : (UInt8.ofNat (48 + u % 10)).toNat = 48 + u % 10 := by
  show (48 + u % 10) % 256 = _
  omega
/-- a digit's byte -/
def IsD (c : UInt8) : Prop := 48 ≤ c.toNat ∧ c.toNat ≤ 57
theorem decDigits_val (u : Nat) : dval (decDigits u) = u ∧ ∀ c ∈ decDigits u, IsD c := by
  induction u using Nat.strongRecOn with
  | _ u ih =>
    by_cases h : u < 10
    · rw [decDigits_one h]
      have e : (UInt8.ofNat (48 + u)).toNat = 48 + u := by show (48 + u) % 256 = _; omega
      refine ⟨by simp [dval]; omega, fun c hc => ?_⟩
      rw [List.mem_singleton] at hc
      subst hc
      unfold IsD
      omega
    · rw [decDigits, dif_neg h]
      obtain ⟨i1, i2⟩ := ih (u / 10) (by omega)
      refine ⟨?_, fun c hc => ?_⟩
      · rw [dval_append, i1]
        have e := dg_chr u
        simp only [dval, List.foldl_cons, List.foldl_nil, List.length_cons, List.length_nil, e]
        omega
      · rcases List.mem_append.1 hc with hc | hc
        · exact i2 c hc
        · rw [List.mem_singleton] at hc
          subst hc
          unfold IsD
          rw [dg_chr]
          omega
theorem strip_spec (l : List UInt8) : ∀ k, k ≤ l.length → l.take k = l.take (stripN l k) ++ List.replicate (k - stripN l k) 48 := by
  intro k
  induction k with
  | zero => intro _; simp [stripN]
  | succ k ih =>
    intro hk
    have hl : k < l.length := by omega
    have hs := stripN_le l k
    unfold stripN
    split
    · rename_i h
      rw [getElem!_pos l k hl] at h
      rw [List.take_succ_eq_append_getElem hl, ih (by omega), h, List.append_assoc]
      congr 1
      rw [show k + 1 - stripN l k = (k - stripN l k) + 1 by omega, List.replicate_succ']
    · simp
theorem digs_split (u : Nat) : decDigits u = digs u ++ List.replicate (nDigits u - (digs u).length) 48 := by
  have h := strip_spec (decDigits u) (nDigits u) (by rw [decDigits_length]; exact Nat.le_refl _)
  rw [digs_len]
  rw [List.take_of_length_le (by rw [decDigits_length]; exact Nat.le_refl _)] at h
  exact h
theorem digs_val (u : Nat) : dval (digs u) * 10 ^ (nDigits u - (digs u).length) = u := by
  have h := (decDigits_val u).1
  rw [digs_split, dval_append, dval_zeros, List.length_replicate] at h
  exact h
theorem digs_isD (u : Nat) : ∀ c ∈ digs u, IsD c := fun c hc => (decDigits_val u).2 c (by rw [digs_split]; exact List.mem_append_left _ hc)
theorem digs_len_le (u : Nat) : (digs u).length ≤ nDigits u := by rw [digs_len]; exact stripN_le _ _
/-- a text is read: what is ahead of the 'e', what is behind it; what is ahead of the point, what is behind it -/
def cutAt (c : UInt8) (l : List UInt8) : List UInt8 × List UInt8 := (l.takeWhile (· != c), (l.dropWhile (· != c)).drop 1)
theorem cut_none (c : UInt8) (l : List UInt8) (h : ∀ x ∈ l, x ≠ c) : cutAt c l = (l, []) := by
  unfold cutAt
  have h1 : l.takeWhile (· != c) = l := by
    induction l with
    | nil => rfl
    | cons x l ih => rw [List.takeWhile_cons, if_pos (by simpa using h x (List.mem_cons_self ..)), ih fun y hy => h y (List.mem_cons_of_mem _ hy)]
  have h2 : l.dropWhile (· != c) = [] := by
    clear h1
    induction l with
    | nil => rfl
    | cons x l ih => rw [List.dropWhile_cons, if_pos (by simpa using h x (List.mem_cons_self ..)), ih fun y hy => h y (List.mem_cons_of_mem _ hy)]
  rw [h1, h2]; rfl
theorem cut_some (c : UInt8) (a r : List UInt8) (h : ∀ x ∈ a, x ≠ c) : cutAt c (a ++ c :: r) = (a, r) := by
  unfold cutAt
  have h1 : (a ++ c :: r).takeWhile (· != c) = a := by
    induction a with
    | nil => simp
    | cons x l ih => rw [List.cons_append, List.takeWhile_cons, if_pos (by simpa using h x (List.mem_cons_self ..)), ih fun y hy => h y (List.mem_cons_of_mem _ hy)]
  have h2 : (a ++ c :: r).dropWhile (· != c) = c :: r := by
    clear h1
    induction a with
    | nil => simp
    | cons x l ih => rw [List.cons_append, List.dropWhile_cons, if_pos (by simpa using h x (List.mem_cons_self ..)), ih fun y hy => h y (List.mem_cons_of_mem _ hy)]
  rw [h1, h2]; rfl
def exOf : List UInt8 → Int
  | 45 :: r => -(dval r : Int)
  | 43 :: r => dval r
  | _ => 0
/-- a number's text as a whole number of a small unit -/
def rdN (K : Nat) (t : List UInt8) : Nat :=
  dval ((cutAt 46 (cutAt 101 t).1).1 ++ (cutAt 46 (cutAt 101 t).1).2) * 10 ^ ((K : Int) + exOf (cutAt 101 t).2 - ((cutAt 46 (cutAt 101 t).1).2.length : Int)).toNat
theorem isD_ne {c : UInt8} (h : IsD c) (k : UInt8) (hk : k.toNat < 48 ∨ 57 < k.toNat) : c ≠ k := by
  rintro rfl
  unfold IsD at h
  omega
theorem ne_e {D : List UInt8} (h : ∀ c ∈ D, IsD c) : ∀ c ∈ D, c ≠ 101 := fun c hc => isD_ne (h c hc) 101 (by decide)
theorem ne_p {D : List UInt8} (h : ∀ c ∈ D, IsD c) : ∀ c ∈ D, c ≠ 46 := fun c hc => isD_ne (h c hc) 46 (by decide)
theorem exps_val (x : Nat) (h : x < 1000) : dval (exps x) = x := by
  unfold exps
  split
  · simp only [dval, List.foldl_cons, List.foldl_nil, dg_nat]; omega
  · simp only [dval, List.foldl_cons, List.foldl_nil, dg_nat]; omega
/-- without a point, without an exponent -/
theorem rd_plain (K : Nat) (i : List UInt8) (hi : ∀ c ∈ i, IsD c) : rdN K i = dval i * 10 ^ K := by
  unfold rdN
  rw [cut_none 101 _ (ne_e hi), cut_none 46 _ (ne_p hi)]
  simp only [exOf, List.append_nil, List.length_nil]
  congr 2
theorem rd_point (K : Nat) (i f : List UInt8) (hi : ∀ c ∈ i, IsD c) (hf : ∀ c ∈ f, IsD c) : rdN K (i ++ 46 :: f) = dval (i ++ f) * 10 ^ ((K : Int) - (f.length : Int)).toNat := by
  unfold rdN
  have h : ∀ c ∈ i ++ 46 :: f, c ≠ 101 := by
    intro c hc
    rcases List.mem_append.1 hc with hc | hc
    · exact ne_e hi c hc
    · rcases List.mem_cons.1 hc with rfl | hc
      · decide
      · exact ne_e hf c hc
  rw [cut_none 101 _ h, cut_some 46 _ _ (ne_p hi)]
  simp only [exOf, Int.add_zero]
theorem rd_exp (K : Nat) (i s : List UInt8) (hi : ∀ c ∈ i, IsD c) : rdN K (i ++ 101 :: s) = dval i * 10 ^ ((K : Int) + exOf s).toNat := by
  unfold rdN
  rw [cut_some 101 _ _ (ne_e hi), cut_none 46 _ (ne_p hi)]
  simp
theorem rd_both (K : Nat) (i f s : List UInt8) (hi : ∀ c ∈ i, IsD c) (hf : ∀ c ∈ f, IsD c) : rdN K ((i ++ 46 :: f) ++ 101 :: s) = dval (i ++ f) * 10 ^ ((K : Int) + exOf s - (f.length : Int)).toNat := by
  unfold rdN
  have h : ∀ c ∈ i ++ 46 :: f, c ≠ 101 := by
    intro c hc
    rcases List.mem_append.1 hc with hc | hc
    · exact ne_e hi c hc
    · rcases List.mem_cons.1 hc with rfl | hc
      · decide
      · exact ne_e hf c hc
  rw [cut_some 101 _ _ h, cut_some 46 _ _ (ne_p hi)]
theorem zeros_isD (n : Nat) : ∀ c ∈ List.replicate n (48 : UInt8), IsD c := by
  intro c hc
  rw [List.eq_of_mem_replicate hc]
  unfold IsD
  decide
theorem app_isD {a b : List UInt8} (ha : ∀ c ∈ a, IsD c) (hb : ∀ c ∈ b, IsD c) : ∀ c ∈ a ++ b, IsD c := fun c hc => (List.mem_append.1 hc).elim (ha c) (hb c)
theorem rd_e (K : Nat) (D : List UInt8) (dp : Int) (hD : ∀ c ∈ D, IsD c) (h1 : 1 ≤ D.length) (hlo : -400 ≤ dp) (hhi : dp ≤ 400) :
    rdN K (eText D dp) = dval D * 10 ^ ((K : Int) + dp - (D.length : Int)).toNat := by
  cases D with
  | nil => simp at h1
  | cons d r =>
    have hd : ∀ c ∈ [d], IsD c := fun c hc => hD c (by rw [List.mem_singleton] at hc; subst hc; exact List.mem_cons_self ..)
    have hr : ∀ c ∈ r, IsD c := fun c hc => hD c (List.mem_cons_of_mem _ hc)
    have hx : exOf ((if dp - 1 < 0 then [45] else [43]) ++ exps (dp - 1).natAbs) = dp - 1 := by
      split
      · show -((dval (exps (dp - 1).natAbs) : Nat) : Int) = _
        rw [exps_val _ (by omega)]; omega
      · show ((dval (exps (dp - 1).natAbs) : Nat) : Int) = _
        rw [exps_val _ (by omega)]; omega
    cases r with
    | nil =>
      have e : eText [d] dp = [d] ++ 101 :: ((if dp - 1 < 0 then [45] else [43]) ++ exps (dp - 1).natAbs) := by
        unfold eText; simp
      rw [e, rd_exp _ _ _ hd, hx]
      congr 2
      simp; omega
    | cons f r =>
      have e : eText (d :: f :: r) dp = ([d] ++ 46 :: (f :: r)) ++ 101 :: ((if dp - 1 < 0 then [45] else [43]) ++ exps (dp - 1).natAbs) := by
        unfold eText; simp
      rw [e, rd_both _ _ _ _ hd hr, hx]
      congr 2
      simp; omega
theorem rd_f (K : Nat) (hK : 1000 ≤ K) (D : List UInt8) (dp : Int) (hD : ∀ c ∈ D, IsD c) (h1 : 1 ≤ D.length) (hl : D.length ≤ 20) (hlo : -400 ≤ dp) :
    rdN K (fText D dp) = dval D * 10 ^ ((K : Int) + dp - (D.length : Int)).toNat := by
  rcases Int.lt_or_le 0 dp with hp | hp
  · obtain ⟨q, rfl⟩ : ∃ q : Nat, dp = (q : Int) := ⟨dp.toNat, by omega⟩
    rcases Nat.lt_or_ge q D.length with hq | hq
    · have e : fText D (q : Int) = D.take q ++ 46 :: D.drop q := by
        have h3 : (-(q : Int)).toNat = 0 := by omega
        have h4 : q - D.length = 0 := by omega
        rw [fText, if_pos hp, if_pos (by omega), Int.toNat_natCast, h3, h4]
        simp
      rw [e, rd_point _ _ _ (fun c hc => hD c (List.mem_of_mem_take hc)) (fun c hc => hD c (List.mem_of_mem_drop hc)), List.take_append_drop, List.length_drop]
      congr 2
      omega
    · have e : fText D (q : Int) = D ++ List.replicate (q - D.length) 48 := by
        rw [fText, if_pos hp, if_neg (by omega), Int.toNat_natCast, List.take_of_length_le hq]
        simp
      rw [e, rd_plain K _ (app_isD hD (zeros_isD _)), dval_append, dval_zeros, List.length_replicate, Nat.add_zero, Nat.mul_assoc, ← Nat.pow_add]
      congr 2
      omega
  · have e : fText D dp = [48] ++ 46 :: (List.replicate (-dp).toNat 48 ++ D) := by
      have h3 : dp.toNat = 0 := by omega
      rw [fText, if_neg (by omega), if_pos (by omega), h3]; simp
    rw [e, rd_point K [48] _ (zeros_isD 1) (app_isD (zeros_isD _) hD)]
    rw [show [48] ++ (List.replicate (-dp).toNat 48 ++ D) = (List.replicate 1 48 ++ List.replicate (-dp).toNat 48) ++ D by simp, dval_append, List.replicate_append_replicate, dval_zeros, Nat.zero_mul, Nat.zero_add, List.length_append, List.length_replicate]
    congr 2
    omega
end Go.Proofs.YtnccpddjdgndcaaGreatDoor.Fmt
