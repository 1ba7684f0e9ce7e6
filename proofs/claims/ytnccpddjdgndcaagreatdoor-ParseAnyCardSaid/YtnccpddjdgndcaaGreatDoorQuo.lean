/- WHAT strconv.Quote WRITES TELLS TEXTS APART, whatever stands behind. No walk. -/
import Derived.Lib.QuoteLoop
import Derived.Lib.MapLaws
import Derived.Laws.BytesArg
namespace Go.Proofs.YtnccpddjdgndcaaGreatDoor.Quo
open Go.RowKit Go.Lib
/-- a rune, or (below nought) a byte that is none -/
def symOf (l : List UInt8) : Int := if (decodeL l).2 = 1 ∧ (decodeL l).1 = 65533 then -((l.getD 0 0).toNat : Int) else ((decodeL l).1 : Int)
def code (T : PrintTabs) (s : Int) : List Int := if s < 0 then [92, 120, hexDigit ((-s).toNat / 16), hexDigit ((-s).toNat % 16)] else escRune T s
def uh (x : Int) : Int := if x < 58 then x - 48 else x - 87
theorem uh_hex (x : Nat) (h : x < 16) : uh (hexDigit x) = x := by
  unfold uh hexDigit
  split
  · rw [if_pos (by omega)]; omega
  · rw [if_neg (by omega)]; omega
/-- the first sign of a quoted text, and the rest -/
def dec : List Int → Option (Int × List Int)
  | [] => none
  | x :: r =>
    if x = 92 then
      match r with
      | [] => none
      | y :: t =>
        if y = 34 then some (34, t) else if y = 92 then some (92, t) else if y = 97 then some (7, t) else if y = 98 then some (8, t) else if y = 102 then some (12, t)
        else if y = 110 then some (10, t) else if y = 114 then some (13, t) else if y = 116 then some (9, t) else if y = 118 then some (11, t)
        else if y = 120 then
          match t with
          | a :: b :: t => if uh a * 16 + uh b < 128 then some (uh a * 16 + uh b, t) else some (-(uh a * 16 + uh b), t)
          | _ => none
        else if y = 117 then
          match t with
          | a :: b :: c :: d :: t => some (uh a * 4096 + uh b * 256 + uh c * 16 + uh d, t)
          | _ => none
        else
          match t with
          | a :: b :: c :: d :: e :: f :: g :: h :: t => some (uh a * 268435456 + uh b * 16777216 + uh c * 1048576 + uh d * 65536 + uh e * 4096 + uh f * 256 + uh g * 16 + uh h, t)
          | _ => none
    else if x < 128 then some (x, r)
    else if x < 224 then
      match r with
      | y :: t => some ((x - 192) * 64 + (y - 128), t)
      | _ => none
    else if x < 240 then
      match r with
      | y :: z :: t => some ((x - 224) * 4096 + (y - 128) * 64 + (z - 128), t)
      | _ => none
    else
      match r with
      | y :: z :: v :: t => some ((x - 240) * 262144 + (y - 128) * 4096 + (z - 128) * 64 + (v - 128), t)
      | _ => none
/-- a sign that may stand: a rune that is valid, or a byte from 128 on -/
def Sym (s : Int) : Prop := (-256 < s ∧ s ≤ -128) ∨ (0 ≤ s ∧ s < 55296) ∨ (57343 < s ∧ s ≤ 1114111)
theorem dec_x (a b : Nat) (t : List Int) (ha : a < 16) (hb : b < 16) : dec (92 :: 120 :: hexDigit a :: hexDigit b :: t) = if (a : Int) * 16 + b < 128 then some ((a : Int) * 16 + b, t) else some (-((a : Int) * 16 + b), t) := by
  have e : ∀ x y : Int, dec (92 :: 120 :: x :: y :: t) = if uh x * 16 + uh y < 128 then some (uh x * 16 + uh y, t) else some (-(uh x * 16 + uh y), t) := fun _ _ => rfl
  rw [e, uh_hex a ha, uh_hex b hb]
theorem hex4 (r : Nat) : hexDigits r 4 = [hexDigit (r / 4096 % 16), hexDigit (r / 256 % 16), hexDigit (r / 16 % 16), hexDigit (r / 1 % 16)] := rfl
theorem hex8 (r : Nat) : hexDigits r 8 = [hexDigit (r / 268435456 % 16), hexDigit (r / 16777216 % 16), hexDigit (r / 1048576 % 16), hexDigit (r / 65536 % 16), hexDigit (r / 4096 % 16), hexDigit (r / 256 % 16), hexDigit (r / 16 % 16), hexDigit (r / 1 % 16)] := rfl
theorem dec_u (r : Nat) (t : List Int) (h : r < 65536) : dec ((92 :: 117 :: hexDigits r 4) ++ t) = some ((r : Int), t) := by
  rw [hex4]
  have e : ∀ a b c d : Int, dec (92 :: 117 :: a :: b :: c :: d :: t) = some (uh a * 4096 + uh b * 256 + uh c * 16 + uh d, t) := fun _ _ _ _ => rfl
  refine (e _ _ _ _).trans ?_
  rw [uh_hex _ (Nat.mod_lt _ (by decide)), uh_hex _ (Nat.mod_lt _ (by decide)), uh_hex _ (Nat.mod_lt _ (by decide)), uh_hex _ (Nat.mod_lt _ (by decide))]
  congr 2
  omega
theorem dec_U (r : Nat) (t : List Int) (h : r < 4294967296) : dec ((92 :: 85 :: hexDigits r 8) ++ t) = some ((r : Int), t) := by
  rw [hex8]
  have e : ∀ a b c d e f g h : Int, dec (92 :: 85 :: a :: b :: c :: d :: e :: f :: g :: h :: t) = some (uh a * 268435456 + uh b * 16777216 + uh c * 1048576 + uh d * 65536 + uh e * 4096 + uh f * 256 + uh g * 16 + uh h, t) := fun _ _ _ _ _ _ _ _ => rfl
  refine (e _ _ _ _ _ _ _ _).trans ?_
  rw [uh_hex _ (Nat.mod_lt _ (by decide)), uh_hex _ (Nat.mod_lt _ (by decide)), uh_hex _ (Nat.mod_lt _ (by decide)), uh_hex _ (Nat.mod_lt _ (by decide)), uh_hex _ (Nat.mod_lt _ (by decide)), uh_hex _ (Nat.mod_lt _ (by decide)), uh_hex _ (Nat.mod_lt _ (by decide)), uh_hex _ (Nat.mod_lt _ (by decide))]
  congr 2
  omega
theorem dec_raw (r : Int) (t : List Int) (h0 : (0 ≤ r ∧ r < 55296) ∨ (57343 < r ∧ r ≤ 1114111)) (h1 : r ≠ 92) : dec (encodeRuneZ r ++ t) = some (r, t) := by
  unfold encodeRuneZ
  split
  · simp only [List.cons_append, List.nil_append, dec]
    rw [if_neg h1, if_pos (by omega)]
  split
  · simp only [List.cons_append, List.nil_append, dec]
    rw [if_neg (by omega), if_neg (by omega), if_pos (by omega)]
    congr 2
    omega
  split
  · simp only [List.cons_append, List.nil_append, dec]
    rw [if_neg (by omega), if_neg (by omega), if_neg (by omega), if_pos (by omega)]
    congr 2
    omega
  split
  · simp only [List.cons_append, List.nil_append, dec]
    rw [if_neg (by omega), if_neg (by omega), if_neg (by omega), if_neg (by omega)]
    congr 2
    omega
  · omega
theorem dec_code (T : PrintTabs) (s : Int) (t : List Int) (hs : Sym s) : dec (code T s ++ t) = some (s, t) := by
  unfold code Sym at *
  by_cases hneg : s < 0
  · rw [if_pos hneg]
    obtain ⟨b, rfl⟩ : ∃ b : Nat, s = -(b : Int) := ⟨(-s).toNat, by omega⟩
    rw [show (- -(b : Int)).toNat = b by omega]
    have h := dec_x (b / 16) (b % 16) t (by omega) (by omega)
    rw [if_neg (by omega)] at h
    refine h.trans ?_
    congr 2
    omega
  · rw [if_neg hneg]
    rw [escRune.eq_1]
    refine dite (s = 34 ∨ s = 92) (fun h => ?_) (fun c0 => ?_)
    · rw [if_pos h]
      rcases h with rfl | rfl <;> rfl
    rw [if_neg c0]
    refine dite (isPrintR T s = true) (fun h => ?_) (fun c1 => ?_)
    · rw [if_pos h]
      exact dec_raw s t (by omega) (by omega)
    rw [if_neg c1]
    split
    · rename_i h; subst h; rfl
    split
    · rename_i h; subst h; rfl
    split
    · rename_i h; subst h; rfl
    split
    · rename_i h; subst h; rfl
    split
    · rename_i h; subst h; rfl
    split
    · rename_i h; subst h; rfl
    split
    · rename_i h; subst h; rfl
    split
    · rename_i h
      obtain ⟨b, rfl⟩ : ∃ b : Nat, s = (b : Int) := ⟨s.toNat, by omega⟩
      rw [Int.toNat_natCast]
      have h2 := dec_x (b / 16) (b % 16) t (by omega) (by omega)
      rw [if_pos (by omega)] at h2
      refine h2.trans ?_
      congr 2
      omega
    split
    · rename_i h
      exfalso
      unfold validRune at h
      rw [decide_eq_false_iff_not] at h
      omega
    obtain ⟨b, rfl⟩ : ∃ b : Nat, s = (b : Int) := ⟨s.toNat, by omega⟩
    rw [Int.toNat_natCast]
    split
    · exact dec_u b t (by omega)
    · exact dec_U b t (by omega)
theorem hexDigit_rng (x : Nat) (h : x < 16) : 0 ≤ hexDigit x ∧ hexDigit x < 256 := by unfold hexDigit; split <;> omega
/-- the signs are bytes, and no quote begins one -/
theorem code_rng (T : PrintTabs) (s : Int) (hs : Sym s) : (∀ n ∈ code T s, 0 ≤ n ∧ n < 256) ∧ ∃ c r, code T s = c :: r ∧ c ≠ 34 := by
  have hx : ∀ k, 0 ≤ hexDigit (k % 16) ∧ hexDigit (k % 16) < 256 := fun k => hexDigit_rng _ (Nat.mod_lt _ (by decide))
  unfold code Sym at *
  by_cases hneg : s < 0
  · rw [if_pos hneg]
    refine ⟨?_, 92, _, rfl, by decide⟩
    have h1 := hexDigit_rng ((-s).toNat / 16) (by omega)
    have h2 := hx (-s).toNat
    intro n hn
    simp only [List.mem_cons, List.not_mem_nil, or_false] at hn
    rcases hn with rfl | rfl | rfl | rfl <;> first | omega | exact h1 | exact h2
  · rw [if_neg hneg]
    rw [escRune.eq_1]
    refine dite (s = 34 ∨ s = 92) (fun h => ?_) (fun c0 => ?_)
    · rw [if_pos h]
      refine ⟨?_, 92, _, rfl, by decide⟩
      intro n hn
      simp only [List.mem_cons, List.not_mem_nil, or_false] at hn
      omega
    rw [if_neg c0]
    refine dite (isPrintR T s = true) (fun h => ?_) (fun c1 => ?_)
    · rw [if_pos h]
      unfold encodeRuneZ
      split
      · refine ⟨?_, s, _, rfl, by omega⟩
        intro n hn
        simp only [List.mem_cons, List.not_mem_nil, or_false] at hn
        omega
      split
      · refine ⟨?_, _, _, rfl, by omega⟩
        intro n hn
        simp only [List.mem_cons, List.not_mem_nil, or_false] at hn
        omega
      split
      · refine ⟨?_, _, _, rfl, by omega⟩
        intro n hn
        simp only [List.mem_cons, List.not_mem_nil, or_false] at hn
        omega
      split
      · refine ⟨?_, _, _, rfl, by omega⟩
        intro n hn
        simp only [List.mem_cons, List.not_mem_nil, or_false] at hn
        omega
      · omega
    rw [if_neg c1]
    have two : ∀ c : Int, 0 ≤ c → c < 256 → (∀ n ∈ [92, c], 0 ≤ n ∧ n < 256) ∧ ∃ d r, [92, c] = d :: r ∧ d ≠ (34 : Int) := fun c h1 h2 => by
      refine ⟨?_, 92, _, rfl, by decide⟩
      intro n hn
      simp only [List.mem_cons, List.not_mem_nil, or_false] at hn
      omega
    refine dite (s = 7) (fun h => ?_) (fun d0 => ?_)
    · rw [if_pos h]; exact two 97 (by decide) (by decide)
    rw [if_neg d0]
    refine dite (s = 8) (fun h => ?_) (fun d1 => ?_)
    · rw [if_pos h]; exact two 98 (by decide) (by decide)
    rw [if_neg d1]
    refine dite (s = 12) (fun h => ?_) (fun d2 => ?_)
    · rw [if_pos h]; exact two 102 (by decide) (by decide)
    rw [if_neg d2]
    refine dite (s = 10) (fun h => ?_) (fun d3 => ?_)
    · rw [if_pos h]; exact two 110 (by decide) (by decide)
    rw [if_neg d3]
    refine dite (s = 13) (fun h => ?_) (fun d4 => ?_)
    · rw [if_pos h]; exact two 114 (by decide) (by decide)
    rw [if_neg d4]
    refine dite (s = 9) (fun h => ?_) (fun d5 => ?_)
    · rw [if_pos h]; exact two 116 (by decide) (by decide)
    rw [if_neg d5]
    refine dite (s = 11) (fun h => ?_) (fun d6 => ?_)
    · rw [if_pos h]; exact two 118 (by decide) (by decide)
    rw [if_neg d6]
    refine dite (s < 32 ∨ s = 127) (fun h => ?_) (fun d7 => ?_)
    · rw [if_pos h]
      refine ⟨?_, 92, _, rfl, by decide⟩
      have h1 := hexDigit_rng (s.toNat / 16) (by omega)
      have h2 := hx s.toNat
      intro n hn
      simp only [List.mem_cons, List.not_mem_nil, or_false] at hn
      rcases hn with rfl | rfl | rfl | rfl <;> first | omega | exact h1 | exact h2
    rw [if_neg d7]
    have hv : ¬ validRune s = false := by
      unfold validRune
      rw [decide_eq_false_iff_not]
      omega
    rw [if_neg hv]
    refine dite (s < 65536) (fun h => ?_) (fun d8 => ?_)
    · rw [if_pos h]
      refine ⟨?_, 92, _, rfl, by decide⟩
      rw [hex4]
      intro n hn
      simp only [List.mem_cons, List.not_mem_nil, or_false] at hn
      rcases hn with rfl | rfl | rfl | rfl | rfl | rfl <;> first | omega | exact hx _
    · rw [if_neg d8]
      refine ⟨?_, 92, _, rfl, by decide⟩
      rw [hex8]
      intro n hn
      simp only [List.mem_cons, List.not_mem_nil, or_false] at hn
      rcases hn with rfl | rfl | rfl | rfl | rfl | rfl | rfl | rfl | rfl | rfl <;> first | omega | exact hx _
/-- what a text begins with -/
theorem sym_ok (l : List UInt8) (hl : l ≠ []) : Sym (symOf l) ∧ 1 ≤ (decodeL l).2 ∧ (decodeL l).2 ≤ l.length ∧ ((decodeL l).2 = 1 ∧ (decodeL l).1 = 65533 → symOf l < 0) := by
  have h0 : 0 < l.length := List.length_pos_iff.2 hl
  have k0 := (l.getD 0 0).toNat_lt
  have k1 := (l.getD 1 0).toNat_lt
  have k2 := (l.getD 2 0).toNat_lt
  have k3 := (l.getD 3 0).toNat_lt
  unfold symOf Sym
  rw [decodeL_N]
  rcases decodeN_shape l.length (l.getD 0 0).toNat (l.getD 1 0).toNat (l.getD 2 0).toNat (l.getD 3 0).toNat with ⟨c, e⟩ | ⟨c1, c2, c3, cv, e⟩ | ⟨c1, c2, c3, c4, cv, cs, e⟩ | ⟨c1, c2, c3, c4, c5, cv, cw, e⟩ | e
  · rw [e, if_neg (by simp only; omega)]
    exact ⟨by simp only; omega, by simp only; omega, by simp only; omega, fun hb => absurd hb (by simp only; omega)⟩
  · rw [e, if_neg (by simp only; omega)]
    exact ⟨by simp only; omega, by simp only; omega, by simp only; omega, fun hb => absurd hb (by simp only; omega)⟩
  · rw [e, if_neg (by simp only; omega)]
    exact ⟨by simp only; omega, by simp only; omega, by simp only; omega, fun hb => absurd hb (by simp only; omega)⟩
  · rw [e, if_neg (by simp only; omega)]
    exact ⟨by simp only; omega, by simp only; omega, by simp only; omega, fun hb => absurd hb (by simp only; omega)⟩
  · have hb : 128 ≤ (l.getD 0 0).toNat := by
      rcases Nat.lt_or_ge (l.getD 0 0).toNat 128 with h | h
      · exfalso
        unfold decodeN at e
        rw [if_pos h] at e
        have := congrArg Prod.fst e
        simp only at this
        omega
      · exact h
    rw [e, if_pos ⟨rfl, rfl⟩]
    exact ⟨.inl ⟨by omega, by omega⟩, Nat.le_refl _, h0, fun _ => by omega⟩
/-- texts that begin with one sign begin with the same bytes -/
theorem sym_bytes (l m : List UInt8) (hl : l ≠ []) (hm : m ≠ []) (h : symOf l = symOf m) : l.take (decodeL l).2 = m.take (decodeL m).2 := by
  have one : ∀ k : List UInt8, k ≠ [] → (decodeL k).2 = 1 ∧ (decodeL k).1 = 65533 → k.take (decodeL k).2 = [k.getD 0 0] := fun k hk hb => by
    rw [hb.1]; exact takeA k (List.length_pos_iff.2 hk)
  have neg := (sym_ok l hl).2.2.2
  have neg2 := (sym_ok m hm).2.2.2
  have pos : ∀ k : List UInt8, ¬ ((decodeL k).2 = 1 ∧ (decodeL k).1 = 65533) → symOf k = ((decodeL k).1 : Int) := fun k hb => by unfold symOf; rw [if_neg hb]
  by_cases bl : (decodeL l).2 = 1 ∧ (decodeL l).1 = 65533 <;> by_cases bm : (decodeL m).2 = 1 ∧ (decodeL m).1 = 65533
  · rw [one l hl bl, one m hm bm]
    unfold symOf at h
    rw [if_pos bl, if_pos bm] at h
    congr 1
    exact UInt8.toNat_inj.1 (by omega)
  · have := neg bl
    rw [h, pos m bm] at this
    omega
  · have := neg2 bm
    rw [← h, pos l bl] at this
    omega
  · rw [pos l bl, pos m bm] at h
    have e1 := encode_decode l hl (fun hh => bl ⟨hh.2, hh.1⟩)
    have e2 := encode_decode m hm (fun hh => bm ⟨hh.2, hh.1⟩)
    rw [← e1, ← e2, h]
/-- the quoted text, sign by sign -/
def qf (T : PrintTabs) : Nat → List UInt8 → List Int
  | 0, _ => []
  | f + 1, l => if l = [] then [] else code T (symOf l) ++ qf T f (l.drop (decodeL l).2)
theorem qf_nil (T : PrintTabs) (g : Nat) : qf T g [] = [] := by cases g <;> simp [qf]
theorem qf_rng (T : PrintTabs) : ∀ f l, ∀ n ∈ qf T f l, 0 ≤ n ∧ n < 256
  | 0, _, n, h => by cases h
  | f + 1, l, n, h => by
    unfold qf at h
    split at h
    · cases h
    · rename_i hl
      rcases List.mem_append.1 h with h | h
      · exact (code_rng T _ (sym_ok l hl).1).1 n h
      · exact qf_rng T f _ n h
theorem qf_apart (T : PrintTabs) : ∀ f l g m (s t : List Int), l.length ≤ f → m.length ≤ g → qf T f l ++ 34 :: s = qf T g m ++ 34 :: t → l = m ∧ s = t := by
  intro f
  induction f with
  | zero =>
    intro l g m s t hl hm h
    have : l = [] := List.length_eq_zero_iff.1 (by omega)
    subst this
    cases g with
    | zero =>
      have : m = [] := List.length_eq_zero_iff.1 (by omega)
      subst this
      exact ⟨rfl, (List.cons.inj h).2⟩
    | succ g =>
      by_cases hm0 : m = []
      · subst hm0
        simp only [qf_nil, List.nil_append] at h
        exact ⟨rfl, (List.cons.inj h).2⟩
      · exfalso
        obtain ⟨_, c, r, e, hc⟩ := code_rng T _ (sym_ok m hm0).1
        simp only [qf, if_neg hm0, e, List.cons_append, List.nil_append] at h
        exact hc (List.cons.inj h).1.symm
  | succ f ih =>
    intro l g m s t hl hm h
    by_cases hl0 : l = []
    · subst hl0
      rw [qf_nil, List.nil_append] at h
      cases g with
      | zero =>
        have : m = [] := List.length_eq_zero_iff.1 (by omega)
        subst this
        exact ⟨rfl, (List.cons.inj h).2⟩
      | succ g =>
        by_cases hm0 : m = []
        · subst hm0
          simp only [qf_nil, List.nil_append] at h
          exact ⟨rfl, (List.cons.inj h).2⟩
        · exfalso
          obtain ⟨_, c, r, e, hc⟩ := code_rng T _ (sym_ok m hm0).1
          simp only [qf, if_neg hm0, e, List.cons_append] at h
          exact hc (List.cons.inj h).1.symm
    · have hle : qf T (f + 1) l = code T (symOf l) ++ qf T f (l.drop (decodeL l).2) := by rw [qf, if_neg hl0]
      obtain ⟨sl, wl1, wl2, _⟩ := sym_ok l hl0
      have hmne : m ≠ [] := by
        rintro rfl
        obtain ⟨_, c, r, e, hc⟩ := code_rng T _ sl
        rw [hle, e] at h
        rw [qf_nil] at h
        exact hc (List.cons.inj h).1
      obtain ⟨sm, wm1, wm2, _⟩ := sym_ok m hmne
      cases g with
      | zero => exact absurd (List.length_eq_zero_iff.1 (by omega)) hmne
      | succ g =>
        have hme : qf T (g + 1) m = code T (symOf m) ++ qf T g (m.drop (decodeL m).2) := by rw [qf, if_neg hmne]
        rw [hle, hme, List.append_assoc, List.append_assoc] at h
        have d := congrArg dec h
        rw [dec_code T _ _ sl, dec_code T _ _ sm] at d
        have d2 := Option.some.inj d
        have hsym : symOf l = symOf m := congrArg Prod.fst d2
        have hrest := congrArg Prod.snd d2
        simp only at hrest
        obtain ⟨i1, i2⟩ := ih _ g _ s t (by rw [List.length_drop]; omega) (by rw [List.length_drop]; omega) hrest
        have hb := sym_bytes l m hl0 hmne hsym
        refine ⟨?_, i2⟩
        rw [← List.take_append_drop (decodeL l).2 l, ← List.take_append_drop (decodeL m).2 m, hb, i1]
theorem quoteFrom_qf (T : PrintTabs) : ∀ f (l : List UInt8), quoteFrom T f ⟨l.toArray⟩ = qf T f l
  | 0, _ => rfl
  | f + 1, l => by
    have hsz : (⟨l.toArray⟩ : ByteArray).size = l.length := by simp [ByteArray.size]
    unfold quoteFrom qf
    by_cases hl : l = []
    · subst hl
      rfl
    · have h0 : 0 < l.length := List.length_pos_iff.2 hl
      rw [if_pos (by rw [hsz]; exact h0), if_neg hl]
      have hx : (⟨l.toArray⟩ : ByteArray).extract (Utf8.decode ⟨l.toArray⟩ 0).2 (⟨l.toArray⟩ : ByteArray).size = ⟨(l.drop (decodeL l).2).toArray⟩ := by
        rw [hsz]
        apply ByteArray.ext
        rw [ByteArray.data_extract]
        show (l.toArray).extract (decodeL l).2 l.length = _
        simp
        exact List.take_of_length_le (by simp)
      rw [hx, quoteFrom_qf T f]
      congr 1
      have h1 := (sym_ok l hl).1
      unfold quoteStep code
      show (if (decodeL l).2 = 1 ∧ (decodeL l).1 = 65533 then _ else escRune T ((decodeL l).1 : Int)) = _
      have hg : (⟨l.toArray⟩ : ByteArray).get! 0 = l.getD 0 0 := by
        cases l with
        | nil => exact absurd rfl hl
        | cons a r => rfl
      by_cases hb : (decodeL l).2 = 1 ∧ (decodeL l).1 = 65533
      · have hs : symOf l = -((l.getD 0 0).toNat : Int) := by unfold symOf; rw [if_pos hb]
        have hn : symOf l < 0 := (sym_ok l hl).2.2.2 hb
        rw [if_pos hb, if_pos hn, hg, hs]
        rw [show (- -((l.getD 0 0).toNat : Int)).toNat = (l.getD 0 0).toNat by omega]
      · have hs : symOf l = ((decodeL l).1 : Int) := by unfold symOf; rw [if_neg hb]
        rw [if_neg hb, hs, if_neg (by omega)]
/-- a text as Quote writes it -/
def quoteT (T : PrintTabs) (l : List UInt8) : List UInt8 := (quoteZ T ⟨l.toArray⟩).map fun n => UInt8.ofNat n.toNat
theorem quoteZ_qf (T : PrintTabs) (l : List UInt8) : quoteZ T ⟨l.toArray⟩ = 34 :: (qf T l.length l ++ [34]) := by
  unfold quoteZ
  rw [quoteFrom_qf]
  have hsz : (⟨l.toArray⟩ : ByteArray).size = l.length := by simp [ByteArray.size]
  rw [hsz]
theorem quoteT_head (T : PrintTabs) (l : List UInt8) : ∃ r, quoteT T l = 34 :: r := ⟨_, by unfold quoteT; rw [quoteZ_qf, List.map_cons]; rfl⟩
theorem back (l : List Int) (h : ∀ n ∈ l, 0 ≤ n ∧ n < 256) : (l.map fun n => UInt8.ofNat n.toNat).map (fun b => (b.toNat : Int)) = l := by
  rw [List.map_map]
  conv => rhs; rw [← List.map_id l]
  apply List.map_congr_left
  intro n hn
  obtain ⟨h1, h2⟩ := h n hn
  show (((UInt8.ofNat n.toNat).toNat : Nat) : Int) = n
  have : (UInt8.ofNat n.toNat).toNat = n.toNat % 256 := rfl
  omega
/-- texts are told apart by what is written, whatever stands behind -/
theorem quoteT_apart (T : PrintTabs) (l m s t : List UInt8) (h : quoteT T l ++ s = quoteT T m ++ t) : l = m ∧ s = t := by
  have h2 := congrArg (List.map fun b : UInt8 => (b.toNat : Int)) h
  rw [List.map_append, List.map_append] at h2
  have rng : ∀ k, ∀ n ∈ quoteZ T ⟨(k : List UInt8).toArray⟩, 0 ≤ n ∧ n < 256 := fun k n hn => by
    rw [quoteZ_qf] at hn
    rcases List.mem_cons.1 hn with rfl | hn
    · decide
    · rcases List.mem_append.1 hn with hn | hn
      · exact qf_rng T _ _ n hn
      · rw [List.mem_singleton] at hn; subst hn; decide
  unfold quoteT at h2
  rw [back _ (rng l), back _ (rng m), quoteZ_qf, quoteZ_qf, List.cons_append, List.cons_append, List.append_assoc, List.append_assoc] at h2
  obtain ⟨e1, e2⟩ := qf_apart T _ l _ m _ _ (Nat.le_refl _) (Nat.le_refl _) (List.cons.inj h2).2
  refine ⟨e1, ?_⟩
  exact (List.map_inj_right (fun a b hab => UInt8.toNat_inj.1 (Int.natCast_inj.1 hab))).1 e2
end Go.Proofs.YtnccpddjdgndcaaGreatDoor.Quo
