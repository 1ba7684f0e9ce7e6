/- WHAT strconv.Unquote READS OF A TEXT BETWEEN QUOTES, and that it gives back what Quote wrote. No walk. -/
import Derived.Test.YtnccpddjdgndcaaGreatDoorQuo
import Derived.Lib.ValidU
import Derived.Laws.BytesArg
import Derived.Test.YtnccpddjdgndcaaGreatDoorFmt1
namespace Go.Proofs.YtnccpddjdgndcaaGreatDoor.Unq
open Go.RowKit Go.Lib Go.Proofs.YtnccpddjdgndcaaGreatDoor.Quo
def tb (n : Int) : UInt8 := UInt8.ofNat n.toNat
theorem tb_nat {n : Int} (h0 : 0 ≤ n) (h1 : n < 256) : ((tb n).toNat : Int) = n := by
  unfold tb
  have : (UInt8.ofNat n.toNat).toNat = n.toNat % 256 := rfl
  omega
def uhx (c : Int) : Option Int := if 48 ≤ c ∧ c ≤ 57 then some (c - 48) else if 97 ≤ c ∧ c ≤ 102 then some (c - 97 + 10) else if 65 ≤ c ∧ c ≤ 70 then some (c - 65 + 10) else none
def hexGo : Nat → List UInt8 → Int → Option (Int × List UInt8)
  | 0, l, v => some (v, l)
  | _ + 1, [], _ => none
  | n + 1, c :: l, v => match uhx (c.toNat : Int) with
    | none => none
    | some x => hexGo n l (bits .or .i32 (IntKind.i32.wrap (v * 16)) x)
def octGo : Nat → List UInt8 → Int → Option (Int × List UInt8)
  | 0, l, v => some (v, l)
  | _ + 1, [], _ => none
  | n + 1, c :: l, v => if (c.toNat : Int) < 48 ∨ 55 < (c.toNat : Int) then none else octGo n l (bits .or .i32 (IntKind.i32.wrap (v * 8)) ((c.toNat : Int) - 48))
/-- an escape of one letter -/
def esc1 (e : Int) : Option Int :=
  if e = 97 then some 7 else if e = 98 then some 8 else if e = 102 then some 12 else if e = 110 then some 10 else if e = 114 then some 13 else if e = 116 then some 9
  else if e = 118 then some 11 else if e = 92 then some 92 else if e = 34 then some 34 else none
/-- how many digits -/
def escN (e : Int) : Nat := if e = 120 then 2 else if e = 117 then 4 else if e = 85 then 8 else 0
/-- one sign ahead of a quote: its number, is it many bytes, the rest -/
def uqc : List UInt8 → Option (Int × Bool × List UInt8)
  | [] => none
  | c :: r =>
    if (c.toNat : Int) = 34 then none
    else if 128 ≤ (c.toNat : Int) then some (((decodeL (c :: r)).1 : Int), true, (c :: r).drop (decodeL (c :: r)).2)
    else if (c.toNat : Int) ≠ 92 then some ((c.toNat : Int), false, r)
    else match r with
      | [] => none
      | e :: t =>
        match esc1 (e.toNat : Int) with
        | some v => some (v, false, t)
        | none =>
          if escN (e.toNat : Int) ≠ 0 then
            match hexGo (escN (e.toNat : Int)) t 0 with
            | none => none
            | some (v, q) => if (e.toNat : Int) = 120 then some (v, false, q) else if Lib.validRune v then some (v, true, q) else none
          else if 48 ≤ (e.toNat : Int) ∧ (e.toNat : Int) ≤ 55 then
            match octGo 2 t ((e.toNat : Int) - 48) with
            | none => none
            | some (v, q) => if 255 < v then none else some (v, false, q)
          else none
/-- what is appended -/
def app (v : Int) (mb : Bool) : List UInt8 := if v < 128 ∨ mb = false then [tb (v % 256)] else (encodeRuneZ v).map tb
/-- sign by sign up to the quote -/
def uqGo : Nat → List UInt8 → List UInt8 → Option (List UInt8 × List UInt8)
  | 0, _, _ => none
  | f + 1, l, out =>
    match l with
    | [] => none
    | c :: r =>
      if (c.toNat : Int) = 34 then some (out, r)
      else if (c.toNat : Int) = 10 then none
      else match uqc (c :: r) with
        | none => none
        | some (v, mb, t) => uqGo f t (out ++ app v mb)
/-- the text of a quoted text behind its first quote -/
def unqP (r : List UInt8) : Option (List UInt8) :=
  if Lib.indexByte r 34 < 0 then none
  else
    let body := r.take (Lib.indexByte r 34).toNat
    let rest := r.drop ((Lib.indexByte r 34).toNat + 1)
    if 92 ∉ body ∧ 10 ∉ body ∧ validD body = true then (if rest = [] then some body else none)
    else match uqGo (r.length + 1) r [] with
      | some (out, []) => some out
      | _ => none
theorem wraps_i32 (n : Int) (h₀ : 0 ≤ n) (h₁ : n < 2 ^ 31) : IntKind.i32.wrap n = n := by rw [IntKind.wrap_i32]; omega
theorem or16 (v x : Nat) (hv : v < 134217728) (hx : x < 16) : bits .or .i32 (IntKind.i32.wrap ((v : Int) * 16)) (x : Int) = ((v * 16 + x : Nat) : Int) := by
  rw [wraps_i32 _ (by omega) (by omega)]
  have := (bits_nat .i32 31 (by decide) wraps_i32 (v * 16) x (by omega) (by omega)).2
  rw [show ((v : Int) * 16) = ((v * 16 : Nat) : Int) by omega, this]
  congr 1
  have h := Nat.two_pow_add_eq_or_of_lt (i := 4) (b := x) (by omega) v
  rw [show (2 : Nat) ^ 4 * v = v * 16 by omega] at h
  exact h.symm
theorem uhx_digit (x : Nat) (h : x < 16) : uhx ((tb (Lib.hexDigit x)).toNat : Int) = some (x : Int) := by
  have hr := hexDigit_rng x h
  rw [tb_nat hr.1 hr.2]
  unfold uhx Lib.hexDigit
  split
  · rw [if_pos (by omega)]; congr 1; omega
  · rw [if_neg (by omega), if_pos (by omega)]; congr 1; omega
theorem hexGo_step (n v x : Nat) (l : List UInt8) (hv : v < 134217728) (hx : x < 16) : hexGo (n + 1) (tb (Lib.hexDigit x) :: l) (v : Int) = hexGo n l ((v * 16 + x : Nat) : Int) := by
  rw [hexGo, uhx_digit x hx]
  simp only
  rw [or16 v x hv hx]
theorem hex_two (a b : Nat) (l : List UInt8) (ha : a < 16) (hb : b < 16) : hexGo 2 (tb (Lib.hexDigit a) :: tb (Lib.hexDigit b) :: l) 0 = some (((a * 16 + b : Nat) : Int), l) := by
  rw [show (0 : Int) = ((0 : Nat) : Int) from rfl, hexGo_step 1 0 a _ (by omega) ha, hexGo_step 0 _ b _ (by omega) hb, Nat.zero_mul, Nat.zero_add]; rfl
theorem hex_four (r : Nat) (l : List UInt8) (h : r < 65536) : hexGo 4 ((hexDigits r 4).map tb ++ l) 0 = some ((r : Int), l) := by
  rw [hex4]
  simp only [List.map_cons, List.map_nil, List.cons_append, List.nil_append]
  rw [show (0 : Int) = ((0 : Nat) : Int) from rfl, hexGo_step 3 0 _ _ (by omega) (by omega), hexGo_step 2 _ _ _ (by omega) (by omega), hexGo_step 1 _ _ _ (by omega) (by omega), hexGo_step 0 _ _ _ (by omega) (by omega), hexGo]
  congr 3
  omega
theorem hex_eight (r : Nat) (l : List UInt8) (h : r < 2147483648) : hexGo 8 ((hexDigits r 8).map tb ++ l) 0 = some ((r : Int), l) := by
  rw [hex8]
  simp only [List.map_cons, List.map_nil, List.cons_append, List.nil_append]
  rw [show (0 : Int) = ((0 : Nat) : Int) from rfl, hexGo_step 7 0 _ _ (by omega) (by omega), hexGo_step 6 _ _ _ (by omega) (by omega), hexGo_step 5 _ _ _ (by omega) (by omega), hexGo_step 4 _ _ _ (by omega) (by omega),
    hexGo_step 3 _ _ _ (by omega) (by omega), hexGo_step 2 _ _ _ (by omega) (by omega), hexGo_step 1 _ _ _ (by omega) (by omega), hexGo_step 0 _ _ _ (by omega) (by omega), hexGo]
  congr 3
  omega
/-- a sign's own bytes -/
def symB (s : Int) : List UInt8 := if s < 0 then [tb (-s)] else (encodeRuneZ s).map tb
theorem app_small (v : Int) (mb : Bool) (h0 : 0 ≤ v) (h1 : v < 128) : app v mb = symB v := by
  unfold app symB
  rw [if_pos (Or.inl h1), if_neg (by omega), encodeRuneZ_one h0 (by omega), Int.emod_eq_of_lt h0 (by omega)]
  rfl
theorem decode_raw (s : Int) (t : List UInt8) (h0 : 128 ≤ s) (h : (s < 55296) ∨ (57343 < s ∧ s ≤ 1114111)) :
    decodeL ((encodeRuneZ s).map tb ++ t) = (s.toNat, ((encodeRuneZ s).map tb).length) := by
  rw [decodeL_N]
  obtain ⟨n, rfl⟩ : ∃ n : Nat, s = n := ⟨s.toNat, by omega⟩
  have e := fun x (a : 0 ≤ x) (b : x < 256) => tb_nat (n := x) a b
  rcases Int.lt_or_le (n : Int) 2048 with g | g
  · rw [encodeRuneZ_two h0 (by omega)]
    simp only [List.map_cons, List.map_nil, List.cons_append, List.nil_append, List.getD_cons_zero, List.getD_cons_succ, List.length_cons, List.length_nil]
    have a0 : (tb (192 + (n : Int) / 64)).toNat = 192 + n / 64 := by have := e (192 + (n : Int) / 64) (by omega) (by omega); omega
    have a1 : (tb (128 + (n : Int) % 64)).toNat = 128 + n % 64 := by have := e (128 + (n : Int) % 64) (by omega) (by omega); omega
    rw [a0, a1]
    unfold decodeN
    rw [if_neg (by omega), if_pos ⟨by omega, by omega, by omega⟩, if_pos (by omega)]
    congr 1
    omega
  rcases Int.lt_or_le (n : Int) 65536 with g2 | g2
  · rw [encodeRuneZ_three (by omega)]
    simp only [List.map_cons, List.map_nil, List.cons_append, List.nil_append, List.getD_cons_zero, List.getD_cons_succ, List.length_cons, List.length_nil]
    have a0 : (tb (224 + (n : Int) / 4096)).toNat = 224 + n / 4096 := by have := e (224 + (n : Int) / 4096) (by omega) (by omega); omega
    have a1 : (tb (128 + (n : Int) / 64 % 64)).toNat = 128 + n / 64 % 64 := by have := e (128 + (n : Int) / 64 % 64) (by omega) (by omega); omega
    have a2 : (tb (128 + (n : Int) % 64)).toNat = 128 + n % 64 := by have := e (128 + (n : Int) % 64) (by omega) (by omega); omega
    rw [a0, a1, a2]
    unfold decodeN
    rw [if_neg (by omega), if_neg (by omega), if_pos ⟨by omega, ⟨by omega, by omega⟩, by omega, by omega⟩, if_pos (by omega)]
    congr 1
    omega
  · rw [encodeRuneZ_four g2 (by omega)]
    simp only [List.map_cons, List.map_nil, List.cons_append, List.nil_append, List.getD_cons_zero, List.getD_cons_succ, List.length_cons, List.length_nil]
    have a0 : (tb (240 + (n : Int) / 262144)).toNat = 240 + n / 262144 := by have := e (240 + (n : Int) / 262144) (by omega) (by omega); omega
    have a1 : (tb (128 + (n : Int) / 4096 % 64)).toNat = 128 + n / 4096 % 64 := by have := e (128 + (n : Int) / 4096 % 64) (by omega) (by omega); omega
    have a2 : (tb (128 + (n : Int) / 64 % 64)).toNat = 128 + n / 64 % 64 := by have := e (128 + (n : Int) / 64 % 64) (by omega) (by omega); omega
    have a3 : (tb (128 + (n : Int) % 64)).toNat = 128 + n % 64 := by have := e (128 + (n : Int) % 64) (by omega) (by omega); omega
    rw [a0, a1, a2, a3]
    unfold decodeN
    rw [if_neg (by omega), if_neg (by omega), if_neg (by omega), if_pos ⟨by omega, ⟨by omega, by omega⟩, ⟨by omega, by omega⟩, by omega, by omega⟩, if_pos (by omega)]
    congr 1
    omega
theorem app_raw (s : Int) (h0 : 128 ≤ s) : app s true = symB s := by
  unfold app symB
  rw [if_neg (by simp; omega), if_neg (by omega)]
theorem esc_at (y : Int) (v : Int) (t : List UInt8) (h0 : 0 ≤ y) (h1 : y < 256) (he : esc1 y = some v) : uqc (92 :: tb y :: t) = some (v, false, t) := by
  have e : ((92 : UInt8).toNat : Int) = 92 := rfl
  unfold uqc
  simp only [e]
  rw [if_neg (by decide), if_neg (by decide), if_neg (by decide), tb_nat h0 h1, he]
theorem uqc_x (a b : Nat) (t : List UInt8) (ha : a < 16) (hb : b < 16) : uqc (92 :: 120 :: tb (Lib.hexDigit a) :: tb (Lib.hexDigit b) :: t) = some (((a * 16 + b : Nat) : Int), false, t) := by
  have h : uqc (92 :: 120 :: tb (Lib.hexDigit a) :: tb (Lib.hexDigit b) :: t) = match hexGo 2 (tb (Lib.hexDigit a) :: tb (Lib.hexDigit b) :: t) 0 with
            | none => none
            | some (v, q) => some (v, false, q) := rfl
  rw [h, hex_two a b t ha hb]
theorem uqc_u (r : Nat) (t : List UInt8) (h : r < 65536) (hv : Lib.validRune (r : Int) = true) : uqc (92 :: 117 :: ((hexDigits r 4).map tb ++ t)) = some ((r : Int), true, t) := by
  have h2 : uqc (92 :: 117 :: ((hexDigits r 4).map tb ++ t)) = match hexGo 4 ((hexDigits r 4).map tb ++ t) 0 with
            | none => none
            | some (v, q) => if Lib.validRune v then some (v, true, q) else none := rfl
  rw [h2, hex_four r t h]
  simp only
  rw [if_pos hv]
theorem uqc_U (r : Nat) (t : List UInt8) (h : r < 2147483648) (hv : Lib.validRune (r : Int) = true) : uqc (92 :: 85 :: ((hexDigits r 8).map tb ++ t)) = some ((r : Int), true, t) := by
  have h2 : uqc (92 :: 85 :: ((hexDigits r 8).map tb ++ t)) = match hexGo 8 ((hexDigits r 8).map tb ++ t) 0 with
            | none => none
            | some (v, q) => if Lib.validRune v then some (v, true, q) else none := rfl
  rw [h2, hex_eight r t h]
  simp only
  rw [if_pos hv]
theorem uqc_raw (s : Int) (t : List UInt8) (hs : (0 ≤ s ∧ s < 55296) ∨ (57343 < s ∧ s ≤ 1114111)) (h34 : s ≠ 34) (h92 : s ≠ 92) :
    ∃ mb, uqc ((encodeRuneZ s).map tb ++ t) = some (s, mb, t) ∧ app s mb = symB s := by
  rcases Int.lt_or_le s 128 with g | g
  · refine ⟨false, ?_, app_small s false (by omega) g⟩
    rw [encodeRuneZ_one (by omega) (by omega)]
    have e := tb_nat (n := s) (by omega) (by omega)
    simp only [List.map_cons, List.map_nil, List.cons_append, List.nil_append]
    unfold uqc
    simp only [e]
    rw [if_neg h34, if_neg (by omega), if_pos h92]
  · refine ⟨true, ?_, app_raw s g⟩
    have hd := decode_raw s t g (by omega)
    obtain ⟨c, r, hc, hc2⟩ : ∃ c r, (encodeRuneZ s).map tb = c :: r ∧ 128 ≤ (c.toNat : Int) := by
      unfold encodeRuneZ
      rw [if_neg (by omega)]
      split
      · exact ⟨_, _, rfl, by rw [tb_nat (by omega) (by omega)]; omega⟩
      split
      · exact ⟨_, _, rfl, by rw [tb_nat (by omega) (by omega)]; omega⟩
      split
      · exact ⟨_, _, rfl, by rw [tb_nat (by omega) (by omega)]; omega⟩
      · omega
    rw [hc] at hd ⊢
    have : uqc (c :: (r ++ t)) = some (((decodeL (c :: (r ++ t))).1 : Int), true, (c :: (r ++ t)).drop (decodeL (c :: (r ++ t))).2) := by
      unfold uqc
      simp only
      rw [if_neg (by omega), if_pos hc2]
    rw [List.cons_append] at hd ⊢
    rw [this, hd]
    simp only [List.length_cons, List.drop_succ_cons, List.drop_left]
    rw [Int.toNat_of_nonneg (by omega)]
/-- one sign that Quote wrote -/
theorem uqc_code (T : PrintTabs) (s : Int) (t : List UInt8) (hs : Sym s) : ∃ v mb, uqc ((code T s).map tb ++ t) = some (v, mb, t) ∧ app v mb = symB s := by
  unfold code Sym at *
  by_cases hneg : s < 0
  · rw [if_pos hneg]
    obtain ⟨b, rfl⟩ : ∃ b : Nat, s = -(b : Int) := ⟨(-s).toNat, by omega⟩
    rw [show (- -(b : Int)).toNat = b by omega]
    refine ⟨(b : Int), false, ?_, ?_⟩
    · refine (uqc_x (b / 16) (b % 16) t (by omega) (by omega)).trans ?_
      congr 2
      omega
    · unfold app symB
      rw [if_pos (Or.inr rfl), if_pos hneg, Int.emod_eq_of_lt (by omega) (by omega), Int.neg_neg]
  · rw [if_neg hneg]
    rw [escRune.eq_1]
    refine dite (s = 34 ∨ s = 92) (fun h => ?_) (fun c0 => ?_)
    · rw [if_pos h]
      refine ⟨s, false, ?_, app_small s false (by omega) (by omega)⟩
      rcases h with rfl | rfl
      · exact esc_at 34 34 t (by decide) (by decide) rfl
      · exact esc_at 92 92 t (by decide) (by decide) rfl
    rw [if_neg c0]
    refine dite (isPrintR T s = true) (fun h => ?_) (fun c1 => ?_)
    · rw [if_pos h]
      obtain ⟨mb, h1, h2⟩ := uqc_raw s t (by omega) (by omega) (by omega)
      exact ⟨s, mb, h1, h2⟩
    rw [if_neg c1]
    have two : ∀ c : Int, 0 ≤ c → c < 256 → esc1 c = some s → s < 128 → 0 ≤ s → ∃ v mb, uqc (List.map tb [92, c] ++ t) = some (v, mb, t) ∧ app v mb = symB s := fun c h1 h2 h3 h4 h5 =>
      ⟨s, false, esc_at c s t h1 h2 h3, app_small s false h5 h4⟩
    refine dite (s = 7) (fun h => ?_) (fun d0 => ?_)
    · rw [if_pos h]; exact two 97 (by decide) (by decide) (by rw [h]; rfl) (by omega) (by omega)
    rw [if_neg d0]
    refine dite (s = 8) (fun h => ?_) (fun d1 => ?_)
    · rw [if_pos h]; exact two 98 (by decide) (by decide) (by rw [h]; rfl) (by omega) (by omega)
    rw [if_neg d1]
    refine dite (s = 12) (fun h => ?_) (fun d2 => ?_)
    · rw [if_pos h]; exact two 102 (by decide) (by decide) (by rw [h]; rfl) (by omega) (by omega)
    rw [if_neg d2]
    refine dite (s = 10) (fun h => ?_) (fun d3 => ?_)
    · rw [if_pos h]; exact two 110 (by decide) (by decide) (by rw [h]; rfl) (by omega) (by omega)
    rw [if_neg d3]
    refine dite (s = 13) (fun h => ?_) (fun d4 => ?_)
    · rw [if_pos h]; exact two 114 (by decide) (by decide) (by rw [h]; rfl) (by omega) (by omega)
    rw [if_neg d4]
    refine dite (s = 9) (fun h => ?_) (fun d5 => ?_)
    · rw [if_pos h]; exact two 116 (by decide) (by decide) (by rw [h]; rfl) (by omega) (by omega)
    rw [if_neg d5]
    refine dite (s = 11) (fun h => ?_) (fun d6 => ?_)
    · rw [if_pos h]; exact two 118 (by decide) (by decide) (by rw [h]; rfl) (by omega) (by omega)
    rw [if_neg d6]
    obtain ⟨b, rfl⟩ : ∃ b : Nat, s = (b : Int) := ⟨s.toNat, by omega⟩
    rw [Int.toNat_natCast]
    refine dite ((b : Int) < 32 ∨ (b : Int) = 127) (fun h => ?_) (fun d7 => ?_)
    · rw [if_pos h]
      refine ⟨(b : Int), false, ?_, app_small _ false (by omega) (by omega)⟩
      refine (uqc_x (b / 16) (b % 16) t (by omega) (by omega)).trans ?_
      congr 2
      omega
    rw [if_neg d7]
    have hv : Lib.validRune (b : Int) = true := by
      unfold Lib.validRune
      rw [decide_eq_true_iff]
      omega
    rw [if_neg (by rw [hv]; decide)]
    have ha : app (b : Int) true = symB (b : Int) := by
      rcases Int.lt_or_le (b : Int) 128 with g | g
      · exact app_small _ true (by omega) g
      · exact app_raw _ g
    refine dite ((b : Int) < 65536) (fun h => ?_) (fun d8 => ?_)
    · rw [if_pos h]
      exact ⟨(b : Int), true, uqc_u b t (by omega) hv, ha⟩
    · rw [if_neg d8]
      exact ⟨(b : Int), true, uqc_U b t (by omega) hv, ha⟩
theorem symB_take (l : List UInt8) (hl : l ≠ []) : symB (symOf l) = l.take (decodeL l).2 := by
  obtain ⟨s1, s2, s3, s4⟩ := sym_ok l hl
  unfold symB
  by_cases hb : (decodeL l).2 = 1 ∧ (decodeL l).1 = 65533
  · have hn := s4 hb
    have hs : symOf l = -((l.getD 0 0).toNat : Int) := by unfold symOf; rw [if_pos hb]
    rw [if_pos hn, hs, hb.1, takeA l (List.length_pos_iff.2 hl), Int.neg_neg]
    congr 1
    unfold tb
    rw [Int.toNat_natCast]
    exact UInt8.ofNat_toNat
  · have hs : symOf l = ((decodeL l).1 : Int) := by unfold symOf; rw [if_neg hb]
    rw [if_neg (by omega), hs]
    have := encode_decode l hl (fun h => hb ⟨h.2, h.1⟩)
    rw [← this]
    unfold encodeRune
    apply List.map_congr_left
    intro x _
    rfl
theorem esc_head (T : PrintTabs) (s : Int) (c1 : ¬ isPrintR T s = true) : ∃ r, escRune T s = 92 :: r := by
  rw [escRune.eq_1]
  refine dite (s = 34 ∨ s = 92) (fun h => ?_) (fun c0 => ?_)
  · rw [if_pos h]; exact ⟨_, rfl⟩
  rw [if_neg c0, if_neg c1]
  refine dite (s = 7) (fun h => ?_) (fun d0 => ?_)
  · rw [if_pos h]; exact ⟨_, rfl⟩
  rw [if_neg d0]
  refine dite (s = 8) (fun h => ?_) (fun d1 => ?_)
  · rw [if_pos h]; exact ⟨_, rfl⟩
  rw [if_neg d1]
  refine dite (s = 12) (fun h => ?_) (fun d2 => ?_)
  · rw [if_pos h]; exact ⟨_, rfl⟩
  rw [if_neg d2]
  refine dite (s = 10) (fun h => ?_) (fun d3 => ?_)
  · rw [if_pos h]; exact ⟨_, rfl⟩
  rw [if_neg d3]
  refine dite (s = 13) (fun h => ?_) (fun d4 => ?_)
  · rw [if_pos h]; exact ⟨_, rfl⟩
  rw [if_neg d4]
  refine dite (s = 9) (fun h => ?_) (fun d5 => ?_)
  · rw [if_pos h]; exact ⟨_, rfl⟩
  rw [if_neg d5]
  refine dite (s = 11) (fun h => ?_) (fun d6 => ?_)
  · rw [if_pos h]; exact ⟨_, rfl⟩
  rw [if_neg d6]
  refine dite (s < 32 ∨ s = 127) (fun h => ?_) (fun d7 => ?_)
  · rw [if_pos h]; exact ⟨_, rfl⟩
  rw [if_neg d7]
  refine dite (Lib.validRune s = false) (fun h => ?_) (fun d8 => ?_)
  · rw [if_pos h]; exact ⟨_, rfl⟩
  rw [if_neg d8]
  refine dite (s < 65536) (fun h => ?_) (fun d9 => ?_)
  · rw [if_pos h]; exact ⟨_, rfl⟩
  rw [if_neg d9]; exact ⟨_, rfl⟩
theorem code_head (T : PrintTabs) (s : Int) (hs : Sym s) : ∃ c r, (code T s).map tb = c :: r ∧ (c.toNat : Int) ≠ 34 ∧ ((c.toNat : Int) = 10 → False) := by
  obtain ⟨h1, c, r, e, hc⟩ := code_rng T s hs
  have hr := h1 c (by rw [e]; exact List.mem_cons_self ..)
  refine ⟨tb c, r.map tb, by rw [e]; rfl, by rw [tb_nat hr.1 hr.2]; exact hc, ?_⟩
  rw [tb_nat hr.1 hr.2]
  rintro rfl
  unfold code at e
  unfold Sym at hs
  by_cases hn : s < 0
  · rw [if_pos hn] at e
    have := (List.cons.inj e).1
    omega
  · rw [if_neg hn] at e
    by_cases hp : isPrintR T s = true
    · by_cases hq : s = 34 ∨ s = 92
      · rw [escRune.eq_1, if_pos hq] at e
        have := (List.cons.inj e).1
        omega
      · rw [escRune.eq_1, if_neg hq, if_pos hp] at e
        have : s = 10 := by
          unfold encodeRuneZ at e
          split at e
          · exact (List.cons.inj e).1
          split at e
          · have := (List.cons.inj e).1; omega
          split at e
          · have := (List.cons.inj e).1; omega
          split at e
          · have := (List.cons.inj e).1; omega
          · have := (List.cons.inj e).1; omega
        subst this
        have : isPrintR T 10 = false := rfl
        rw [this] at hp; cases hp
    · obtain ⟨q, hq⟩ := esc_head T s hp
      rw [hq] at e
      have := (List.cons.inj e).1
      omega
/-- the whole text, sign by sign -/
theorem uq_run (T : PrintTabs) : ∀ (f : Nat) (l out : List UInt8) (g : Nat), l.length ≤ f → (qf T f l).length + 1 ≤ g → uqGo g ((qf T f l).map tb ++ [34]) out = some (out ++ l, [])
  | 0, l, out, g, hl, hg => by
    have : l = [] := List.length_eq_zero_iff.1 (by omega)
    subst this
    obtain ⟨g, rfl⟩ : ∃ k, g = k + 1 := ⟨g - 1, by omega⟩
    rw [qf_nil, List.append_nil]
    rfl
  | f + 1, l, out, g, hl, hg => by
    obtain ⟨g, rfl⟩ : ∃ k, g = k + 1 := ⟨g - 1, by omega⟩
    by_cases hl0 : l = []
    · subst hl0
      rw [qf_nil, List.append_nil]
      rfl
    · obtain ⟨sl, wl1, wl2, _⟩ := sym_ok l hl0
      have e : (qf T (f + 1) l).map tb ++ [34] = (code T (symOf l)).map tb ++ ((qf T f (l.drop (decodeL l).2)).map tb ++ [34]) := by
        rw [qf, if_neg hl0, List.map_append, List.append_assoc]
      have hlen : (qf T f (l.drop (decodeL l).2)).length + 1 ≤ g := by
        rw [qf, if_neg hl0, List.length_append] at hg
        obtain ⟨_, c, r, ec, _⟩ := code_rng T _ sl
        rw [ec, List.length_cons] at hg
        omega
      obtain ⟨c, r, hc, h34, h10⟩ := code_head T _ sl
      obtain ⟨v, mb, hu, ha⟩ := uqc_code T _ ((qf T f (l.drop (decodeL l).2)).map tb ++ [34]) sl
      rw [e]
      rw [hc, List.cons_append] at hu ⊢
      unfold uqGo
      simp only
      rw [if_neg h34, if_neg (fun h => h10 h), hu]
      simp only
      rw [uq_run T f _ _ g (by rw [List.length_drop]; omega) hlen, ha, symB_take l hl0, List.append_assoc, List.take_append_drop]
/-- a text that needs no escapes is read as it stands -/
theorem quick_slow : ∀ (n : Nat) (l out rest : List UInt8) (g : Nat), l.length ≤ n → l.length + 1 ≤ g → validGoD n l = true → 34 ∉ l → 92 ∉ l → 10 ∉ l → uqGo g (l ++ 34 :: rest) out = some (out ++ l, rest)
  | 0, l, out, rest, g, hl, hg, _, _, _, _ => by
    have : l = [] := List.length_eq_zero_iff.1 (by omega)
    subst this
    obtain ⟨g, rfl⟩ : ∃ k, g = k + 1 := ⟨g - 1, by omega⟩
    rw [List.append_nil]
    rfl
  | n + 1, l, out, rest, g, hl, hg, hv, h34, h92, h10 => by
    obtain ⟨g, rfl⟩ : ∃ k, g = k + 1 := ⟨g - 1, by omega⟩
    by_cases hl0 : l = []
    · subst hl0
      rw [List.append_nil]
      rfl
    · unfold validGoD at hv
      rw [if_neg hl0] at hv
      by_cases hb : (decodeL l).1 = 65533 ∧ (decodeL l).2 = 1
      · rw [if_pos hb] at hv; cases hv
      rw [if_neg hb] at hv
      obtain ⟨sl, wl1, wl2, _⟩ := sym_ok l hl0
      have hs : symOf l = ((decodeL l).1 : Int) := by unfold symOf; rw [if_neg (fun h => hb ⟨h.2, h.1⟩)]
      have ht := symB_take l hl0
      have hsb : symB (symOf l) = (encodeRuneZ (symOf l)).map tb := by unfold symB; rw [if_neg (by omega)]
      unfold Sym at sl
      have m34 : symOf l ≠ 34 := by
        intro h
        rw [hsb, h] at ht
        exact h34 (List.mem_of_mem_take (ht ▸ (show (34 : UInt8) ∈ (encodeRuneZ 34).map tb by decide)))
      have m92 : symOf l ≠ 92 := by
        intro h
        rw [hsb, h] at ht
        exact h92 (List.mem_of_mem_take (ht ▸ (show (92 : UInt8) ∈ (encodeRuneZ 92).map tb by decide)))
      obtain ⟨mb, hu, ha⟩ := uqc_raw (symOf l) (l.drop (decodeL l).2 ++ 34 :: rest) (by omega) m34 m92
      rw [← hsb, ht, ← List.append_assoc, List.take_append_drop] at hu
      obtain ⟨c, r, rfl⟩ := List.exists_cons_of_ne_nil hl0
      have c34 : ¬ (c.toNat : Int) = 34 := fun h => h34 (by rw [show c = 34 from UInt8.toNat_inj.1 (by show c.toNat = 34; omega)]; exact List.mem_cons_self ..)
      have c10 : ¬ (c.toNat : Int) = 10 := fun h => h10 (by rw [show c = 10 from UInt8.toNat_inj.1 (by show c.toNat = 10; omega)]; exact List.mem_cons_self ..)
      rw [List.cons_append] at hu ⊢
      unfold uqGo
      simp only
      rw [if_neg c34, if_neg c10, hu]
      simp only
      rw [quick_slow n _ _ rest g (by rw [List.length_drop]; omega) (by rw [List.length_drop]; omega) hv (fun h => h34 (List.mem_of_mem_drop h)) (fun h => h92 (List.mem_of_mem_drop h)) (fun h => h10 (List.mem_of_mem_drop h)), ha, ht, List.append_assoc, List.take_append_drop]
theorem ix_cases (k : UInt8) (l : List UInt8) (h : k ∈ l) : ∃ a b, l = a ++ k :: b ∧ k ∉ a ∧ Lib.indexByte l k = a.length := by
  induction l with
  | nil => cases h
  | cons c r ih =>
    by_cases hc : c = k
    · exact ⟨[], r, by simp [hc], by simp, by simp [Lib.indexByte, hc]⟩
    · have h1 : (c == k) = false := by simp [hc]
      rcases List.mem_cons.1 h with q | q
      · exact absurd q.symm hc
      · obtain ⟨a, b, e, hn, hi⟩ := ih q
        refine ⟨c :: a, b, by simp [e], by simp [hn]; exact fun h => hc h.symm, ?_⟩
        unfold Lib.indexByte; rw [h1, hi]
        have : ((a.length : Int) == -1) = false := by rw [beq_eq_false_iff_ne]; omega
        rw [this]
        simp
/-- what is read of a quoted text is the text -/
theorem unq_quote (T : PrintTabs) (l : List UInt8) : unqP ((qf T l.length l).map tb ++ [34]) = some l := by
  have hr := fun g hg => uq_run T l.length l [] g (Nat.le_refl _) hg
  have hlen : ((qf T l.length l).map tb ++ [34]).length = (qf T l.length l).length + 1 := by simp
  have hm : (34 : UInt8) ∈ (qf T l.length l).map tb ++ [34] := by simp
  generalize (qf T l.length l).map tb ++ [34] = r at *
  rw [← hlen] at hr
  obtain ⟨a, b, e, ha, hi⟩ := ix_cases 34 r hm
  unfold unqP
  rw [hi, if_neg (by omega), Int.toNat_natCast]
  have h1 : r.take a.length = a := by rw [e, List.take_left]
  have h2 : r.drop (a.length + 1) = b := by rw [e, ← List.drop_drop, List.drop_left]; rfl
  simp only [h1, h2]
  by_cases hq : 92 ∉ a ∧ 10 ∉ a ∧ validD a = true
  · rw [if_pos hq]
    have hs := quick_slow a.length a [] b (r.length + 1) (Nat.le_refl _) (by rw [e]; simp) hq.2.2 ha hq.1 hq.2.1
    rw [← e, hr _ (by omega)] at hs
    simp only [List.nil_append, Option.some.injEq, Prod.mk.injEq] at hs
    rw [if_pos hs.2.symm, hs.1]
  · rw [if_neg hq, hr _ (by omega)]
    rfl
theorem quoteT_eq (T : PrintTabs) (l : List UInt8) : quoteT T l = 34 :: ((qf T l.length l).map tb ++ [34]) := by
  unfold quoteT
  rw [quoteZ_qf, List.map_cons, List.map_append]
  rfl
end Go.Proofs.YtnccpddjdgndcaaGreatDoor.Unq
