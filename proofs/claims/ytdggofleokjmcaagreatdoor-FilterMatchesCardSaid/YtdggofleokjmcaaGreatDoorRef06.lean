/- THE WALKS OF the document's answers for package cond. -/
import Derived.Test.YtdggofleokjmcaaGreatDoorCond
import Derived.Test.YtdggofleokjmcaaGreatDoorCondLaw
namespace Go.Proofs.YtdggofleokjmcaaGreatDoor.Val
open Go.RowKit Flt
set_option maxHeartbeats 400000 in
theorem rvoid_any (k n : Int) (x : Nat) (t : List UInt8) (y : Bool) (w : World) :
    Calls Tryz.prog 111 #[val k n x t y] w fun e w' => e = .returned (.bool (voidB ⟨k, n, x, t, y⟩)) ∧ Below w.heap.size w w' := by
  have hk : voidB ⟨k, n, x, t, y⟩ = ((k == 1) && nan x) := rfl
  have hx := Ord.ford_ne_self x
  cases h : (k == 1)
  · rw [h] at hk
    have HK := Lib.hid hk; clear hk
    go_enter Tryz.func111, Tryz.ntmps111
    go_wp2
    go_ret
    exact ⟨ret_bool (by rw [HK.out]; rfl), balloc _ _⟩
  · rw [h] at hk
    have HK := Lib.hid hk; clear hk
    go_enter Tryz.func111, Tryz.ntmps111
    go_wp2
    go_ret
    exact ⟨ret_bool (by rw [HK.out]; rfl), balloc _ _⟩
/-- some draws, and nothing else -/
def Drawn (w w' : World) : Prop := ∃ n, w' = w.drewN n
theorem Drawn.refl (w : World) : Drawn w w := ⟨0, rfl⟩
theorem Drawn.more {w a : World} (h : Drawn w a) (n : Nat) : Drawn w (a.drewN n) := by
  obtain ⟨m, rfl⟩ := h; exact ⟨m + n, by simp [World.drewN, Nat.add_assoc]⟩
theorem Drawn.below {w w' : World} (h : Drawn w w') : Below w.heap.size w w' := by
  obtain ⟨n, rfl⟩ := h; exact bdrewN (Below.refl _ _) n
theorem cmp_pre (p x y : List UInt8) : Lib.compareBytes (p ++ x) (p ++ y) = Lib.compareBytes x y := by
  induction p with
  | nil => rfl
  | cons c p ih => simp [Lib.compareBytes, ih]
theorem cmp_at (a b : List UInt8) (k : Nat) (ha : k < a.length) (hb : k < b.length) (h : a.take k = b.take k) :
    Lib.compareBytes a b = if a[k] < b[k] then -1 else if b[k] < a[k] then 1 else Lib.compareBytes (a.drop (k + 1)) (b.drop (k + 1)) := by
  have e1 : a = a.take k ++ a[k] :: a.drop (k + 1) := by rw [List.getElem_cons_drop]; exact (List.take_append_drop _ _).symm
  have e2 : b = a.take k ++ b[k] :: b.drop (k + 1) := by rw [List.getElem_cons_drop, h]; exact (List.take_append_drop _ _).symm
  conv => lhs; rw [e1, e2]
  rw [cmp_pre]; rfl
theorem cmp_end (a b : List UInt8) (k : Nat) (ha : k ≤ a.length) (hb : k ≤ b.length) (he : k = a.length ∨ k = b.length) (h : a.take k = b.take k) :
    Lib.compareBytes a b = if a.length < b.length then -1 else if b.length < a.length then 1 else 0 := by
  have e1 : a = a.take k ++ a.drop k := (List.take_append_drop _ _).symm
  have e2 : b = a.take k ++ b.drop k := by rw [h]; exact (List.take_append_drop _ _).symm
  have l1 : (a.drop k).length = a.length - k := List.length_drop
  have l2 : (b.drop k).length = b.length - k := List.length_drop
  have : Lib.compareBytes a b = Lib.compareBytes (a.drop k) (b.drop k) := by conv => lhs; rw [e1, e2]; rw [cmp_pre]
  rw [this]
  cases hx : a.drop k with
  | nil =>
    rw [hx] at l1; simp at l1
    cases hy : b.drop k with
    | nil => rw [hy] at l2; simp at l2; rw [if_neg (by omega), if_neg (by omega)]; rfl
    | cons d r => rw [hy] at l2; simp at l2; rw [if_pos (by omega)]; rfl
  | cons c r =>
    rw [hx] at l1; simp at l1
    cases hy : b.drop k with
    | nil => rw [hy] at l2; simp at l2; rw [if_neg (by omega), if_pos (by omega)]; rfl
    | cons d r' => rw [hy] at l2; simp at l2; omega
theorem take_next {a b : List UInt8} {k : Nat} (ha : k < a.length) (hb : k < b.length) (h : a.take k = b.take k) (e : a[k] = b[k]) : a.take (k + 1) = b.take (k + 1) := by
  rw [List.take_succ_eq_append_getElem ha, List.take_succ_eq_append_getElem hb, h, e]
def TextRel (a b : List UInt8) (w : World) (i : Value) (wr : World) : Prop := ∃ k : Nat, k ≤ a.length ∧ k ≤ b.length ∧ i = .int .i64 k ∧ a.take k = b.take k ∧ Drawn w wr
theorem byte_three (c d : UInt8) : (((c.toNat : Int) == (d.toNat : Int)) = true ∧ c = d) ∨ (((c.toNat : Int) == (d.toNat : Int)) = false ∧ (c.toNat : Int) < (d.toNat : Int) ∧ c < d) ∨ (((c.toNat : Int) == (d.toNat : Int)) = false ∧ ¬ (c.toNat : Int) < (d.toNat : Int) ∧ d < c) := by
  rcases Nat.lt_trichotomy c.toNat d.toNat with h | h | h
  · right; left; exact ⟨by rw [beq_eq_false_iff_ne]; omega, by omega, UInt8.lt_iff_toNat_lt.2 h⟩
  · left; exact ⟨by rw [beq_iff_eq]; omega, UInt8.toNat_inj.1 h⟩
  · right; right; exact ⟨by rw [beq_eq_false_iff_ne]; omega, by omega, UInt8.lt_iff_toNat_lt.2 h⟩
theorem ret_int {a b : Int} (h : a = b) : Ending.returned (.int .i64 a) = .returned (.int .i64 b) := by rw [h]
set_option maxHeartbeats 1000000 in
theorem rtexts_any (a b : ByteArray) (w : World) (ha : a.size ≤ maxLen) :
    Calls Tryz.prog 112 #[.string a, .string b] w fun e w' => e = .returned (.int .i64 (Lib.compareBytes a.data.toList b.data.toList)) ∧ Drawn w w' := by
  unfold maxLen at ha
  have hsa : a.data.toList.length = a.size := by rw [Array.length_toList]; rfl
  have hsb : b.data.toList.length = b.size := by rw [Array.length_toList]; rfl
  go_enter Tryz.func112, Tryz.ntmps112
  go_wp2
  go_loopw [5] (fun i wr => TextRel a.data.toList b.data.toList w i wr) (fun i _ => a.size - (intOf i).toNat)
  case atStart => exact ⟨0, Nat.zero_le _, Nat.zero_le _, rfl, rfl, Drawn.refl _⟩
  case round =>
    obtain ⟨k, hka, hkb, rfl, hst, ⟨nd, rfl⟩⟩ := hrel
    have HST := Lib.hid hst; have HA := Lib.hid hsa; have HB := Lib.hid hsb; clear hst hsa hsb
    rw [HA.out] at hka
    rw [HB.out] at hkb
    have i0 : (0 : Int) ≤ (k : Int) := by omega
    by_cases h1 : k < a.size
    · have g1 : a.data.toList[k]'(by rw [HA.out]; exact h1) = a[k] := by rw [Array.getElem_toList]; rfl
      have G1 := Lib.hid g1; clear g1
      by_cases h2 : k < b.size
      · have g2 : b.data.toList[k]'(by rw [HB.out]; exact h2) = b[k] := by rw [Array.getElem_toList]; rfl
        have hat := cmp_at a.data.toList b.data.toList k (by rw [HA.out]; exact h1) (by rw [HB.out]; exact h2) HST.out
        rw [G1.out, g2] at hat
        have G2 := Lib.hid g2; have HAT := Lib.hid hat; clear g2 hat
        have i1 : (k : Int) < (a.size : Int) := by omega
        have i2 : (k : Int) < (b.size : Int) := by omega
        rcases byte_three a[k] b[k] with ⟨q, hq⟩ | ⟨q, q2, hq⟩ | ⟨q, q2, hq⟩
        · have HQ := Lib.hid hq; clear hq
          go_wp2
          go_quiet (fail)
          go_wp2
          exact ⟨⟨k + 1, by rw [HA.out]; omega, by rw [HB.out]; omega, by go_num, take_next (by rw [HA.out]; exact h1) (by rw [HB.out]; exact h2) HST.out (by rw [G1.out, G2.out]; exact HQ.out), ⟨_, rfl⟩⟩, by simp [intOf]; omega⟩
        · have HQ := Lib.hid hq; clear hq
          go_wp2
          go_quiet (fail)
          go_wp2
          go_quiet (fail)
          go_wp2
          go_ret
          exact ⟨ret_int (by rw [HAT.out, if_pos HQ.out]), ((Drawn.refl w).more _).more _ |>.more _⟩
        · have HQ := Lib.hid hq; clear hq
          go_wp2
          go_quiet (fail)
          go_wp2
          go_quiet (fail)
          go_wp2
          go_ret
          exact ⟨ret_int (by rw [HAT.out, if_neg (fun h => absurd (UInt8.lt_iff_toNat_lt.1 h) (by have := UInt8.lt_iff_toNat_lt.1 HQ.out; omega)), if_pos HQ.out]), ((Drawn.refl w).more _).more _ |>.more _⟩
      · have hend := cmp_end a.data.toList b.data.toList k (by rw [HA.out]; exact hka) (by rw [HB.out]; exact hkb) (Or.inr (by rw [HB.out]; omega)) HST.out
        rw [HA.out, HB.out] at hend
        have HE := Lib.hid hend; clear hend
        rcases Nat.lt_trichotomy a.size b.size with t1 | t1 | t1
        all_goals
          go_wp2
        all_goals
          go_ret
          exact ⟨ret_int (by rw [HE.out]; simp [t1]; try omega), ⟨_, rfl⟩⟩
    · have hend := cmp_end a.data.toList b.data.toList k (by rw [HA.out]; exact hka) (by rw [HB.out]; exact hkb) (Or.inl (by rw [HA.out]; omega)) HST.out
      rw [HA.out, HB.out] at hend
      have HE := Lib.hid hend; clear hend
      rcases Nat.lt_trichotomy a.size b.size with t1 | t1 | t1
      all_goals
        go_wp2
      all_goals
        go_ret
        exact ⟨ret_int (by rw [HE.out]; simp [t1]; try omega), ⟨_, rfl⟩⟩
theorem rtexts_l (a b : List UInt8) (w : World) (ha : a.length ≤ 140737488351232) :
    Calls Tryz.prog 112 #[.string ⟨a.toArray⟩, .string ⟨b.toArray⟩] w fun e w' => e = .returned (.int .i64 (Lib.compareBytes a b)) ∧ Drawn w w' :=
  rtexts_any ⟨a.toArray⟩ ⟨b.toArray⟩ w (by show a.length ≤ _; unfold maxLen; omega)
set_option maxHeartbeats 400000 in
theorem rbegins_any (s p : ByteArray) (w : World) :
    Calls Tryz.prog 93 #[.string s, .string p] w fun e w' => e = .returned (.bool (Lib.hasPrefix s.data.toList p.data.toList)) ∧ Drawn w w' := by
  have hp := Lib.hasPrefix_raw s p
  by_cases h : p.size ≤ s.size
  all_goals
    have HP := Lib.hid hp; clear hp
    go_enter Tryz.func93, Tryz.ntmps93
    go_wp2
    go_ret
    exact ⟨ret_bool (by rw [← HP.out]; simp [h]), Drawn.refl _⟩
theorem rbegins_l (a b : List UInt8) (w : World) :
    Calls Tryz.prog 93 #[.string ⟨a.toArray⟩, .string ⟨b.toArray⟩] w fun e w' => e = .returned (.bool (pre a b)) ∧ Drawn w w' :=
  rbegins_any ⟨a.toArray⟩ ⟨b.toArray⟩ w
set_option maxHeartbeats 1000000 in
theorem rcompare_any (k1 n1 : Int) (x1 : Nat) (t1 : List UInt8) (y1 : Bool) (k2 n2 : Int) (x2 : Nat) (t2 : List UInt8) (y2 : Bool) (w : World) (ht : t1.length ≤ 140737488351232) :
    Calls Tryz.prog 92 #[val k1 n1 x1 t1 y1, val k2 n2 x2 t2 y2] w fun e w' =>
      e = .returned (.tuple #[.int .i64 (cmp1 ⟨k1, n1, x1, t1, y1⟩ ⟨k2, n2, x2, t2, y2⟩), .bool (cmpOk ⟨k1, n1, x1, t1, y1⟩ ⟨k2, n2, x2, t2, y2⟩)]) ∧ Below w.heap.size w w' := by
  rcases cmp_ways k1 n1 x1 t1 y1 k2 n2 x2 t2 y2 with ⟨h1, h4⟩ | ⟨h1, h2, h4⟩ | ⟨h1, h2, h3, h4⟩ | ⟨h1, h2, h3, h4⟩
  · unfold cmp1; rw [h4]; clear h4
    go_enter Tryz.func92, Tryz.ntmps92
    go_wp2
    go_ret2
    exact ⟨rfl, balloc2 _ _ _⟩
  · unfold cmp1; rw [h4]; clear h4
    go_enter Tryz.func92, Tryz.ntmps92
    go_wp2_with (go_at_call 111; refine (rvoid_any _ _ _ _ _ _).mono ?_; rintro e w1 ⟨rfl, hb⟩; obtain ⟨hc, hf⟩ := bcell hb)
    go_ret2
    exact ⟨rfl, btrans (balloc2 _ _ _) hb⟩
  · unfold cmp1; rw [h4]; clear h4
    go_enter Tryz.func92, Tryz.ntmps92
    go_wp2_with fail
    refine (rvoid_any _ _ _ _ _ _).mono ?_; rintro e w1 ⟨rfl, hb⟩; obtain ⟨hc, hf⟩ := bcell hb
    go_wp2_with fail
    refine (rvoid_any _ _ _ _ _ _).mono ?_; rintro e w2 ⟨rfl, hb2⟩
    go_wp2
    go_ret2
    exact ⟨rfl, btrans (btrans (balloc2 _ _ _) hb) hb2⟩
  · have hu : cmp1 ⟨k1, n1, x1, t1, y1⟩ ⟨k2, n2, x2, t2, y2⟩ = cmp ⟨k1, n1, x1, t1, y1⟩ ⟨k2, n2, x2, t2, y2⟩ := by unfold cmp1; rw [h4]; rfl
    have hd : cmp ⟨k1, n1, x1, t1, y1⟩ ⟨k2, n2, x2, t2, y2⟩ = if k1 == 0 then sgn (decide (n1 < n2)) (decide (n2 < n1)) else if k1 == 1 then sgn (Flt.lt x1 x2) (Flt.lt x2 x1) else if k1 == 2 then Lib.compareBytes t1 t2 else sgn (!y1 && y2) (y1 && !y2) := rfl
    rw [hu, h4]; clear h4 hu
    have HD := Lib.hid hd; clear hd
    have f1 := Ord.ford_lt x1 x2
    have f2 := Ord.ford_gt x1 x2
    go_enter Tryz.func92, Tryz.ntmps92
    go_wp2_with fail
    refine (rvoid_any _ _ _ _ _ _).mono ?_; rintro e w1 ⟨rfl, hb⟩; obtain ⟨hc, hf⟩ := bcell hb
    have hz := size2 hb
    have hz0 : w.heap.size < w1.heap.size := by omega
    go_wp2_with fail
    refine (rvoid_any _ _ _ _ _ _).mono ?_; rintro e w2 ⟨rfl, hb2⟩; obtain ⟨hc2, hf2⟩ := bcell hb2
    have hz2 : w.heap.size + 1 < w2.heap.size := Nat.lt_of_lt_of_le hz hb2.size
    have B : Hid (Below w.heap.size w w2) := Lib.hid (btrans (btrans (balloc2 _ _ _) hb) hb2)
    clear hb hb2
    cases q0 : (k1 == 0)
    · cases q1 : (k1 == 1)
      · cases q2 : (k1 == 2)
        · clear f1 f2
          cases y1 <;> cases y2
          all_goals
            go_wp2
            go_ret2
            exact ⟨by rw [HD.out, q0, q1, q2]; rfl, B.out⟩
        · clear f1 f2
          go_wp2_with (go_at_call 112; refine (rtexts_l _ _ _ ht).mono ?_; rintro e w' ⟨rfl, ⟨nd, rfl⟩⟩)
          go_ret2
          exact ⟨by rw [HD.out, q0, q1, q2]; rfl, bdrewN B.out _⟩
      · cases l1 : Flt.lt x1 x2 <;> cases l2 : Flt.lt x2 x1
        all_goals
          rw [l1] at f1
          rw [l2] at f2
          go_wp2
        all_goals
          go_ret2
          exact ⟨by rw [HD.out, q0, q1, l1, l2]; rfl, B.out⟩
    · by_cases a1 : n1 < n2
      · have hs : sgn (decide (n1 < n2)) (decide (n2 < n1)) = -1 := by simp [sgn, a1]
        have HS := Lib.hid hs; clear hs
        go_wp2
        go_ret2
        exact ⟨by rw [HD.out, q0, if_pos rfl, HS.out]; rfl, B.out⟩
      · by_cases a2 : n2 < n1
        · have hs : sgn (decide (n1 < n2)) (decide (n2 < n1)) = 1 := by simp [sgn, a1, a2]
          have HS := Lib.hid hs; clear hs
          go_wp2
          go_ret2
          exact ⟨by rw [HD.out, q0, if_pos rfl, HS.out]; rfl, B.out⟩
        · have hs : sgn (decide (n1 < n2)) (decide (n2 < n1)) = 0 := by simp [sgn, a1, a2]
          have HS := Lib.hid hs; clear hs
          go_wp2
          go_ret2
          exact ⟨by rw [HD.out, q0, if_pos rfl, HS.out]; rfl, B.out⟩
set_option maxHeartbeats 1000000 in
theorem rholds_any (nm : List UInt8) (op k1 n1 : Int) (x1 : Nat) (t1 : List UInt8) (y1 : Bool) (k2 n2 : Int) (x2 : Nat) (t2 : List UInt8) (y2 : Bool) (w : World) (ht : t2.length ≤ 140737488351232) :
    Calls Tryz.prog 71 #[cond nm op k1 n1 x1 t1 y1, val k2 n2 x2 t2 y2] w fun e w' =>
      e = .returned (.bool (holdsB ⟨nm, op, ⟨k1, n1, x1, t1, y1⟩⟩ ⟨k2, n2, x2, t2, y2⟩)) ∧ Below w.heap.size w w' := by
  have hd : holdsB ⟨nm, op, ⟨k1, n1, x1, t1, y1⟩⟩ ⟨k2, n2, x2, t2, y2⟩ = (if op == 7 then true
    else if op == 6 then cmpOk ⟨k2, n2, x2, t2, y2⟩ ⟨k1, n1, x1, t1, y1⟩ && k2 == 2 && Lib.hasPrefix t2 t1
    else if op == 0 then cmpOk ⟨k2, n2, x2, t2, y2⟩ ⟨k1, n1, x1, t1, y1⟩ && cmp1 ⟨k2, n2, x2, t2, y2⟩ ⟨k1, n1, x1, t1, y1⟩ == 0
    else if op == 1 then cmpOk ⟨k2, n2, x2, t2, y2⟩ ⟨k1, n1, x1, t1, y1⟩ && cmp1 ⟨k2, n2, x2, t2, y2⟩ ⟨k1, n1, x1, t1, y1⟩ != 0
    else if op == 2 then cmpOk ⟨k2, n2, x2, t2, y2⟩ ⟨k1, n1, x1, t1, y1⟩ && decide (cmp1 ⟨k2, n2, x2, t2, y2⟩ ⟨k1, n1, x1, t1, y1⟩ < 0)
    else if op == 3 then cmpOk ⟨k2, n2, x2, t2, y2⟩ ⟨k1, n1, x1, t1, y1⟩ && decide (cmp1 ⟨k2, n2, x2, t2, y2⟩ ⟨k1, n1, x1, t1, y1⟩ ≤ 0)
    else if op == 4 then cmpOk ⟨k2, n2, x2, t2, y2⟩ ⟨k1, n1, x1, t1, y1⟩ && decide (0 < cmp1 ⟨k2, n2, x2, t2, y2⟩ ⟨k1, n1, x1, t1, y1⟩)
    else if op == 5 then cmpOk ⟨k2, n2, x2, t2, y2⟩ ⟨k1, n1, x1, t1, y1⟩ && decide (0 ≤ cmp1 ⟨k2, n2, x2, t2, y2⟩ ⟨k1, n1, x1, t1, y1⟩)
    else false) := rfl
  have hcmp (w : World) := rcompare_any k2 n2 x2 t2 y2 k1 n1 x1 t1 y1 w ht
  generalize holdsB ⟨nm, op, ⟨k1, n1, x1, t1, y1⟩⟩ ⟨k2, n2, x2, t2, y2⟩ = R at *
  generalize cmpOk ⟨k2, n2, x2, t2, y2⟩ ⟨k1, n1, x1, t1, y1⟩ = ok at *
  generalize cmp1 ⟨k2, n2, x2, t2, y2⟩ ⟨k1, n1, x1, t1, y1⟩ = c at *
  have HD := Lib.hid hd; have HC := Lib.hid hcmp; clear hd hcmp
  rcases op_ways op with h7 | ⟨h7, h6⟩ | ⟨h7, h6, h0⟩ | ⟨h7, h6, h0, h1⟩ | ⟨h7, h6, h0, h1, h2⟩ | ⟨h7, h6, h0, h1, h2, h3⟩ | ⟨h7, h6, h0, h1, h2, h3, h4⟩ | ⟨h7, h6, h0, h1, h2, h3, h4, h5⟩ | ⟨h7, h6, h0, h1, h2, h3, h4, h5⟩
  · go_enter Tryz.func71, Tryz.ntmps71
    go_wp2
    go_ret
    exact ⟨ret_bool (by rw [HD.out, h7]; rfl), balloc2 _ _ _⟩
  · obtain rfl : op = 6 := by simpa using h6
    clear h7 h6
    cases ok
    · go_enter Tryz.func71, Tryz.ntmps71
      go_wp2_with (go_at_call 92; refine (HC.out _).mono ?_; rintro e w1 ⟨rfl, hb⟩; obtain ⟨hc, hf⟩ := bcell hb)
      go_ret
      exact ⟨ret_bool (by rw [HD.out]; rfl), btrans (balloc2 _ _ _) hb⟩
    · cases hk : (k2 == 2)
      all_goals
        go_enter Tryz.func71, Tryz.ntmps71
        go_wp2_with (first | (go_at_call 92; refine (HC.out _).mono ?_; rintro e w1 ⟨rfl, hb⟩; obtain ⟨hc, hf⟩ := bcell hb) | (go_at_call 93; refine (rbegins_l _ _ _).mono ?_; rintro e w' ⟨rfl, ⟨nd, rfl⟩⟩))
      all_goals
        go_ret
        exact ⟨ret_bool (by rw [HD.out, hk]; rfl), by first | exact btrans (balloc2 _ _ _) hb | exact bdrewN (btrans (balloc2 _ _ _) hb) _⟩
  all_goals
    cases ok
    all_goals
      go_enter Tryz.func71, Tryz.ntmps71
      go_wp2_with (go_at_call 92; refine (HC.out _).mono ?_; rintro e w1 ⟨rfl, hb⟩; obtain ⟨hc, hf⟩ := bcell hb)
    all_goals
      go_ret
      exact ⟨ret_bool (by rw [HD.out]; simp [*]), btrans (balloc2 _ _ _) hb⟩
end Go.Proofs.YtdggofleokjmcaaGreatDoor.Val
