/- A WRITER OF BYTES: a value; the bytes as a slice of one's own. -/
import Derived.Test.YtpbdgbejcdncgaaWr3
import Derived.Test.YtpbdgbejcdncgaaOrdKey
namespace Go.Proofs.Ytpbdgbejcdncgaa.Wire
open Go.RowKit Flt Go.Proofs.Ytpbdgbejcdncgaa.Val Go.Lib
def u64of (n : Int) : Nat := (n % 18446744073709551616).toNat
theorem u64of_val (n : Int) : ((u64of n : Nat) : Int) = IntKind.u64.wrap n := by
  unfold u64of
  simp only [IntKind.wrap, IntKind.bits, IntKind.signed]
  simp
  omega
/-- a value's bytes -/
def encVal (k n : Int) (x : Nat) (t : List UInt8) (y : Bool) : List UInt8 :=
  byteOf k :: (if (k == 0) = true then encLong (u64of n) else if (k == 1) = true then encLong (Ord.key x) else if (k == 2) = true then encText t else [if y then 1 else 0])
theorem encVal_len (k n : Int) (x : Nat) (t : List UInt8) (y : Bool) : (encVal k n x t y).length ≤ t.length + 9 := by
  unfold encVal
  simp only [List.length_cons]
  split
  · simp [encLong_len]
  · split
    · simp [encLong_len]
    · split
      · rw [encText_len]; omega
      · simp
theorem wr_last {W : World} {b g cap : Nat} {S : List UInt8} {z : UInt8} (h : WrAt W b (.slice (some ⟨g, 0, none⟩) (S.length + 1) cap) (S ++ [z])) :
    Wr (W.setCell ⟨g, S.length, none⟩ (.int .u8 1)) b (S ++ [1]) ∧ Wrote b W (W.setCell ⟨g, S.length, none⟩ (.int .u8 1)) := by
  have hg := h.own.lt g rfl
  have hne : b ≠ g := by omega
  have hc : (W.setCell ⟨g, S.length, none⟩ (.int .u8 1)).cell? ⟨b, 0, none⟩ = some (.slice (some ⟨g, 0, none⟩) (S.length + 1) cap) := (World.cell?_setCell_other _ _ _ _ (by intro e; injection e with e1; exact hne e1.symm)).trans h.cb
  refine ⟨⟨_, hc, by simpa using h.fz, ?_⟩, ⟨rfl, rfl, rfl, by simp, fun p hp => ?_⟩⟩
  · refine ⟨by simp [u8s], ?_⟩
    rcases h.own.2 with ⟨e, _⟩ | ⟨g2, cap2, cur, e, hb2, hgg, hn, hcm, hcs, htake⟩
    · cases e
    · injection e with e1 e2 e3
      injection e1 with e1
      injection e1 with e1
      subst e1; subst e3
      refine .inr ⟨g, cap, cur.setIfInBounds S.length (.int .u8 1), by simp, hb2, heap_setCell_same W g S.length cur _ _ hgg, by simpa using hn, hcm, by simpa using hcs, ?_⟩
      rw [Array.toList_setIfInBounds, List.take_set, show ((S ++ [1] : List UInt8)).length * 1 = (S ++ [z]).length * 1 from by simp only [List.length_append, List.length_cons, List.length_nil], htake]
      simp [u8s]
  · have hpg : p ≠ g := fun e => hp.row _ h.cb (by rw [e]; rfl)
    exact ⟨⟨by simpa using hp.lt, hp.ne, fun u hu => hp.row u (by rw [h.cb, ← hc]; exact hu)⟩, Below.heap_setCell _ _ _ _ hpg⟩
theorem last_cells {W : World} {b g cap L : Nat} {S : List UInt8} {z : UInt8} (hL : S.length = L) (h : WrAt W b (.slice (some ⟨g, 0, none⟩) (L + 1) cap) (S ++ [z])) :
    W.cell? ⟨g, L, none⟩ = some (.int .u8 (z.toNat : Int)) ∧ W.frozen? ⟨g, L, none⟩ = false := by
  subst hL
  constructor
  · have := h.own.cells (g := g) rfl S.length (.int .u8 (z.toNat : Int)) (by simp [u8s])
    have hadd : (⟨g, 0, none⟩ : Addr).add S.length = ⟨g, S.length, none⟩ := by unfold Addr.add; split <;> simp_all
    rwa [hadd] at this
  · rcases h.own.2 with ⟨e, _⟩ | ⟨g2, cap2, cur, e, hb2, hgg, _⟩
    · cases e
    · injection e with e1 e2 e3
      injection e1 with e1
      injection e1 with e1
      subst e1
      simp [World.frozen?, hgg]
/-- a number, behind a box -/
theorem wbyte_box (b : Nat) (s : List UInt8) (n : Int) (w : World) {o : Obj} {T : TypeId} (h : Wr w b s) (hl : s.length + 1 ≤ 1000000) :
    Calls Try.prog 29 #[.pointer (some ⟨b, 0, none⟩), .slice (some ⟨w.heap.size + 1, 0, none⟩) 1 1] ((w.alloc o).alloc (.cells #[.int .i64 n] T)) fun e w' => e = .returned (.pointer (some ⟨b, 0, none⟩)) ∧ Wr w' b (s ++ [byteOf n]) ∧ Wrote b w w' ∧ (∀ q, w'.cell? ⟨w.heap.size, q, none⟩ = (w.alloc o).cell? ⟨w.heap.size, q, none⟩) ∧ Free w' b w.heap.size := by
  have h1 := h.below (balloc w o)
  have := wbyte_one (T := T) b s n (w.alloc o) h1 hl
  rw [show (w.alloc o).heap.size = w.heap.size + 1 from by simp] at this
  refine this.mono ?_
  rintro e w' ⟨rfl, h2, h3⟩
  have hf := h.free_new (balloc w o) (Nat.le_refl _) (by simp)
  exact ⟨rfl, h2, (wrote_below h.lt (balloc _ _)).trans h3, fun q => h3.cell hf q, (h3.free _ hf).1⟩
set_option maxRecDepth 20000 in
set_option maxHeartbeats 4000000 in
theorem wvalue_any (b : Nat) (s : List UInt8) (k n : Int) (x : Nat) (t : List UInt8) (y : Bool) (w : World) (h : Wr w b s) (hx : x < 18446744073709551616) (hl : s.length + (encVal k n x t y).length ≤ 1000000) :
    Calls Try.prog 37 #[.pointer (some ⟨b, 0, none⟩), val k n x t y] w fun e w' => e = .returned (.pointer (some ⟨b, 0, none⟩)) ∧ Wr w' b (s ++ encVal k n x t y) ∧ Wrote b w w' := by
  have hl1 : 1 ≤ (encVal k n x t y).length := by unfold encVal; simp
  have hl0 : s.length + 1 ≤ 1000000 := by omega
  clear hl1
  have hb := fun o T => wbyte_box (o := o) (T := T) b s k w h hl0
  have HB := Lib.hid hb; clear hb h
  have hu := u64of_val n
  cases k0 : (k == 0)
  rotate_left
  · have HE := Lib.hid (show encVal k n x t y = [byteOf k] ++ encLong (u64of n) from by unfold encVal; rw [k0]; rfl)
    have HU := Lib.hid hu; clear hu
    rw [HE.out] at hl; simp only [List.length_append, encLong_len, List.length_singleton] at hl
    go_enter Try.func37, Try.ntmps37
    go_wp2_with (first | (go_at_call 29; (with_reducible refine (HB.out _ _).mono ?_); rintro e w1 ⟨rfl, hw1, ht1, hc1, hf1⟩; have q0 := hc1 0; have q1 := hc1 1; have q2 := hc1 2; have q3 := hc1 3; have q4 := hc1 4; (rw [World.cell?_alloc_at _ _ _ _ rfl] at q0 q1 q2 q3 q4); have HW1 := Lib.hid hw1; have HT1 := Lib.hid ht1; clear hw1 ht1 hc1) | (go_at_call 32; rw [← HU.out]; refine (wlong_any b _ (u64of n) _ HW1.out (by simp; omega)).mono ?_; rintro e w2 ⟨rfl, hw2, ht2⟩) | fail)
    go_ret
    exact ⟨rfl, by rw [HE.out, ← List.append_assoc]; exact hw2, HT1.out.trans ht2⟩
  cases k1 : (k == 1)
  rotate_left
  · have HE := Lib.hid (show encVal k n x t y = [byteOf k] ++ encLong (Ord.key x) from by unfold encVal; rw [k0, k1]; rfl)
    rw [HE.out] at hl; simp only [List.length_append, encLong_len, List.length_singleton] at hl
    go_enter Try.func37, Try.ntmps37
    go_wp2_with (first | (go_at_call 29; (with_reducible refine (HB.out _ _).mono ?_); rintro e w1 ⟨rfl, hw1, ht1, hc1, hf1⟩; have q0 := hc1 0; have q1 := hc1 1; have q2 := hc1 2; have q3 := hc1 3; have q4 := hc1 4; (rw [World.cell?_alloc_at _ _ _ _ rfl] at q0 q1 q2 q3 q4); have HW1 := Lib.hid hw1; have HT1 := Lib.hid ht1; clear hw1 ht1 hc1) | (go_at_call 46; refine (Ord.key_any _ hx _).mono ?_; rintro e w' ⟨rfl, rfl⟩) | (go_at_call 32; refine (wlong_any b _ (Ord.key x) _ HW1.out (by simp; omega)).mono ?_; rintro e w2 ⟨rfl, hw2, ht2⟩) | fail)
    go_ret
    exact ⟨rfl, by rw [HE.out, ← List.append_assoc]; exact hw2, HT1.out.trans ht2⟩
  cases k2 : (k == 2)
  rotate_left
  · have HE := Lib.hid (show encVal k n x t y = [byteOf k] ++ encText t from by unfold encVal; rw [k0, k1, k2]; rfl)
    rw [HE.out] at hl; simp only [List.length_append, encText_len, List.length_singleton] at hl
    go_enter Try.func37, Try.ntmps37
    go_wp2_with (first | (go_at_call 29; (with_reducible refine (HB.out _ _).mono ?_); rintro e w1 ⟨rfl, hw1, ht1, hc1, hf1⟩; have q0 := hc1 0; have q1 := hc1 1; have q2 := hc1 2; have q3 := hc1 3; have q4 := hc1 4; (rw [World.cell?_alloc_at _ _ _ _ rfl] at q0 q1 q2 q3 q4); have HW1 := Lib.hid hw1; have HT1 := Lib.hid ht1; clear hw1 ht1 hc1) | (go_at_call 31; refine (wtext_any b _ t _ HW1.out (by simp; omega)).mono ?_; rintro e w2 ⟨rfl, hw2, ht2⟩) | fail)
    go_ret
    exact ⟨rfl, by rw [HE.out, ← List.append_assoc]; exact hw2, HT1.out.trans ht2⟩
  have HE := Lib.hid (show encVal k n x t y = [byteOf k] ++ [if y then 1 else 0] from by unfold encVal; rw [k0, k1, k2]; rfl)
  rw [HE.out] at hl; simp only [List.length_append, List.length_singleton] at hl
  cases y
  · go_enter Try.func37, Try.ntmps37
    go_wp2_with (first | (go_at_call 29; (with_reducible refine (HB.out _ _).mono ?_); rintro e w1 ⟨rfl, hw1, ht1, hc1, hf1⟩; have q0 := hc1 0; have q1 := hc1 1; have q2 := hc1 2; have q3 := hc1 3; have q4 := hc1 4; (rw [World.cell?_alloc_at _ _ _ _ rfl] at q0 q1 q2 q3 q4); have HW1 := Lib.hid hw1; have HT1 := Lib.hid ht1; clear hw1 ht1 hc1) | (go_at_call 29; (with_reducible refine (wbyte_one b _ 0 w1 HW1.out (by simp; omega)).mono ?_); rintro e w2 ⟨rfl, hw2, ht2⟩; have q42 := (ht2.cell hf1 4).trans q4) | fail)
    go_ret
    exact ⟨rfl, by rw [HE.out, ← List.append_assoc]; exact hw2, HT1.out.trans ht2⟩
  · go_enter Try.func37, Try.ntmps37
    go_wp2_with (first | (go_at_call 29; (with_reducible refine (HB.out _ _).mono ?_); rintro e w1 ⟨rfl, hw1, ht1, hc1, hf1⟩; have q0 := hc1 0; have q1 := hc1 1; have q2 := hc1 2; have q3 := hc1 3; have q4 := hc1 4; (rw [World.cell?_alloc_at _ _ _ _ rfl] at q0 q1 q2 q3 q4); have HW1 := Lib.hid hw1; have HT1 := Lib.hid ht1; clear hw1 ht1 hc1) | (go_at_call 29; (with_reducible refine (wbyte_one b _ 0 w1 HW1.out (by simp; omega)).mono ?_); rintro e w2 ⟨rfl, hw2, ht2⟩; have q42 := (ht2.cell hf1 4).trans q4; obtain ⟨v, hat⟩ := hw2; obtain ⟨g, cap, rfl, hg1, hg2⟩ := hat.own.form (by simp); obtain ⟨L, hL⟩ : ∃ L, (s ++ [byteOf k]).length = L := ⟨_, rfl⟩; have hLl : L ≤ 1000000 := (by rw [← hL]; simp; omega); rw [show (s ++ [byteOf k] ++ [byteOf 0]).length = L + 1 from (by rw [List.length_append, hL]; rfl)] at hat; obtain ⟨cg, zg⟩ := last_cells hL hat; have c2 : w2.cell? ⟨b, 0, none⟩ = some (.slice (some ⟨g, 0, none⟩) (L + 1) cap) := hat.cb; have z2 := hat.fz; have HLL := Lib.hid hL; have HAT := Lib.hid hat; have HT2 := Lib.hid ht2; clear hat ht2 hL) | fail)
    have j1 : (0 : Int) ≤ (L : Int) := by omega
    have j2 : (L : Int) < (L : Int) + 1 := by omega
    go_region
    all_goals
      go_wp2_with fail
      go_ret
      have hwl := HLL.out
      subst hwl
      first
        | exact ⟨rfl, by rw [HE.out, ← List.append_assoc]; exact (wr_last HAT.out).1, HT1.out.trans (HT2.out.trans (wr_last HAT.out).2)⟩
        | exact ⟨rfl, by rw [HE.out, ← List.append_assoc]; exact (wr_last HAT.out.drew).1, HT1.out.trans (HT2.out.trans ((wrote_drew b w2).trans (wr_last HAT.out.drew).2))⟩
        | trace_state
/-- bytes in memory -/
def BytesAt (w : World) (a0 : Option Addr) (s : List UInt8) : Prop := ∀ i (h : i < s.length), ∃ a, a0 = some a ∧ w.cell? (a.add i) = some (.int .u8 (s[i].toNat : Int))
theorem BytesAt.below {w w2 : World} {a0 : Option Addr} {s : List UInt8} (h : BytesAt w a0 s) (hb : Below w.heap.size w w2) : BytesAt w2 a0 s := fun i hi => by
  obtain ⟨a, e, h1⟩ := h i hi
  exact ⟨a, e, (hb.cell (World.block_lt_of_cell? _ _ h1)).trans h1⟩
theorem own_bytes {w : World} {base : Nat} {v : Value} {s : List UInt8} (h : w.ownsRow base 5 1 v s.length (u8s s)) : ∃ a0 cap, v = .slice a0 s.length cap ∧ s.length ≤ cap ∧ cap ≤ maxLen ∧ BytesAt w a0 s := by
  rcases h.2 with ⟨rfl, h0⟩ | ⟨g, cp, cur, rfl, hb, hg, hn, hc, _⟩
  · have : s = [] := List.eq_nil_of_length_eq_zero h0
    subst this
    exact ⟨none, 0, rfl, Nat.le_refl _, Nat.zero_le _, fun i hi => absurd hi (Nat.not_lt_zero _)⟩
  · refine ⟨some ⟨g, 0, none⟩, cp, rfl, hn, hc, fun i hi => ⟨_, rfl, ?_⟩⟩
    exact h.cells rfl i _ (by simp [u8s, List.getElem?_eq_getElem hi])
set_option maxRecDepth 20000 in
set_option maxHeartbeats 4000000 in
theorem wbytes_any (b : Nat) (s : List UInt8) (w : World) (h : Wr w b s) (hl : s.length ≤ 1000000) :
    Calls Try.prog 15 #[.pointer (some ⟨b, 0, none⟩)] w fun e w' => (∃ a0 cap, e = .returned (.slice a0 s.length cap) ∧ s.length ≤ cap ∧ cap ≤ maxLen ∧ BytesAt w' a0 s) ∧ Below w.heap.size w w' := by
  obtain ⟨i0, hi, hz0, hz1, hz2⟩ := info_parts info_u8W
  obtain ⟨v, hat⟩ := h
  have c0 := hat.cb
  obtain ⟨a1, cap1, rfl, hcap1, hm1, hby⟩ := own_bytes hat.own
  have HBY := Lib.hid hby; clear hby hat
  cases a1 with
  | none =>
    have hs : s = [] := by
      cases s with
      | nil => rfl
      | cons x t => obtain ⟨a, e, _⟩ := HBY.out 0 (by simp); cases e
    subst hs
    go_enter Try.func15, Try.ntmps15
    go_wp2_with fail
    go_ret
    exact ⟨⟨none, 0, rfl, Nat.le_refl _, Nat.zero_le _, fun i hi => absurd hi (Nat.not_lt_zero _)⟩, Below.refl _ _⟩
  | some a =>
    go_enter Try.func15, Try.ntmps15
    go_wp2_with (first | (at_builtin; refine wpList_append_own _ rfl _ _ 22 rfl w.heap.size 5 i0 (.int .u8 0) 1 1 Try.underlying22 hi hz0 hz1 hz2 rfl (by decide) (.slice none 0 0) 0 [] rfl (World.ownsRow_nil _ _ _ _) a s.length cap1 (u8s s) rfl (by simp [u8s]) (fun j u hj => (by have hj2 : j < s.length := (by have := (List.getElem?_eq_some_iff.1 hj).1; simpa [u8s] using this); obtain ⟨a2, e2, h2⟩ := HBY.out j hj2; cases e2; rw [h2, ← hj]; simp [u8s, List.getElem?_eq_getElem hj2])) (u8s_one _) (by unfold maxLen; omega) (by omega) (Nat.le_refl _) ?_; intro v9 w6 hown6 hgrow6 hnil6; clear hnil6) | fail)
    rw [Nat.zero_add, List.nil_append] at hown6
    obtain ⟨a2, cap2, rfl, h1, h2, h3⟩ := own_bytes hown6
    go_ret
    exact ⟨⟨a2, cap2, rfl, h1, h2, h3⟩, Below.grown (Below.refl _ _) hgrow6 (Nat.le_refl _) (fun q hq => by cases hq)⟩
end Go.Proofs.Ytpbdgbejcdncgaa.Wire
