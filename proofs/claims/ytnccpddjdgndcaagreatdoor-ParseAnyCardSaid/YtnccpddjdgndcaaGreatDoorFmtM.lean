/- THE WALK OF ftoa64 at a number that is not nought: of full bits. -/
import Derived.Test.YtnccpddjdgndcaaGreatDoorFmtG
import Derived.Test.YtnccpddjdgndcaaGreatDoorFmtV
import Derived.Test.YtnccpddjdgndcaaGreatDoorFmt5
import Derived.Lib.SmallJoins
namespace Go.Proofs.YtnccpddjdgndcaaGreatDoor.Fmt
open Go.RowKit Go.Lib
/-- the small powers of ten, as they lie -/
def P10 (w : World) : Prop := Lib.TabIs Tryz.prog w "internal/strconv.uint64pow10" .u64 Lib.pow10Tab
theorem P10.below {w w' : World} {B : Nat} (h : P10 w) (hb : Below B w w') (hB : w.heap.size ≤ B) : P10 w' :=
  Go.Joins.tab_stays (g := 6) (by kernel_rfl) h hb hB
theorem own_low {W W2 : World} {base e size : Nat} {v : Value} {n : Nat} {xs : List Value} {g : Nat} (h : W.ownsRow base e size v n xs) (hb : Below g W W2) (hv : ∀ k, v.ownBlock = some k → k < g) : W2.ownsRow base e size v n xs := by
  refine ⟨h.1, ?_⟩
  rcases h.2 with hn | ⟨g2, cap, cur, rfl, hb2, hgg, rest⟩
  · exact .inl hn
  · refine .inr ⟨g2, cap, cur, rfl, hb2, ?_, rest⟩
    rw [hb.block g2 (hv g2 (by simp [Value.ownBlock]))]
    exact hgg
theorem St.filled {w0 w1 w2 : World} {base : Nat} {v : Value} {txt : List UInt8} {g : Nat} {cs : Array Value} (h : St w0 w1 base none v txt) (hgb : base ≤ g) (hb : Below g w1 w2)
    (hv : ∀ k, v.ownBlock = some k → k < g) (hk : w2.heap[g]? = some (.cells cs 151 (0, 0))) : St w0 w2 base (some (g, cs)) v txt :=
  ⟨own_low h.own hb hv, fun p hp => by obtain rfl := Option.some.inj hp; exact hk, h.low.trans (hb.mono hgb), Nat.le_trans h.size hb.size⟩
theorem St.drop {w0 w1 : World} {base : Nat} {src : Option (Nat × Array Value)} {v : Value} {txt : List UInt8} (h : St w0 w1 base src v txt) : St w0 w1 base none v txt :=
  ⟨h.own, fun p hp => (by cases hp), h.low, h.size⟩
theorem St.own_lt {w0 w1 : World} {base : Nat} {src : Option (Nat × Array Value)} {v : Value} {txt : List UInt8} (h : St w0 w1 base src v txt) : ∀ k, v.ownBlock = some k → k < w1.heap.size := fun k hk => (h.own.lt k hk).2
theorem buf_new (w : World) : (w.alloc (.cells (Array.replicate 32 (.int .u8 0)) 151)).heap[w.heap.size]? = some (.cells (Array.replicate 32 (.int .u8 0)) 151 (0, 0)) := heap_alloc_new w _
theorem buf0_of {w : World} {b : Nat} (h : w.heap[b]? = some (.cells (Array.replicate 32 (.int .u8 0)) 151 (0, 0))) : Buf0 w b := by
  intro j hj
  refine ⟨?_, ?_⟩
  · rw [cell_of_row w b j _ _ (0, 0) h, Array.getElem?_replicate, if_pos hj]
  · simp [World.frozen?, h]
theorem or_top (m : Nat) (h : m < 4503599627370496) : bits .or .u64 (m : Int) 4503599627370496 = ((4503599627370496 + m : Nat) : Int) := by
  have h1 := or_u m 4503599627370496 (by omega) (by decide)
  rw [show ((4503599627370496 : Nat) : Int) = 4503599627370496 by decide] at h1
  rw [h1]
  congr 1
  have := Nat.two_pow_add_eq_or_of_lt (i := 52) (by rw [show (2 : Nat) ^ 52 = 4503599627370496 by decide]; exact h) 1
  rw [show (2 : Nat) ^ 52 * 1 = 4503599627370496 by decide] at this
  rw [Nat.or_comm, ← this]
theorem len_top (m : Nat) (h : m < 4503599627370496) : Lib.bitLen (4503599627370496 + m) = 53 := by
  have h1 := bitLenAux_bounds 64 (4503599627370496 + m) (by omega) (by omega)
  obtain ⟨a, b, c⟩ := h1
  have : Lib.bitLen (4503599627370496 + m) = Lib.bitLenAux 64 (4503599627370496 + m) := rfl
  rw [this]
  have h2 : 52 < Lib.bitLenAux 64 (4503599627370496 + m) := (Nat.pow_lt_pow_iff_right (by decide : 1 < 2)).1 (Nat.lt_of_le_of_lt (by rw [show (2 : Nat) ^ 52 = 4503599627370496 by decide]; omega) c)
  have h3 : Lib.bitLenAux 64 (4503599627370496 + m) - 1 < 53 := (Nat.pow_lt_pow_iff_right (by decide : 1 < 2)).1 (Nat.lt_of_le_of_lt b (by rw [show (2 : Nat) ^ 53 = 9007199254740992 by decide]; omega))
  omega
theorem len_norm (m : Nat) (h : m < 4503599627370496) (w : World) : Calls Tryz.prog 118 #[.int .u64 (4503599627370496 + (m : Int))] w fun e w' => e = .returned (.int .i64 53) ∧ w' = w := by
  have hk := Tryz.bits_Len64 (4503599627370496 + (m : Int)) w (by omega) (by omega)
  rw [show (4503599627370496 + (m : Int)).toNat = 4503599627370496 + m by omega, len_top m h] at hk
  exact hk
theorem short_at (M X : Int) (m : Nat) (E : Int) (hM : M = (m : Int)) (hX : X = E) (hm : 9223372036854775808 ≤ (m : Int)) (hm2 : (m : Int) ≤ 18446744073709549568) (hE : -1085 ≤ E) (hE2 : E ≤ 971) (w : World) (hp : Pow w) :
    Calls Tryz.prog 133 #[.int .u64 M, .int .i64 X] w fun e w' => e = .returned (.tuple #[.int .u64 ((short m E).1 : Nat), .int .i64 (short m E).2]) ∧ Below w.heap.size w w' := by
  subst hM hX
  exact short_any m _ hm hm2 hE hE2 w hp
theorem balloc_drew (w : World) (o : Obj) : Below w.heap.size w (w.alloc o).drew := ((Below.refl _ w).alloc (Nat.le_refl _) o).drew
/-- behind the scaling the text so far stands, and the buffer is as it was laid -/
theorem St.shorted {w W1 : World} {base : Nat} {v : Value} {txt : List UInt8} (h : St w w base none v txt)
    (hb : Below (w.alloc (.cells (Array.replicate 32 (.int .u8 0)) 151)).drew.heap.size (w.alloc (.cells (Array.replicate 32 (.int .u8 0)) 151)).drew W1) :
    St w W1.drew base none v txt ∧ W1.drew.heap[w.heap.size]? = some (.cells (Array.replicate 32 (.int .u8 0)) 151 (0, 0)) ∧ Below w.heap.size w W1.drew := by
  have ha := (h.alloc (.cells (Array.replicate 32 (.int .u8 0)) 151)).drew
  have hn : (w.alloc (.cells (Array.replicate 32 (.int .u8 0)) 151)).drew.heap[w.heap.size]? = some (.cells (Array.replicate 32 (.int .u8 0)) 151 (0, 0)) := buf_new w
  have hlt : w.heap.size < (w.alloc (.cells (Array.replicate 32 (.int .u8 0)) 151)).drew.heap.size := (Array.getElem?_eq_some_iff.1 hn).1
  refine ⟨St.drew ⟨own_low ha.own hb (fun k hk => (ha.own.lt k hk).2), fun p hp => (by cases hp), ha.low.trans (hb.mono ha.size), Nat.le_trans ha.size hb.size⟩, ?_, ?_⟩
  · exact (hb.block _ hlt).trans hn
  · exact ((balloc_drew w _).trans (hb.mono (Nat.le_of_lt hlt))).drew
/-- the digits laid into the fresh buffer, behind them the text so far -/
theorem digits_at (g d base : Nat) (p : Int) (D : List UInt8) (v : Value) (txt : List UInt8) (w0 w : World) (hs : St w0 w base none v txt) (hk : w.heap[g]? = some (.cells (Array.replicate 32 (.int .u8 0)) 151 (0, 0)))
    (hgb : base ≤ g) (hv : ∀ k, v.ownBlock = some k → k < g) (hd : d < 18446744073709551616) (hD : digs d = D) (hp : -100000 ≤ p) (hp2 : p ≤ 100000) :
    Calls Tryz.prog 128 #[.slice (some ⟨g, 0, none⟩) 32 32, .int .u64 d, .int .i64 p, .int .i64 (nDigits d : Nat)] w fun e w' =>
      e = .returned (.tuple #[.int .i64 ((nDigits d : Nat) + p), .int .i64 (D.length : Nat)]) ∧ ∃ cs, St w0 w' base (some (g, cs)) v txt ∧ Dig cs D := by
  subst hD
  refine (setDigits_any g d p w _ _ hk (buf0_of hk) hd hp hp2).mono ?_
  rintro e w3 ⟨rfl, hc3, hb3, cs, hk3⟩
  refine ⟨by rw [digs_len], cs, hs.filled hgb hb3 hv hk3, dig_of hk3 hc3⟩
set_option maxRecDepth 20000 in
set_option maxHeartbeats 4000000 in
theorem ftoa_norm (b base : Nat) (v : Value) (txt : List UInt8) (w : World) (hb : b < 18446744073709551616) (he : 1 ≤ bexp b) (he2 : bexp b ≤ 2046) (hs : St w w base none v txt) (hl : txt.length ≤ 100) (hp : Pow w) (ht : P10 w) :
    Calls Tryz.prog 92 #[v, .float .f64 b, .int .u8 103, .int .i64 (-1)] w fun e w' =>
      ∃ v', e = .returned v' ∧ St w w' base none v' (txt ++ sgn (bneg b) ++ numT b) := by
  have hf : bman b < 4503599627370496 := Nat.mod_lt _ (by decide)
  have b1 : bits .and .i64 ((b : Int) / 4503599627370496) 2047 = (bexp b : Int) := and_exp b hb
  have b2 : bits .and .u64 (b : Int) 4503599627370495 = (bman b : Int) := and_man b hb
  have b3 := neg_eq b
  have b4 := or_top (bman b) hf
  have b5 := len_top (bman b) hf
  have hm : fm b = (4503599627370496 + bman b) * 2048 := by unfold fm; rw [if_neg (by omega)]
  have hE : fE b = (bexp b : Int) - 1086 := by unfold fE; rw [if_neg (by omega)]
  have n1 : ¬ (bexp b : Int) = 2047 := by omega
  have n2 : ¬ (bexp b : Int) = 0 := by omega
  have n3 : ((bexp b : Int) == 2047) = false := by simpa using n1
  have n4 : ((bexp b : Int) == 0) = false := by simpa using n2
  have HS := Lib.hid hs; clear hs
  have HL := Lib.hid hl; clear hl
  have HP := Lib.hid hp; clear hp
  have HT := Lib.hid ht; clear ht
  obtain ⟨q1, q2, q3, q4⟩ := (Num.mk he2 (.inl (by omega)) : Num b).facts
  obtain ⟨k1, k2, k3, k4⟩ := (Num.mk he2 (.inl (by omega)) : Num b).nd
  have hT : numT b = gText (digs (short (fm b) (fE b)).1) ((nDigits (short (fm b) (fE b)).1 : Int) + (short (fm b) (fE b)).2) := rfl
  rw [hT]
  have hsh : ∀ W, Pow W → Calls Tryz.prog 133 #[.int .u64 ((4503599627370496 + (bman b : Int)) * 2048), .int .i64 ((bexp b : Int) + -1023 - 11 - 52)] W fun e w' => e = .returned (.tuple #[.int .u64 ((short (fm b) (fE b)).1 : Nat), .int .i64 (short (fm b) (fE b)).2]) ∧ Below W.heap.size W w' :=
    fun W hp => short_at ((4503599627370496 + (bman b : Int)) * 2048) ((bexp b : Int) + -1023 - 11 - 52) (fm b) (fE b) (by omega) (by omega) (by omega) (by omega) (by omega) (by omega) W hp
  clear hT hm hE
  generalize (short (fm b) (fE b)).2 = p at *
  generalize (short (fm b) (fE b)).1 = d at *
  generalize hD : digs d = D at *
  have HD := Lib.hid hD; clear hD
  have HSH := Lib.hid hsh; clear hsh
  go_enter Tryz.func92, Tryz.ntmps92
  go_wp2_with (first | (simp only [sbits_call]) | fail)
  go_region
  go_wp2_with (first | (go_at_call 118; refine (len_norm (bman b) hf _).mono ?_; rintro e w1 ⟨rfl, rfl⟩) | (go_at_call 133; refine (HSH.out _ (HP.out.below (balloc_drew w _))).mono ?_; rintro e w1 ⟨rfl, hb1⟩; obtain ⟨hs1, hk1, hl1⟩ := HS.out.shorted hb1; have HS1 := Lib.hid hs1; have HK1 := Lib.hid hk1; have HL1 := Lib.hid hl1; clear hb1 hs1 hk1 hl1) | fail)
  go_region_with (first | (go_at_call 88; refine (Tryz.internal_strconv_numDigits d (by omega) (by omega) _ (HT.out.below HL1.out (Nat.le_refl _))).mono ?_; rintro e w2 ⟨rfl, rfl⟩) | (go_at_call 128; refine (digits_at w.heap.size d base p D v txt w _ HS1.out HK1.out HS.out.size HS.out.own_lt (by omega) HD.out (by omega) (by omega)).mono ?_; rintro e w3 ⟨rfl, cs, hf3, hd3⟩; have HF3 := Lib.hid hf3; have HD3 := Lib.hid hd3; clear hf3 hd3) | fail)
  all_goals
    go_wp2_with (first | (go_at_call 126; refine (efg_any (bneg b) D w.heap.size base cs v txt _ _ HF3.out.here HD3.out k1 k2 HL.out (by omega) (by omega)).mono ?_; rintro e w4 ⟨v1, rfl, h1⟩; have HR := Lib.hid (h1.from HF3.out.low).drop; clear h1) | fail)
  all_goals
    go_ret
    exact ⟨_, rfl, HR.out⟩
end Go.Proofs.YtnccpddjdgndcaaGreatDoor.Fmt
