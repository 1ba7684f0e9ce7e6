/- strconv.FormatFloat(x, 'g', -1, 64) AT EVERY x: what it hands back. -/
import Derived.Test.YtnccpddjdgndcaaGreatDoorFmtO
import Derived.Test.YtnccpddjdgndcaaGreatDoorFmtW
import Derived.Laws.IdiomStrings
namespace Go.Proofs.YtnccpddjdgndcaaGreatDoor.Fmt
open Go.RowKit Go.Lib
theorem ftoa_any (b base : Nat) (v : Value) (txt : List UInt8) (w : World) (hb : b < 18446744073709551616) (hs : St w w base none v txt) (hl : txt.length ≤ 100) (hp : Pow w) (ht : P10 w) :
    Calls Tryz.prog 92 #[v, .float .f64 b, .int .u8 103, .int .i64 (-1)] w fun e w' =>
      ∃ v', e = .returned v' ∧ St w w' base none v' (txt ++ ftoaT b) := by
  have hx : bexp b < 2048 := Nat.mod_lt _ (by decide)
  by_cases h1 : bexp b = 2047
  · by_cases h2 : bman b = 0
    · have e : ftoaT b = (if bneg b then [45, 73, 110, 102] else [43, 73, 110, 102]) := by unfold ftoaT; rw [if_pos h1, if_neg (by omega)]
      rw [e]
      exact ftoa_inf b base v txt w hb h2 h1 hs hl
    · have e : ftoaT b = [78, 97, 78] := by unfold ftoaT; rw [if_pos h1, if_pos h2]
      rw [e]
      exact ftoa_nan b base v txt w hb h2 h1 hs hl
  · by_cases h3 : bexp b = 0
    · by_cases h4 : bman b = 0
      · have e : ftoaT b = sgn (bneg b) ++ [48] := by unfold ftoaT; rw [if_neg h1, if_pos ⟨h3, h4⟩]
        rw [e, ← List.append_assoc]
        exact ftoa_zero b base v txt w hb h4 h3 hs hl
      · have e : ftoaT b = sgn (bneg b) ++ numT b := by unfold ftoaT; rw [if_neg h1, if_neg (by omega)]
        rw [e, ← List.append_assoc]
        exact ftoa_sub b base v txt w hb h3 (by omega) hs hl hp ht
    · have e : ftoaT b = sgn (bneg b) ++ numT b := by unfold ftoaT; rw [if_neg h1, if_neg (by omega)]
      rw [e, ← List.append_assoc]
      exact ftoa_norm b base v txt w hb (by omega) (by omega) hs hl hp ht
theorem ftoaT_pos (b : Nat) : 0 < (ftoaT b).length := by
  have hx : bexp b < 2048 := Nat.mod_lt _ (by decide)
  unfold ftoaT
  split
  · split
    · decide
    · split <;> decide
  · split
    · simp
    · rename_i h1 h2
      obtain ⟨c, r, e, _⟩ := (Num.mk (by omega) (by omega) : Num b).head
      rw [e, List.length_append, List.length_cons]
      omega
theorem own_cells {W : World} {base g cap : Nat} {t : List UInt8} (h : W.ownsRow base 5 1 (.slice (some ⟨g, 0, none⟩) t.length cap) t.length (t.map e8)) :
    ∀ j (hj : j < t.length), W.cell? ((⟨g, 0, none⟩ : Addr).add j) = some (.int .u8 (t[j].toNat : Int)) := fun j hj => by
  refine h.cells rfl j _ ?_
  rw [List.getElem?_map, List.getElem?_eq_getElem hj]
  rfl
set_option maxRecDepth 20000 in
set_option maxHeartbeats 1000000 in
theorem iformat_any (b : Nat) (w : World) (hb : b < 18446744073709551616) (hp : Pow w) (ht : P10 w) :
    Calls Tryz.prog 54 #[.float .f64 b, .int .u8 103, .int .i64 (-1), .int .i64 64] w fun e w' =>
      e = .returned (.string ⟨(ftoaT b).toArray⟩) ∧ Below w.heap.size w w' := by
  obtain ⟨i0, hi, hz0, hz1, hz2⟩ := info_parts info_u8
  have hft : ∀ v W, St W W w.heap.size none v [] → Below w.heap.size w W → Calls Tryz.prog 92 #[v, .float .f64 b, .int .u8 103, .int .i64 (-1)] W fun e w' => ∃ v', e = .returned v' ∧ St W w' w.heap.size none v' (ftoaT b) :=
    fun v W hs hb2 => by
      have := ftoa_any b w.heap.size v [] W hb hs (by decide) (fun i hi => ⟨(hb2.cell (p := ⟨16, i * 2, none⟩) hp.lt).trans (hp i hi).1, (hb2.cell (p := ⟨16, i * 2 + 1, none⟩) hp.lt).trans (hp i hi).2⟩) (ht.below hb2 (Nat.le_refl _))
      rwa [List.nil_append] at this
  have HF := Lib.hid hft; clear hft
  have hpos := ftoaT_pos b
  generalize ftoaT b = t at *
  have HPOS := Lib.hid hpos; clear hpos
  clear hp ht
  go_enter Tryz.func54, Tryz.ntmps54
  go_wp2_with (first
    | (at_make; refine wpList_make_own _ rfl _ _ 95 rfl w.heap.size 5 i0 (.int .u8 0) 1 Tryz.underlying95 hi hz0 hz1 _ _ _ 24 rfl rfl (by first | rfl | assumption) (by rw [hz2]; omega) (by unfold maxLen; omega) (Nat.le_refl _) ?_; intro w1 hown hg)
    | (go_at_call 92; refine (HF.out _ _ ⟨hown, fun p hp => (by cases hp), Below.refl _ _, hg.size⟩ ((Below.refl _ w).grown hg (Nat.le_refl _) (by intro k hk; cases hk))).mono ?_; rintro e w2 ⟨v2, rfl, hs2⟩; obtain ⟨g, cap, rfl⟩ := Go.Joins.ownsRow_form hs2.own HPOS.out; have hcv := run_convert_bytes_back (P := Tryz.prog) w2 95 9 5 ⟨g, 0, none⟩ cap t Tryz.underlying95 Tryz.underlying5 Tryz.underlying9 (own_cells hs2.own))
    | fail)
  go_ret
  exact ⟨rfl, ((Below.refl _ w).grown hg (Nat.le_refl _) (by intro k hk; cases hk)).trans hs2.low⟩
set_option maxHeartbeats 1000000 in
theorem format_any (b : Nat) (w : World) (hb : b < 18446744073709551616) (hp : Pow w) (ht : P10 w) :
    Calls Tryz.prog 36 #[.float .f64 b, .int .u8 103, .int .i64 (-1), .int .i64 64] w fun e w' =>
      e = .returned (.string ⟨(ftoaT b).toArray⟩) ∧ Below w.heap.size w w' := by
  have hf := iformat_any b w hb hp ht
  have hd := iformat_any b w.drew hb (fun i hi => hp i hi) ht
  generalize ftoaT b = t at *
  have HF := Lib.hid hf; have HE := Lib.hid hd; clear hf hd hp ht
  go_enter Tryz.func36, Tryz.ntmps36
  go_wp2_with (first | (go_at_call 54; (first | refine HF.out.mono ?_ | refine HE.out.mono ?_); rintro e w2 ⟨rfl, hb2⟩; have HB := Lib.hid hb2; clear hb2) | fail)
  go_ret
  exact ⟨rfl, HB.out⟩
end Go.Proofs.YtnccpddjdgndcaaGreatDoor.Fmt
