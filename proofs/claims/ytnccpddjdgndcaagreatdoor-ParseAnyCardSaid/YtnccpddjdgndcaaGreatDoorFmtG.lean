/- THE WALK OF ftoa64 at what is no number, and at the infinities. -/
import Derived.Test.YtnccpddjdgndcaaGreatDoorFmtF
import Derived.Lib.AppendStr
namespace Go.Proofs.YtnccpddjdgndcaaGreatDoor.Fmt
open Go.RowKit Go.Lib
theorem wpList_text_str {ops : Array Oper} {rest : List Oper} {o : Oper} {a : Act} {Q : Exit → Act → World → Prop} {w0 W : World} {base : Nat} {src : Option (Nat × Array Value)} {txt : List UInt8}
    (hgd : o.guard = none) (s x : Operand) (ho : o.op = .call { callee := .builtin .append, args := #[s, x], argTypes := #[95, 9] })
    (hs : St w0 W base src (a.eval s) txt) (t : ByteArray) (new : List UInt8) (hx : a.eval x = .string t) (he : strCells t = new.map e8) (hm : new.length = t.size) (hb : txt.length + new.length ≤ 1000)
    (h : ∀ v' w', St w0 w' base src v' (txt ++ new) → wpList Tryz.prog ops Q rest (a.put o.dst v') w') : wpList Tryz.prog ops Q (o :: rest) a W := by
  obtain ⟨i0, hi, hz⟩ := Option.map_eq_some_iff.1 info_u8
  injection hz with hz0 hzz
  injection hzz with hz1 hz2
  refine wpList_append_own_string _ hgd s x 95 9 ho base 5 i0 Tryz.underlying95 Tryz.underlying9 hi hz0 hz1 hz2 _ _ _ rfl hs.own t hx (by unfold maxLen; omega) (by omega) hs.size ?_
  intro v' w3 ho3 hg _
  exact h v' w3 (hs.step0 ho3 hg he hm.symm)
set_option maxRecDepth 20000 in
set_option maxHeartbeats 4000000 in
theorem ftoa_nan (b base : Nat) (v : Value) (txt : List UInt8) (w : World) (hb : b < 18446744073709551616) (hz : bman b ≠ 0) (he : bexp b = 2047) (hs : St w w base none v txt) (hl : txt.length ≤ 100) :
    Calls Tryz.prog 92 #[v, .float .f64 b, .int .u8 103, .int .i64 (-1)] w fun e w' =>
      ∃ v', e = .returned v' ∧ St w w' base none v' (txt ++ [78, 97, 78]) := by
  have b1 : bits .and .i64 ((b : Int) / 4503599627370496) 2047 = 2047 := by rw [and_exp b hb, he]; rfl
  have b2 : (bits .and .u64 (b : Int) 4503599627370495 != 0) = true := by rw [and_man b hb, bne_iff_ne]; omega
  have HS := Lib.hid hs; clear hs
  have HL := Lib.hid hl; clear hl
  clear hz he
  go_enter Tryz.func92, Tryz.ntmps92
  go_wp2_with (first | (simp only [sbits_call]) | fail)
  go_region
  go_wp2_with (at_builtin; go_loud (refine wpList_text_str rfl _ _ rfl HS.out.drew ⟨#[78, 97, 78]⟩ [78, 97, 78] rfl rfl rfl (by have := HL.out; simp; omega) ?_); intro v' w3 hs3; have HR := Lib.hid hs3; clear hs3)
  go_ret
  exact ⟨_, rfl, HR.out⟩
set_option maxRecDepth 20000 in
set_option maxHeartbeats 4000000 in
theorem ftoa_inf (b base : Nat) (v : Value) (txt : List UInt8) (w : World) (hb : b < 18446744073709551616) (hz : bman b = 0) (he : bexp b = 2047) (hs : St w w base none v txt) (hl : txt.length ≤ 100) :
    Calls Tryz.prog 92 #[v, .float .f64 b, .int .u8 103, .int .i64 (-1)] w fun e w' =>
      ∃ v', e = .returned v' ∧ St w w' base none v' (txt ++ (if bneg b then [45, 73, 110, 102] else [43, 73, 110, 102])) := by
  have b1 : bits .and .i64 ((b : Int) / 4503599627370496) 2047 = 2047 := by rw [and_exp b hb, he]; rfl
  have b2 : bits .and .u64 (b : Int) 4503599627370495 = 0 := by rw [and_man b hb, hz]; rfl
  have b3 := neg_eq b
  have HS := Lib.hid hs; clear hs
  have HL := Lib.hid hl; clear hl
  clear hz he
  cases hn : bneg b
  · rw [hn] at b3; clear hn
    go_enter Tryz.func92, Tryz.ntmps92
    go_wp2_with (first | (simp only [sbits_call]) | fail)
    go_region
    go_wp2_with (at_builtin; refine wpList_text_str rfl _ _ rfl HS.out.drew ⟨#[43, 73, 110, 102]⟩ [43, 73, 110, 102] rfl rfl rfl (by have := HL.out; simp; omega) ?_; intro v' w3 hs3; have HR := Lib.hid hs3; clear hs3)
    go_ret
    exact ⟨_, rfl, HR.out⟩
  · rw [hn] at b3; clear hn
    go_enter Tryz.func92, Tryz.ntmps92
    go_wp2_with (first | (simp only [sbits_call]) | fail)
    go_region
    go_wp2_with (at_builtin; refine wpList_text_str rfl _ _ rfl HS.out.drew ⟨#[45, 73, 110, 102]⟩ [45, 73, 110, 102] rfl rfl rfl (by have := HL.out; simp; omega) ?_; intro v' w3 hs3; have HR := Lib.hid hs3; clear hs3)
    go_ret
    exact ⟨_, rfl, HR.out⟩
end Go.Proofs.YtnccpddjdgndcaaGreatDoor.Fmt
