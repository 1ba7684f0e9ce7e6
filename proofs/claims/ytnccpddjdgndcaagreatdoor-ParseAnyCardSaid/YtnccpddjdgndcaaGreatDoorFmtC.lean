/- fmtEFG at 'g', the shortest: one contract. -/
import Derived.Test.YtnccpddjdgndcaaGreatDoorFmt7
import Derived.Test.YtnccpddjdgndcaaGreatDoorFmtB
import Derived.Test.YtnccpddjdgndcaaGreatDoorFmt8
import Derived.Test.YtnccpddjdgndcaaGreatDoorFmt9
import Derived.Test.YtnccpddjdgndcaaGreatDoorFmtA
namespace Go.Proofs.YtnccpddjdgndcaaGreatDoor.Fmt
open Go.RowKit Go.Lib
theorem fText_f0 (D : List UInt8) (z : Nat) (h : 1 ≤ D.length) : fText D (-(z : Int)) = [48, 46] ++ List.replicate z 48 ++ D := by
  have h1 : ¬ (0 : Int) < -(z : Int) := by omega
  have h2 : (-(z : Int)) < D.length := by omega
  have h3 : (-(z : Int)).toNat = 0 := by omega
  have h4 : (- -(z : Int)).toNat = z := by omega
  rw [fText, if_neg h1, if_pos h2, h3, h4]
  simp
theorem fText_f1 (D : List UInt8) (q : Nat) (h0 : 0 < q) (h : D.length ≤ q) : fText D (q : Int) = D ++ List.replicate (q - D.length) 48 := by
  have h1 : (0 : Int) < (q : Int) := by omega
  have h2 : ¬ (q : Int) < D.length := by omega
  rw [fText, if_pos h1, if_neg h2, Int.toNat_natCast, List.take_of_length_le h]
  simp
theorem fText_f2 (D : List UInt8) (q : Nat) (h0 : 0 < q) (h : q < D.length) : fText D (q : Int) = D.take q ++ [46] ++ D.drop q := by
  have h1 : (0 : Int) < (q : Int) := by omega
  have h2 : (q : Int) < D.length := by omega
  have h3 : (-(q : Int)).toNat = 0 := by omega
  have h4 : q - D.length = 0 := by omega
  rw [fText, if_pos h1, if_pos h2, Int.toNat_natCast, h3, h4]
  simp
theorem efg_any (neg : Bool) (D : List UInt8) (g base : Nat) (cs : Array Value) (v : Value) (txt : List UInt8) (dp : Int) (w : World)
    (hs : St w w base (some (g, cs)) v txt) (hd : Dig cs D) (hD : 1 ≤ D.length) (hD2 : D.length ≤ 20) (hl : txt.length ≤ 100) (h1 : -400 ≤ dp) (h2 : dp ≤ 400) :
    Calls Tryz.prog 126 #[v, .bool neg, .slice (some ⟨g, 0, none⟩) 32 32, .int .i64 dp, .int .i64 (D.length : Nat), .int .i64 (D.length : Nat), .int .u8 103, .bool true] w fun e w' =>
      ∃ v', e = .returned v' ∧ St w w' base (some (g, cs)) v' (txt ++ sgn neg ++ gText D dp) := by
  by_cases he : dp - 1 < -4 ∨ 6 ≤ dp - 1
  · rw [gText, if_pos he]
    cases neg
    · exact efg_e0 D g base cs v txt dp w hs hd hD hD2 hl h1 h2 he
    · exact efg_e1 D g base cs v txt dp w hs hd hD hD2 hl h1 h2 he
  · rw [gText, if_neg he]
    rcases Int.lt_or_le 0 dp with hp | hp
    · obtain ⟨q, rfl⟩ : ∃ q : Nat, dp = (q : Int) := ⟨dp.toNat, by omega⟩
      rcases Nat.lt_or_ge q D.length with hq | hq
      · rw [fText_f2 D q (by omega) hq]
        exact efg_f2 neg D g base q cs v txt w hs hd hD hD2 hl (by omega) hq (by omega)
      · rw [fText_f1 D q (by omega) hq]
        exact efg_f1 neg D g base q cs v txt w hs hd hD hD2 hl hq (by omega)
    · obtain ⟨z, rfl⟩ : ∃ z : Nat, dp = -(z : Int) := ⟨(-dp).toNat, by omega⟩
      rw [fText_f0 D z hD]
      exact efg_f0 neg D g base z cs v txt w hs hd hD hD2 hl (by omega)
end Go.Proofs.YtnccpddjdgndcaaGreatDoor.Fmt
