/- MERGED BY A PROGRAM OF MINE (pmg.py) out of my own texts, pruned, in their order: PfE2, PwLaid, PaFn, ScFn, Sc, PaCut, OwnC, PaPie, ImplFn, NewFn, New, Fit03, Light03, OrdKey, Same, ESame, ERight, RightA, FilFn, ScL, Fil, FilM, PaFil, Print, ShelfV, Unq, Fit02, ReadT, PlainQ, PaOne, PaOneA, PaFilG, CPrint, Sort1, SortFn, Sort2, Need, Norm, FPrint. -/
import Derived.Test.YtnccpddjdgndcaaGreatDoorMgParseBack1
import Derived.Test.YtnccpddjdgndcaaGreatDoorUqB
import Derived.Lib.TrimByte
import Derived.Lib.Bytealg
import Derived.Lib.Strings
import Derived.Test.YtnccpddjdgndcaaGreatDoorRows
import Derived.Test.YtnccpddjdgndcaaGreatDoorShelf
import Derived.WalkKit
import Derived.WalkSpells
import Derived.WalkLawsBesides
import Derived.Lib.Hide
import Derived.Lib.PathFns
import Derived.Deep.Draws
import Derived.Laws.AppendOwn
import Derived.Laws.AppendOwnNone
import Derived.Laws.OwnMore
import Derived.Test.YtnccpddjdgndcaaGreatDoorOrd
import Derived.Laws.StructEq
import Derived.Test.YtnccpddjdgndcaaGreatDoorVal
import Derived.Test.YtnccpddjdgndcaaGreatDoorQuo
import Derived.Test.YtnccpddjdgndcaaGreatDoorTabs
import Derived.Lib.AppendIntMem
import Derived.Shelf.Unicode.ValidAny
import Derived.Test.YtnccpddjdgndcaaGreatDoorProg
import Derived.Handy
import Derived.BigQuiet
import Derived.Deep.QuietTactic
import Derived.Lib.ValidAsc
import Derived.BigGuardPart
import Derived.Test.YtnccpddjdgndcaaGreatDoorFmtM

section
/- THE WALK OF strconv.atof64exact. -/
namespace Go.Proofs.YtnccpddjdgndcaaGreatDoor.Pf
open Go.RowKit Go.Proofs.YtnccpddjdgndcaaGreatDoor.Fmt Go.Proofs.YtnccpddjdgndcaaGreatDoor.Nt Ieee
/-- what the exact road reads: all of the table -/
structure PfW (w : World) : Prop where
  opt : w.cell? ⟨7, 0, none⟩ = some (.bool true)
  inf : w.cell? ⟨10, 0, none⟩ = some (.int .u64 52)
  pow : ∃ R o c : Nat, w.cell? ⟨13, 0, none⟩ = some (.slice (some ⟨R, o, none⟩) 23 c) ∧ ∀ k, k < 23 → w.cell? ⟨R, o + k, none⟩ = some (.float .f64 (tn k))
theorem PfW.below {w w' : World} {B : Nat} (h : PfW w) (hb : Below B w w') (hB : w.heap.size ≤ B) : PfW w' := by
  obtain ⟨h1, h2, R, o, c, h3, h4⟩ := h
  exact ⟨Tab.cell_below hb hB h1, Tab.cell_below hb hB h2, R, o, c, Tab.cell_below hb hB h3, fun k hk => Tab.cell_below hb hB (h4 k hk)⟩
theorem run_mul (x y r : Nat) (h : double.mul x y = some r) (w : World) : (binOp .mul 23 (.float .f64 x) (.float .f64 y)).run Tryz.prog w = .ok (.float .f64 r) w := by
  have h2 : FloatKind.f64.format.mul x y = some r := h
  simp [binOp, Op.floatArith, h2]
theorem run_quo (x y r : Nat) (h : double.div x y = some r) (w : World) : (binOp .quo 23 (.float .f64 x) (.float .f64 y)).run Tryz.prog w = .ok (.float .f64 r) w := by
  have h2 : FloatKind.f64.format.div x y = some r := h
  simp [binOp, Op.floatArith, h2]
theorem ford_lt (a b : Nat) : (FloatKind.f64.format.order a b == some .lt) = Flt.lt a b := Flt.order_lt a b
theorem ford_gt (a b : Nat) : (FloatKind.f64.format.order a b == some .gt) = Flt.lt b a := Flt.order_gt a b
theorem un_neg (b : Nat) : Op.unary .neg (.float .f64 b) = pure (.float .f64 (Op.negFloat .f64 b)) := rfl
attribute [local go_sem] ford_lt ford_gt un_neg
theorem negF (b : Nat) (h : b < 9223372036854775808) : Op.negFloat .f64 b = sgN true + b := by
  unfold Op.negFloat
  have e : (2 : Nat) ^ (FloatKind.f64.format.exponentBits + FloatKind.f64.format.fractionBits) = 2 ^ 63 := by decide
  rw [e, show sgN true = 2 ^ 63 by decide]
  have h2 := Nat.two_pow_add_eq_or_of_lt (i := 63) (b := b) (by rw [show (2 : Nat) ^ 63 = 9223372036854775808 by decide]; exact h) 1
  rw [Nat.mul_one] at h2
  rw [h2]
  apply Nat.eq_of_testBit_eq
  intro i
  rw [Nat.testBit_xor, Nat.testBit_or, Nat.testBit_two_pow]
  by_cases hi : 63 = i
  · subst hi
    have : b.testBit 63 = false := Nat.testBit_lt_two_pow (by rw [show (2 : Nat) ^ 63 = 9223372036854775808 by decide]; exact h)
    rw [this]; simp
  · simp [hi]
theorem write_lt (d : Ieee.Datum) : double.write d < 18446744073709551616 := by
  have hw : ∀ (s : Bool) (r : Nat), r < 9223372036854775808 → double.word s r < 18446744073709551616 := fun s r hr => by
    rw [word_eq]
    have : sgN s ≤ 9223372036854775808 := by cases s <;> decide
    omega
  cases d with
  | number s m p =>
    show double.nearest s m p < _
    unfold Format.nearest
    split
    · exact hw _ _ (by decide)
    · refine hw _ _ (Nat.lt_of_le_of_lt (Nat.min_le_right _ _) ?_)
      rw [inf_eq]; decide
  | infinity s => exact hw _ _ (by rw [inf_eq]; decide)
  | nan s f =>
    refine hw _ _ ?_
    rw [inf_eq]
    have h1 : double.binade = 4503599627370496 := by decide
    rw [h1]
    have := Nat.mod_lt f (show 0 < 4503599627370496 by decide)
    omega
theorem mul_lt {x y r : Nat} (h : double.mul x y = some r) : r < 18446744073709551616 := by
  unfold Format.mul at h
  rw [Option.map_eq_some_iff] at h
  obtain ⟨d, _, e⟩ := h
  rw [← e]; exact write_lt d
theorem div_lt {x y r : Nat} (h : double.div x y = some r) : r < 18446744073709551616 := by
  unfold Format.div at h
  rw [Option.map_eq_some_iff] at h
  obtain ⟨d, _, e⟩ := h
  rw [← e]; exact write_lt d
/-- what the exact road answers -/
def ExP (d : Nat) (p : Int) (ng : Bool) (e : Ending) : Prop :=
  ∃ (x : Nat) (ok : Bool), e = .returned (.tuple #[.float .f64 x, .bool ok]) ∧ x < 18446744073709551616 ∧ (ok = true → ∀ b, 1 ≤ b → b < 9218868437227405312 → InR b (d * pw2 0 * pw10 p) → x = double.word ng b)
set_option maxRecDepth 20000 in
set_option maxHeartbeats 2000000 in
theorem exact_any (d : Nat) (p : Int) (ng : Bool) (hd : 1 ≤ d) (hd2 : d < 18446744073709551616) (hp0 : -1000 ≤ p) (hp1 : p ≤ 1000) (w : World) (hw : PfW w) :
    Calls Tryz.prog 158 #[.int .u64 d, .int .i64 p, .bool ng] w fun e w' => ExP d p ng e ∧ w = w' := by
  obtain ⟨_, hi, R, o, c, hs, ht⟩ := hw
  by_cases hbig : 4503599627370496 ≤ d
  · have h1 : ((d : Int) / 4503599627370496 != 0) = true := by simp; omega
    clear ht hs
    go_enter Tryz.func158, Tryz.ntmps158
    go_wp2
    refine bodyPost_ret (v := .tuple #[.float .f64 0, .bool false]) (by simp [results, Tryz.results158, go_sem]; try rfl) rfl ?_
    exact ⟨⟨_, false, rfl, (by first | decide | exact HFB.out | exact HGB.out | exact HHB.out), fun h => absurd h (by decide)⟩, rfl⟩
  have h1 : ((d : Int) / 4503599627370496 != 0) = false := by
    have : (d : Int) / 4503599627370496 = 0 := by omega
    rw [this]; rfl
  obtain ⟨b0, a1, a2, a3, a4⟩ := exact_word false d hd (by omega)
  have hfl : floatOfInt .f64 (d : Int) = b0 := by
    have e : floatOfInt .f64 (d : Int) = double.nearest false d 0 := by
      show double.nearest (decide ((d : Int) < 0)) ((d : Int).natAbs) 0 = _
      rw [decide_eq_false (by omega)]; rfl
    rw [e, a3, word_eq]; simp [sgN]
  have hng : Op.negFloat .f64 b0 = sgN true + b0 := negF b0 (by omega)
  obtain ⟨F, hF⟩ : ∃ F, sgN ng + b0 = F := ⟨_, rfl⟩
  have hFw : double.word ng b0 = F := by rw [word_eq, hF]
  have hFb : F < 18446744073709551616 := by
    rw [← hF]
    have : sgN ng ≤ 9223372036854775808 := by cases ng <;> decide
    omega
  have HFB := Lib.hid hFb
  clear hFb
  have hF2 : (if ng then Op.negFloat .f64 b0 else b0) = F := by
    rw [← hF, hng]; cases ng <;> simp [sgN]
  have hdd : d ≤ 9007199254740992 := by omega
  have hn : double.nearest ng d 0 = double.word ng b0 := by
    obtain ⟨b1, x1, x2, x3, x4⟩ := exact_word ng d hd hdd
    have := ex_zero ng b1 b0 d a1 a2 hd x3 (by
      have := inr_whole b0 d 0 a1 a2 (by rw [Nat.pow_zero, Nat.mul_one]; exact a4)
      exact this)
    rw [x3, this]
  have hmul := fun k (hk : k < 23) => mul_some ng false b0 (tn k) a2 (tens_ok k hk).2.1
  have hdiv := fun k (hk : k < 23) => div_some ng false b0 (tn k) a2 (tens_ok k hk).1 (tens_ok k hk).2.1
  have hw0 : ∀ k, double.word false (tn k) = tn k := fun k => by rw [word_eq]; simp [sgN]
  have E0 := fun b (h1 : 1 ≤ b) (h2 : b < 9218868437227405312) (hr : InR b (d * pw2 0 * pw10 0)) => ex_zero ng b0 b d h1 h2 hd hn hr
  have E1 := fun b (k : Nat) (hk : k < 23) (h1 : 1 ≤ b) (h2 : b < 9218868437227405312) (hr : InR b (d * pw2 0 * pw10 (k : Int))) => ex_mul ng b0 b d k hk h1 h2 a1 a2 hd hdd a4 hr
  have E2 := fun b (k : Nat) (hk : k < 23) (h1 : 1 ≤ b) (h2 : b < 9218868437227405312) (hr : InR b (d * pw2 0 * pw10 (-(k : Int)))) => ex_div ng b0 b d k hk h1 h2 a1 a2 hd hdd a4 hr
  have E3 := fun k H (hk : k < 16) (hH : double.mul (double.word ng b0) (tn k) = some H) (l1 : Flt.lt 4831355200913801216 H = false) (l2 : Flt.lt H 14054727237768577024 = false) => ex_mul2 ng b0 d k H hk a1 a2 hd hdd a4 hH l1 l2
  simp only [hw0, hFw] at hmul hdiv E0 E1 E2 E3
  have HM := Lib.hid hmul; have HD := Lib.hid hdiv; have H0 := Lib.hid E0; have H1 := Lib.hid E1; have H2 := Lib.hid E2; have H3 := Lib.hid E3; have HT := Lib.hid ht
  clear hmul hdiv hw0 E0 E1 E2 E3 ht hn a3 a4 hFw hng
  have hstart : (if ng then Op.negFloat .f64 b0 else b0) = F := hF2
  clear hF2 hF hdd hbig
  have HST := Lib.hid hstart
  clear hstart
  have go : ∀ (q : Unit), Calls Tryz.prog 158 #[.int .u64 d, .int .i64 p, .bool ng] w fun e w' => ExP d p ng e ∧ w = w' := by
    intro _
    by_cases p0 : p = 0
    · subst p0
      cases ng
      all_goals
        have hst := HST.out
        simp only [Bool.false_eq_true, if_false, if_true] at hst
        go_enter Tryz.func158, Tryz.ntmps158
        go_wp2
        refine bodyPost_ret (v := .tuple #[.float .f64 F, .bool true]) (by simp [results, Tryz.results158, go_sem]; try rfl) rfl ?_
        exact ⟨⟨_, true, rfl, (by first | decide | exact HFB.out | exact HGB.out | exact HHB.out), fun _ b h1 h2 hr => H0.out b h1 h2 hr⟩, rfl⟩
    have pb0 : (p == 0) = false := by simpa using p0
    by_cases pp : 0 < p ∧ p ≤ 37
    · obtain ⟨pp1, pp2⟩ := pp
      by_cases p22 : 22 < p
      · obtain ⟨k, rfl⟩ : ∃ k : Nat, p = (k : Int) + 22 := ⟨(p - 22).toNat, by omega⟩
        have hk : k < 16 := by omega
        obtain ⟨r, m1, m2, m3⟩ := HM.out k (by omega)
        rw [Bool.xor_false] at m1
        obtain ⟨H, hH⟩ : ∃ H, double.word ng r = H := ⟨_, rfl⟩
        rw [hH] at m1
        have HHB := Lib.hid (mul_lt m1)
        have rm := fun W => run_mul F (tn k) H m1 W
        have hc := HT.out k (by omega)
        have hc22 := HT.out 22 (by decide)
        have k1 : (0 : Int) ≤ (k : Int) := by omega
        have k2 : (k : Int) < 23 := by omega
        have M1 := Lib.hid m1
        clear m1 m2 m3 hH
        cases l1 : Flt.lt 4831355200913801216 H
        · cases l2 : Flt.lt H 14054727237768577024
          · obtain ⟨⟨G, g1⟩, g2⟩ := H3.out k H hk M1.out l1 l2
            have rm2 := fun W => run_mul H (tn 22) G g1 W
            have HGB := Lib.hid (mul_lt g1)
            have G1 := Lib.hid g1; have G2 := Lib.hid g2
            clear g1 g2
            cases ng
            all_goals
              have hst := HST.out
              simp only [Bool.false_eq_true, if_false, if_true] at hst
              go_enter Tryz.func158, Tryz.ntmps158
              go_wp2
              refine bodyPost_ret (v := .tuple #[.float .f64 G, .bool true]) (by simp [results, Tryz.results158, go_sem]; try rfl) rfl ?_
              exact ⟨⟨_, true, rfl, (by first | decide | exact HFB.out | exact HGB.out | exact HHB.out), fun _ b h1 h2 hr => G2.out b G h1 h2 hr G1.out⟩, rfl⟩
          · cases ng
            all_goals
              have hst := HST.out
              simp only [Bool.false_eq_true, if_false, if_true] at hst
              go_enter Tryz.func158, Tryz.ntmps158
              go_wp2
              refine bodyPost_ret (v := .tuple #[.float .f64 H, .bool false]) (by simp [results, Tryz.results158, go_sem]; try rfl) rfl ?_
              exact ⟨⟨_, false, rfl, (by first | decide | exact HFB.out | exact HGB.out | exact HHB.out), fun h => absurd h (by decide)⟩, rfl⟩
        · cases ng
          all_goals
            have hst := HST.out
            simp only [Bool.false_eq_true, if_false, if_true] at hst
            go_enter Tryz.func158, Tryz.ntmps158
            go_wp2
            refine bodyPost_ret (v := .tuple #[.float .f64 H, .bool false]) (by simp [results, Tryz.results158, go_sem]; try rfl) rfl ?_
            exact ⟨⟨_, false, rfl, (by first | decide | exact HFB.out | exact HGB.out | exact HHB.out), fun h => absurd h (by decide)⟩, rfl⟩
      · obtain ⟨k, rfl⟩ : ∃ k : Nat, p = (k : Int) := ⟨p.toNat, by omega⟩
        obtain ⟨r, m1, m2, m3⟩ := HM.out k (by omega)
        rw [Bool.xor_false] at m1
        obtain ⟨G, hG⟩ : ∃ G, double.word ng r = G := ⟨_, rfl⟩
        rw [hG] at m1
        have HGB := Lib.hid (mul_lt m1)
        have rm := fun W => run_mul F (tn k) G m1 W
        have hc := HT.out k (by omega)
        have k1 : (0 : Int) ≤ (k : Int) := by omega
        have k2 : (k : Int) < 23 := by omega
        have k4 : 0 < k := by omega
        have k5 : ¬ (22 : Int) < (k : Int) := by omega
        have M1 := Lib.hid m1
        clear m1 m2 m3 hG
        cases l1 : Flt.lt 4831355200913801216 F
        · cases l2 : Flt.lt F 14054727237768577024
          · cases ng
            all_goals
              have hst := HST.out
              simp only [Bool.false_eq_true, if_false, if_true] at hst
              go_enter Tryz.func158, Tryz.ntmps158
              go_wp2
              refine bodyPost_ret (v := .tuple #[.float .f64 G, .bool true]) (by simp [results, Tryz.results158, go_sem]; try rfl) rfl ?_
              exact ⟨⟨_, true, rfl, (by first | decide | exact HFB.out | exact HGB.out | exact HHB.out), fun _ b h1 h2 hr => by have q := H1.out b k (by omega) h1 h2 hr; rw [M1.out] at q; exact Option.some.inj q⟩, rfl⟩
          · cases ng
            all_goals
              have hst := HST.out
              simp only [Bool.false_eq_true, if_false, if_true] at hst
              go_enter Tryz.func158, Tryz.ntmps158
              go_wp2
              refine bodyPost_ret (v := .tuple #[.float .f64 F, .bool false]) (by simp [results, Tryz.results158, go_sem]; try rfl) rfl ?_
              exact ⟨⟨_, false, rfl, (by first | decide | exact HFB.out | exact HGB.out | exact HHB.out), fun h => absurd h (by decide)⟩, rfl⟩
        · cases ng
          all_goals
            have hst := HST.out
            simp only [Bool.false_eq_true, if_false, if_true] at hst
            go_enter Tryz.func158, Tryz.ntmps158
            go_wp2
            refine bodyPost_ret (v := .tuple #[.float .f64 F, .bool false]) (by simp [results, Tryz.results158, go_sem]; try rfl) rfl ?_
            exact ⟨⟨_, false, rfl, (by first | decide | exact HFB.out | exact HGB.out | exact HHB.out), fun h => absurd h (by decide)⟩, rfl⟩
    · by_cases pn : p < 0 ∧ -22 ≤ p
      · obtain ⟨k, rfl⟩ : ∃ k : Nat, p = -(k : Int) := ⟨(-p).toNat, by omega⟩
        obtain ⟨pn1, pn2⟩ := pn
        obtain ⟨G, m1⟩ := HD.out k (by omega)
        have HGB := Lib.hid (div_lt m1)
        have rm := fun W => run_quo F (tn k) G m1 W
        have hc := HT.out k (by omega)
        have k1 : (0 : Int) ≤ (k : Int) := by omega
        have k2 : (k : Int) < 23 := by omega
        have k3 : ¬ (0 : Int) < -(k : Int) := by omega
        have k4 : 0 < k := by omega
        have k5 : (k : Int) ≤ 22 := by omega
        have k6 : k ≤ 22 := by omega
        have k7 : ¬ (k : Int) < 0 := by omega
        have M1 := Lib.hid m1
        clear m1 pp
        cases ng
        all_goals
          have hst := HST.out
          simp only [Bool.false_eq_true, if_false, if_true] at hst
          go_enter Tryz.func158, Tryz.ntmps158
          go_wp2
          refine bodyPost_ret (v := .tuple #[.float .f64 G, .bool true]) (by simp [results, Tryz.results158, go_sem]; try rfl) rfl ?_
          exact ⟨⟨_, true, rfl, (by first | decide | exact HFB.out | exact HGB.out | exact HHB.out), fun _ b h1 h2 hr => by have q := H2.out b k (by omega) h1 h2 hr; rw [M1.out] at q; exact Option.some.inj q⟩, rfl⟩
      · have hc : (0 < p ∧ ¬ p ≤ 37) ∨ (¬ 0 < p ∧ p < 0 ∧ ¬ -22 ≤ p) := by omega
        clear pp pn
        rcases hc with ⟨c1, c2⟩ | ⟨c1, c2, c3⟩
        · have c3 : ¬ p < 0 := by omega
          cases ng
          all_goals
            have hst := HST.out
            simp only [Bool.false_eq_true, if_false, if_true] at hst
            go_enter Tryz.func158, Tryz.ntmps158
            go_wp2
            refine bodyPost_ret (v := .tuple #[.float .f64 F, .bool false]) (by simp [results, Tryz.results158, go_sem]; try rfl) rfl ?_
            exact ⟨⟨_, false, rfl, (by first | decide | exact HFB.out | exact HGB.out | exact HHB.out), fun h => absurd h (by decide)⟩, rfl⟩
        · cases ng
          all_goals
            have hst := HST.out
            simp only [Bool.false_eq_true, if_false, if_true] at hst
            go_enter Tryz.func158, Tryz.ntmps158
            go_wp2
            refine bodyPost_ret (v := .tuple #[.float .f64 F, .bool false]) (by simp [results, Tryz.results158, go_sem]; try rfl) rfl ?_
            exact ⟨⟨_, false, rfl, (by first | decide | exact HFB.out | exact HGB.out | exact HHB.out), fun h => absurd h (by decide)⟩, rfl⟩
  exact go ()
end Go.Proofs.YtnccpddjdgndcaaGreatDoor.Pf
end

section
/- ALL THE TABLES AND WORDS THAT value.Read READS, as a row lays them. -/
namespace Go.Proofs.YtnccpddjdgndcaaGreatDoor.Pf
open Go.RowKit Go.Lib
theorem trod_iface {H : Type} {enc : TypeId × Value → H} {P : Program} {w : World} {base : Nat} {spare : Nat → Bool} {held : Bool} {fuel : Nat} {t : TypeId} {cs : List Value} {x : DataW H × List MemPlace} {nm : String} {d : DataW H}
    (ht : (∃ m, P.underlying t = some (.interface m))) (h : DataW.trod enc P w base spare held fuel t cs = some x) (hx : x.1 = .iface nm d) : ∃ u v, cs = [.iface u v] := by
  obtain ⟨m, ht⟩ := ht
  cases fuel with
  | zero => simp [DataW.trod] at h
  | succ n =>
    unfold DataW.trod at h
    rw [ht] at h
    split at h <;> simp_all
    subst h
    cases hx
theorem err_of_reads {P : Program} {w : World} {name nm : String} {g : Nat} {t : TypeId} {d : DataW Unit} (hn : P.globalNamed name = some g) (hy : (P.globals[g]?).map (·.type) = some t) (ht : ∃ m, P.underlying t = some (.interface m))
    (h : VarReads P w name (.iface nm d)) : ∃ u v, w.cell? ⟨g, 0, none⟩ = some (.iface u v) := by
  obtain ⟨g', t', cs, fuel, p, hg, hty, hvar, hd⟩ := h
  obtain rfl := Option.some.inj (hn.symm.trans hg)
  obtain rfl := Option.some.inj (hy.symm.trans hty)
  obtain ⟨u, v, hb⟩ := trod_iface ht hd rfl
  refine ⟨u, v, ?_⟩
  rw [World.var?_cell hn hvar 0, ← Array.getElem?_toList, hb]; rfl
/-- what a row must list -/
structure PwLists (l : List (String × DataW Unit)) : Prop where
  plain : (l.all fun x => x.2.handleName?.isNone) = true
  f1 : l.find? (fun x => x.1 == "internal/strconv.optimize") = some ("internal/strconv.optimize", .lit (.bool true))
  f2 : ∃ ds, l.find? (fun x => x.1 == "internal/strconv.float64info") = some ("internal/strconv.float64info", .agg (.lit (.int .u64 52) :: ds))
  f3 : ∃ ds, l.find? (fun x => x.1 == "internal/strconv.float64pow10") = some ("internal/strconv.float64pow10", .slice ds []) ∧ ds = tens.map (fun z => .lit (.float .f64 z))
  f4 : ∃ nm d, l.find? (fun x => x.1 == "strconv.ErrSyntax") = some ("strconv.ErrSyntax", .iface nm d)
theorem tens_at (k : Nat) (hk : k < 23) : tens[k]? = some (tn k) := by
  unfold tn
  rw [List.getD_eq_getElem?_getD]
  cases h : tens[k]? with
  | none => exact absurd (List.getElem?_eq_none_iff.1 h) (by have : tens.length = 23 := by decide
                                                             omega)
  | some v => rfl
theorem pw_of {l : List (String × DataW Unit)} {W : World} (L : PwLists l) (h : laidMetH Tryz.prog l W) : PfW W ∧ Unq.ErrS W := by
  rw [MakeChecks.laidMetH_plain _ _ _ L.plain] at h
  obtain ⟨ds, f2⟩ := L.f2
  obtain ⟨ds3, f3, f4⟩ := L.f3
  obtain ⟨nm, d, f5⟩ := L.f4
  have hlen : ds3.length = 23 := by rw [f4, List.length_map]; decide
  have hat : ∀ k, k < 23 → ds3[k]? = some (.lit (.float .f64 (tn k))) := fun k hk => by rw [f4, List.getElem?_map, tens_at k hk]; rfl
  have hall := fun k hk => floats_of_reads (g := 13) (by kernel_rfl) (by kernel_rfl) Tryz.underlying217 Tryz.underlying23 (by kernel_rfl) (hat k hk) (Tab.reads_of h f3)
  obtain ⟨R, o, c, h1, h2⟩ := hall 0 (by decide)
  rw [hlen] at h1
  refine ⟨⟨bool_of_reads (g := 7) (by kernel_rfl) (by kernel_rfl) Tryz.underlying4 (Tab.reads_of h L.f1),
    field0_of_reads (g := 10) (by kernel_rfl) (by kernel_rfl) Tryz.underlying178 rfl rfl (by kernel_rfl) (by kernel_rfl) (Tab.reads_of h f2), R, o, c, h1, fun k hk => ?_⟩, ?_⟩
  · obtain ⟨R2, o2, c2, g1, g2⟩ := hall k hk
    rw [h1] at g1
    simp only [Option.some.injEq, Value.slice.injEq, Addr.mk.injEq] at g1
    obtain ⟨⟨e1, e2, _⟩, _, _⟩ := g1
    rw [← e1, ← e2] at g2
    exact g2
  · exact err_of_reads (g := 1) (by kernel_rfl) (by kernel_rfl) ⟨_, Tryz.underlying52⟩ (Tab.reads_of h f5)
end Go.Proofs.YtnccpddjdgndcaaGreatDoor.Pf
end

section
/- PLAIN: a filter's text in pieces; blanks around. No program in sight. -/
namespace Go.Proofs.YtnccpddjdgndcaaGreatDoor.Pa
/-- the pieces of a text between its & outside of quotes (q: inside; cur: what stands since the last piece) -/
def cutGo : Bool → List UInt8 → List UInt8 → List (List UInt8)
  | _, cur, [] => [cur]
  | q, cur, [c] => if (q && c == 92) = true then [cur ++ [c]] else if (c == 34) = true then [cur ++ [c]] else if (c == 38 && !q) = true then [cur, []] else [cur ++ [c]]
  | q, cur, c :: d :: r => if (q && c == 92) = true then cutGo q (cur ++ [c, d]) r else if (c == 34) = true then cutGo (!q) (cur ++ [c]) (d :: r) else if (c == 38 && !q) = true then cur :: cutGo false [] (d :: r) else cutGo q (cur ++ [c]) (d :: r)
def cutP (s : List UInt8) : List (List UInt8) := cutGo false [] s
theorem cutGo_skip (q : Bool) (cur : List UInt8) (c : UInt8) (r : List UInt8) (h : (q && c == 92) = true) : cutGo q cur (c :: r) = cutGo q (cur ++ c :: r.take 1) (r.drop 1) := by
  cases r with
  | nil => simp [cutGo, h]
  | cons d r => simp only [cutGo, h, if_true]; simp
theorem cutGo_quote (q : Bool) (cur : List UInt8) (c : UInt8) (r : List UInt8) (h : (q && c == 92) = false) (h2 : (c == 34) = true) : cutGo q cur (c :: r) = cutGo (!q) (cur ++ [c]) r := by
  cases r with
  | nil => simp [cutGo, h, h2]
  | cons d r => simp only [cutGo, h, h2, if_true]; simp
theorem cutGo_and (q : Bool) (cur : List UInt8) (c : UInt8) (r : List UInt8) (h : (q && c == 92) = false) (h2 : (c == 34) = false) (h3 : (c == 38 && !q) = true) : cutGo q cur (c :: r) = cur :: cutGo false [] r := by
  cases r with
  | nil => simp only [cutGo, h, h2, h3]; simp
  | cons d r => simp only [cutGo, h, h2, h3, if_true]; simp
theorem cutGo_else (q : Bool) (cur : List UInt8) (c : UInt8) (r : List UInt8) (h : (q && c == 92) = false) (h2 : (c == 34) = false) (h3 : (c == 38 && !q) = false) : cutGo q cur (c :: r) = cutGo q (cur ++ [c]) r := by
  cases r with
  | nil => simp only [cutGo, h, h2, h3]; simp
  | cons d r => simp only [cutGo, h, h2, h3]; simp
theorem cur_more {s r : List UInt8} {fr i : Nat} {c : UInt8} (h : s.drop i = c :: r) (hfr : fr ≤ i) : (s.drop fr).take (i - fr) ++ [c] = (s.drop fr).take (i + 1 - fr) ∧ r = s.drop (i + 1) := by
  constructor
  · rw [show i + 1 - fr = (i - fr) + 1 from by omega, List.take_add, List.drop_drop, show fr + (i - fr) = i from by omega, h]; rfl
  · rw [← List.drop_drop, h]; rfl
theorem cur_skip {s r : List UInt8} {fr i : Nat} {c : UInt8} (h : s.drop i = c :: r) (hfr : fr ≤ i) : (s.drop fr).take (i - fr) ++ c :: r.take 1 = (s.drop fr).take (i + 2 - fr) ∧ r.drop 1 = s.drop (i + 2) := by
  constructor
  · rw [show i + 2 - fr = (i - fr) + 2 from by omega, List.take_add, List.drop_drop, show fr + (i - fr) = i from by omega, h]; rfl
  · rw [show i + 2 = i + 1 + 1 from rfl, ← List.drop_drop, ← List.drop_drop, h]; rfl
/-- blanks around -/
abbrev trimP (s : List UInt8) : List UInt8 := Lib.trimB s 32
theorem dropWhile_app (p : UInt8 → Bool) : ∀ (l m : List UInt8), (∀ x ∈ l, p x = true) → (l ++ m).dropWhile p = m.dropWhile p
  | [], _, _ => rfl
  | x :: l, m, h => by
    rw [List.cons_append, List.dropWhile_cons, if_pos (h x (by simp))]
    exact dropWhile_app p l m (fun y hy => h y (by simp [hy]))
theorem dropWhile_stop (p : UInt8 → Bool) (m : List UInt8) (h : ∀ x, m.head? = some x → p x = false) : m.dropWhile p = m := by
  cases m with
  | nil => rfl
  | cons x m => rw [List.dropWhile_cons, if_neg (by rw [h x rfl]; simp)]
/-- blanks, a text without blanks at its ends, blanks -/
theorem trimP_of {a m b : List UInt8} (ha : ∀ x ∈ a, x = 32) (hb : ∀ x ∈ b, x = 32) (h1 : ∀ x, m.head? = some x → x ≠ 32) (h2 : ∀ x, m.getLast? = some x → x ≠ 32) : trimP (a ++ (m ++ b)) = m := by
  show Lib.trimLeftB (Lib.trimRightB (a ++ (m ++ b)) 32) 32 = m
  cases m with
  | nil =>
    have : Lib.trimRightB (a ++ ([] ++ b)) 32 = [] := by
      unfold Lib.trimRightB
      have e := dropWhile_app (· == 32) (a ++ ([] ++ b)).reverse [] (fun x hx => by
        have : x ∈ a ∨ x ∈ b := by simpa [or_comm] using hx
        rcases this with h | h
        · simp [ha x h]
        · simp [hb x h])
      rw [List.append_nil] at e
      rw [e]; rfl
    rw [this]; rfl
  | cons y m =>
    have e : Lib.trimRightB (a ++ (y :: m ++ b)) 32 = a ++ y :: m := by
      unfold Lib.trimRightB
      rw [show (a ++ (y :: m ++ b)).reverse = b.reverse ++ (a ++ y :: m).reverse from by simp]
      rw [dropWhile_app _ _ _ (fun x hx => by simp [hb x (by simpa using hx)])]
      rw [dropWhile_stop _ _ (fun x hx => ?_), List.reverse_reverse]
      have : (y :: m).getLast? = some x := by
        rw [List.head?_reverse, List.getLast?_append] at hx
        simpa using hx
      simpa using h2 x this
    rw [e]
    unfold Lib.trimLeftB
    rw [dropWhile_app _ _ _ (fun x hx => by simp [ha x hx])]
    exact dropWhile_stop _ _ (fun x hx => by simpa using h1 x hx)
theorem dropWhile_head (p : UInt8 → Bool) : ∀ (l : List UInt8) (x : UInt8), (l.dropWhile p).head? = some x → p x = false
  | [], x, h => by simp at h
  | y :: l, x, h => by
    rw [List.dropWhile_cons] at h
    split at h
    · exact dropWhile_head p l x h
    · rename_i hy
      simp only [List.head?_cons, Option.some.injEq] at h
      subst h
      simpa using hy
end Go.Proofs.YtnccpddjdgndcaaGreatDoor.Pa
end

section
/- PLAIN FUNCTIONS ON TEXTS: names, what stands between the /, scopes, what is below a scope. No program in sight. -/
namespace Go.Proofs.YtnccpddjdgndcaaGreatDoor.Sc

/-- what stands between the / -/
def parts : List UInt8 → List (List UInt8)
  | [] => [[]]
  | b :: r => if b = 47 then [] :: parts r else
    match parts r with
    | [] => [[b]]
    | p :: q => (b :: p) :: q
theorem parts_ne (l : List UInt8) : parts l ≠ [] := by
  cases l with
  | nil => simp [parts]
  | cons b r =>
    unfold parts; split
    · simp
    · split <;> simp
theorem parts_cons {c : UInt8} {r p : List UInt8} {q : List (List UInt8)} (hc : ¬ c = 47) (h : parts r = p :: q) : parts (c :: r) = (c :: p) :: q := by
  rw [parts, if_neg hc, h]
theorem parts_slash (a b : List UInt8) (h : 47 ∉ a) : parts (a ++ 47 :: b) = a :: parts b := by
  induction a with
  | nil => simp [parts]
  | cons c a ih =>
    have hc : ¬ c = 47 := fun e => h (by simp [e])
    have ih := ih (fun m => h (by simp [m]))
    rw [List.cons_append]; exact parts_cons hc ih
theorem parts_none (a : List UInt8) (h : 47 ∉ a) : parts a = [a] := by
  induction a with
  | nil => simp [parts]
  | cons c a ih =>
    have hc : ¬ c = 47 := fun e => h (by simp [e])
    have ih := ih (fun m => h (by simp [m]))
    exact parts_cons hc ih
theorem parts_length (l : List UInt8) : (parts l).length ≤ l.length + 1 := by
  induction l with
  | nil => simp [parts]
  | cons b r ih =>
    unfold parts; split
    · simp; omega
    · split <;> simp_all; omega

/-- the first / -/
theorem slash_cases (l : List UInt8) : (Lib.indexByte l 47 = -1 ∧ 47 ∉ l) ∨
    (∃ a b, l = a ++ 47 :: b ∧ 47 ∉ a ∧ Lib.indexByte l 47 = a.length) := by
  induction l with
  | nil => left; simp [Lib.indexByte]
  | cons c r ih =>
    by_cases hc : c = 47
    · right; exact ⟨[], r, by simp [hc], by simp, by simp [Lib.indexByte, hc]⟩
    · have h1 : (c == (47 : UInt8)) = false := by simp [hc]
      rcases ih with ⟨e, hn⟩ | ⟨a, b, e, hn, hi⟩
      · left; refine ⟨?_, by simp [hn]; exact fun h => hc h.symm⟩
        unfold Lib.indexByte; rw [h1, e]; rfl
      · right
        refine ⟨c :: a, b, by simp [e], by simp [hn]; exact fun h => hc h.symm, ?_⟩
        have h2 : ((a.length : Int) == -1) = false := by rw [beq_eq_false_iff_ne]; omega
        unfold Lib.indexByte; rw [h1, hi, h2]; simp

/-- may it be a scope? -/
def rightB (l : List UInt8) : Bool := l.isEmpty || ((parts l).all nameB && decide ((parts l).length ≤ 4))
end Go.Proofs.YtnccpddjdgndcaaGreatDoor.Sc
end

section
/- THE WALKS OF event.Name, strings.Cut at a /, scope.Right, scope.Under: each gives its plain function; the world stays as it was, but for draws. -/
namespace Go.Proofs.YtnccpddjdgndcaaGreatDoor.Sc
open Go.RowKit

/-- nothing but draws -/
def Drawn (w w' : World) : Prop := ∃ n, w' = w.drewN n
theorem Drawn.refl (w : World) : Drawn w w := ⟨0, rfl⟩
theorem Drawn.trans {a b c : World} (h : Drawn a b) (k : Drawn b c) : Drawn a c := by
  obtain ⟨n, rfl⟩ := h; obtain ⟨m, rfl⟩ := k; exact ⟨n + m, by simp [World.drewN, Nat.add_assoc]⟩
theorem Drawn.drew {a b : World} (h : Drawn a b) : Drawn a b.drew := h.trans ⟨1, rfl⟩
theorem Drawn.below {a b : World} (h : Drawn a b) (B : Nat) : Below B a b := by
  obtain ⟨n, rfl⟩ := h; exact ⟨rfl, rfl, rfl, Nat.le_refl _, fun _ _ => rfl⟩
/-- a text by its letters -/
theorem of_data {s : ByteArray} {l : List UInt8} (h : s.data.toList = l) : s = ⟨l.toArray⟩ := by
  subst h; rfl
theorem cutAt_hit (a b : List UInt8) : (⟨(a ++ 47 :: b).toArray⟩ : ByteArray).extract 0 a.length = ⟨a.toArray⟩ ∧ (⟨(a ++ 47 :: b).toArray⟩ : ByteArray).extract (a.length + 1) (⟨(a ++ 47 :: b).toArray⟩ : ByteArray).size = ⟨b.toArray⟩ := by
  constructor
  · apply of_data; rw [Lib.Pa.extract_upto_list]; simp
  · apply of_data; rw [Lib.extract_to_end]; simp
set_option maxHeartbeats 400000 in
theorem lcut_miss (s : ByteArray) (w : World) (hi : Lib.indexByte s.data.toList 47 = -1) :
    Calls Tryz.prog 56 #[.string s, .string ⟨#[47]⟩] w fun e w' => e = .returned (.tuple #[.string s, .string ⟨#[]⟩, .bool false]) ∧ w = w' := by
  go_enter Tryz.func56, Tryz.ntmps56
  go_wp2_with (go_at_call 94; refine (Tryz.stringslite_Index_one _ _ _).mono ?_; rintro e w' ⟨rfl, rfl⟩)
  go_ret3
  exact ⟨rfl, rfl⟩
set_option maxHeartbeats 400000 in
theorem lcut_hit (s : ByteArray) (i : Nat) (w : World) (hs : s.size ≤ maxLen) (hi : Lib.indexByte s.data.toList 47 = i) (hlt : i < s.size) :
    Calls Tryz.prog 56 #[.string s, .string ⟨#[47]⟩] w fun e w' => e = .returned (.tuple #[.string (s.extract 0 i), .string (s.extract (i + 1) s.size), .bool true]) ∧ Drawn w w' := by
  unfold maxLen at hs
  have c1 : (0 : Int) ≤ ↑i := by omega
  have c2 : (↑i : Int) ≤ ↑s.size := by omega
  have c3 : (0 : Int) ≤ ↑i + 1 := by omega
  have c4 : (↑i + 1 : Int) ≤ ↑s.size := by omega
  go_enter Tryz.func56, Tryz.ntmps56
  go_wp2_with (go_at_call 94; refine (Tryz.stringslite_Index_one _ _ _).mono ?_; rintro e w' ⟨rfl, rfl⟩)
  go_region
  all_goals
    go_wp2
    go_ret3
    exact ⟨rfl, 1, rfl⟩

set_option maxHeartbeats 400000 in
theorem cut_none (l : List UInt8) (w : World) (h : 47 ∉ l) :
    Calls Tryz.prog 39 #[.string ⟨l.toArray⟩, .string ⟨#[47]⟩] w fun e w' => e = .returned (.tuple #[.string ⟨l.toArray⟩, .string ⟨#[]⟩, .bool false]) ∧ Drawn w w' := by
  have hi : Lib.indexByte (⟨l.toArray⟩ : ByteArray).data.toList 47 = -1 := by
    rcases slash_cases l with ⟨h1, _⟩ | ⟨a, b, e, _, _⟩
    · exact h1
    · exact absurd (by rw [e]; simp) h
  have HI := Lib.hid hi; clear hi h
  go_enter Tryz.func39, Tryz.ntmps39
  go_wp2_with (go_at_call 56; refine (lcut_miss _ _ HI.out).mono ?_; rintro e w' ⟨rfl, rfl⟩)
  go_ret3
  exact ⟨rfl, Drawn.refl _⟩
set_option maxHeartbeats 400000 in
theorem cut_some (a b : List UInt8) (w : World) (h : 47 ∉ a) (hs : a.length + b.length + 1 ≤ maxLen) :
    Calls Tryz.prog 39 #[.string ⟨(a ++ 47 :: b).toArray⟩, .string ⟨#[47]⟩] w fun e w' => e = .returned (.tuple #[.string ⟨a.toArray⟩, .string ⟨b.toArray⟩, .bool true]) ∧ Drawn w w' := by
  have hz : (⟨(a ++ 47 :: b).toArray⟩ : ByteArray).size = a.length + b.length + 1 := by
    show (a ++ 47 :: b).toArray.size = _
    simp; omega
  have hi : Lib.indexByte (⟨(a ++ 47 :: b).toArray⟩ : ByteArray).data.toList 47 = a.length := by
    rcases slash_cases (a ++ 47 :: b) with ⟨_, h1⟩ | ⟨a', b', e, h2, h3⟩
    · exact absurd (by simp) h1
    · have : a = a' := by
        have e1 := parts_slash a b h
        rw [e, parts_slash a' b' h2] at e1
        exact (List.cons.inj e1).1.symm
      subst this; exact h3
  have hc := lcut_hit ⟨(a ++ 47 :: b).toArray⟩ a.length w (by rw [hz]; exact hs) hi (by rw [hz]; omega)
  rw [(cutAt_hit a b).1, (cutAt_hit a b).2] at hc
  have HC := Lib.hid hc; clear hc hi hz h hs
  go_enter Tryz.func39, Tryz.ntmps39
  go_wp2_with fail
  refine HC.out.mono ?_
  rintro e w' ⟨rfl, hq⟩
  go_wp2
  go_ret3
  exact ⟨rfl, hq⟩

def RightRel (l : List UInt8) (w : World) (n r m : Value) (wr : World) : Prop :=
  ∃ (done : List (List UInt8)) (rest : List UInt8) (more : Bool), n = .int .i64 done.length ∧ r = .string ⟨rest.toArray⟩ ∧ m = .bool more ∧ Drawn w wr ∧
    done.all nameB = true ∧ parts l = done ++ (if more then parts rest else []) ∧ rest.length ≤ l.length
def rightMeas (r m : Value) : Nat := match r, m with
  | .string s, .bool true => s.size + 1
  | _, _ => 0
set_option maxHeartbeats 1000000 in
theorem right_any (s : ByteArray) (w : World) (hs : s.size ≤ maxLen) (hs2 : s.size < 4611686018427387904) :
    Calls Tryz.prog 44 #[.string s] w fun e w' => e = .returned (.bool (rightB s.data.toList)) ∧ Drawn w w' := by
  unfold maxLen at hs
  obtain ⟨l, rfl⟩ : ∃ l : List UInt8, s = ⟨l.toArray⟩ := ⟨s.data.toList, rfl⟩
  by_cases h0 : l = []
  · subst h0
    go_enter Tryz.func44, Tryz.ntmps44
    go_wp2
    go_ret
    exact ⟨rfl, Drawn.refl _⟩
  · have h0' : l.isEmpty = false := by cases l <;> simp_all
    go_enter Tryz.func44, Tryz.ntmps44
    go_wp2
    go_loopw [3, 4, 5] (fun n r m wr => RightRel l w n r m wr) (fun _ r m _ => rightMeas r m)
    case atStart => exact ⟨[], l, true, rfl, rfl, rfl, Drawn.refl _, rfl, rfl, Nat.le_refl _⟩
    case round =>
      obtain ⟨done, rest, more, rfl, rfl, rfl, hq, hall, hp, hlen⟩ := hrel
      have HP := Lib.hid hp; have HA := Lib.hid hall; clear hp hall
      have hlz : (⟨l.toArray⟩ : ByteArray).size = l.length := rfl
      have hdl : (done.length : Int) ≤ 4611686018427387905 := by
        have h1 := parts_length l
        rw [HP.out, List.length_append] at h1
        omega
      have HLZ := Lib.hid hlz; clear hlz
      cases more
      · have hp : parts l = done := by rw [HP.out]; simp
        have hr : rightB l = decide (done.length ≤ 4) := by
          unfold rightB; rw [h0', hp, HA.out]; simp
        have HR := Lib.hid hr; clear hr hp HP
        go_wp2
        go_ret
        exact ⟨ret_bool (by rw [HR.out, Bool.eq_iff_iff]; simp; omega), hq⟩
      · rcases slash_cases rest with ⟨_, hn⟩ | ⟨a, b, rfl, hn, _⟩
        · have hb : (⟨rest.toArray⟩ : ByteArray).size ≤ maxLen := by
            unfold maxLen; rw [HLZ.out] at hs; show rest.length ≤ _; omega
          have HB := Lib.hid hb; clear hb
          have hp : parts l = done ++ [rest] := by rw [HP.out]; simp [parts_none rest hn]
          have HP2 := Lib.hid hp; clear hp HP
          cases hnm : nameB rest
          all_goals
            go_wp2_with (first | (go_at_call 39; refine (cut_none _ _ hn).mono ?_; rintro e w' ⟨rfl, hq1⟩) | (go_at_call 65; refine (name_any _ _ HB.out).mono ?_; rintro e w' ⟨rfl, rfl⟩))
          · go_ret
            exact ⟨ret_bool (by unfold rightB; rw [HP2.out, h0']; simp [hnm]), hq.trans hq1⟩
          · exact ⟨⟨done ++ [rest], [], false, by simp, rfl, rfl, hq.trans hq1, by simp [HA.out, hnm], by simp [HP2.out], Nat.zero_le _⟩, by show 0 < _; simp [rightMeas]⟩
        · have hlen' : a.length + (b.length + 1) ≤ l.length := by simpa using hlen
          have hb : (⟨a.toArray⟩ : ByteArray).size ≤ maxLen := by
            unfold maxLen; rw [HLZ.out] at hs; show a.length ≤ _; omega
          have hb2 : a.length + b.length + 1 ≤ maxLen := by
            unfold maxLen; rw [HLZ.out] at hs; omega
          have HB := Lib.hid hb; have HB2 := Lib.hid hb2; clear hb hb2
          have hp : parts l = done ++ a :: parts b := by rw [HP.out]; simp [parts_slash a b hn]
          have HP2 := Lib.hid hp; clear hp HP
          cases hnm : nameB a
          all_goals
            go_wp2_with (first | (go_at_call 39; refine (cut_some _ _ _ hn HB2.out).mono ?_; rintro e w' ⟨rfl, hq1⟩) | (go_at_call 65; refine (name_any _ _ HB.out).mono ?_; rintro e w' ⟨rfl, rfl⟩))
          · go_ret
            exact ⟨ret_bool (by unfold rightB; rw [HP2.out, h0']; simp [hnm]), hq.trans hq1⟩
          · exact ⟨⟨done ++ [a], b, true, by simp, rfl, rfl, hq.trans hq1, by simp [HA.out, hnm], by simp [HP2.out], by omega⟩, by show b.length + 1 < (a ++ 47 :: b).length + 1; simp; omega⟩

end Go.Proofs.YtnccpddjdgndcaaGreatDoor.Sc
end

section
/- THE WALKS OF strings.Cut at one byte, strings.Contains of one byte, strings.Trim of blanks: any byte, any text. -/
namespace Go.Proofs.YtnccpddjdgndcaaGreatDoor.Pa
open Go.RowKit Go.Proofs.YtnccpddjdgndcaaGreatDoor.Sc
theorem byte_cases (k : UInt8) (l : List UInt8) : (Lib.indexByte l k = -1 ∧ k ∉ l) ∨ (∃ a b, l = a ++ k :: b ∧ k ∉ a ∧ Lib.indexByte l k = a.length) := by
  induction l with
  | nil => left; simp [Lib.indexByte]
  | cons c r ih =>
    by_cases hc : c = k
    · right; exact ⟨[], r, by simp [hc], by simp, by simp [Lib.indexByte, hc]⟩
    · have h1 : (c == k) = false := by simp [hc]
      rcases ih with ⟨e, hn⟩ | ⟨a, b, e, hn, hi⟩
      · left; refine ⟨?_, by simp [hn]; exact fun h => hc h.symm⟩
        unfold Lib.indexByte; rw [h1, e]; rfl
      · right
        refine ⟨c :: a, b, by simp [e], by simp [hn]; exact fun h => hc h.symm, ?_⟩
        unfold Lib.indexByte; rw [h1, hi]
        simp
        try (split <;> omega)
theorem app_cut {k : UInt8} : ∀ {a a' b b' : List UInt8}, k ∉ a → k ∉ a' → a ++ k :: b = a' ++ k :: b' → a = a'
  | [], [], _, _, _, _, _ => rfl
  | [], c :: a', _, _, _, h2, h => by
    simp only [List.nil_append, List.cons_append, List.cons.injEq] at h
    exact absurd (by rw [h.1]; simp) h2
  | c :: a, [], _, _, h1, _, h => by
    simp only [List.nil_append, List.cons_append, List.cons.injEq] at h
    exact absurd (by rw [← h.1]; simp) h1
  | c :: a, c' :: a', _, _, h1, h2, h => by
    simp only [List.cons_append, List.cons.injEq] at h
    rw [h.1, app_cut (fun x => h1 (by simp [x])) (fun x => h2 (by simp [x])) h.2]
theorem pcut_hit (k : UInt8) (a b : List UInt8) : (⟨(a ++ k :: b).toArray⟩ : ByteArray).extract 0 a.length = ⟨a.toArray⟩ ∧ (⟨(a ++ k :: b).toArray⟩ : ByteArray).extract (a.length + 1) (⟨(a ++ k :: b).toArray⟩ : ByteArray).size = ⟨b.toArray⟩ := by
  constructor
  · apply of_data; rw [Lib.Pa.extract_upto_list]; simp
  · apply of_data; rw [Lib.extract_to_end]; simp
set_option maxHeartbeats 400000 in
theorem plcut_miss (k : UInt8) (s : ByteArray) (w : World) (hi : Lib.indexByte s.data.toList k = -1) :
    Calls Tryz.prog 56 #[.string s, .string ⟨#[k]⟩] w fun e w' => e = .returned (.tuple #[.string s, .string ⟨#[]⟩, .bool false]) ∧ w = w' := by
  go_enter Tryz.func56, Tryz.ntmps56
  go_wp2_with (go_at_call 94; refine (Tryz.stringslite_Index_one _ _ _).mono ?_; rintro e w' ⟨rfl, rfl⟩)
  go_ret3
  exact ⟨rfl, rfl⟩
set_option maxHeartbeats 400000 in
theorem plcut_hit (k : UInt8) (s : ByteArray) (i : Nat) (w : World) (hs : s.size ≤ maxLen) (hi : Lib.indexByte s.data.toList k = i) (hlt : i < s.size) :
    Calls Tryz.prog 56 #[.string s, .string ⟨#[k]⟩] w fun e w' => e = .returned (.tuple #[.string (s.extract 0 i), .string (s.extract (i + 1) s.size), .bool true]) ∧ Drawn w w' := by
  unfold maxLen at hs
  have c1 : (0 : Int) ≤ ↑i := by omega
  have c2 : (↑i : Int) ≤ ↑s.size := by omega
  have c3 : (0 : Int) ≤ ↑i + 1 := by omega
  have c4 : (↑i + 1 : Int) ≤ ↑s.size := by omega
  go_enter Tryz.func56, Tryz.ntmps56
  go_wp2_with (go_at_call 94; refine (Tryz.stringslite_Index_one _ _ _).mono ?_; rintro e w' ⟨rfl, rfl⟩)
  go_region
  all_goals
    go_wp2
    go_ret3
    exact ⟨rfl, 1, rfl⟩
set_option maxHeartbeats 400000 in
theorem pcut_none (k : UInt8) (l : List UInt8) (w : World) (h : k ∉ l) :
    Calls Tryz.prog 39 #[.string ⟨l.toArray⟩, .string ⟨#[k]⟩] w fun e w' => e = .returned (.tuple #[.string ⟨l.toArray⟩, .string ⟨#[]⟩, .bool false]) ∧ Drawn w w' := by
  have hi : Lib.indexByte (⟨l.toArray⟩ : ByteArray).data.toList k = -1 := by
    rcases byte_cases k l with ⟨h1, _⟩ | ⟨a, b, e, _, _⟩
    · exact h1
    · exact absurd (by rw [e]; simp) h
  have HI := Lib.hid hi; clear hi h
  go_enter Tryz.func39, Tryz.ntmps39
  go_wp2_with (go_at_call 56; refine (plcut_miss _ _ _ HI.out).mono ?_; rintro e w' ⟨rfl, rfl⟩)
  go_ret3
  exact ⟨rfl, Drawn.refl _⟩
set_option maxHeartbeats 400000 in
theorem pcut_some (k : UInt8) (a b : List UInt8) (w : World) (h : k ∉ a) (hs : a.length + b.length + 1 ≤ maxLen) :
    Calls Tryz.prog 39 #[.string ⟨(a ++ k :: b).toArray⟩, .string ⟨#[k]⟩] w fun e w' => e = .returned (.tuple #[.string ⟨a.toArray⟩, .string ⟨b.toArray⟩, .bool true]) ∧ Drawn w w' := by
  have hz : (⟨(a ++ k :: b).toArray⟩ : ByteArray).size = a.length + b.length + 1 := by
    show (a ++ k :: b).toArray.size = _
    simp; omega
  have hi : Lib.indexByte (⟨(a ++ k :: b).toArray⟩ : ByteArray).data.toList k = a.length := by
    rcases byte_cases k (a ++ k :: b) with ⟨_, h1⟩ | ⟨a', b', e, h2, h3⟩
    · exact absurd (by simp) h1
    · have : a = a' := app_cut h h2 e
      subst this; exact h3
  have hc := plcut_hit k ⟨(a ++ k :: b).toArray⟩ a.length w (by rw [hz]; exact hs) hi (by rw [hz]; omega)
  rw [(pcut_hit k a b).1, (pcut_hit k a b).2] at hc
  have HC := Lib.hid hc; clear hc hi hz h hs
  go_enter Tryz.func39, Tryz.ntmps39
  go_wp2_with fail
  refine HC.out.mono ?_
  rintro e w' ⟨rfl, hq⟩
  go_wp2
  go_ret3
  exact ⟨rfl, hq⟩
theorem ptrim_any (l : List UInt8) (w : World) (hs : l.length ≤ maxLen) :
    Calls Tryz.prog 40 #[.string ⟨l.toArray⟩, .string ⟨#[32]⟩] w fun e w' => e = .returned (.string ⟨(trimP l).toArray⟩) ∧ Drawn w w' := by
  refine (Tryz.strings_Trim_one ⟨l.toArray⟩ 32 (by decide) w (by show l.toArray.size ≤ _; unfold maxLen at hs; simp; omega)).mono ?_
  rintro e w' ⟨rfl, h⟩
  refine ⟨rfl, ?_⟩
  rcases h with rfl | rfl
  · exact Drawn.refl _
  · exact ⟨1, rfl⟩
end Go.Proofs.YtnccpddjdgndcaaGreatDoor.Pa
end

section
/- ROWS OF ONE's OWN: conditions, texts. -/
namespace Go.Proofs.YtnccpddjdgndcaaGreatDoor.Pa
open Go.RowKit Flt Go.Proofs.YtnccpddjdgndcaaGreatDoor.Val
def cells7 (c : C) : List Value := [.string ⟨c.name.toArray⟩, .int .i64 c.op, .int .i64 c.val.kind, .int .i64 c.val.int, .float .f64 c.val.num, .string ⟨c.val.text.toArray⟩, .bool c.val.yes]
def flatC (l : List C) : List Value := l.flatMap cells7
theorem flatC_len (l : List C) : (flatC l).length = l.length * 7 := by
  induction l with
  | nil => rfl
  | cons v l ih => unfold flatC at *; rw [List.flatMap_cons, List.length_append, ih]; simp [cells7]; omega
theorem flatC_at : ∀ (l : List C) (i j : Nat) (hi : i < l.length), j < 7 → (flatC l)[i * 7 + j]? = (cells7 l[i])[j]?
  | v :: l, 0, j, _, hj => by
    unfold flatC; rw [List.flatMap_cons, List.getElem?_append_left (by simp [cells7]; omega)]; simp
  | v :: l, i + 1, j, hi, hj => by
    unfold flatC; rw [List.flatMap_cons, List.getElem?_append_right (by simp [cells7]; omega)]
    have e : (i + 1) * 7 + j - (cells7 v).length = i * 7 + j := by simp [cells7]; omega
    rw [e]
    exact flatC_at l i j (by simpa using hi) hj
theorem flatC_one (l : List C) : ∀ u ∈ flatC l, u.oneCell' = true := by
  intro u hu
  obtain ⟨v, _, hv⟩ := List.mem_flatMap.1 hu
  simp only [cells7, List.mem_cons, List.not_mem_nil, or_false] at hv
  rcases hv with rfl | rfl | rfl | rfl | rfl | rfl | rfl <;> rfl
theorem flatC_app (l : List C) (a : C) : flatC (l ++ [a]) = flatC l ++ flatC [a] := by simp [flatC]
theorem own_lo {W W2 : World} {base e size : Nat} {v : Value} {n : Nat} {xs : List Value} {g : Nat} (h : W.ownsRow base e size v n xs) (hb : Below g W W2) (hv : ∀ k, v.ownBlock = some k → k < g) : W2.ownsRow base e size v n xs := by
  refine ⟨h.1, ?_⟩
  rcases h.2 with hn | ⟨g2, cap, cur, rfl, hb2, hgg, rest⟩
  · exact .inl hn
  · refine .inr ⟨g2, cap, cur, rfl, hb2, ?_, rest⟩
    rw [hb.block g2 (hv g2 (by simp [Value.ownBlock]))]
    exact hgg
theorem info_cond : (Tryz.prog.info? 41).map (fun i => (i.zero, i.size, i.bytes)) = some (some (.agg #[.string .empty, .int .i64 0, .int .i64 0, .int .i64 0, .float .f64 0, .string .empty, .bool false]), 7, 72) := by kernel_rfl
theorem new_cond (w : World) (g : Nat) (hg : g = w.heap.size) (c : C) (e : TypeId) : ∀ j u, (flatC [c])[j]? = some u → (w.alloc (.cells #[.string ⟨c.name.toArray⟩, .int .i64 c.op, .int .i64 c.val.kind, .int .i64 c.val.int, .float .f64 c.val.num, .string ⟨c.val.text.toArray⟩, .bool c.val.yes] e)).cell? ((⟨g, 0, none⟩ : Addr).add j) = some u := by
  subst hg
  intro j u hj
  have hadd : (⟨w.heap.size, 0, none⟩ : Addr).add j = ⟨w.heap.size, j, none⟩ := by unfold Addr.add; split <;> simp_all
  rw [hadd]
  simpa [flatC, cells7, go_sem] using hj
theorem own_conds {w : World} {v : Value} {l : List C} {base : Nat} (h : w.ownsRow base 41 7 v l.length (flatC l)) :
    ∃ b0 cap, v = .slice b0 l.length cap ∧ Conds w b0 l ∧ ∀ a, b0 = some a → base ≤ a.block := by
  rcases h.2 with ⟨rfl, h0⟩ | ⟨g, cp, cur, rfl, hb, hg, hh⟩
  · have : l = [] := List.eq_nil_of_length_eq_zero h0
    subst this
    exact ⟨none, 0, rfl, (fun i hi => absurd hi (Nat.not_lt_zero _)), fun a e => by cases e⟩
  · refine ⟨some ⟨g, 0, none⟩, cp, rfl, fun i hi => ⟨_, rfl, ?_⟩, fun a e => by injection e with e; subst e; exact hb⟩
    have k : ∀ j (hj : j < 7), w.cell? ⟨g, i * 7 + j, none⟩ = (cells7 l[i])[j]? := by
      intro j hj
      have hl := flatC_len l
      have hm := flatC_at l i j hi hj
      have hc : (cells7 l[i])[j]? = some ((cells7 l[i])[j]'(by simpa [cells7] using hj)) := by simp
      rw [hc] at hm ⊢
      have := h.cells rfl (i * 7 + j) _ hm
      have hadd : (⟨g, 0, none⟩ : Addr).add (i * 7 + j) = ⟨g, i * 7 + j, none⟩ := by unfold Addr.add; split <;> simp_all
      rw [← hadd]; exact this
    have hadd : (⟨g, 0, none⟩ : Addr).add (i * 7) = ⟨g, i * 7, none⟩ := by unfold Addr.add; split <;> simp_all
    rw [hadd]
    exact ⟨k 0 (by decide), k 1 (by decide), k 2 (by decide), k 3 (by decide), k 4 (by decide), k 5 (by decide), k 6 (by decide)⟩
theorem own_low7 {W W2 : World} {base e size : Nat} {v : Value} {n : Nat} {xs : List Value} (h : W.ownsRow base e size v n xs) (hb : Below W.heap.size W W2) : W2.ownsRow base e size v n xs :=
  own_lo h hb (fun k hk => (h.lt k hk).2)

abbrev strV (l : List (List UInt8)) : List Value := l.map fun t => .string ⟨t.toArray⟩
theorem strV_app (l m : List (List UInt8)) : strV (l ++ m) = strV l ++ strV m := List.map_append ..
theorem info_str : (Tryz.prog.info? 9).map (fun i => (i.zero, i.size, i.bytes)) = some (some (.string .empty), 1, 16) := by kernel_rfl
theorem strV_one (l : List (List UInt8)) : ∀ u ∈ strV l, u.oneCell' = true := by
  intro u hu
  obtain ⟨c, _, rfl⟩ := List.mem_map.1 hu
  rfl
theorem new_str (w : World) (g : Nat) (hg : g = w.heap.size) (t : List UInt8) (e : TypeId) : ∀ j u, (strV [t])[j]? = some u → (w.alloc (.cells #[.string ⟨t.toArray⟩] e)).cell? ((⟨g, 0, none⟩ : Addr).add j) = some u := by
  subst hg
  intro j u hj
  have hadd : (⟨w.heap.size, 0, none⟩ : Addr).add j = ⟨w.heap.size, j, none⟩ := by unfold Addr.add; split <;> simp_all
  rw [hadd]
  simpa [go_sem] using hj
/-- texts at a place -/
def Strs (w : World) (b0 : Option Addr) (l : List (List UInt8)) : Prop := ∀ i (h : i < l.length), ∃ a, b0 = some a ∧ w.cell? (a.add i) = some (.string ⟨l[i].toArray⟩)
theorem Strs.below {w w2 : World} {b0 : Option Addr} {l : List (List UInt8)} (h : Strs w b0 l) (hb : Below w.heap.size w w2) : Strs w2 b0 l := fun i hi => by
  obtain ⟨a, e, h2⟩ := h i hi
  exact ⟨a, e, (hb.cell (World.block_lt_of_cell? _ _ h2)).trans h2⟩
theorem own_strs {w : World} {v : Value} {l : List (List UInt8)} {base : Nat} (h : w.ownsRow base 9 1 v l.length (strV l)) :
    ∃ b0 cap, v = .slice b0 l.length cap ∧ Strs w b0 l ∧ ∀ a, b0 = some a → base ≤ a.block := by
  rcases h.2 with ⟨rfl, h0⟩ | ⟨g, cp, cur, rfl, hb, hg, hh⟩
  · have : l = [] := List.eq_nil_of_length_eq_zero h0
    subst this
    exact ⟨none, 0, rfl, (fun i hi => absurd hi (Nat.not_lt_zero _)), fun a e => by cases e⟩
  · refine ⟨some ⟨g, 0, none⟩, cp, rfl, fun i hi => ⟨_, rfl, ?_⟩, fun a e => by injection e with e; subst e; exact hb⟩
    have hm : (strV l)[i]? = some (.string ⟨l[i].toArray⟩) := by simp [hi]
    exact h.cells rfl i _ hm
end Go.Proofs.YtnccpddjdgndcaaGreatDoor.Pa
end

section
/- THE WALK OF parse.cut: the pieces of a text. -/
namespace Go.Proofs.YtnccpddjdgndcaaGreatDoor.Pa
open Go.RowKit Flt Go.Proofs.YtnccpddjdgndcaaGreatDoor.Val
theorem u8_is (c d : UInt8) : (c == d) = ((c.toNat : Int) == (d.toNat : Int)) := by
  rw [Bool.eq_iff_iff, beq_iff_eq, beq_iff_eq, ← UInt8.toNat_inj]
  omega
theorem ext_pie (s : ByteArray) (a b : Nat) : s.extract a b = ⟨((s.data.toList.drop a).take (b - a)).toArray⟩ := by
  apply Sc.of_data
  rw [ByteArray.data_extract, Array.toList_extract, List.extract_eq_take_drop]
set_option maxRecDepth 20000 in
set_option maxHeartbeats 2000000 in
theorem pieces_any (s : ByteArray) (w : World) (hs : s.size ≤ 100000) :
    Calls Tryz.prog 41 #[.string s] w fun e w' => (∃ b0 cap, e = .returned (.slice b0 (cutP s.data.toList).length cap) ∧ Strs w' b0 (cutP s.data.toList) ∧ ∀ a, b0 = some a → w.heap.size ≤ a.block) ∧ Below w.heap.size w w' := by
  have hsz : s.data.toList.length = s.size := by rw [Array.length_toList]; rfl
  obtain ⟨i0, hi, hz0, hz1, hz2⟩ := info_parts info_str
  go_enter Tryz.func41, Tryz.ntmps41
  go_wp2_with fail
  go_loopw [3, 4, 5, 6] (fun vo vf vq vi wr => ∃ (k fr : Nat) (q : Bool) (done : List (List UInt8)), k ≤ s.size + 1 ∧ fr ≤ k ∧ fr ≤ s.size ∧ done.length ≤ k ∧ vf = .int .i64 fr ∧ vq = .bool q ∧ vi = .int .i64 k ∧ wr.ownsRow w.heap.size 9 1 vo done.length (strV done) ∧ cutP s.data.toList = done ++ cutGo q ((s.data.toList.drop fr).take (k - fr)) (s.data.toList.drop k) ∧ Below w.heap.size w wr) (fun _ _ _ vi _ => s.size + 1 - (intOf vi).toNat)
  case atStart => exact ⟨0, 0, false, [], Nat.zero_le _, Nat.le_refl _, Nat.zero_le _, Nat.le_refl _, rfl, rfl, rfl, World.ownsRow_nil _ _ _ _, by simp [cutP], Below.refl _ _⟩
  case round =>
    obtain ⟨k, fr, q, done, hk, hfk, hfs, hdl, rfl, rfl, rfl, hown, hcut, hbr⟩ := hrel
    have OWN := Lib.hid hown; have HBR := Lib.hid hbr; have HSZ := Lib.hid hsz
    clear hown hbr hsz
    by_cases hlt : k < s.size
    · have i1 : (k : Int) < (s.size : Int) := by omega
      have i2 : (0 : Int) ≤ (k : Int) := by omega
      have i3 : (fr : Int) ≤ (k : Int) := by omega
      have i4 : (0 : Int) ≤ (fr : Int) := by omega
      have i5 : (k : Int) ≤ (s.size : Int) := by omega
      have hg : s.data.toList[k]'(by rw [HSZ.out]; exact hlt) = s[k] := by rw [Array.getElem_toList]; rfl
      have hdr : s.data.toList.drop k = s[k] :: s.data.toList.drop (k + 1) := by rw [List.drop_eq_getElem_cons (by rw [HSZ.out]; exact hlt), hg]
      have hmore := (cur_more hdr hfk).1
      have hskip := cur_skip hdr hfk
      rw [hdr] at hcut
      have b92 := u8_is s[k] 92; have b34 := u8_is s[k] 34; have b38 := u8_is s[k] 38
      have k1 := cutGo_skip q ((s.data.toList.drop fr).take (k - fr)) s[k] (s.data.toList.drop (k + 1))
      have k2 := cutGo_quote q ((s.data.toList.drop fr).take (k - fr)) s[k] (s.data.toList.drop (k + 1))
      have k3 := cutGo_and q ((s.data.toList.drop fr).take (k - fr)) s[k] (s.data.toList.drop (k + 1))
      have k4 := cutGo_else q ((s.data.toList.drop fr).take (k - fr)) s[k] (s.data.toList.drop (k + 1))
      rw [b92] at k1 k2 k3 k4
      rw [b34] at k2 k3 k4
      rw [b38] at k3 k4
      have HK1 := Lib.hid k1; have HK2 := Lib.hid k2; have HK3 := Lib.hid k3; have HK4 := Lib.hid k4; have HCUT := Lib.hid hcut; have HMORE := Lib.hid hmore; have HSKIP := Lib.hid hskip
      clear k1 k2 k3 k4 hcut hmore hskip b92 b34 b38 hdr hg
      cases q
      · cases c34 : ((s[k].toNat : Int) == ((34 : UInt8).toNat : Int))
        · cases c38 : ((s[k].toNat : Int) == ((38 : UInt8).toNat : Int))
          · have n34 : ¬ (s[k].toNat : Int) = 34 := by simpa using c34
            have n38 : ¬ (s[k].toNat : Int) = 38 := by simpa using c38
            have m34 : ((s[k].toNat : Int) == 34) = false := c34
            have m38 : ((s[k].toNat : Int) == 38) = false := c38
            go_wp2_with fail
            refine ⟨⟨k + 1, fr, false, done, by omega, by omega, hfs, by omega, rfl, rfl, by go_num, OWN.out, ?_, HBR.out⟩, by simp [intOf]; go_num⟩
            rw [HCUT.out, HK4.out rfl c34 (by rw [c38]; rfl), HMORE.out]
          · have n34 : ¬ (s[k].toNat : Int) = 34 := by simpa using c34
            have n38 : (s[k].toNat : Int) = 38 := by simpa using c38
            have m34 : ((s[k].toNat : Int) == 34) = false := c34
            have m38 : ((s[k].toNat : Int) == 38) = true := c38
            have hext := ext_pie s fr k
            go_wp2_with (first | (at_builtin; refine wpList_append_own _ rfl _ _ 68 rfl w.heap.size 9 i0 (.string .empty) 1 16 Tryz.underlying68 hi hz0 hz1 hz2 rfl (by decide) _ _ _ rfl (OWN.out.alloc _) ⟨wr.heap.size, 0, none⟩ 1 1 (strV [(s.data.toList.drop fr).take (k - fr)]) rfl rfl ?news (strV_one _) (by unfold maxLen; omega) (by omega) (by have := HBR.out.size; simp at *; omega) ?_; rotate_left; (case news => exact new_str wr _ rfl _ _); intro v' w4 hown' hgrow3 hnil3) | fail)
            have hb4 : Below w.heap.size w w4 := Below.grown (btrans HBR.out (balloc _ _)) hgrow3 (by have := HBR.out.size; simp at *; omega) (fun q hq => (OWN.out.lt q hq).1)
            refine ⟨⟨k + 1, k + 1, false, done ++ [(s.data.toList.drop fr).take (k - fr)], by omega, Nat.le_refl _, by omega, by simp; omega, by go_num, rfl, by go_num, ?_, ?_, hb4⟩, by simp [intOf]; go_num⟩
            · rw [List.length_append, strV_app]
              exact hown'
            · rw [HCUT.out, HK3.out rfl c34 (by rw [c38]; rfl), Nat.sub_self, List.take_zero, List.append_assoc]; rfl
        · have n34 : (s[k].toNat : Int) = 34 := by simpa using c34
          have m34 : ((s[k].toNat : Int) == 34) = true := c34
          go_wp2_with fail
          refine ⟨⟨k + 1, fr, true, done, by omega, by omega, hfs, by omega, rfl, rfl, by go_num, OWN.out, ?_, HBR.out⟩, by simp [intOf]; go_num⟩
          rw [HCUT.out, HK2.out rfl c34, HMORE.out]; rfl
      · cases c92 : ((s[k].toNat : Int) == ((92 : UInt8).toNat : Int))
        · cases c34 : ((s[k].toNat : Int) == ((34 : UInt8).toNat : Int))
          · have n92 : ¬ (s[k].toNat : Int) = 92 := by simpa using c92
            have n34 : ¬ (s[k].toNat : Int) = 34 := by simpa using c34
            have m92 : ((s[k].toNat : Int) == 92) = false := c92
            have m34 : ((s[k].toNat : Int) == 34) = false := c34
            go_wp2_with fail
            all_goals
              refine ⟨⟨k + 1, fr, true, done, by omega, by omega, hfs, by omega, rfl, rfl, by go_num, OWN.out, ?_, HBR.out⟩, by simp [intOf]; go_num⟩
              rw [HCUT.out, HK4.out (by rw [c92]; rfl) c34 (by simp), HMORE.out]
          · have n92 : ¬ (s[k].toNat : Int) = 92 := by simpa using c92
            have n34 : (s[k].toNat : Int) = 34 := by simpa using c34
            have m92 : ((s[k].toNat : Int) == 92) = false := c92
            have m34 : ((s[k].toNat : Int) == 34) = true := c34
            go_wp2_with fail
            refine ⟨⟨k + 1, fr, false, done, by omega, by omega, hfs, by omega, rfl, rfl, by go_num, OWN.out, ?_, HBR.out⟩, by simp [intOf]; go_num⟩
            rw [HCUT.out, HK2.out (by rw [c92]; rfl) c34, HMORE.out]; rfl
        · have n92 : (s[k].toNat : Int) = 92 := by simpa using c92
          have m92 : ((s[k].toNat : Int) == 92) = true := c92
          go_wp2_with fail
          refine ⟨⟨k + 2, fr, true, done, by omega, by omega, hfs, by omega, rfl, rfl, by go_num, OWN.out, ?_, HBR.out⟩, by simp [intOf]; go_num⟩
          rw [HCUT.out, HK1.out (by rw [c92]; rfl), HSKIP.out.1, HSKIP.out.2]
    · have i1 : ¬ (k : Int) < (s.size : Int) := by omega
      have i4 : (0 : Int) ≤ (fr : Int) := by omega
      have i5 : (fr : Int) ≤ (s.size : Int) := by omega
      have hext := ext_pie s fr s.size
      have hd0 : s.data.toList.drop k = [] := List.drop_of_length_le (by rw [HSZ.out]; omega)
      have hft : (s.data.toList.drop fr).take (k - fr) = (s.data.toList.drop fr).take (s.size - fr) := by
        rw [List.take_of_length_le (by rw [List.length_drop, HSZ.out]; omega), List.take_of_length_le (by rw [List.length_drop, HSZ.out]; omega)]
      rw [hd0, hft] at hcut
      have hcut2 : cutP s.data.toList = done ++ [(s.data.toList.drop fr).take (s.size - fr)] := by rw [hcut]; cases q <;> rfl
      have HCUT := Lib.hid hcut2
      clear hcut hcut2 hd0 hft
      go_wp2_with (first | (at_builtin; refine wpList_append_own _ rfl _ _ 68 rfl w.heap.size 9 i0 (.string .empty) 1 16 Tryz.underlying68 hi hz0 hz1 hz2 rfl (by decide) _ _ _ rfl (OWN.out.alloc _) ⟨wr.heap.size, 0, none⟩ 1 1 (strV [(s.data.toList.drop fr).take (s.size - fr)]) rfl rfl ?news (strV_one _) (by unfold maxLen; omega) (by omega) (by have := HBR.out.size; simp at *; omega) ?_; rotate_left; (case news => exact new_str wr _ rfl _ _); intro v' w4 hown' hgrow3 hnil3) | fail)
      have hb4 : Below w.heap.size w w4 := Below.grown (btrans HBR.out (balloc _ _)) hgrow3 (by have := HBR.out.size; simp at *; omega) (fun q hq => (OWN.out.lt q hq).1)
      have hown2 : w4.ownsRow w.heap.size 9 1 v' (cutP s.data.toList).length (strV (cutP s.data.toList)) := by
        rw [HCUT.out, List.length_append, strV_app]
        exact hown'
      obtain ⟨b0, cp, rfl, hst, hbl⟩ := own_strs hown2
      go_ret
      first | exact ⟨⟨b0, cp, rfl, hst, hbl⟩, hb4⟩ | exact ⟨⟨b0, ⟨cp, rfl⟩, hst, hbl⟩, hb4⟩
end Go.Proofs.YtnccpddjdgndcaaGreatDoor.Pa
end

section
/- PLAIN LAW OF Implies: what it answers, that it is sound, that it is handed on. No program in sight. -/
namespace Go.Proofs.YtnccpddjdgndcaaGreatDoor.Val
open Flt
theorem cb_zero : ∀ (a b : List UInt8), Lib.compareBytes a b = 0 ↔ a = b
  | [], [] => by simp [Lib.compareBytes]
  | [], _ :: _ => by simp [Lib.compareBytes]
  | _ :: _, [] => by simp [Lib.compareBytes]
  | a :: ar, b :: bs => by
    unfold Lib.compareBytes
    by_cases h : a < b
    · rw [if_pos h]; constructor
      · intro h'; omega
      · intro h'; injection h' with h1 h2; subst h1; exact absurd h (UInt8.lt_irrefl _)
    · rw [if_neg h]
      by_cases h' : b < a
      · rw [if_pos h']; constructor
        · intro h'; omega
        · intro h2; injection h2 with h1 h3; subst h1; exact absurd h' (UInt8.lt_irrefl _)
      · rw [if_neg h', cb_zero ar bs]
        have e : a = b := by
          rw [UInt8.lt_iff_toNat_lt] at h h'
          exact UInt8.toNat_inj.1 (by omega)
        subst e; simp
theorem cb_lt : ∀ (a b c : List UInt8), (Lib.compareBytes a b < 0 → Lib.compareBytes b c < 0 → Lib.compareBytes a c < 0) ∧ (0 < Lib.compareBytes a b → 0 < Lib.compareBytes b c → 0 < Lib.compareBytes a c)
  | [], [], _ => by simp [Lib.compareBytes]
  | [], _ :: _, [] => by simp [Lib.compareBytes]
  | [], _ :: _, _ :: _ => by simp [Lib.compareBytes]
  | _ :: _, [], [] => by simp [Lib.compareBytes]
  | _ :: _, [], _ :: _ => by simp [Lib.compareBytes]
  | _ :: _, _ :: _, [] => by simp [Lib.compareBytes]
  | a :: ar, b :: bs, c :: cs => by
    have ih := cb_lt ar bs cs
    unfold Lib.compareBytes
    simp only [UInt8.lt_iff_toNat_lt]
    by_cases h1 : a.toNat < b.toNat <;> by_cases h2 : b.toNat < a.toNat <;> by_cases h3 : b.toNat < c.toNat <;> by_cases h4 : c.toNat < b.toNat <;> by_cases h5 : a.toNat < c.toNat <;> by_cases h6 : c.toNat < a.toNat <;> simp only [h1, h2, h3, h4, h5, h6, if_true, if_false] <;> first | exact ih | omega
/-- how three comparisons hang together -/
def Ord3 (p q r : Int) : Prop := (p < 0 → q ≤ 0 → r < 0) ∧ (p ≤ 0 → q < 0 → r < 0) ∧ (p = 0 → q = 0 → r = 0) ∧ (0 < p → 0 ≤ q → 0 < r) ∧ (0 ≤ p → 0 < q → 0 < r)
theorem cb_ord (a b c : List UInt8) : Ord3 (Lib.compareBytes a b) (Lib.compareBytes b c) (Lib.compareBytes a c) := by
  have h := cb_lt a b c
  have h1 := cb_zero a b
  have h2 := cb_zero b c
  unfold Ord3
  by_cases e1 : a = b
  · subst e1; rw [(cb_zero a a).2 rfl] at *; omega
  by_cases e2 : b = c
  · subst e2; rw [(cb_zero b b).2 rfl] at *; omega
  simp only [e1, iff_false] at h1
  simp only [e2, iff_false] at h2
  omega
end Go.Proofs.YtnccpddjdgndcaaGreatDoor.Val
end

section
/- PLAIN LAW OF EVENTS: attributes that rise by their names, what the search finds among them, what New makes. No program in sight. -/
namespace Go.Proofs.YtnccpddjdgndcaaGreatDoor.Val
open Flt
theorem cb_anti (a b : List UInt8) : (Lib.compareBytes a b < 0 ↔ 0 < Lib.compareBytes b a) ∧ (Lib.compareBytes a b = 0 ↔ Lib.compareBytes b a = 0) := by
  have h1 := cb_ord a b a
  have h2 := cb_ord b a b
  rw [(cb_zero a a).2 rfl] at h1
  rw [(cb_zero b b).2 rfl] at h2
  have h3 := cb_zero a b
  have h4 := cb_zero b a
  unfold Ord3 at h1 h2
  refine ⟨by omega, ?_⟩
  rw [h3, h4]; exact eq_comm
theorem cb_trans {a b c : List UInt8} (h1 : Lib.compareBytes a b < 0) (h2 : Lib.compareBytes b c < 0) : Lib.compareBytes a c < 0 := (cb_lt a b c).1 h1 h2
theorem cb_irr (a : List UInt8) : ¬ Lib.compareBytes a a < 0 := by rw [(cb_zero a a).2 rfl]; decide
theorem name_ne {x y : A} (h : Lib.compareBytes x.name y.name < 0) : x.name ≠ y.name := fun e => by rw [e] at h; exact cb_irr _ h
end Go.Proofs.YtnccpddjdgndcaaGreatDoor.Val
end

section
/- THE WALK OF event.New. -/
namespace Go.Proofs.YtnccpddjdgndcaaGreatDoor.Val
open Go.RowKit Flt
/-- what New lays of an attribute in its box -/
def BoxA (W : World) (b : Nat) (a : A) : Prop :=
  W.cell? ⟨b, 0, none⟩ = some (.string ⟨a.name.toArray⟩) ∧ W.cell? ⟨b, 1, none⟩ = some (.int .i64 a.val.kind) ∧ W.cell? ⟨b, 2, none⟩ = some (.int .i64 a.val.int) ∧ W.cell? ⟨b, 3, none⟩ = some (.float .f64 a.val.num) ∧ W.cell? ⟨b, 4, none⟩ = some (.string ⟨a.val.text.toArray⟩) ∧ W.cell? ⟨b, 5, none⟩ = some (.bool a.val.yes)
theorem BoxA.below {W W2 : World} {b : Nat} {a : A} (h : BoxA W b a) (hb : Below W.heap.size W W2) : BoxA W2 b a := by
  obtain ⟨h0, h1, h2, h3, h4, h5⟩ := h
  exact ⟨(hb.cell (World.block_lt_of_cell? _ _ h0)).trans h0, (hb.cell (World.block_lt_of_cell? _ _ h1)).trans h1, (hb.cell (World.block_lt_of_cell? _ _ h2)).trans h2, (hb.cell (World.block_lt_of_cell? _ _ h3)).trans h3, (hb.cell (World.block_lt_of_cell? _ _ h4)).trans h4, (hb.cell (World.block_lt_of_cell? _ _ h5)).trans h5⟩
attribute [local go_sem] run_store_flt
end Go.Proofs.YtnccpddjdgndcaaGreatDoor.Val
end

section
/- THE WALK OF the fit of chapter 03's laws. -/
namespace Go.Proofs.YtnccpddjdgndcaaGreatDoor.Val
open Go.RowKit Flt
attribute [local go_sem] run_store_flt
end Go.Proofs.YtnccpddjdgndcaaGreatDoor.Val
end

section
/- THE WALK OF light of chapter 03's laws; of a name the last attribute. -/
namespace Go.Proofs.YtnccpddjdgndcaaGreatDoor.Val
open Go.RowKit Flt
attribute [local go_sem] run_store_flt
end Go.Proofs.YtnccpddjdgndcaaGreatDoor.Val
end

section
/- THE WALKS OF package order: Key, Same. -/
namespace Go.Proofs.YtnccpddjdgndcaaGreatDoor.Ord
open Go.RowKit Flt
attribute [local go_sem] ford_eq ford_lt ford_gt
theorem bits_call (b : Nat) (w : World) : (callFunc 86 #[.float .f64 b]).run Tryz.prog w = .ok (.value (.int .u64 b)) w :=
  run_callFunc_extern (e := Extern.MathFloatBits.float64bits) Tryz.func86 (by kernel_rfl) (by kernel_rfl) (by kernel_rfl) (by kernel_rfl) _ w
theorem umax_xor (b : Nat) (hb : b < 18446744073709551616) : bits .xor .u64 IntKind.u64.max (b : Int) = ((most - b : Nat) : Int) := by
  have h := u64_xor 18446744073709551615 (b : Int) (by decide) (by decide) (by omega) (by omega)
  have e : IntKind.u64.max = 18446744073709551615 := by decide
  rw [e, h]
  have e2 : (18446744073709551615 : Int).toNat = most := by decide
  rw [e2, Int.toNat_natCast, xor_most hb]
theorem top_or (b : Nat) (hb : b < 18446744073709551616) : bits .or .u64 (b : Int) 9223372036854775808 = ((b ||| top : Nat) : Int) := by
  have h := u64_or (b : Int) 9223372036854775808 (by omega) (by omega) (by decide) (by decide)
  rw [h, Int.toNat_natCast]; rfl
theorem ret_u64 {a b : Int} (h : a = b) : Ending.returned (.int .u64 a) = .returned (.int .u64 b) := by rw [h]
set_option maxHeartbeats 400000 in
theorem key_any (b : Nat) (hb : b < 18446744073709551616) (w : World) :
    Calls Tryz.prog 52 #[.float .f64 b] w fun e w' => e = .returned (.int .u64 (key b)) ∧ w = w' := by
  have hc := bits_call
  have h1 := ford_ne_self (canon b)
  rw [canon_nan] at h1
  cases hn : nan b with
  | true =>
    rw [key_nan hn]
    rw [hn] at h1; clear hn hb
    go_enter Tryz.func52, Tryz.ntmps52
    go_wp2_with (go_at_call 32; refine (canon_any _ _).mono ?_; rintro e w' ⟨rfl, rfl⟩)
    go_ret
    exact ⟨rfl, rfl⟩
  | false =>
    rw [hn] at h1
    have hk := key_of_canon b hb hn
    have hl := canon_lt b hb
    clear hn hb
    by_cases h : canon b / 9223372036854775808 = 1
    · rw [if_pos h] at hk
      have HK := Lib.hid hk; clear hk
      have h' : ((canon b : Int) / 9223372036854775808 == 1) = true := by rw [beq_iff_eq]; omega
      clear h
      go_enter Tryz.func52, Tryz.ntmps52
      go_wp2_with (go_at_call 32; refine (canon_any _ _).mono ?_; rintro e w' ⟨rfl, rfl⟩)
      go_ret
      exact ⟨ret_u64 (by rw [HK.out, umax_xor _ hl]), rfl⟩
    · rw [if_neg h] at hk
      have HK := Lib.hid hk; clear hk
      have h' : ((canon b : Int) / 9223372036854775808 == 1) = false := by rw [beq_eq_false_iff_ne]; omega
      clear h
      go_enter Tryz.func52, Tryz.ntmps52
      go_wp2_with (go_at_call 32; refine (canon_any _ _).mono ?_; rintro e w' ⟨rfl, rfl⟩)
      go_ret
      exact ⟨ret_u64 (by rw [HK.out, top_or _ hl]), rfl⟩
def same (a b : Nat) : Bool := key a == key b
theorem beq_cast (a b : Nat) : ((a : Int) == (b : Int)) = (a == b) := by
  rw [Bool.eq_iff_iff]; simp; omega
set_option maxHeartbeats 400000 in
theorem same_any (a b : Nat) (ha : a < 18446744073709551616) (hb : b < 18446744073709551616) (w : World) :
    Calls Tryz.prog 34 #[.float .f64 a, .float .f64 b] w fun e w' => e = .returned (.bool (same a b)) ∧ w = w' := by
  go_enter Tryz.func34, Tryz.ntmps34
  go_wp2_with (go_at_call 52; refine (key_any _ (by assumption) _).mono ?_; rintro e w' ⟨rfl, rfl⟩)
  go_ret
  exact ⟨ret_bool (beq_cast _ _), rfl⟩
end Go.Proofs.YtnccpddjdgndcaaGreatDoor.Ord
end

section
/- THE WALKS OF value.Same, cond.below, cond.above. -/
namespace Go.Proofs.YtnccpddjdgndcaaGreatDoor.Val
open Go.RowKit Flt
def sameB (a b : V) : Bool := a.kind == b.kind && (if a.kind == 0 then a.int == b.int else if a.kind == 1 then Ord.same a.num b.num else if a.kind == 2 then a.text == b.text else a.yes == b.yes)
set_option maxHeartbeats 400000 in
theorem same_any (k1 n1 : Int) (x1 : Nat) (t1 : List UInt8) (y1 : Bool) (k2 n2 : Int) (x2 : Nat) (t2 : List UInt8) (y2 : Bool) (w : World) (h1 : x1 < 18446744073709551616) (h2 : x2 < 18446744073709551616) :
    Calls Tryz.prog 11 #[val k1 n1 x1 t1 y1, val k2 n2 x2 t2 y2] w fun e w' => e = .returned (.bool (sameB ⟨k1, n1, x1, t1, y1⟩ ⟨k2, n2, x2, t2, y2⟩)) ∧ Below w.heap.size w w' := by
  have hr : sameB ⟨k1, n1, x1, t1, y1⟩ ⟨k2, n2, x2, t2, y2⟩ = (k1 == k2 && (if k1 == 0 then n1 == n2 else if k1 == 1 then Ord.same x1 x2 else if k1 == 2 then t1 == t2 else y1 == y2)) := rfl
  have ho (w : World) := Ord.same_any x1 x2 h1 h2 w
  generalize Ord.same x1 x2 = sb at *
  have HR := Lib.hid hr; have HO := Lib.hid ho; clear hr ho h1 h2
  cases hk : (k1 == k2)
  · have hk' : (k1 != k2) = true := by rw [bne, hk]; rfl
    go_enter Tryz.func11, Tryz.ntmps11
    go_wp2
    go_ret
    exact ⟨ret_bool (by rw [HR.out, hk]; rfl), balloc2 _ _ _⟩
  have hk' : (k1 != k2) = false := by rw [bne, hk]; rfl
  cases q0 : (k1 == 0)
  · cases q1 : (k1 == 1)
    · cases q2 : (k1 == 2)
      all_goals
        go_enter Tryz.func11, Tryz.ntmps11
        go_wp2
        go_ret
        exact ⟨ret_bool (by rw [HR.out, hk, q0, q1, q2]; rfl), balloc2 _ _ _⟩
    · go_enter Tryz.func11, Tryz.ntmps11
      go_wp2_with (go_at_call 34; refine (HO.out _).mono ?_; rintro e w' ⟨rfl, rfl⟩)
      go_ret
      exact ⟨ret_bool (by rw [HR.out, hk, q0, q1]; rfl), balloc2 _ _ _⟩
  · go_enter Tryz.func11, Tryz.ntmps11
    go_wp2
    go_ret
    exact ⟨ret_bool (by rw [HR.out, hk, q0]; rfl), balloc2 _ _ _⟩
end Go.Proofs.YtnccpddjdgndcaaGreatDoor.Val
end

section
/- THE WALK OF event.Same. -/
namespace Go.Proofs.YtnccpddjdgndcaaGreatDoor.Val
open Go.RowKit Flt
attribute [local go_sem] run_store_flt
end Go.Proofs.YtnccpddjdgndcaaGreatDoor.Val
end

section
/- THE WALKS OF event.kept and event.Right. -/
namespace Go.Proofs.YtnccpddjdgndcaaGreatDoor.Val
open Go.RowKit Flt
attribute [local go_sem] run_store_flt Ord.ford_eq
theorem run_equalIn_flt {P : Program} (w : World) (d : Nat) (t : TypeId) (a b : Nat) (h : P.underlying t = some (.float .f64)) : (Op.equalIn (d + 1) t (.float .f64 a) (.float .f64 b)).run P w = .ok (Flt.eq a b) w := by
  simp [Op.equalIn, run_underlying h, Op.floatEq, Ord.ford_eq]
theorem eqF (a b : Nat) (w : World) : (Op.equalIn 9999 23 (.float .f64 a) (.float .f64 b)).run Tryz.prog w = .ok (Flt.eq a b) w := run_equalIn_flt w 9998 _ a b Tryz.underlying23
attribute [local go_sem] eqF
end Go.Proofs.YtnccpddjdgndcaaGreatDoor.Val
end

section
/- THE WALK OF event.Right. -/
namespace Go.Proofs.YtnccpddjdgndcaaGreatDoor.Val
open Go.RowKit Flt
attribute [local go_sem] run_store_flt
end Go.Proofs.YtnccpddjdgndcaaGreatDoor.Val
end

section
/- PLAIN LAW OF FILTERS: what covers what, what does; the attributes of the laws' events. No walk. -/
namespace Go.Proofs.YtnccpddjdgndcaaGreatDoor.Val
open Flt
def fRight (sc : List UInt8) (l : List C) : Bool := l.all cRight && (Sc.rightB sc && decide (l.length ≤ 6))
theorem cright_op7 {c : C} (h : cRight c = true) : 0 ≤ c.op ∧ c.op ≤ 7 := by
  unfold cRight at h; simp at h; exact ⟨h.1.1.2, h.1.2⟩
theorem fright_op {sc : List UInt8} {l : List C} (h : fRight sc l = true) : ∀ c ∈ l, 0 ≤ c.op ∧ c.op ≤ 7 := by
  unfold fRight at h
  simp only [Bool.and_eq_true, List.all_eq_true] at h
  exact fun c hc => cright_op7 (h.1 c hc)
end Go.Proofs.YtnccpddjdgndcaaGreatDoor.Val
end

section
/- THE CONTRACTS OF scope.Right and scope.Under, at lists. -/
namespace Go.Proofs.YtnccpddjdgndcaaGreatDoor.Sc
open Go.RowKit
theorem right_l (x : List UInt8) (w : World) (h : x.length ≤ 140737488351232) :
    Calls Tryz.prog 44 #[.string ⟨x.toArray⟩] w fun e w' => e = .returned (.bool (rightB x)) ∧ Drawn w w' :=
  right_any ⟨x.toArray⟩ w (by show x.length ≤ _; unfold maxLen; omega) (by show x.length < _; omega)
end Go.Proofs.YtnccpddjdgndcaaGreatDoor.Sc
end

section
/- THE WALKS OF package filter: ContainsFunc at conditions, Void, Match, Right, Covers. -/
namespace Go.Proofs.YtnccpddjdgndcaaGreatDoor.Val
open Go.RowKit Flt
attribute [local go_sem] run_store_flt
theorem all_take_succ' (p : C → Bool) (l : List C) (k : Nat) (h : k < l.length) : (l.take (k + 1)).all p = ((l.take k).all p && p l[k]) := by
  rw [List.take_succ_eq_append_getElem h]; simp only [List.all_append, List.all_cons, List.all_nil, Bool.and_true]
theorem all_miss (p : C → Bool) (l : List C) (k : Nat) (h : k < l.length) (hk : p l[k] = false) : l.all p = false := by
  rw [Bool.eq_false_iff]; intro ha
  have := List.all_eq_true.1 ha l[k] (List.getElem_mem h)
  rw [hk] at this; cases this
/-- two boxes of two cells each, laid one behind the other -/
def Box2 (w : World) (b : Nat) (s : List UInt8) (a0 : Option Addr) (n cap : Nat) : Prop := w.cell? ⟨b, 0, none⟩ = some (.string ⟨s.toArray⟩) ∧ w.cell? ⟨b, 1, none⟩ = some (.slice a0 n cap)
theorem Box2.below {w w2 : World} {b : Nat} {s : List UInt8} {a0 : Option Addr} {n cap : Nat} (h : Box2 w b s a0 n cap) (hb : Below w.heap.size w w2) : Box2 w2 b s a0 n cap :=
  ⟨(hb.cell (World.block_lt_of_cell? _ _ h.1)).trans h.1, (hb.cell (World.block_lt_of_cell? _ _ h.2)).trans h.2⟩
theorem box2_new (w : World) (s : List UInt8) (a0 : Option Addr) (n cap : Nat) (T : TypeId) : Box2 (w.alloc (.cells #[.string ⟨s.toArray⟩, .slice a0 n cap] T)) w.heap.size s a0 n cap := by
  have c : ∀ o, (w.alloc (.cells #[.string ⟨s.toArray⟩, .slice a0 n cap] T)).cell? ⟨w.heap.size, o, none⟩ = #[.string ⟨s.toArray⟩, .slice a0 n cap][o]? := fun o => World.cell?_alloc_at _ _ _ _ rfl
  exact ⟨c 0, c 1⟩
theorem Box2.lt {w : World} {b : Nat} {s : List UInt8} {a0 : Option Addr} {n cap : Nat} (h : Box2 w b s a0 n cap) : b < w.heap.size := World.block_lt_of_cell? _ _ h.1
end Go.Proofs.YtnccpddjdgndcaaGreatDoor.Val
end

section
/- THE WALKS OF filter.Match, filter.Right, filter.Covers. -/
namespace Go.Proofs.YtnccpddjdgndcaaGreatDoor.Val
open Go.RowKit Flt
attribute [local go_sem] run_store_flt
set_option maxHeartbeats 2000000 in
theorem fright_any (sf : List UInt8) (a0 : Option Addr) (cap : Nat) (l : List C) (w : World) (hl : Conds w a0 l) (hlm : l.length ≤ 1000000)
    (hsf : sf.length ≤ 140737488351232) (hok : ∀ c ∈ l, c.name.length ≤ 140737488351232 ∧ c.val.text.length ≤ 140737488351232) :
    Calls Tryz.prog 21 #[ev sf a0 l.length cap] w fun e w' => e = .returned (.bool (fRight sf l)) ∧ Below w.heap.size w w' := by
  have hrt (W : World) := Sc.right_l sf W hsf
  have hr : fRight sf l = (l.all cRight && (Sc.rightB sf && decide (l.length ≤ 6))) := rfl
  have HL := Lib.hid hl; have HRT := Lib.hid hrt; have HR := Lib.hid hr; have HOK := Lib.hid hok
  clear hl hrt hr hsf hok
  generalize Sc.rightB sf = U at *
  generalize fRight sf l = R at *
  go_enter Tryz.func21, Tryz.ntmps21
  go_wp2_with fail
  have hx1 := box2_new w sf a0 l.length cap 35
  have hbw := balloc w (.cells #[.string ⟨sf.toArray⟩, .slice a0 l.length cap] 35)
  have HX1 := Lib.hid hx1; have HBW := Lib.hid hbw
  clear hx1 hbw
  generalize w.alloc _ = W0 at *
  go_loopw [8] (fun vi wr => ∃ k : Nat, k ≤ l.length ∧ vi = .int .i64 k ∧ Hid ((l.take k).all cRight = true) ∧ Below W0.heap.size W0 wr) (fun vi _ => l.length - (intOf vi).toNat)
  case atStart => exact ⟨0, Nat.zero_le _, rfl, Lib.hid rfl, Below.refl _ _⟩
  case round =>
    obtain ⟨k, hk, rfl, HP, hbr⟩ := hrel
    have hbz := btrans HBW.out hbr
    have hy1 := HX1.out.below hbr
    have hs1 := hy1.lt
    obtain ⟨f0, f1⟩ := hy1
    have HBZ := Lib.hid hbz; have HBR := Lib.hid hbr
    clear hbz hbr
    by_cases hlt : k < l.length
    · have i1 : (k : Int) < (l.length : Int) := by omega
      have i0 : (0 : Int) ≤ (k : Int) := by omega
      have hts := all_take_succ' cRight l k hlt
      have hno := all_miss cRight l k hlt
      rw [HP.out, Bool.true_and] at hts
      have hx := HOK.out _ (List.getElem_mem hlt)
      obtain ⟨a, rfl, v0, v1, v2, v3, v4, v5, v6⟩ := (HL.out.below HBZ.out) k hlt
      have hmc (W : World) : Calls Tryz.prog 43 #[cc l[k]] W fun e w' => e = .returned (.bool (cRight l[k])) ∧ Below W.heap.size W w' := cright_any _ _ _ _ _ _ _ W hx.1 hx.2
      clear hx
      generalize cRight l[k] = M at *
      have HTS := Lib.hid hts; have HNO := Lib.hid hno; have HMC := Lib.hid hmc
      clear hts hno hmc HP
      cases M
      · go_wp2_with (go_at_call 43; refine (HMC.out _).mono ?_; rintro e w5 ⟨rfl, hb5⟩)
        go_ret
        exact ⟨ret_bool (by rw [HR.out, HNO.out (by trivial)]; rfl), btrans (btrans HBZ.out (balloc _ _)) hb5⟩
      · go_wp2_with (go_at_call 43; refine (HMC.out _).mono ?_; rintro e w5 ⟨rfl, hb5⟩)
        exact ⟨⟨k + 1, by omega, by go_num, Lib.hid HTS.out, btrans (btrans HBR.out (balloc _ _)) hb5⟩, by simp [intOf]; go_num⟩
    · obtain rfl : k = l.length := by omega
      have hP := HP.out
      rw [List.take_length] at hP
      have HQ := Lib.hid hP; clear hP
      cases U
      · go_wp2_with (go_at_call 44; refine (HRT.out _).mono ?_; rintro e w5 ⟨rfl, ⟨nd, rfl⟩⟩)
        go_ret
        exact ⟨ret_bool (by rw [HR.out, HQ.out]; rfl), bdrewN HBZ.out _⟩
      · go_wp2_with (go_at_call 44; refine (HRT.out _).mono ?_; rintro e w5 ⟨rfl, ⟨nd, rfl⟩⟩)
        go_ret
        exact ⟨ret_bool (by rw [HR.out, HQ.out, Bool.true_and, Bool.true_and, Bool.eq_iff_iff]; simp; omega), bdrewN HBZ.out _⟩
end Go.Proofs.YtnccpddjdgndcaaGreatDoor.Val
end

section
/- THE WALK OF parse.Filter: a filter of a text whose pieces are conditions. -/
namespace Go.Proofs.YtnccpddjdgndcaaGreatDoor.Pa
open Go.RowKit Flt Go.Proofs.YtnccpddjdgndcaaGreatDoor.Val
attribute [local go_sem] run_store_flt
/-- a box may turn -/
structure NK (b : Nat) (W W2 : World) : Prop where
  os : W2.os = W.os
  tape : W2.tape = W.tape
  output : W2.output = W.output
  size : W.heap.size ≤ W2.heap.size
  block : ∀ p, p < W.heap.size → p ≠ b → W2.heap[p]? = W.heap[p]?
theorem NK.refl (b : Nat) (W : World) : NK b W W := ⟨rfl, rfl, rfl, Nat.le_refl _, fun _ _ _ => rfl⟩
theorem NK.trans {b : Nat} {W W2 W3 : World} (h : NK b W W2) (k : NK b W2 W3) : NK b W W3 :=
  ⟨k.os.trans h.os, k.tape.trans h.tape, k.output.trans h.output, Nat.le_trans h.size k.size, fun p hp hne => (k.block p (Nat.lt_of_lt_of_le hp h.size) hne).trans (h.block p hp hne)⟩
theorem nk_set (b o : Nat) (W : World) (v : Value) : NK b W (W.setCell ⟨b, o, none⟩ v) := ⟨rfl, rfl, rfl, by simp, fun p _ hne => Below.heap_setCell _ _ _ _ hne⟩
theorem NK.low {b B : Nat} {W W2 : World} (h : NK b W W2) (hB : B ≤ b) (hs : B ≤ W.heap.size) : Below B W W2 := ⟨h.os, h.tape, h.output, h.size, fun p hp => h.block p (by omega) (by omega)⟩
theorem NK.cell {b : Nat} {W W2 : World} (h : NK b W W2) {p : Addr} (h1 : p.block < W.heap.size) (h2 : p.block ≠ b) : W2.cell? p = W.cell? p := World.cell?_of_block (w := W) (h.block _ h1 h2)
theorem NK.frozen {b : Nat} {W W2 : World} (h : NK b W W2) {p : Addr} (h1 : p.block < W.heap.size) (h2 : p.block ≠ b) : W2.frozen? p = W.frozen? p := World.frozen?_of_block (w := W) (h.block _ h1 h2)
theorem Strs.nk {W W2 : World} {b : Nat} {b0 : Option Addr} {l : List (List UInt8)} (h : Strs W b0 l) (hk : NK b W W2) (hb : ∀ a, b0 = some a → a.block ≠ b) : Strs W2 b0 l := fun i hi => by
  obtain ⟨a, e, h2⟩ := h i hi
  have hab : (a.add i).block = a.block := by unfold Addr.add; split <;> rfl
  exact ⟨a, e, (hk.cell (World.block_lt_of_cell? _ _ h2) (by rw [hab]; exact hb a e)).trans h2⟩
/-- what was grown below a row of one's own -/
theorem nk_grown {b : Nat} {w6 wr w3 w4 : World} {v : Value} (hk : NK b w6 wr) (hb : Below wr.heap.size wr w3) (hg : w3.grownBy w4 v.ownBlock) (ho : ∀ q, v.ownBlock = some q → w6.heap.size ≤ q ∧ q < wr.heap.size) : NK b w6 w4 :=
  ⟨hg.os.trans (hb.os.trans hk.os), hg.tape.trans (hb.tape.trans hk.tape), hg.output.trans (hb.output.trans hk.output), Nat.le_trans hk.size (Nat.le_trans hb.size hg.size), fun p hp hne => by
    have h1 : p < wr.heap.size := Nat.lt_of_lt_of_le hp hk.size
    refine (hg.block p (Nat.lt_of_lt_of_le h1 hb.size) (fun e => ?_)).trans ((hb.block p h1).trans (hk.block p hp hne))
    have := (ho p e.symm).1
    omega⟩
theorem conds_kp {W W2 : World} {a0 : Option Addr} {l : List C} (h : Conds W a0 l) (hk : ∀ a, a0 = some a → ∀ p : Addr, p.block = a.block → p.block < W.heap.size → W2.cell? p = W.cell? p) : Conds W2 a0 l := by
  intro i hi
  obtain ⟨a, e, h0, h1, h2, h3, h4, h5, h6⟩ := h i hi
  have hab : (a.add (i * 7)).block = a.block := by unfold Addr.add; split <;> rfl
  have k := fun {p : Addr} {v : Value} (hp : p.block = a.block) (hc : W.cell? p = some v) => (hk a e p hp (World.block_lt_of_cell? _ _ hc)).trans hc
  exact ⟨a, e, k hab h0, k hab h1, k hab h2, k hab h3, k hab h4, k hab h5, k hab h6⟩
theorem set2_at (W : World) (b : Nat) (u0 u1 : Value) {v0 v1 : Value} (h0 : W.cell? ⟨b, 0, none⟩ = some v0) (h1 : W.cell? ⟨b, 1, none⟩ = some v1) :
    ((W.setCell ⟨b, 0, none⟩ u0).setCell ⟨b, 1, none⟩ u1).cell? ⟨b, 0, none⟩ = some u0 ∧ ((W.setCell ⟨b, 0, none⟩ u0).setCell ⟨b, 1, none⟩ u1).cell? ⟨b, 1, none⟩ = some u1 ∧ Below b W ((W.setCell ⟨b, 0, none⟩ u0).setCell ⟨b, 1, none⟩ u1) := by
  refine ⟨(World.cell?_setCell_other _ _ _ _ (by simp)).trans (World.cell?_setCell_same _ _ _ h0), World.cell?_setCell_same _ _ _ ((World.cell?_setCell_other _ _ _ _ (by simp)).trans h1), ((Below.refl b W).setCell (Nat.le_refl _) _).setCell (Nat.le_refl _) _⟩
theorem fil_start (w : World) (n m : Nat) (ts : List UInt8) {T1 T2 : TypeId} {W : World} (h : W = ((((w.alloc (.cells #[.string ⟨#[]⟩, .slice none 0 0] T1)).drewN n).alloc (.cells #[.string ⟨ts.toArray⟩, .slice none 0 0] T2)).drewN m)) :
    (W.cell? ⟨w.heap.size, 0, none⟩ = some (.string ⟨#[]⟩) ∧ W.cell? ⟨w.heap.size, 1, none⟩ = some (.slice none 0 0) ∧ (∀ o, W.frozen? ⟨w.heap.size, o, none⟩ = false)) ∧ (W.cell? ⟨w.heap.size + 1, 0, none⟩ = some (.string ⟨ts.toArray⟩) ∧ W.cell? ⟨w.heap.size + 1, 1, none⟩ = some (.slice none 0 0) ∧ (∀ o, W.frozen? ⟨w.heap.size + 1, o, none⟩ = false)) ∧ W.heap.size = w.heap.size + 2 ∧ Below w.heap.size w W := by
  have hb : Below w.heap.size w W := by rw [h]; exact bdrewN (btrans (bdrewN (balloc _ _) _) (balloc _ _)) _
  subst h
  refine ⟨⟨?_, ?_, fun o => ?_⟩, ⟨?_, ?_, fun o => ?_⟩, ?_, hb⟩ <;> simp [go_sem]
/-- what parse.Filter answers, of a scope and conditions -/
def Made (sc : List UInt8) (cs : List C) (e : Ending) (w' : World) : Prop :=
  if 6 < cs.length then e = .returned (.tuple #[ev [] none 0 0, .int .i64 2]) else if fRight sc cs = true then ∃ b0 cp, e = .returned (.tuple #[ev sc b0 cs.length cp, .int .i64 0]) ∧ Conds w' b0 cs else e = .returned (.tuple #[ev [] none 0 0, .int .i64 1])
set_option maxRecDepth 20000 in
set_option maxHeartbeats 4000000 in
theorem pfilter_any (sc rest : List UInt8) (cs : List C) (w : World) (h58 : 58 ∉ sc) (hl : sc.length + rest.length + 1 ≤ 100000) (hne : trimP rest ≠ []) (hlen : (cutP rest).length = cs.length) (hc20 : cs.length ≤ 100000) (htl : (trimP sc).length ≤ 100000)
    (hone : ∀ i (h : i < cs.length) W, Below w.heap.size w W → Calls Tryz.prog 42 #[.string ⟨((cutP rest)[i]'(by omega)).toArray⟩] W fun e w' => e = .returned (.tuple #[cc cs[i], .bool true]) ∧ Below W.heap.size W w')
    (hok : ∀ x ∈ cs, x.name.length ≤ 140737488351232 ∧ x.val.text.length ≤ 140737488351232) :
    Calls Tryz.prog 18 #[.string ⟨(sc ++ 58 :: rest).toArray⟩] w fun e w' => Made (trimP sc) cs e w' ∧ Below w.heap.size w w' := by
  obtain ⟨i0, hi, hz0, hz1, hz2⟩ := info_parts info_cond
  have hcu := fun W => pcut_some 58 sc rest W h58 (by unfold maxLen; omega)
  have ht1 := fun W => ptrim_any sc W (by unfold maxLen; omega)
  have ht2 := fun W => ptrim_any rest W (by unfold maxLen; omega)
  have hpi := fun W => pieces_any ⟨rest.toArray⟩ W (by show rest.toArray.size ≤ _; simp; omega)
  have hpi2 : ∀ W, Calls Tryz.prog 41 #[.string ⟨rest.toArray⟩] W fun e w' => (∃ b0 cap, e = .returned (.slice b0 cs.length cap) ∧ Strs w' b0 (cutP rest) ∧ ∀ a, b0 = some a → W.heap.size ≤ a.block) ∧ Below W.heap.size W w' := fun W => by
    have h := hpi W
    rw [show (⟨rest.toArray⟩ : ByteArray).data.toList = rest from rfl, hlen] at h
    exact h
  have e0 : (trimP rest == []) = false := by simpa using hne
  have e1 : (trimP rest != []) = true := by simpa using hne
  generalize htr : trimP rest = tr at *
  generalize hts : trimP sc = ts at *
  have HCU := Lib.hid hcu; have HT1 := Lib.hid ht1; have HT2 := Lib.hid ht2; have HPI := Lib.hid hpi2; have HONE := Lib.hid hone; have HOK := Lib.hid hok
  clear hcu ht1 ht2 hpi hpi2 hone hok h58 htr hts hl
  go_enter Tryz.func18, Tryz.ntmps18
  go_upto_region 7 with (first | (go_at_call 39; (with_reducible refine (HCU.out _).mono ?_); rintro e w1 ⟨rfl, n1, rfl⟩) | (go_at_call 40; (with_reducible refine (HT1.out _).mono ?_); rintro e w1 ⟨rfl, n2, rfl⟩) | (go_at_call 40; (with_reducible refine (HT2.out _).mono ?_); rintro e w1 ⟨rfl, n3, rfl⟩) | (go_at_call 41; (with_reducible refine (HPI.out _).mono ?_); rintro e w6 ⟨⟨b0, cap, rfl, hst, hbl⟩, hb6⟩) | fail)
  obtain ⟨W5, hW5⟩ : ∃ W5, W5 = ((((w.alloc (.cells #[.string ⟨#[]⟩, .slice none 0 0] 35)).drewN (n1 + n2)).alloc (.cells #[.string ⟨ts.toArray⟩, .slice none 0 0] 35)).drewN n3) := ⟨_, rfl⟩
  obtain ⟨⟨r0, r1, rz⟩, ⟨f0, f1, fz⟩, hs5, hb5⟩ := fil_start w (n1 + n2) n3 ts hW5
  rw [← hW5] at hb6 hbl
  have hb56 : Below w.heap.size w w6 := hb5.trans (hb6.mono (by omega))
  have hs6 := hb6.size
  have hpr : w.heap.size < W5.heap.size := by omega
  have hpf : w.heap.size + 1 < W5.heap.size := by omega
  have HR := Lib.hid (show w6.cell? ⟨w.heap.size, 0, none⟩ = some (.string ⟨#[]⟩) ∧ w6.cell? ⟨w.heap.size, 1, none⟩ = some (.slice none 0 0) ∧ ∀ o, w6.frozen? ⟨w.heap.size, o, none⟩ = false from ⟨(hb6.cell (p := ⟨w.heap.size, 0, none⟩) hpr).trans r0, (hb6.cell (p := ⟨w.heap.size, 1, none⟩) hpr).trans r1, fun o => (hb6.frozen (p := ⟨w.heap.size, o, none⟩) hpr).trans (rz o)⟩)
  have g0 := (hb6.cell (p := ⟨w.heap.size + 1, 0, none⟩) hpf).trans f0
  have g1 := (hb6.cell (p := ⟨w.heap.size + 1, 1, none⟩) hpf).trans f1
  have gz := (hb6.frozen (p := ⟨w.heap.size + 1, 1, none⟩) hpf).trans (fz 1)
  have hbl2 : ∀ a, b0 = some a → a.block ≠ w.heap.size + 1 := fun a e => by have := hbl a e; omega
  have hbase : w.heap.size + 1 < w6.heap.size := by omega
  have HST := Lib.hid hst; have HBL := Lib.hid hbl2; have HB56 := Lib.hid hb56
  clear hst hbl hbl2 hb5 hb6 hb56 r0 r1 rz f0 f1 fz hs5 hs6 hpr hpf hW5
  go_loopw [30] (fun vi wr => ∃ (k : Nat) (v : Value), k ≤ cs.length ∧ vi = .int .i64 k ∧ wr.cell? ⟨w.heap.size + 1, 0, none⟩ = some (.string ⟨ts.toArray⟩) ∧ wr.cell? ⟨w.heap.size + 1, 1, none⟩ = some v ∧ wr.frozen? ⟨w.heap.size + 1, 1, none⟩ = false ∧ wr.ownsRow w6.heap.size 41 7 v (cs.take k).length (flatC (cs.take k)) ∧ NK (w.heap.size + 1) w6 wr) (fun vi _ => cs.length - (intOf vi).toNat)
  case atStart => exact ⟨0, .slice none 0 0, Nat.zero_le _, rfl, g0, g1, gz, World.ownsRow_nil _ _ _ _, NK.refl _ _⟩
  case round =>
    obtain ⟨k, v, hk, rfl, o0, o1, ofz, hown, hnk⟩ := hrel
    clear g0 g1 gz
    have hpfr : w.heap.size + 1 < wr.heap.size := Nat.lt_of_lt_of_le hbase hnk.size
    have hbw : Below w.heap.size w wr := HB56.out.trans (hnk.low (by omega) (by omega))
    have OWN := Lib.hid hown; have HNK := Lib.hid hnk; have HBW := Lib.hid hbw
    have hnks := hnk.size
    clear hown hnk hbw
    by_cases hlt : k < cs.length
    · have i1 : (k : Int) < (cs.length : Int) := by omega
      have i2 : (0 : Int) ≤ (k : Int) := by omega
      obtain ⟨a, rfl, hpc⟩ := (HST.out.nk HNK.out HBL.out) k (by omega)
      have hn := fun W => HONE.out k hlt W
      have hstep : cs.take (k + 1) = cs.take k ++ [cs[k]] := List.take_succ_eq_append_getElem hlt
      have htk : (cs.take k).length = k := by rw [List.length_take]; omega
      generalize (cutP rest)[k]'(by omega) = pc at *
      generalize cs[k] = c at *
      have HN := Lib.hid hn; have HSTEP := Lib.hid hstep
      clear hn hstep
      obtain ⟨cn1, cn2, cn3, cn4, cn5, cn6, cn7⟩ := c
      go_wp2_with (first | (go_at_call 42; (refine (HN.out _ HBW.out).mono ?_); rintro e w3 ⟨rfl, hb3⟩; have HB3 := Lib.hid hb3; have OWN3 := Lib.hid (own_low7 OWN.out hb3); have hpf3 : w.heap.size + 1 < w3.heap.size := Nat.lt_of_lt_of_le hpfr hb3.size; have q1 := (hb3.cell (p := ⟨w.heap.size + 1, 1, none⟩) hpfr).trans o1; have qz := (hb3.frozen (p := ⟨w.heap.size + 1, 1, none⟩) hpfr).trans ofz; clear hb3) | (at_builtin; refine wpList_append_own _ rfl _ _ 33 rfl w6.heap.size 41 i0 (.agg #[.string .empty, .int .i64 0, .int .i64 0, .int .i64 0, .float .f64 0, .string .empty, .bool false]) 7 72 Tryz.underlying33 hi hz0 hz1 hz2 rfl (by decide) v _ _ rfl ((OWN3.out.alloc _).alloc _) ⟨w3.heap.size + 1, 0, none⟩ 1 1 (flatC [⟨cn1, cn2, cn3, cn4, cn5, cn6, cn7⟩]) rfl rfl ?news (flatC_one _) (by unfold maxLen; omega) (by omega) (by have := HB3.out.size; simp at *; omega) ?_; rotate_left; (case news => exact new_cond _ _ (by simp) _ _); intro v' w4 hown' hgrow3 hnil3; have hb7 := btrans HB3.out (balloc2 w3 (.cells #[.string ⟨cn1.toArray⟩, .int .i64 cn2, .int .i64 cn3, .int .i64 cn4, .float .f64 cn5, .string ⟨cn6.toArray⟩, .bool cn7] 41) (.cells #[.string ⟨cn1.toArray⟩, .int .i64 cn2, .int .i64 cn3, .int .i64 cn4, .float .f64 cn5, .string ⟨cn6.toArray⟩, .bool cn7] 41)); have hg1 := hgrow3.block (w.heap.size + 1) (by have := hb7.size; omega) (fun h => by have := (OWN.out.lt _ h.symm).1; omega); have p0 := (World.cell?_of_block (a := ⟨w.heap.size + 1, 0, none⟩) hg1).trans ((hb7.cell (p := ⟨w.heap.size + 1, 0, none⟩) hpfr).trans o0); have p1 := (World.cell?_of_block (a := ⟨w.heap.size + 1, 1, none⟩) hg1).trans ((hb7.cell (p := ⟨w.heap.size + 1, 1, none⟩) hpfr).trans o1); have pfz := (World.frozen?_of_block (a := ⟨w.heap.size + 1, 1, none⟩) hg1).trans ((hb7.frozen (p := ⟨w.heap.size + 1, 1, none⟩) hpfr).trans ofz); have hnk4 : NK (w.heap.size + 1) w6 w4 := nk_grown HNK.out hb7 hgrow3 (fun q hq => OWN.out.lt q hq); have hown2 : w4.ownsRow w6.heap.size 41 7 v' (cs.take k ++ [(⟨cn1, cn2, cn3, cn4, cn5, cn6, cn7⟩ : C)]).length (flatC (cs.take k ++ [(⟨cn1, cn2, cn3, cn4, cn5, cn6, cn7⟩ : C)])) := (by rw [flatC_app, List.length_append]; exact hown'); obtain ⟨b1, cp1, hv1, _⟩ := own_conds hown2; subst hv1; have OWN4 := Lib.hid hown2; have HNK4 := Lib.hid hnk4; clear hown' hown2 hgrow3 hnil3 hb7 hg1 hnk4) | fail)
      have o4 := OWN4.out
      refine ⟨⟨k + 1, _, by omega, by go_num, (World.cell?_setCell_other _ _ _ _ (by simp)).trans p0, World.cell?_setCell_same _ _ _ p1, by rw [World.frozen?_setCell]; exact pfz, ?_, HNK4.out.trans (nk_set _ _ _ _)⟩, by simp [intOf]; go_num⟩
      have el : (cs.take k ++ [(⟨cn1, cn2, cn3, cn4, cn5, cn6, cn7⟩ : C)]).length = k + 1 := by simp [htk]
      rw [HSTEP.out, el]
      rw [el] at o4
      exact ownsRow_setCell_below (a := ⟨w.heap.size + 1, 1, none⟩) o4 hbase _
    · obtain rfl : k = cs.length := by omega
      have own := OWN.out
      rw [List.take_length] at own
      obtain ⟨b1, cp, rfl, hcs, hbc⟩ := own_conds own
      have hq0 := (HNK.out.cell (p := ⟨w.heap.size, 0, none⟩) (by show w.heap.size < _; omega) (by show w.heap.size ≠ _; omega)).trans HR.out.1
      have hq1 := (HNK.out.cell (p := ⟨w.heap.size, 1, none⟩) (by show w.heap.size < _; omega) (by show w.heap.size ≠ _; omega)).trans HR.out.2.1
      have hqz : ∀ o, wr.frozen? ⟨w.heap.size, o, none⟩ = false := fun o => (HNK.out.frozen (p := ⟨w.heap.size, o, none⟩) (by show w.heap.size < _; omega) (by show w.heap.size ≠ _; omega)).trans (HR.out.2.2 o)
      have hlw : w.heap.size < wr.heap.size := by omega
      have hfr := fright_any ts b1 cp cs wr hcs (by omega) (by omega) HOK.out
      have hm : ∀ e w', Made ts cs e w' = if 6 < cs.length then e = .returned (.tuple #[ev [] none 0 0, .int .i64 2]) else if fRight ts cs = true then ∃ b0 cp, e = .returned (.tuple #[ev ts b0 cs.length cp, .int .i64 0]) ∧ Conds w' b0 cs else e = .returned (.tuple #[ev [] none 0 0, .int .i64 1]) := fun e w' => rfl
      generalize fRight ts cs = FR at *
      have HCS := Lib.hid hcs; have HBC := Lib.hid hbc; have HFR := Lib.hid hfr; have HM := Lib.hid hm
      clear hcs hbc hfr hm own OWN HNK HR HOK HONE HPI HT1 HT2 HCU HST
      by_cases h6 : 6 < cs.length
      · have d1 : (6 : Int) < (cs.length : Int) := by omega
        go_wp2_with fail
        obtain ⟨c0, c1, hbz⟩ := set2_at wr w.heap.size (.string ⟨#[]⟩) (.slice none 0 0) hq0 hq1
        generalize World.setCell (World.setCell _ _ _) _ _ = Wz at *
        refine bodyPost_ret (v := .tuple #[ev [] none 0 0, .int .i64 2]) (by simp [results, Tryz.results18, go_sem, c0, c1]; try rfl) rfl ?_
        refine ⟨?_, HBW.out.trans hbz⟩
        rw [HM.out, if_pos h6]
      · have d1 : ¬ (6 : Int) < (cs.length : Int) := by omega
        cases FR
        · go_wp2_with (first | (go_at_call 21; (with_reducible refine HFR.out.mono ?_); rintro e w7 ⟨rfl, hb7⟩; have q0 := (hb7.cell (p := ⟨w.heap.size, 0, none⟩) hlw).trans hq0; have q1 := (hb7.cell (p := ⟨w.heap.size, 1, none⟩) hlw).trans hq1; have qz := fun o => (hb7.frozen (p := ⟨w.heap.size, o, none⟩) hlw).trans (hqz o)) | fail)
          obtain ⟨c0, c1, hbz⟩ := set2_at w7 w.heap.size (.string ⟨#[]⟩) (.slice none 0 0) q0 q1
          generalize World.setCell (World.setCell _ _ _) _ _ = Wz at *
          refine bodyPost_ret (v := .tuple #[ev [] none 0 0, .int .i64 1]) (by simp [results, Tryz.results18, go_sem, c0, c1]; try rfl) rfl ?_
          refine ⟨?_, (btrans HBW.out hb7).trans hbz⟩
          rw [HM.out, if_neg h6]
          simp
        · go_wp2_with (first | (go_at_call 21; (with_reducible refine HFR.out.mono ?_); rintro e w7 ⟨rfl, hb7⟩; have q0 := (hb7.cell (p := ⟨w.heap.size, 0, none⟩) hlw).trans hq0; have q1 := (hb7.cell (p := ⟨w.heap.size, 1, none⟩) hlw).trans hq1; have qz := fun o => (hb7.frozen (p := ⟨w.heap.size, o, none⟩) hlw).trans (hqz o); have x0 := (hb7.cell (p := ⟨w.heap.size + 1, 0, none⟩) hpfr).trans o0; have x1 := (hb7.cell (p := ⟨w.heap.size + 1, 1, none⟩) hpfr).trans o1) | fail)
          obtain ⟨c0, c1, hbz⟩ := set2_at w7 w.heap.size (.string ⟨ts.toArray⟩) (.slice b1 cs.length cp) q0 q1
          have hc9 : Conds ((w7.setCell ⟨w.heap.size, 0, none⟩ (.string ⟨ts.toArray⟩)).setCell ⟨w.heap.size, 1, none⟩ (.slice b1 cs.length cp)) b1 cs := conds_kp (HCS.out.below hb7) (fun a e p hp _ => (World.cell?_setCell_other _ _ _ _ (by intro e2; have := HBC.out a e; rw [← e2] at hp; have hp' : w.heap.size = a.block := hp; omega)).trans (World.cell?_setCell_other _ _ _ _ (by intro e2; have := HBC.out a e; rw [← e2] at hp; have hp' : w.heap.size = a.block := hp; omega)))
          generalize World.setCell (World.setCell _ _ _) _ _ = Wz at *
          refine bodyPost_ret (v := .tuple #[ev ts b1 cs.length cp, .int .i64 0]) (by simp [results, Tryz.results18, go_sem, c0, c1]; try rfl) rfl ?_
          refine ⟨?_, (btrans HBW.out hb7).trans hbz⟩
          rw [HM.out, if_neg h6]
          simp only [if_true]
          exact ⟨b1, cp, rfl, hc9⟩
end Go.Proofs.YtnccpddjdgndcaaGreatDoor.Pa
end

section
/- THE WALK OF value.Print: what a value's text is. -/
namespace Go.Proofs.YtnccpddjdgndcaaGreatDoor.Val
open Go.RowKit Flt
def yesT : List UInt8 := [121, 101, 115]
def noT : List UInt8 := [110, 111]
/-- a value's text -/
def vT (v : V) : List UInt8 :=
  if v.kind == 0 then Lib.itoa v.int else if v.kind == 1 then Fmt.fltT (Ord.canon v.num) else if v.kind == 2 then Quo.quoteT Lib.goPrintTabs v.text else if v.yes then yesT else noT
theorem canon_lt (x : Nat) (h : x < 18446744073709551616) : Ord.canon x < 18446744073709551616 := by
  unfold Ord.canon Ord.nan0
  split
  · decide
  · split
    · decide
    · exact h
theorem flt_ascii (b : Nat) : ∀ c ∈ Fmt.ftoaT b, c.toNat < 128 := by
  intro c hc
  have hx : Fmt.bexp b < 2048 := Nat.mod_lt _ (by decide)
  unfold Fmt.ftoaT at hc
  split at hc
  · split at hc
    · simp only [List.mem_cons, List.not_mem_nil, or_false] at hc
      rcases hc with rfl | rfl | rfl <;> decide
    · split at hc
      · simp only [List.mem_cons, List.not_mem_nil, or_false] at hc
        rcases hc with rfl | rfl | rfl | rfl <;> decide
      · simp only [List.mem_cons, List.not_mem_nil, or_false] at hc
        rcases hc with rfl | rfl | rfl | rfl <;> decide
  · have hs : ∀ c ∈ Fmt.sgn (Fmt.bneg b), c.toNat < 128 := by
      intro c hc
      unfold Fmt.sgn at hc
      split at hc
      · rw [List.mem_singleton] at hc; subst hc; decide
      · cases hc
    rename_i h1
    split at hc
    · rcases List.mem_append.1 hc with hc | hc
      · exact hs c hc
      · rw [List.mem_singleton] at hc; subst hc; decide
    · rename_i h2
      rcases List.mem_append.1 hc with hc | hc
      · exact hs c hc
      · rcases (Fmt.Num.mk (by omega) (by omega) : Fmt.Num b).isN c hc with h | h | h | h | h
        · unfold Fmt.IsD at h; omega
        all_goals (subst h; decide)
theorem flt_len (b : Nat) : (Fmt.ftoaT b).length ≤ 1000 := by
  have hx : Fmt.bexp b < 2048 := Nat.mod_lt _ (by decide)
  unfold Fmt.ftoaT
  split
  · split
    · decide
    · split <;> decide
  · have hs : (Fmt.sgn (Fmt.bneg b)).length ≤ 1 := by unfold Fmt.sgn; split <;> decide
    rename_i h1
    split
    · rw [List.length_append, List.length_singleton]; omega
    · rename_i h2
      have hn := (Fmt.Num.mk (by omega) (by omega) : Fmt.Num b)
      obtain ⟨f1, f2, f3, f4⟩ := hn.facts
      obtain ⟨g1, g2, g3, g4⟩ := hn.nd
      rw [List.length_append]
      have : (Fmt.numT b).length ≤ 900 := by
        unfold Fmt.numT
        generalize Fmt.digs _ = D at *
        generalize (Lib.nDigits (Fmt.short (Fmt.fm b) (Fmt.fE b)).1 : Nat) = n at *
        generalize (Fmt.short (Fmt.fm b) (Fmt.fE b)).2 = p at *
        unfold Fmt.gText
        split
        · unfold Fmt.eText Fmt.exps
          simp only [List.length_append, List.length_cons, List.length_nil]
          split <;> split <;> split <;> simp <;> omega
        · unfold Fmt.fText
          rw [List.length_append]
          split <;> split <;> simp <;> omega
      omega
theorem badd (s t : List UInt8) : (⟨s.toArray⟩ : ByteArray) ++ ⟨t.toArray⟩ = ⟨(s ++ t).toArray⟩ := by
  apply ByteArray.ext
  simp
theorem quote_at (t : List UInt8) (W : World) (hl : t.length ≤ 1000000) (hW : Tab.Tabs W) :
    Calls Tryz.prog 37 #[.string ⟨t.toArray⟩] W fun e w' => e = .returned (.string ⟨(Quo.quoteT Lib.goPrintTabs t).toArray⟩) ∧ Below W.heap.size W w' := by
  have h : (⟨t.toArray⟩ : ByteArray).size = t.length := by simp [ByteArray.size]
  exact Tryz.strconv_Quote Lib.goPrintTabs ⟨t.toArray⟩ W (by rw [h]; omega) hW.prt hW.utf
theorem itoa_at (n : Int) (W : World) (h0 : -9223372036854775808 ≤ n) (h1 : n ≤ 9223372036854775807) (hW : Fmt.P10 W) :
    Calls Tryz.prog 35 #[.int .i64 n, .int .i64 10] W fun e w' => e = .returned (.string ⟨(Lib.itoa n).toArray⟩) ∧ Below W.heap.size W w' := by
  refine (Tryz.strconv_FormatInt_10 n h0 h1 W hW).mono ?_
  rintro e w' ⟨rfl, k, os, rfl⟩
  exact ⟨rfl, Go.Lib.below_grow _ _ (Nat.le_refl _) _ _⟩
theorem any_at (t : List UInt8) (W : World) (ha : ∀ c ∈ t, c.toNat < 128) (hl : t.length ≤ 1000) :
    Calls Tryz.prog 30 #[.string ⟨t.toArray⟩, .string ⟨#[46, 101, 73, 78]⟩] W fun e w' => e = .returned (.bool (Fmt.marked t)) ∧ Below W.heap.size W w' := by
  have h : (⟨t.toArray⟩ : ByteArray).size = t.length := by simp [ByteArray.size]
  refine Tryz.strings_ContainsAny_laid ⟨t.toArray⟩ ⟨#[46, 101, 73, 78]⟩ W (by rw [h]; omega) (by decide) (fun j b hb => ha b ?_) (fun j b hb => ?_)
  · exact List.mem_of_getElem? hb
  · have : b ∈ [46, 101, 73, 78] := List.mem_of_getElem? hb
    simp only [List.mem_cons, List.not_mem_nil, or_false] at this
    rcases this with rfl | rfl | rfl | rfl <;> decide
set_option maxRecDepth 20000 in
set_option maxHeartbeats 1000000 in
theorem vprint_any (k n : Int) (x : Nat) (t : List UInt8) (y : Bool) (w : World) (hx : x < 18446744073709551616) (h0 : -9223372036854775808 ≤ n) (h1 : n ≤ 9223372036854775807) (hl : t.length ≤ 1000000) (hT : Tab.Tabs w) :
    Calls Tryz.prog 13 #[val k n x t y] w fun e w' => e = .returned (.string ⟨(vT ⟨k, n, x, t, y⟩).toArray⟩) ∧ Below w.heap.size w w' := by
  have hr : vT ⟨k, n, x, t, y⟩ = (if k == 0 then Lib.itoa n else if k == 1 then Fmt.fltT (Ord.canon x) else if k == 2 then Quo.quoteT Lib.goPrintTabs t else if y then yesT else noT) := rfl
  have HT := Lib.hid hT; clear hT
  cases q0 : (k == 0)
  · cases q1 : (k == 1)
    · cases q2 : (k == 2)
      · rw [q0, q1, q2] at hr
        cases y
        all_goals
          rw [hr]; clear hr
          go_enter Tryz.func13, Tryz.ntmps13
          go_wp2
          go_ret
          exact ⟨rfl, balloc _ _⟩
      · rw [q0, q1, q2] at hr
        have HR := Lib.hid hr; clear hr
        have hq := fun W hW => quote_at t W hl hW
        have HQ := Lib.hid hq; clear hq
        go_enter Tryz.func13, Tryz.ntmps13
        go_wp2_with (first | (go_at_call 37; refine (HQ.out _ (HT.out.below (by first | exact balloc _ _ | exact (balloc _ _).drew) (Nat.le_refl _))).mono ?_; rintro e w1 ⟨rfl, hb1⟩; have HB := Lib.hid hb1; clear hb1) | fail)
        go_ret
        exact ⟨by rw [HR.out]; rfl, btrans (by first | exact balloc _ _ | exact (balloc _ _).drew) HB.out⟩
    · rw [q0, q1] at hr
      have hf := fun W hW => Fmt.format_any (Ord.canon x) W (canon_lt x hx) (Tab.Tabs.pow hW) (Tab.Tabs.p10 hW)
      have hm := fun W => any_at (Fmt.ftoaT (Ord.canon x)) W (flt_ascii _) (flt_len _)
      have ht : Fmt.fltT (Ord.canon x) = if Fmt.marked (Fmt.ftoaT (Ord.canon x)) then Fmt.ftoaT (Ord.canon x) else Fmt.ftoaT (Ord.canon x) ++ [46, 48] := rfl
      have hlen := flt_len (Ord.canon x)
      rw [ht] at hr
      clear ht
      generalize Fmt.ftoaT (Ord.canon x) = s at *
      cases hmk : Fmt.marked s
      all_goals
        rw [hmk] at hr hm
        clear hmk
        have HR := Lib.hid hr; clear hr
        have HF := Lib.hid hf; have HM := Lib.hid hm; clear hf hm
        go_enter Tryz.func13, Tryz.ntmps13
        go_wp2_with (first | (go_at_call 32; refine (Ord.canon_any _ _).mono ?_; rintro e w' ⟨rfl, rfl⟩) | (go_at_call 36; refine (HF.out _ (HT.out.below (by first | exact balloc _ _ | exact (balloc _ _).drew) (Nat.le_refl _))).mono ?_; rintro e w1 ⟨rfl, hb1⟩; have HB := Lib.hid hb1; clear hb1) | (go_at_call 30; refine (HM.out _).mono ?_; rintro e w2 ⟨rfl, hb2⟩; have HC := Lib.hid hb2; clear hb2) | fail)
        go_ret
        exact ⟨by rw [HR.out]; first | rfl | exact congrArg (fun z => Ending.returned (Value.string z)) (badd s [46, 48]), btrans (btrans (by first | exact balloc _ _ | exact (balloc _ _).drew) HB.out) HC.out⟩
  · rw [q0] at hr
    have HR := Lib.hid hr; clear hr
    have hf := fun W hW => itoa_at n W h0 h1 (Tab.Tabs.p10 hW)
    have HF := Lib.hid hf; clear hf
    go_enter Tryz.func13, Tryz.ntmps13
    go_wp2_with (first | (go_at_call 35; refine (HF.out _ (HT.out.below (by first | exact balloc _ _ | exact (balloc _ _).drew) (Nat.le_refl _))).mono ?_; rintro e w1 ⟨rfl, hb1⟩; have HB := Lib.hid hb1; clear hb1) | fail)
    go_ret
    exact ⟨by rw [HR.out]; rfl, btrans (by first | exact balloc _ _ | exact (balloc _ _).drew) HB.out⟩
end Go.Proofs.YtnccpddjdgndcaaGreatDoor.Val
end

section
/- utf8.ValidString's contract, laid by the kit's tool at this seat's dump, its remarks struck. -/
namespace Go.Proofs
open Go.Shelf
def Tryz.lays196_ren : Go.Shelf.Ren := ⟨fun | 196 => 72 | 259 => 102 | n => n, fun | 9 => 9 | 4 => 4 | 3 => 3 | 5 => 5 | 12 => 12 | 119 => 127 | 0 => 0 | 46 => 113 | 139 => 130 | 138 => 129 | 53 => 80 | n => n, fun | 3 => 3 | 4 => 4 | n => n⟩
theorem Tryz.lays196 : Go.Proofs.Lays.n196 Tryz.prog Tryz.lays196_ren := {
  mixed := by kernel_rfl
  f196 := Tryz.func72.trans (congrArg some (by kernel_rfl))
  f259 := Tryz.func102.trans (congrArg some (by kernel_rfl))
  t0 := Tryz.underlying0
  a0 := Tryz.isAgg0
  z0 := Tryz.sizeOf0
  v0 := Tryz.zeroValue0
  t3 := Tryz.underlying3
  a3 := Tryz.isAgg3
  z3 := Tryz.sizeOf3
  v3 := Tryz.zeroValue3
  t4 := Tryz.underlying4
  a4 := Tryz.isAgg4
  z4 := Tryz.sizeOf4
  v4 := Tryz.zeroValue4
  t5 := Tryz.underlying5
  a5 := Tryz.isAgg5
  z5 := Tryz.sizeOf5
  v5 := Tryz.zeroValue5
  t9 := Tryz.underlying9
  a9 := Tryz.isAgg9
  z9 := Tryz.sizeOf9
  v9 := Tryz.zeroValue9
  t12 := Tryz.underlying12
  a12 := Tryz.isAgg12
  z12 := Tryz.sizeOf12
  v12 := Tryz.zeroValue12
  t46 := Tryz.underlying113
  a46 := Tryz.isAgg113
  z46 := Tryz.sizeOf113
  v46 := Tryz.zeroValue113
  t53 := Tryz.underlying80
  a53 := Tryz.isAgg80
  z53 := Tryz.sizeOf80
  v53 := Tryz.zeroValue80
  t119 := Tryz.underlying127
  a119 := Tryz.isAgg127
  z119 := Tryz.sizeOf127
  t138 := Tryz.underlying129
  a138 := Tryz.isAgg129
  z138 := Tryz.sizeOf129
  v138 := Tryz.zeroValue129
  t139 := Tryz.underlying130
  a139 := Tryz.isAgg130
  z139 := Tryz.sizeOf130
  v139 := Tryz.zeroValue130
  g3 := by kernel_rfl
  g4 := by kernel_rfl }
end Go.Proofs
end

section
/- THE WALK OF strconv.Unquote AT A TEXT BETWEEN QUOTES that needs no escapes. -/
namespace Go.Proofs.YtnccpddjdgndcaaGreatDoor.Unq
open Go.RowKit Go.Lib
theorem ibs_call (s : ByteArray) (c : Int) (w : World) : (callFunc 101 #[.string s, .int .u8 c]).run Tryz.prog w = .ok (.value (.int .i64 (Lib.indexByte s.data.toList c.toNat.toUInt8))) w := by
  rw [run_callFunc_extern Tryz.func101 (by kernel_rfl) (by kernel_rfl) (by kernel_rfl) (e := Extern.BytealgIndexByte.indexByte) (by kernel_rfl), Lib.run_indexByteString]
  rfl
set_option maxHeartbeats 400000 in
theorem index_any (s : ByteArray) (c : Int) (w : World) : Calls Tryz.prog 70 #[.string s, .int .u8 c] w fun e w' => e = .returned (.int .i64 (Lib.indexByte s.data.toList c.toNat.toUInt8)) ∧ w = w' := by
  go_enter Tryz.func70, Tryz.ntmps70
  go_wp2_with (first | (simp only [ibs_call]) | fail)
  go_ret
  exact ⟨rfl, rfl⟩
theorem contains_of (s : ByteArray) (c : Int) (b : Bool) (hb : (Lib.indexByte s.data.toList c.toNat.toUInt8 != -1) = b) (w : World) : Calls Tryz.prog 71 #[.string s, .int .u8 c] w fun e w' => e = .returned (.bool b) ∧ w = w' := by
  go_enter Tryz.func71, Tryz.ntmps71
  go_wp2_with (go_at_call 70; refine (index_any _ _ _).mono ?_; rintro e w' ⟨rfl, rfl⟩)
  go_ret
  exact ⟨rfl, rfl⟩
theorem ix_none : ∀ (l : List UInt8) (c : UInt8), c ∉ l → Lib.indexByte l c = -1
  | [], _, _ => rfl
  | a :: l, c, h => by
    have h1 : (a == c) = false := by rw [beq_eq_false_iff_ne]; exact fun e => h (by simp [e])
    unfold Lib.indexByte
    rw [h1, ix_none l c (fun m => h (by simp [m]))]; rfl
theorem ix_end : ∀ (l : List UInt8) (c : UInt8), c ∉ l → Lib.indexByte (l ++ [c]) c = (l.length : Int)
  | [], c, _ => by simp [Lib.indexByte]
  | a :: l, c, h => by
    have h1 : (a == c) = false := by rw [beq_eq_false_iff_ne]; exact fun e => h (by simp [e])
    have h2 : ((l.length : Int) == -1) = false := by rw [beq_eq_false_iff_ne]; omega
    rw [List.cons_append]
    unfold Lib.indexByte
    rw [h1, ix_end l c (fun m => h (by simp [m])), h2]; simp
theorem ext_list2 (l : List UInt8) (a b : Nat) : (⟨l.toArray⟩ : ByteArray).extract a b = ⟨((l.drop a).take (b - a)).toArray⟩ := by
  have h := Lib.extract_data (⟨l.toArray⟩ : ByteArray) a b
  apply ByteArray.ext
  rw [← Array.toArray_toList (xs := ((⟨l.toArray⟩ : ByteArray).extract a b).data), h]
set_option maxRecDepth 100000 in
set_option maxHeartbeats 4000000 in
/-- the quick road -/
theorem unquote_of (s t bd : ByteArray) (n : Nat) (w : World) (hn : n ≤ 1000000) (hz : s.size = n + 2) (h0 : (s[0]'(by omega)).toNat = 34)
    (e1 : s.extract 1 (n + 2) = t) (e2 : s.extract 0 (n + 2) = s) (e3 : s.extract 1 (n + 1) = bd)
    (hi : Lib.indexByte t.data.toList 34 = (n : Int)) (hb : Lib.indexByte s.data.toList 92 = -1) (hl : Lib.indexByte s.data.toList 10 = -1) (hv : Lib.validD bd.data.toList = true) (hbs : bd.size ≤ 1000000) (hT : Tab.Tabs w) :
    Calls Tryz.prog 46 #[.string s, .bool true] w fun e w' => e = .returned (.tuple #[.string bd, .string ⟨#[]⟩, .nilIface]) ∧ Below w.heap.size w w' := by
  have hu := fun W (hW : Lib.Utf8Tabs 3 4 W) => (Go.Proofs.Any.utf8_ValidString Tryz.lays196 bd W (by omega) hW)
  rw [hv] at hu
  have hc1 := fun W => contains_of s 92 false (by rw [show ((92 : Int).toNat.toUInt8) = 92 from rfl, hb]; rfl) W
  have hc2 := fun W => contains_of s 10 false (by rw [show ((10 : Int).toNat.toUInt8) = 10 from rfl, hl]; rfl) W
  have hix := fun W => index_any t 34 W
  rw [show ((34 : Int).toNat.toUInt8) = 34 from rfl, hi] at hix
  have HU := Lib.hid hu; have HC1 := Lib.hid hc1; have HC2 := Lib.hid hc2; have HI := Lib.hid hix; have HT := Lib.hid hT
  clear hu hc1 hc2 hix hT hi hb hl hv
  go_enter Tryz.func46, Tryz.ntmps46
  go_wp2_with (first
    | (go_at_call 70; refine (HI.out _).mono ?_; rintro e w' ⟨rfl, rfl⟩)
    | (go_at_call 71; ((with_reducible refine (HC1.out _).mono ?_); rintro e w' ⟨rfl, rfl⟩))
    | (go_at_call 71; ((with_reducible refine (HC2.out _).mono ?_); rintro e w' ⟨rfl, rfl⟩))
    | (go_at_call 72; refine (HU.out _ HT.out.utf).mono ?_; rintro e w1 ⟨rfl, hb1⟩) | fail)
  go_quiet (fail)
  go_wp2
  go_ret3
  refine ⟨?_, Val.bdrewN hb1 nq⟩
  simp
  exact ⟨e3, rfl⟩
set_option maxHeartbeats 1000000 in
theorem unq_any (body : List UInt8) (w : World) (h34 : 34 ∉ body) (h92 : 92 ∉ body) (h10 : 10 ∉ body) (hv : Lib.validD body = true) (hl : body.length ≤ 100000) (hT : Tab.Tabs w) :
    Calls Tryz.prog 29 #[.string ⟨(34 :: (body ++ [34])).toArray⟩] w fun e w' => e = .returned (.tuple #[.string ⟨body.toArray⟩, .nilIface]) ∧ Below w.heap.size w w' := by
  have hz : (⟨(34 :: (body ++ [34])).toArray⟩ : ByteArray).size = body.length + 2 := by show (34 :: (body ++ [34])).toArray.size = _; simp
  have hu := unquote_of ⟨(34 :: (body ++ [34])).toArray⟩ ⟨(body ++ [34]).toArray⟩ ⟨body.toArray⟩ body.length w (by omega) hz rfl
    (by rw [ext_list2, List.take_of_length_le (by simp)]; rfl) (by rw [ext_list2, List.take_of_length_le (by simp)]; rfl)
    (by rw [ext_list2, List.drop_succ_cons, List.drop_zero, show body.length + 1 - 1 = body.length by omega, List.take_left' rfl])
    (ix_end body 34 h34) (ix_none _ 92 (by simp [h92])) (ix_none _ 10 (by simp [h10])) hv (by show body.toArray.size ≤ _; simp; omega) hT
  have HU := Lib.hid hu
  clear hu hz h34 h92 h10 hv hT
  go_enter Tryz.func29, Tryz.ntmps29
  go_wp2_with (go_at_call 46; refine HU.out.mono ?_; rintro e w1 ⟨rfl, hb1⟩)
  go_ret2
  exact ⟨rfl, hb1⟩
end Go.Proofs.YtnccpddjdgndcaaGreatDoor.Unq
end

section
/- THE WALK OF the fit of chapter 02's laws: it reads "3.0" and prints "a". -/
namespace Go.Proofs.YtnccpddjdgndcaaGreatDoor.Val
open Go.RowKit Flt
attribute [local go_sem] run_store_flt
/-- two boxes laid one behind the other, seen from a later world -/
theorem two_box {w w1 : World} {A B : Array Value} {T U : TypeId} (hb : Below ((w.alloc (.cells A T)).alloc (.cells B U)).heap.size ((w.alloc (.cells A T)).alloc (.cells B U)) w1) :
    (∀ o, w1.cell? ⟨w.heap.size, o, none⟩ = A[o]?) ∧ (∀ o, w1.cell? ⟨w.heap.size + 1, o, none⟩ = B[o]?) ∧ (∀ o, w1.frozen? ⟨w.heap.size, o, none⟩ = false) ∧ (∀ o, w1.frozen? ⟨w.heap.size + 1, o, none⟩ = false) ∧
      w.heap.size + 1 < w1.heap.size ∧ Below w.heap.size w w1 := by
  have hz := size2 hb
  have c : ∀ b o, b < w.heap.size + 2 → w1.cell? ⟨b, o, none⟩ = ((w.alloc (.cells A T)).alloc (.cells B U)).cell? ⟨b, o, none⟩ := fun b o h => hb.cell (p := ⟨b, o, none⟩) (by simp; omega)
  have f : ∀ b o, b < w.heap.size + 2 → w1.frozen? ⟨b, o, none⟩ = ((w.alloc (.cells A T)).alloc (.cells B U)).frozen? ⟨b, o, none⟩ := fun b o h => hb.frozen (p := ⟨b, o, none⟩) (by simp; omega)
  exact ⟨fun o => (c _ o (by omega)).trans (by simp), fun o => (c _ o (by omega)).trans (by simp), fun o => (f _ o (by omega)).trans (by simp), fun o => (f _ o (by omega)).trans (by simp), hz, btrans (balloc2 _ _ _) hb⟩
/-- the second one is written -/
theorem two_set {w w1 : World} {A B : Array Value} {T U : TypeId} (hb : Below ((w.alloc (.cells A T)).alloc (.cells B U)).heap.size ((w.alloc (.cells A T)).alloc (.cells B U)) w1) (hB : B.size = 5) (v0 v1 v2 v3 v4 : Value) :
    ∃ W2, W2 = (((((w1.setCell ⟨w.heap.size + 1, 0, none⟩ v0).setCell ⟨w.heap.size + 1, 1, none⟩ v1).setCell ⟨w.heap.size + 1, 2, none⟩ v2).setCell ⟨w.heap.size + 1, 3, none⟩ v3).setCell ⟨w.heap.size + 1, 4, none⟩ v4) ∧
      (∀ o, W2.cell? ⟨w.heap.size, o, none⟩ = A[o]?) ∧ (W2.cell? ⟨w.heap.size + 1, 0, none⟩ = some v0 ∧ W2.cell? ⟨w.heap.size + 1, 1, none⟩ = some v1 ∧ W2.cell? ⟨w.heap.size + 1, 2, none⟩ = some v2 ∧ W2.cell? ⟨w.heap.size + 1, 3, none⟩ = some v3 ∧ W2.cell? ⟨w.heap.size + 1, 4, none⟩ = some v4) ∧
      (∀ o, W2.frozen? ⟨w.heap.size, o, none⟩ = false) ∧ w.heap.size + 1 < W2.heap.size ∧ Below w.heap.size w W2 := by
  obtain ⟨c0, c1, f0, f1, hz, hl⟩ := two_box hb
  obtain ⟨e0, e1, e2, e3, e4, h2⟩ := set5_at w1 (w.heap.size + 1) v0 v1 v2 v3 v4 (fun j hj => by rw [c1, Array.getElem?_eq_getElem (by omega)]; rfl)
  exact ⟨_, rfl, fun o => (h2.cell (p := ⟨w.heap.size, o, none⟩) (Nat.lt_succ_self _)).trans (c0 o), ⟨e0, e1, e2, e3, e4⟩, fun o => (h2.frozen (p := ⟨w.heap.size, o, none⟩) (Nat.lt_succ_self _)).trans (f0 o), Nat.lt_of_lt_of_le hz h2.size, hl.trans (h2.mono (by omega))⟩
end Go.Proofs.YtnccpddjdgndcaaGreatDoor.Val
end

section
/- THE WALK OF value.Read AT A TEXT BETWEEN QUOTES that needs no escapes. -/
namespace Go.Proofs.YtnccpddjdgndcaaGreatDoor.Val
open Go.RowKit Flt
attribute [local go_sem] run_store_flt
/-- a text that stands between quotes as it is -/
structure Bare1 (body : List UInt8) : Prop where
  h34 : 34 ∉ body
  h92 : 92 ∉ body
  h10 : 10 ∉ body
  hv : Lib.validD body = true
  hq : Quo.quoteT Lib.goPrintTabs body = 34 :: (body ++ [34])
set_option maxRecDepth 20000 in
set_option maxHeartbeats 4000000 in
theorem read_yes (body : List UInt8) (w : World) (hb : Bare1 body) (hl : body.length ≤ 40) (hT : Tab.Tabs w) :
    Calls Tryz.prog 10 #[.string ⟨(34 :: (body ++ [34])).toArray⟩] w fun e w' => e = .returned (.tuple #[val 2 0 0 body false, .bool true]) ∧ Below w.heap.size w w' := by
  have hu := fun W hW => Unq.unq_any body W hb.h34 hb.h92 hb.h10 hb.hv (by omega) hW
  have hp := fun W hW => vprint_any 2 0 0 body false W (by decide) (by decide) (by decide) (by omega) hW
  have hvt : vT ⟨2, 0, 0, body, false⟩ = 34 :: (body ++ [34]) := hb.hq
  rw [hvt] at hp
  have hr := fun W => vright_any 2 0 0 body false W (by omega)
  have hrr : vRight ⟨2, 0, 0, body, false⟩ = true := by
    show (true && true && decide (body.length ≤ 40)) = _
    simp; omega
  rw [hrr] at hr
  have HU := Lib.hid hu; have HPR := Lib.hid hp; have HR := Lib.hid hr; have HT := Lib.hid hT
  clear hu hp hvt hr hrr hT hb
  go_enter Tryz.func10, Tryz.ntmps10
  go_wp2_with (first
    | (go_at_call 29; refine (HU.out _ (HT.out.below (by repeat (first | assumption | (with_reducible exact Below.refl _ _) | exact balloc _ _ | exact balloc2 _ _ _ | refine btrans ?_ (by assumption) | refine btrans ?_ (balloc _ _))) (Nat.le_refl _))).mono ?_; rintro e w1 ⟨rfl, hb1⟩; have HB1 := Lib.hid hb1; obtain ⟨c0, c1, f0, f1, hz1, hl1⟩ := two_box hb1; clear hb1) | fail)
  obtain ⟨W2, hW2, d0, ⟨e0, e1, e2, e3, e4⟩, g0, hz2, hl2⟩ := two_set HB1.out rfl (.int .i64 2) (.int .i64 0) (.float .f64 0) (.string ⟨body.toArray⟩) (.bool false)
  rw [← hW2]
  clear c0 c1 f0 f1 hz1 hl1 HB1 hW2
  have HB := Lib.hid hl2; clear hl2
  go_wp2_with (first
    | (go_at_call 12; refine (HR.out _).mono ?_; rintro e w3 ⟨rfl, hb3⟩; obtain ⟨hc3, hf3⟩ := bcell hb3; have hs3 := Nat.lt_of_lt_of_le hz2 hb3.size; have hs3' : w.heap.size < W2.heap.size := by omega)
    | (go_at_call 13; refine (HPR.out _ (HT.out.below (btrans HB.out hb3) (Nat.le_refl _))).mono ?_; rintro e w4 ⟨rfl, hb4⟩; obtain ⟨hc4, hf4⟩ := bcell hb4; have hs4' : w.heap.size < w3.heap.size := by omega) | fail)
  obtain ⟨r0, r1, r2, r3, r4, hb5⟩ := set5_at w4 w.heap.size (.int .i64 2) (.int .i64 0) (.float .f64 0) (.string ⟨body.toArray⟩) (.bool false) (fun j hj => by
    rw [hc4 _ _ (by omega), hc3 _ _ (by omega), d0, Array.getElem?_eq_getElem (by exact hj)]; rfl)
  generalize World.setCell _ _ _ = W5 at *
  refine bodyPost_ret (v := .tuple #[val 2 0 0 body false, .bool true]) (by simp [results, Tryz.results10, go_sem, r0, r1, r2, r3, r4]; try rfl) rfl ?_
  exact ⟨rfl, (btrans (btrans HB.out hb3) hb4).trans hb5⟩
end Go.Proofs.YtnccpddjdgndcaaGreatDoor.Val
end

section
/- PLAIN TEXTS between quotes: signs 32..126 without the quote and the back stroke stand as they are. -/
namespace Go.Proofs.YtnccpddjdgndcaaGreatDoor.Val
open Go.RowKit Flt
/-- a plain sign -/
def Pl (b : UInt8) : Prop := 32 ≤ b.toNat ∧ b.toNat < 127 ∧ b.toNat ≠ 34 ∧ b.toNat ≠ 92
theorem code_pl_all : ((List.range 127).all fun n => decide (n < 32) || decide (n = 34) || decide (n = 92) || (Quo.code Lib.goPrintTabs (n : Int) == [(n : Int)])) = true := by decide +kernel
theorem code_pl (n : Nat) (h0 : 32 ≤ n) (h1 : n < 127) (h2 : n ≠ 34) (h3 : n ≠ 92) : Quo.code Lib.goPrintTabs (n : Int) = [(n : Int)] := by
  have h := List.all_eq_true.1 code_pl_all n (List.mem_range.2 h1)
  rw [show decide (n < 32) = false by rw [decide_eq_false_iff_not]; omega, decide_eq_false h2, decide_eq_false h3] at h
  exact beq_iff_eq.1 (by simpa using h)
theorem qf_pl : ∀ (l : List UInt8) (f : Nat), (∀ b ∈ l, Pl b) → l.length ≤ f → Quo.qf Lib.goPrintTabs f l = l.map fun b => (b.toNat : Int)
  | [], f, _, _ => Quo.qf_nil _ f
  | b :: t, 0, _, h => by simp at h
  | b :: t, f + 1, hp, h => by
    obtain ⟨p0, p1, p2, p3⟩ := hp b (List.mem_cons_self ..)
    have hd : Lib.decodeL (b :: t) = (b.toNat, 1) := Lib.decodeL_ascii b t (by omega)
    have hs : Quo.symOf (b :: t) = (b.toNat : Int) := by
      unfold Quo.symOf
      rw [hd]
      rw [if_neg (fun hh => by have := hh.2; dsimp only at this; omega)]
    unfold Quo.qf
    rw [if_neg (by simp), hs, code_pl b.toNat p0 p1 p2 p3, hd]
    show [(b.toNat : Int)] ++ Quo.qf Lib.goPrintTabs f t = _
    rw [qf_pl t f (fun c hc => hp c (List.mem_cons_of_mem _ hc)) (by simpa using h)]
    rfl
theorem quoteT_pl (l : List UInt8) (hp : ∀ b ∈ l, Pl b) : Quo.quoteT Lib.goPrintTabs l = 34 :: (l ++ [34]) := by
  unfold Quo.quoteT
  rw [Quo.quoteZ_qf, qf_pl l l.length hp (Nat.le_refl _)]
  have hb : ∀ b : UInt8, UInt8.ofNat (Int.toNat (b.toNat : Int)) = b := fun b => by
    rw [Int.toNat_natCast]; exact UInt8.ofNat_toNat
  simp only [List.map_cons, List.map_append, List.map_nil, List.map_map]
  congr 2
  conv => rhs; rw [← List.map_id l]
  exact List.map_congr_left fun b _ => hb b
theorem valid_pl : ∀ (l : List UInt8), (∀ b ∈ l, Pl b) → Lib.validD l = true
  | [], _ => rfl
  | b :: t, hp => by
    have p1 := (hp b (List.mem_cons_self ..)).2.1
    rw [Lib.validD_cons b t (by omega)]
    exact valid_pl t fun c hc => hp c (List.mem_cons_of_mem _ hc)
theorem bare_pl (l : List UInt8) (hp : ∀ b ∈ l, Pl b) : Bare1 l :=
  ⟨fun e => (hp _ e).2.2.1 rfl, fun e => (hp _ e).2.2.2 rfl, fun e => absurd (hp _ e).1 (by decide), valid_pl l hp, quoteT_pl l hp⟩
end Go.Proofs.YtnccpddjdgndcaaGreatDoor.Val
end

section
/- THE WALK OF parse.one: a condition of a text, at the two forms that the laws of chapter 8 need. -/
namespace Go.Proofs.YtnccpddjdgndcaaGreatDoor.Pa
open Go.RowKit Flt Go.Proofs.YtnccpddjdgndcaaGreatDoor.Val
attribute [local go_sem] run_store_flt
theorem no_space {l : List UInt8} (h : 32 ∉ l) (w : World) : Calls Tryz.prog 64 #[.string ⟨l.toArray⟩, .string ⟨#[32]⟩] w fun e w' => e = .returned (.bool false) ∧ w' = w := by
  refine (Tryz.strings_Contains_one ⟨l.toArray⟩ 32 w).mono ?_
  rintro e w' ⟨rfl, rfl⟩
  refine ⟨?_, rfl⟩
  rcases byte_cases 32 l with ⟨h1, _⟩ | ⟨a, b, e, _, _⟩
  · show Ending.returned (.bool (decide (0 ≤ Lib.indexByte l 32))) = _
    rw [h1]; rfl
  · exact absurd (by rw [e]; simp) h
set_option maxRecDepth 20000 in
set_option maxHeartbeats 2000000 in
theorem one_has (s nm : List UInt8) (w : World) (hs : s.length ≤ 100000) (h : trimP s = [104, 97, 115] ++ 32 :: nm) (hn : trimP nm = nm) (h0 : nm ≠ []) (h32 : 32 ∉ nm) (hl : nm.length ≤ 100000) :
    Calls Tryz.prog 42 #[.string ⟨s.toArray⟩] w fun e w' => e = .returned (.tuple #[cond nm 7 0 0 0 [] false, .bool true]) ∧ Below w.heap.size w w' := by
  have ht1 := fun W => ptrim_any s W (by unfold maxLen; omega)
  rw [h] at ht1
  have ht2 := fun W => ptrim_any nm W (by unfold maxLen; omega)
  rw [hn] at ht2
  have hc := fun W => pcut_some 32 [104, 97, 115] nm W (by decide) (by unfold maxLen; simp; omega)
  have hsp := fun W => no_space h32 W
  have e0 : (nm == []) = false := by simpa using h0
  have e1 : (nm != []) = true := by simpa using h0
  have HT1 := Lib.hid ht1; have HT2 := Lib.hid ht2; have HC := Lib.hid hc; have HSP := Lib.hid hsp
  clear ht1 ht2 hc hsp h hn h32
  go_enter Tryz.func42, Tryz.ntmps42
  go_wp2_with (first | (go_at_call 40; (with_reducible refine (HT1.out _).mono ?_); rintro e w1 ⟨rfl, n1, rfl⟩) | (go_at_call 40; (with_reducible refine (HT2.out _).mono ?_); rintro e w1 ⟨rfl, n2, rfl⟩) | (go_at_call 39; refine (HC.out _).mono ?_; rintro e w1 ⟨rfl, n3, rfl⟩) | (go_at_call 64; refine (HSP.out _).mono ?_; rintro e w1 ⟨rfl, rfl⟩) | fail)
  obtain ⟨c0, c1, c2, c3, c4, c5, c6, hbz⟩ := set7_at (((w.alloc (.cells #[.string ⟨#[]⟩, .int .i64 0, .int .i64 0, .int .i64 0, .float .f64 0, .string ⟨#[]⟩, .bool false] 41)).drewN (n1 + n3 + n2))) w.heap.size (.string ⟨nm.toArray⟩) (.int .i64 7) (.int .i64 0) (.int .i64 0) (.float .f64 0) (.string ⟨#[]⟩) (.bool false) (fun j hj => by simp; omega)
  generalize World.setCell _ _ _ = W2 at *
  refine bodyPost_ret (v := .tuple #[cond nm 7 0 0 0 [] false, .bool true]) (by simp [results, Tryz.results42, go_sem, c0, c1, c2, c3, c4, c5, c6]; try rfl) rfl ?_
  exact ⟨rfl, (bdrewN (balloc _ _) _).trans hbz⟩
theorem word_no32 : ∀ n : Nat, n ≤ 7 → 32 ∉ wordL n := by decide
theorem word_apart : ∀ n : Nat, n ≤ 6 → ∀ m : Nat, m ≤ 6 → n ≠ m → (wordL n == wordL m) = false := by decide
theorem word_b (n : Nat) (h : n ≤ 7) : wordB (n : Int) = wordL n := by
  unfold wordB
  rw [if_neg (by omega)]
  rfl
set_option maxRecDepth 20000 in
set_option maxHeartbeats 2000000 in
theorem one_cmp (s nm r1 r2 body : List UInt8) (op : Nat) (w : World) (hw : Words w) (hT : Tab.Tabs w) (hs : s.length ≤ 100000) (h1 : trimP s = nm ++ 32 :: r1) (h32 : 32 ∉ nm) (hnh : nm ≠ [104, 97, 115]) (h2 : trimP r1 = wordL op ++ 32 :: r2) (hop : op ≤ 6) (h3 : trimP r2 = 34 :: (body ++ [34])) (hb : Bare1 body) (hbl : body.length ≤ 40)
    (l1 : nm.length + r1.length ≤ 100000) (l2 : r2.length ≤ 100000) :
    Calls Tryz.prog 42 #[.string ⟨s.toArray⟩] w fun e w' => e = .returned (.tuple #[cond nm op 2 0 0 body false, .bool true]) ∧ Below w.heap.size w w' := by
  have ht1 := fun W => ptrim_any s W (by unfold maxLen; omega)
  rw [h1] at ht1
  have ht2 := fun W => ptrim_any r1 W (by unfold maxLen; omega)
  rw [h2] at ht2
  have ht3 := fun W => ptrim_any r2 W (by unfold maxLen; omega)
  rw [h3] at ht3
  have hc1 := fun W => pcut_some 32 nm r1 W h32 (by unfold maxLen; omega)
  have hwl : (wordL op).length ≤ 10 := (show ∀ n : Nat, n ≤ 6 → (wordL n).length ≤ 10 by decide) op hop
  have hc2 := fun W => pcut_some 32 (wordL op) r2 W (word_no32 op (by omega)) (by unfold maxLen; omega)
  have hrd := fun W (hb2 : Below w.heap.size w W) => read_yes body W hb hbl (hT.below hb2 (Nat.le_refl _))
  have hwd : ∀ n : Nat, n ≤ 7 → ∀ W, Below w.heap.size w W → Calls Tryz.prog 19 #[.int .i64 (n : Int)] W fun e w' => e = .returned (.string ⟨(wordL n).toArray⟩) ∧ W = w' := fun n hn W hb2 => by
    have h := word_any (n : Int) W (hw.below hb2)
    rw [word_b n hn] at h
    exact h
  have e0 : (nm == [104, 97, 115]) = false := by simpa using hnh
  have hap := fun n (hn : n ≤ 6) (hne : n ≠ op) => word_apart n hn op hop hne
  have HT1 := Lib.hid ht1; have HT2 := Lib.hid ht2; have HT3 := Lib.hid ht3; have HC1 := Lib.hid hc1; have HC2 := Lib.hid hc2; have HRD := Lib.hid hrd; have HWD := Lib.hid hwd; have HAP := Lib.hid hap
  clear ht1 ht2 ht3 hc1 hc2 hrd hwd hap h1 h2 h3 h32 hw hT hb hwl l1 l2 hnh
  obtain ⟨wo, hwo⟩ : ∃ wo, wordL op = wo := ⟨_, rfl⟩
  rw [hwo] at HT2 HC2 HAP
  have HWO := Lib.hid hwo; clear hwo
  go_enter Tryz.func42, Tryz.ntmps42
  go_upto_region 15 with (first | (go_at_call 40; (with_reducible refine (HT1.out _).mono ?_); rintro e w1 ⟨rfl, n1, rfl⟩) | (go_at_call 40; (with_reducible refine (HT2.out _).mono ?_); rintro e w1 ⟨rfl, n2, rfl⟩) | (go_at_call 40; (with_reducible refine (HT3.out _).mono ?_); rintro e w1 ⟨rfl, n3, rfl⟩) | (go_at_call 39; (with_reducible refine (HC1.out _).mono ?_); rintro e w1 ⟨rfl, n4, rfl⟩) | (go_at_call 39; (with_reducible refine (HC2.out _).mono ?_); rintro e w1 ⟨rfl, n5, rfl⟩) | (go_at_call 10; (refine (HRD.out _ (bdrewN (balloc _ _) _)).mono ?_); rintro e w5 ⟨rfl, hb5⟩) | fail)
  have hlw : w.heap.size < ((w.alloc (.cells #[.string ⟨#[]⟩, .int .i64 0, .int .i64 0, .int .i64 0, .float .f64 0, .string ⟨#[]⟩, .bool false] 41)).drewN (n1 + n4 + n2 + n5 + n3)).heap.size := by simp
  have y0 : w5.cell? ⟨w.heap.size, 0, none⟩ = some (.string ⟨#[]⟩) := (hb5.cell (p := ⟨w.heap.size, 0, none⟩) hlw).trans (by simp [go_sem])
  have y1 : w5.cell? ⟨w.heap.size, 1, none⟩ = some (.int .i64 0) := (hb5.cell (p := ⟨w.heap.size, 1, none⟩) hlw).trans (by simp [go_sem])
  have y2 : w5.cell? ⟨w.heap.size, 2, none⟩ = some (.int .i64 0) := (hb5.cell (p := ⟨w.heap.size, 2, none⟩) hlw).trans (by simp [go_sem])
  have y3 : w5.cell? ⟨w.heap.size, 3, none⟩ = some (.int .i64 0) := (hb5.cell (p := ⟨w.heap.size, 3, none⟩) hlw).trans (by simp [go_sem])
  have y4 : w5.cell? ⟨w.heap.size, 4, none⟩ = some (.float .f64 0) := (hb5.cell (p := ⟨w.heap.size, 4, none⟩) hlw).trans (by simp [go_sem])
  have y5 : w5.cell? ⟨w.heap.size, 5, none⟩ = some (.string ⟨#[]⟩) := (hb5.cell (p := ⟨w.heap.size, 5, none⟩) hlw).trans (by simp [go_sem])
  have y6 : w5.cell? ⟨w.heap.size, 6, none⟩ = some (.bool false) := (hb5.cell (p := ⟨w.heap.size, 6, none⟩) hlw).trans (by simp [go_sem])
  have yz : ∀ o, w5.frozen? ⟨w.heap.size, o, none⟩ = false := fun o => (hb5.frozen (p := ⟨w.heap.size, o, none⟩) hlw).trans (by simp)
  have hl5 : w.heap.size < w5.heap.size := Nat.lt_of_lt_of_le hlw hb5.size
  have hbw5 : Below w.heap.size w w5 := btrans (bdrewN (balloc _ _) _) hb5
  have hb6 := balloc w5 (.cells #[.int .i64 2, .int .i64 0, .float .f64 0, .string ⟨body.toArray⟩, .bool false] 25)
  generalize hW6 : World.alloc w5 _ = W6 at *
  replace y0 : W6.cell? ⟨w.heap.size, 0, none⟩ = some (.string ⟨#[]⟩) := (hb6.cell (p := ⟨w.heap.size, 0, none⟩) hl5).trans y0
  replace y1 : W6.cell? ⟨w.heap.size, 1, none⟩ = some (.int .i64 0) := (hb6.cell (p := ⟨w.heap.size, 1, none⟩) hl5).trans y1
  replace y2 : W6.cell? ⟨w.heap.size, 2, none⟩ = some (.int .i64 0) := (hb6.cell (p := ⟨w.heap.size, 2, none⟩) hl5).trans y2
  replace y3 : W6.cell? ⟨w.heap.size, 3, none⟩ = some (.int .i64 0) := (hb6.cell (p := ⟨w.heap.size, 3, none⟩) hl5).trans y3
  replace y4 : W6.cell? ⟨w.heap.size, 4, none⟩ = some (.float .f64 0) := (hb6.cell (p := ⟨w.heap.size, 4, none⟩) hl5).trans y4
  replace y5 : W6.cell? ⟨w.heap.size, 5, none⟩ = some (.string ⟨#[]⟩) := (hb6.cell (p := ⟨w.heap.size, 5, none⟩) hl5).trans y5
  replace y6 : W6.cell? ⟨w.heap.size, 6, none⟩ = some (.bool false) := (hb6.cell (p := ⟨w.heap.size, 6, none⟩) hl5).trans y6
  replace yz : ∀ o, W6.frozen? ⟨w.heap.size, o, none⟩ = false := fun o => (hb6.frozen (p := ⟨w.heap.size, o, none⟩) hl5).trans (yz o)
  have v0 : W6.cell? ⟨w5.heap.size, 0, none⟩ = some (.int .i64 2) := by rw [← hW6]; exact World.cell?_alloc_at _ _ _ _ rfl
  have v1 : W6.cell? ⟨w5.heap.size, 1, none⟩ = some (.int .i64 0) := by rw [← hW6]; exact World.cell?_alloc_at _ _ _ _ rfl
  have v2 : W6.cell? ⟨w5.heap.size, 2, none⟩ = some (.float .f64 0) := by rw [← hW6]; exact World.cell?_alloc_at _ _ _ _ rfl
  have v3 : W6.cell? ⟨w5.heap.size, 3, none⟩ = some (.string ⟨body.toArray⟩) := by rw [← hW6]; exact World.cell?_alloc_at _ _ _ _ rfl
  have v4 : W6.cell? ⟨w5.heap.size, 4, none⟩ = some (.bool false) := by rw [← hW6]; exact World.cell?_alloc_at _ _ _ _ rfl
  have HBW := Lib.hid (btrans hbw5 hb6)
  clear hb5 hb6 hbw5 hW6 hlw
  generalize w5.heap.size = pv at *
  go_loop [10] (fun vk => ∃ j : Nat, j ≤ op ∧ vk = .int .i64 (j : Int)) (fun vk => 7 - (intOf vk).toNat)
  case atStart => exact ⟨0, Nat.zero_le _, rfl⟩
  case round =>
    obtain ⟨j, hj, rfl⟩ := hrel
    have i1 : (j : Int) < 7 := by omega
    have i2 : (0 : Int) ≤ (j : Int) := by omega
    by_cases hjo : j = op
    · subst hjo
      have heq : (wordL j == wo) = true := by rw [HWO.out]; simp
      have heq2 : wordL j = wo := HWO.out
      go_wp2_with (first | (go_at_call 19; (refine (HWD.out j (by omega) _ HBW.out).mono ?_); rintro e w9 ⟨rfl, rfl⟩) | fail)
      obtain ⟨k0, k1, k2, k3, k4, k5, k6, hbz⟩ := set7_at W6 w.heap.size (.string ⟨nm.toArray⟩) (.int .i64 (j : Int)) (.int .i64 2) (.int .i64 0) (.float .f64 0) (.string ⟨body.toArray⟩) (.bool false) (fun i hi => by
        have hi' : i = 0 ∨ i = 1 ∨ i = 2 ∨ i = 3 ∨ i = 4 ∨ i = 5 ∨ i = 6 := by omega
        rcases hi' with rfl | rfl | rfl | rfl | rfl | rfl | rfl
        · rw [y0]; rfl
        · rw [y1]; rfl
        · rw [y2]; rfl
        · rw [y3]; rfl
        · rw [y4]; rfl
        · rw [y5]; rfl
        · rw [y6]; rfl)
      generalize World.setCell _ _ _ = W2 at *
      refine bodyPost_ret (v := .tuple #[cond nm (j : Int) 2 0 0 body false, .bool true]) (by simp [results, Tryz.results42, go_sem, k0, k1, k2, k3, k4, k5, k6]; try rfl) rfl ?_
      exact ⟨rfl, HBW.out.trans hbz⟩
    · have hne : (wordL j == wo) = false := HAP.out j (by omega) hjo
      go_wp2_with (first | (go_at_call 19; (refine (HWD.out j (by omega) _ HBW.out).mono ?_); rintro e w9 ⟨rfl, rfl⟩) | fail)
      exact ⟨⟨j + 1, by omega, by go_num⟩, by simp [intOf]; go_num⟩
end Go.Proofs.YtnccpddjdgndcaaGreatDoor.Pa
end

section
/- THE WALK OF parse.one AT ANY TEXT, whatever value.Read answers. -/
namespace Go.Proofs.YtnccpddjdgndcaaGreatDoor.Pa
open Go.RowKit Flt Go.Proofs.YtnccpddjdgndcaaGreatDoor.Val
attribute [local go_sem] run_store_flt
/-- what one answers -/
def oneOut : Option C → Value
  | some c => .tuple #[cc c, .bool true]
  | none => .tuple #[cond [] 0 0 0 0 [] false, .bool false]
/-- what value.Read answers -/
def rdOut : Option V → Value
  | some v => .tuple #[vv v, .bool true]
  | none => .tuple #[val 0 0 0 [] false, .bool false]
/-- an op by its word -/
def wordIx (wo : List UInt8) : Option Nat := (List.range 7).find? fun n => wordL n == wo
theorem wordIx_at : ∀ n : Nat, n ≤ 6 → wordIx (wordL n) = some n := by decide
theorem wordIx_none {wo : List UInt8} (h : ∀ n : Nat, n ≤ 6 → (wordL n == wo) = false) : wordIx wo = none := by
  unfold wordIx
  rw [List.find?_eq_none]
  intro n hn
  rw [h n (by have := List.mem_range.1 hn; omega)]
  decide
theorem has_space {l : List UInt8} (h : 32 ∈ l) (w : World) : Calls Tryz.prog 64 #[.string ⟨l.toArray⟩, .string ⟨#[32]⟩] w fun e w' => e = .returned (.bool true) ∧ w' = w := by
  refine (Tryz.strings_Contains_one ⟨l.toArray⟩ 32 w).mono ?_
  rintro e w' ⟨rfl, rfl⟩
  refine ⟨?_, rfl⟩
  rcases byte_cases 32 l with ⟨_, h2⟩ | ⟨a, b, e, _, h3⟩
  · exact absurd h h2
  · show Ending.returned (.bool (decide (0 ≤ Lib.indexByte l 32))) = _
    rw [h3, decide_eq_true (by omega)]
theorem box_drew {w w1 : World} {A : Array Value} {T : TypeId} {n : Nat} (hb : Below ((w.alloc (.cells A T)).drewN n).heap.size ((w.alloc (.cells A T)).drewN n) w1) :
    (∀ o, w1.cell? ⟨w.heap.size, o, none⟩ = A[o]?) ∧ (∀ o, w1.frozen? ⟨w.heap.size, o, none⟩ = false) ∧ w.heap.size < w1.heap.size ∧ Below w.heap.size w w1 := by
  have hz : w.heap.size < ((w.alloc (.cells A T)).drewN n).heap.size := by simp
  exact ⟨fun o => (hb.cell (p := ⟨w.heap.size, o, none⟩) hz).trans (by simp), fun o => (hb.frozen (p := ⟨w.heap.size, o, none⟩) hz).trans (by simp), Nat.lt_of_lt_of_le hz hb.size, btrans (bdrewN (balloc _ _) _) hb⟩
theorem seven_some {w5 : World} {A X : Array Value} {T : TypeId} {b : Nat} (hA : A.size = 7) (bc : ∀ o, w5.cell? ⟨b, o, none⟩ = A[o]?) (hl : b < w5.heap.size) : ∀ j, j < 7 → ((w5.alloc (.cells X T)).cell? ⟨b, j, none⟩).isSome = true := fun j hj => by
  rw [(balloc w5 (.cells X T)).cell (p := ⟨b, j, none⟩) hl, bc, Array.getElem?_eq_getElem (by omega)]
  rfl
set_option maxRecDepth 20000 in
set_option maxHeartbeats 1000000 in
theorem one_no1 (s : List UInt8) (w : World) (hs : s.length ≤ 100000) (h : 32 ∉ trimP s) :
    Calls Tryz.prog 42 #[.string ⟨s.toArray⟩] w fun e w' => e = .returned (oneOut none) ∧ Below w.heap.size w w' := by
  have ht1 := fun W => ptrim_any s W (by unfold maxLen; omega)
  have hc := fun W => pcut_none 32 (trimP s) W h
  generalize trimP s = ts at *
  have HT1 := Lib.hid ht1; have HC := Lib.hid hc
  clear ht1 hc h
  go_enter Tryz.func42, Tryz.ntmps42
  go_wp2_with (first | (go_at_call 40; (with_reducible refine (HT1.out _).mono ?_); rintro e w1 ⟨rfl, n1, rfl⟩) | (go_at_call 39; (with_reducible refine (HC.out _).mono ?_); rintro e w1 ⟨rfl, n3, rfl⟩) | fail)
  obtain ⟨c0, c1, c2, c3, c4, c5, c6, hbz⟩ := set7_at (((w.alloc (.cells #[.string ⟨#[]⟩, .int .i64 0, .int .i64 0, .int .i64 0, .float .f64 0, .string ⟨#[]⟩, .bool false] 41)).drewN (n1 + n3))) w.heap.size (.string ⟨#[]⟩) (.int .i64 0) (.int .i64 0) (.int .i64 0) (.float .f64 0) (.string ⟨#[]⟩) (.bool false) (fun j hj => by simp; omega)
  generalize World.setCell _ _ _ = W2 at *
  refine bodyPost_ret (v := .tuple #[cond [] 0 0 0 0 [] false, .bool false]) (by simp [results, Tryz.results42, go_sem, c0, c1, c2, c3, c4, c5, c6]; try rfl) rfl ?_
  exact ⟨rfl, (bdrewN (balloc _ _) _).trans hbz⟩
set_option maxRecDepth 20000 in
set_option maxHeartbeats 1000000 in
theorem one_no2 (s nm r1 rs : List UInt8) (w : World) (hs : s.length ≤ 100000) (h1 : trimP s = nm ++ 32 :: r1) (h32 : 32 ∉ nm) (h2 : trimP r1 = rs) (hrs : 32 ∉ rs) (hn : (nm == [104, 97, 115]) = false ∨ rs = []) (l1 : nm.length + r1.length ≤ 100000) :
    Calls Tryz.prog 42 #[.string ⟨s.toArray⟩] w fun e w' => e = .returned (oneOut none) ∧ Below w.heap.size w w' := by
  have ht1 := fun W => ptrim_any s W (by unfold maxLen; omega)
  rw [h1] at ht1
  have ht2 := fun W => ptrim_any r1 W (by unfold maxLen; omega)
  rw [h2] at ht2
  have hc1 := fun W => pcut_some 32 nm r1 W h32 (by unfold maxLen; omega)
  have hc2 := fun W => pcut_none 32 rs W hrs
  have HT1 := Lib.hid ht1; have HT2 := Lib.hid ht2; have HC1 := Lib.hid hc1; have HC2 := Lib.hid hc2
  clear ht1 ht2 hc1 hc2 h1 h2 h32 hrs l1
  have hq : (nm == [104, 97, 115]) = false ∨ ((nm == [104, 97, 115]) = true ∧ (rs == []) = true ∧ (rs != []) = false) := by
    cases e : (nm == [104, 97, 115])
    · exact .inl rfl
    · rcases hn with hn | hn
      · rw [e] at hn; cases hn
      · subst hn; exact .inr ⟨rfl, rfl, rfl⟩
  clear hn
  rcases hq with e0 | ⟨e0, e1, e2⟩
  all_goals
    go_enter Tryz.func42, Tryz.ntmps42
    go_wp2_with (first | (go_at_call 40; (with_reducible refine (HT1.out _).mono ?_); rintro e w1 ⟨rfl, n1, rfl⟩) | (go_at_call 40; (with_reducible refine (HT2.out _).mono ?_); rintro e w1 ⟨rfl, n2, rfl⟩) | (go_at_call 39; (with_reducible refine (HC1.out _).mono ?_); rintro e w1 ⟨rfl, n3, rfl⟩) | (go_at_call 39; (with_reducible refine (HC2.out _).mono ?_); rintro e w1 ⟨rfl, n4, rfl⟩) | fail)
    obtain ⟨c0, c1, c2, c3, c4, c5, c6, hbz⟩ := set7_at (((w.alloc (.cells #[.string ⟨#[]⟩, .int .i64 0, .int .i64 0, .int .i64 0, .float .f64 0, .string ⟨#[]⟩, .bool false] 41)).drewN (n1 + n3 + n2 + n4))) w.heap.size (.string ⟨#[]⟩) (.int .i64 0) (.int .i64 0) (.int .i64 0) (.float .f64 0) (.string ⟨#[]⟩) (.bool false) (fun j hj => by simp; omega)
    generalize World.setCell _ _ _ = W2 at *
    refine bodyPost_ret (v := .tuple #[cond [] 0 0 0 0 [] false, .bool false]) (by simp [results, Tryz.results42, go_sem, c0, c1, c2, c3, c4, c5, c6]; try rfl) rfl ?_
    exact ⟨rfl, (bdrewN (balloc _ _) _).trans hbz⟩
set_option maxRecDepth 20000 in
set_option maxHeartbeats 2000000 in
theorem one_hasR (s r1 : List UInt8) (w : World) (hs : s.length ≤ 100000) (h : trimP s = [104, 97, 115] ++ 32 :: r1) (h0 : trimP r1 ≠ []) (h32 : 32 ∉ trimP r1) (hl : r1.length ≤ 100000) :
    Calls Tryz.prog 42 #[.string ⟨s.toArray⟩] w fun e w' => e = .returned (oneOut (some ⟨trimP r1, 7, ⟨0, 0, 0, [], false⟩⟩)) ∧ Below w.heap.size w w' := by
  have ht1 := fun W => ptrim_any s W (by unfold maxLen; omega)
  rw [h] at ht1
  have ht2 := fun W => ptrim_any r1 W (by unfold maxLen; omega)
  have hc := fun W => pcut_some 32 [104, 97, 115] r1 W (by decide) (by unfold maxLen; simp; omega)
  have hsp := fun W => no_space h32 W
  have e0 : (trimP r1 == []) = false := by simpa using h0
  have e1 : (trimP r1 != []) = true := by simpa using h0
  generalize trimP r1 = nm at *
  have HT1 := Lib.hid ht1; have HT2 := Lib.hid ht2; have HC := Lib.hid hc; have HSP := Lib.hid hsp
  clear ht1 ht2 hc hsp h h32
  go_enter Tryz.func42, Tryz.ntmps42
  go_wp2_with (first | (go_at_call 40; (with_reducible refine (HT1.out _).mono ?_); rintro e w1 ⟨rfl, n1, rfl⟩) | (go_at_call 40; (with_reducible refine (HT2.out _).mono ?_); rintro e w1 ⟨rfl, n2, rfl⟩) | (go_at_call 39; refine (HC.out _).mono ?_; rintro e w1 ⟨rfl, n3, rfl⟩) | (go_at_call 64; refine (HSP.out _).mono ?_; rintro e w1 ⟨rfl, rfl⟩) | fail)
  obtain ⟨c0, c1, c2, c3, c4, c5, c6, hbz⟩ := set7_at (((w.alloc (.cells #[.string ⟨#[]⟩, .int .i64 0, .int .i64 0, .int .i64 0, .float .f64 0, .string ⟨#[]⟩, .bool false] 41)).drewN (n1 + n3 + n2))) w.heap.size (.string ⟨nm.toArray⟩) (.int .i64 7) (.int .i64 0) (.int .i64 0) (.float .f64 0) (.string ⟨#[]⟩) (.bool false) (fun j hj => by simp; omega)
  generalize World.setCell _ _ _ = W2 at *
  refine bodyPost_ret (v := .tuple #[cond nm 7 0 0 0 [] false, .bool true]) (by simp [results, Tryz.results42, go_sem, c0, c1, c2, c3, c4, c5, c6]; try rfl) rfl ?_
  exact ⟨rfl, (bdrewN (balloc _ _) _).trans hbz⟩
set_option maxRecDepth 20000 in
set_option maxHeartbeats 2000000 in
/-- a value that is none -/
theorem one_no3 (s nm r1 rs wo r2 r3 : List UInt8) (w : World) (hs : s.length ≤ 100000) (h1 : trimP s = nm ++ 32 :: r1) (h32 : 32 ∉ nm) (h2 : trimP r1 = rs) (hrs : rs = wo ++ 32 :: r2) (hwo : 32 ∉ wo) (h3 : trimP r2 = r3) (hrd : ∀ W, Below w.heap.size w W → Calls Tryz.prog 10 #[.string ⟨r3.toArray⟩] W fun e w' => e = .returned (rdOut none) ∧ Below W.heap.size W w')
    (l1 : nm.length + r1.length ≤ 100000) (l2 : wo.length + r2.length ≤ 100000) :
    Calls Tryz.prog 42 #[.string ⟨s.toArray⟩] w fun e w' => e = .returned (oneOut none) ∧ Below w.heap.size w w' := by
  have ht1 := fun W => ptrim_any s W (by unfold maxLen; omega)
  rw [h1] at ht1
  have ht2 := fun W => ptrim_any r1 W (by unfold maxLen; omega)
  rw [h2] at ht2
  have ht3 := fun W => ptrim_any r2 W (by unfold maxLen; omega)
  rw [h3] at ht3
  have hc1 := fun W => pcut_some 32 nm r1 W h32 (by unfold maxLen; omega)
  have hc2 := fun W => pcut_some 32 wo r2 W hwo (by unfold maxLen; omega)
  rw [← hrs] at hc2
  have hsp := fun W => has_space (l := rs) (by rw [hrs]; simp) W
  have e1 : (rs == []) = false := by rw [hrs]; simp
  have e2 : (rs != []) = true := by rw [hrs]; simp
  unfold rdOut at hrd
  have HT1 := Lib.hid ht1; have HT2 := Lib.hid ht2; have HT3 := Lib.hid ht3; have HC1 := Lib.hid hc1; have HC2 := Lib.hid hc2; have HRD := Lib.hid hrd; have HSP := Lib.hid hsp
  clear ht1 ht2 ht3 hc1 hc2 hrd hsp h1 h2 h3 h32 hwo hrs l1 l2
  cases e0 : (nm == [104, 97, 115])
  all_goals
    go_enter Tryz.func42, Tryz.ntmps42
    go_upto_region 12 with (first | (go_at_call 40; (with_reducible refine (HT1.out _).mono ?_); rintro e w1 ⟨rfl, n1, rfl⟩) | (go_at_call 40; (with_reducible refine (HT2.out _).mono ?_); rintro e w1 ⟨rfl, n2, rfl⟩) | (go_at_call 40; (with_reducible refine (HT3.out _).mono ?_); rintro e w1 ⟨rfl, n3, rfl⟩) | (go_at_call 39; (with_reducible refine (HC1.out _).mono ?_); rintro e w1 ⟨rfl, n4, rfl⟩) | (go_at_call 39; (with_reducible refine (HC2.out _).mono ?_); rintro e w1 ⟨rfl, n5, rfl⟩) | (go_at_call 64; refine (HSP.out _).mono ?_; rintro e w1 ⟨rfl, rfl⟩) | (go_at_call 10; (refine (HRD.out _ (bdrewN (balloc _ _) _)).mono ?_); rintro e w5 ⟨rfl, hb5⟩) | fail)
    obtain ⟨bc, bz, hl5, hbw5⟩ := box_drew hb5
    clear hb5
    have hb6 := balloc w5 (.cells #[.int .i64 0, .int .i64 0, .float .f64 0, .string ⟨#[]⟩, .bool false] 25)
    have hsm := seven_some (X := #[.int .i64 0, .int .i64 0, .float .f64 0, .string ⟨#[]⟩, .bool false]) (T := 25) rfl bc hl5
    have bc6 := fun o => (hb6.cell (p := ⟨w.heap.size, o, none⟩) hl5).trans (bc o)
    have yz := fun o => (hb6.frozen (p := ⟨w.heap.size, o, none⟩) hl5).trans (bz o)
    have HBW := Lib.hid (btrans hbw5 hb6)
    clear bc bz hbw5 hb6
    generalize World.alloc w5 _ = W6 at *
    have y0 := bc6 0; have y1 := bc6 1; have y2 := bc6 2; have y3 := bc6 3; have y4 := bc6 4; have y5 := bc6 5; have y6 := bc6 6
    simp only [List.getElem?_toArray, List.getElem?_cons_zero, List.getElem?_cons_succ] at y0 y1 y2 y3 y4 y5 y6
    have HSM := Lib.hid hsm
    clear bc6 hsm
    generalize w5.heap.size = pv at *
    go_wp2_with fail
    obtain ⟨c0, c1, c2, c3, c4, c5, c6, hbz⟩ := set7_at W6 w.heap.size (.string ⟨#[]⟩) (.int .i64 0) (.int .i64 0) (.int .i64 0) (.float .f64 0) (.string ⟨#[]⟩) (.bool false) HSM.out
    generalize World.setCell _ _ _ = W2 at *
    refine bodyPost_ret (v := .tuple #[cond [] 0 0 0 0 [] false, .bool false]) (by simp [results, Tryz.results42, go_sem, c0, c1, c2, c3, c4, c5, c6]; try rfl) rfl ?_
    exact ⟨rfl, HBW.out.trans hbz⟩
/-- a value that is one: its op by its word, if there is one -/
def Word1 (nm wo : List UInt8) (v : V) (e : Ending) : Prop := e = .returned (oneOut ((wordIx wo).map fun (k : Nat) => (⟨nm, (k : Int), v⟩ : C)))
set_option maxRecDepth 20000 in
set_option maxHeartbeats 4000000 in
theorem one_yes (s nm r1 rs wo r2 r3 : List UInt8) (vk vn : Int) (vx : Nat) (vt : List UInt8) (vy : Bool) (w : World) (hw : Words w) (hs : s.length ≤ 100000) (h1 : trimP s = nm ++ 32 :: r1) (h32 : 32 ∉ nm) (h2 : trimP r1 = rs) (hrs : rs = wo ++ 32 :: r2) (hwo : 32 ∉ wo) (h3 : trimP r2 = r3) (hrd : ∀ W, Below w.heap.size w W → Calls Tryz.prog 10 #[.string ⟨r3.toArray⟩] W fun e w' => e = .returned (rdOut (some ⟨vk, vn, vx, vt, vy⟩)) ∧ Below W.heap.size W w')
    (l1 : nm.length + r1.length ≤ 100000) (l2 : wo.length + r2.length ≤ 100000) :
    Calls Tryz.prog 42 #[.string ⟨s.toArray⟩] w fun e w' => Word1 nm wo ⟨vk, vn, vx, vt, vy⟩ e ∧ Below w.heap.size w w' := by
  have ht1 := fun W => ptrim_any s W (by unfold maxLen; omega)
  rw [h1] at ht1
  have ht2 := fun W => ptrim_any r1 W (by unfold maxLen; omega)
  rw [h2] at ht2
  have ht3 := fun W => ptrim_any r2 W (by unfold maxLen; omega)
  rw [h3] at ht3
  have hc1 := fun W => pcut_some 32 nm r1 W h32 (by unfold maxLen; omega)
  have hc2 := fun W => pcut_some 32 wo r2 W hwo (by unfold maxLen; omega)
  rw [← hrs] at hc2
  have hsp := fun W => has_space (l := rs) (by rw [hrs]; simp) W
  have e1 : (rs == []) = false := by rw [hrs]; simp
  have e2 : (rs != []) = true := by rw [hrs]; simp
  have hwd : ∀ n : Nat, n ≤ 7 → ∀ W, Below w.heap.size w W → Calls Tryz.prog 19 #[.int .i64 (n : Int)] W fun e w' => e = .returned (.string ⟨(wordL n).toArray⟩) ∧ W = w' := fun n hn W hb2 => by
    have h := word_any (n : Int) W (hw.below hb2)
    rw [word_b n hn] at h
    exact h
  unfold rdOut at hrd
  have HT1 := Lib.hid ht1; have HT2 := Lib.hid ht2; have HT3 := Lib.hid ht3; have HC1 := Lib.hid hc1; have HC2 := Lib.hid hc2; have HRD := Lib.hid hrd; have HWD := Lib.hid hwd; have HSP := Lib.hid hsp
  clear ht1 ht2 ht3 hc1 hc2 hrd hwd hsp h1 h2 h3 h32 hw hwo hrs l1 l2
  cases e0 : (nm == [104, 97, 115])
  all_goals
    go_enter Tryz.func42, Tryz.ntmps42
    go_upto_region 15 with (first | (go_at_call 40; (with_reducible refine (HT1.out _).mono ?_); rintro e w1 ⟨rfl, n1, rfl⟩) | (go_at_call 40; (with_reducible refine (HT2.out _).mono ?_); rintro e w1 ⟨rfl, n2, rfl⟩) | (go_at_call 40; (with_reducible refine (HT3.out _).mono ?_); rintro e w1 ⟨rfl, n3, rfl⟩) | (go_at_call 39; (with_reducible refine (HC1.out _).mono ?_); rintro e w1 ⟨rfl, n4, rfl⟩) | (go_at_call 39; (with_reducible refine (HC2.out _).mono ?_); rintro e w1 ⟨rfl, n5, rfl⟩) | (go_at_call 64; refine (HSP.out _).mono ?_; rintro e w1 ⟨rfl, rfl⟩) | (go_at_call 10; (refine (HRD.out _ (bdrewN (balloc _ _) _)).mono ?_); rintro e w5 ⟨rfl, hb5⟩) | fail)
    have hlw : w.heap.size < ((w.alloc (.cells #[.string ⟨#[]⟩, .int .i64 0, .int .i64 0, .int .i64 0, .float .f64 0, .string ⟨#[]⟩, .bool false] 41)).drewN (n1 + n4 + n2 + n5 + n3)).heap.size := by simp
    have y0 : w5.cell? ⟨w.heap.size, 0, none⟩ = some (.string ⟨#[]⟩) := (hb5.cell (p := ⟨w.heap.size, 0, none⟩) hlw).trans (by simp [go_sem])
    have y1 : w5.cell? ⟨w.heap.size, 1, none⟩ = some (.int .i64 0) := (hb5.cell (p := ⟨w.heap.size, 1, none⟩) hlw).trans (by simp [go_sem])
    have y2 : w5.cell? ⟨w.heap.size, 2, none⟩ = some (.int .i64 0) := (hb5.cell (p := ⟨w.heap.size, 2, none⟩) hlw).trans (by simp [go_sem])
    have y3 : w5.cell? ⟨w.heap.size, 3, none⟩ = some (.int .i64 0) := (hb5.cell (p := ⟨w.heap.size, 3, none⟩) hlw).trans (by simp [go_sem])
    have y4 : w5.cell? ⟨w.heap.size, 4, none⟩ = some (.float .f64 0) := (hb5.cell (p := ⟨w.heap.size, 4, none⟩) hlw).trans (by simp [go_sem])
    have y5 : w5.cell? ⟨w.heap.size, 5, none⟩ = some (.string ⟨#[]⟩) := (hb5.cell (p := ⟨w.heap.size, 5, none⟩) hlw).trans (by simp [go_sem])
    have y6 : w5.cell? ⟨w.heap.size, 6, none⟩ = some (.bool false) := (hb5.cell (p := ⟨w.heap.size, 6, none⟩) hlw).trans (by simp [go_sem])
    have yz : ∀ o, w5.frozen? ⟨w.heap.size, o, none⟩ = false := fun o => (hb5.frozen (p := ⟨w.heap.size, o, none⟩) hlw).trans (by simp)
    have hl5 : w.heap.size < w5.heap.size := Nat.lt_of_lt_of_le hlw hb5.size
    have hbw5 : Below w.heap.size w w5 := btrans (bdrewN (balloc _ _) _) hb5
    have hb6 := balloc w5 (.cells #[.int .i64 vk, .int .i64 vn, .float .f64 vx, .string ⟨vt.toArray⟩, .bool vy] 25)
    generalize hW6 : World.alloc w5 _ = W6 at *
    replace y0 : W6.cell? ⟨w.heap.size, 0, none⟩ = some (.string ⟨#[]⟩) := (hb6.cell (p := ⟨w.heap.size, 0, none⟩) hl5).trans y0
    replace y1 : W6.cell? ⟨w.heap.size, 1, none⟩ = some (.int .i64 0) := (hb6.cell (p := ⟨w.heap.size, 1, none⟩) hl5).trans y1
    replace y2 : W6.cell? ⟨w.heap.size, 2, none⟩ = some (.int .i64 0) := (hb6.cell (p := ⟨w.heap.size, 2, none⟩) hl5).trans y2
    replace y3 : W6.cell? ⟨w.heap.size, 3, none⟩ = some (.int .i64 0) := (hb6.cell (p := ⟨w.heap.size, 3, none⟩) hl5).trans y3
    replace y4 : W6.cell? ⟨w.heap.size, 4, none⟩ = some (.float .f64 0) := (hb6.cell (p := ⟨w.heap.size, 4, none⟩) hl5).trans y4
    replace y5 : W6.cell? ⟨w.heap.size, 5, none⟩ = some (.string ⟨#[]⟩) := (hb6.cell (p := ⟨w.heap.size, 5, none⟩) hl5).trans y5
    replace y6 : W6.cell? ⟨w.heap.size, 6, none⟩ = some (.bool false) := (hb6.cell (p := ⟨w.heap.size, 6, none⟩) hl5).trans y6
    replace yz : ∀ o, W6.frozen? ⟨w.heap.size, o, none⟩ = false := fun o => (hb6.frozen (p := ⟨w.heap.size, o, none⟩) hl5).trans (yz o)
    have v0 : W6.cell? ⟨w5.heap.size, 0, none⟩ = some (.int .i64 vk) := by rw [← hW6]; exact World.cell?_alloc_at _ _ _ _ rfl
    have v1 : W6.cell? ⟨w5.heap.size, 1, none⟩ = some (.int .i64 vn) := by rw [← hW6]; exact World.cell?_alloc_at _ _ _ _ rfl
    have v2 : W6.cell? ⟨w5.heap.size, 2, none⟩ = some (.float .f64 vx) := by rw [← hW6]; exact World.cell?_alloc_at _ _ _ _ rfl
    have v3 : W6.cell? ⟨w5.heap.size, 3, none⟩ = some (.string ⟨vt.toArray⟩) := by rw [← hW6]; exact World.cell?_alloc_at _ _ _ _ rfl
    have v4 : W6.cell? ⟨w5.heap.size, 4, none⟩ = some (.bool vy) := by rw [← hW6]; exact World.cell?_alloc_at _ _ _ _ rfl
    have HBW := Lib.hid (btrans hbw5 hb6)
    have HCS := Lib.hid (show ∀ j, j < 7 → (W6.cell? ⟨w.heap.size, j, none⟩).isSome = true from fun i hi => by
      have hi' : i = 0 ∨ i = 1 ∨ i = 2 ∨ i = 3 ∨ i = 4 ∨ i = 5 ∨ i = 6 := by omega
      rcases hi' with rfl | rfl | rfl | rfl | rfl | rfl | rfl
      · rw [y0]; rfl
      · rw [y1]; rfl
      · rw [y2]; rfl
      · rw [y3]; rfl
      · rw [y4]; rfl
      · rw [y5]; rfl
      · rw [y6]; rfl)
    clear hb5 hb6 hbw5 hW6 hlw
    generalize w5.heap.size = pv at *
    go_loop [10] (fun vk => ∃ j : Nat, j ≤ 7 ∧ vk = .int .i64 (j : Int) ∧ ∀ n : Nat, n < j → (wordL n == wo) = false) (fun vk => 7 - (intOf vk).toNat)
    case atStart => exact ⟨0, Nat.zero_le _, rfl, fun n hn => absurd hn (by omega)⟩
    case round =>
      obtain ⟨j, hj, rfl, hno⟩ := hrel
      have HNO := Lib.hid hno
      clear hno
      have i2 : (0 : Int) ≤ (j : Int) := by omega
      by_cases hj7 : j = 7
      · subst hj7
        go_wp2_with fail
        obtain ⟨k0, k1, k2, k3, k4, k5, k6, hbz⟩ := set7_at W6 w.heap.size (.string ⟨#[]⟩) (.int .i64 0) (.int .i64 0) (.int .i64 0) (.float .f64 0) (.string ⟨#[]⟩) (.bool false) HCS.out
        generalize World.setCell _ _ _ = W2 at *
        refine bodyPost_ret (v := .tuple #[cond [] 0 0 0 0 [] false, .bool false]) (by simp [results, Tryz.results42, go_sem, k0, k1, k2, k3, k4, k5, k6]; try rfl) rfl ?_
        refine ⟨?_, HBW.out.trans hbz⟩
        unfold Word1
        rw [wordIx_none (fun n hn => HNO.out n (by omega))]
        rfl
      · have i1 : (j : Int) < 7 := by omega
        cases heq : (wordL j == wo)
        · go_wp2_with (first | (go_at_call 19; (refine (HWD.out j (by omega) _ HBW.out).mono ?_); rintro e w9 ⟨rfl, rfl⟩) | fail)
          refine ⟨⟨j + 1, by omega, by go_num, fun n hn => ?_⟩, by simp [intOf]; go_num⟩
          rcases Nat.lt_or_ge n j with g | g
          · exact HNO.out n g
          · obtain rfl : n = j := by omega
            exact heq
        · have HW2 := Lib.hid (eq_of_beq heq)
          go_wp2_with (first | (go_at_call 19; (refine (HWD.out j (by omega) _ HBW.out).mono ?_); rintro e w9 ⟨rfl, rfl⟩) | fail)
          obtain ⟨k0, k1, k2, k3, k4, k5, k6, hbz⟩ := set7_at W6 w.heap.size (.string ⟨nm.toArray⟩) (.int .i64 (j : Int)) (.int .i64 vk) (.int .i64 vn) (.float .f64 vx) (.string ⟨vt.toArray⟩) (.bool vy) HCS.out
          generalize World.setCell _ _ _ = W2 at *
          refine bodyPost_ret (v := .tuple #[cond nm (j : Int) vk vn vx vt vy, .bool true]) (by simp [results, Tryz.results42, go_sem, k0, k1, k2, k3, k4, k5, k6]; try rfl) rfl ?_
          refine ⟨?_, HBW.out.trans hbz⟩
          unfold Word1
          rw [← HW2.out, wordIx_at j (by omega)]
          rfl
/-- the first blank -/
def cut1 (s : List UInt8) : Option (List UInt8 × List UInt8) := if 32 ∈ s then some (s.takeWhile (· != 32), (s.dropWhile (· != 32)).drop 1) else none
theorem cut1_some : ∀ (a b : List UInt8), 32 ∉ a → cut1 (a ++ 32 :: b) = some (a, b) := by
  intro a b h
  unfold cut1
  rw [if_pos (by simp)]
  have h1 : ∀ x ∈ a, (x != 32) = true := fun x hx => by
    rw [bne_iff_ne]; rintro rfl; exact h hx
  rw [List.takeWhile_append_of_pos h1, List.dropWhile_append_of_pos h1]
  simp
theorem cut1_none {s : List UInt8} (h : 32 ∉ s) : cut1 s = none := if_neg h
theorem cut1_ways (s : List UInt8) : (32 ∉ s ∧ cut1 s = none) ∨ ∃ a b, s = a ++ 32 :: b ∧ 32 ∉ a ∧ cut1 s = some (a, b) := by
  rcases byte_cases 32 s with ⟨_, h⟩ | ⟨a, b, e, h, _⟩
  · exact .inl ⟨h, cut1_none h⟩
  · exact .inr ⟨a, b, e, h, by rw [e]; exact cut1_some a b h⟩
/-- what a text looks like: none; 'has' and a name; a name, a word, a value's text -/
inductive Shape where
  | bad
  | has (nm : List UInt8)
  | cmp (nm wo vt : List UInt8)
def shape (s : List UInt8) : Shape :=
  match cut1 (trimP s) with
  | none => .bad
  | some (nm, r1) =>
    if nm = [104, 97, 115] ∧ trimP r1 ≠ [] ∧ 32 ∉ trimP r1 then .has (trimP r1) else
    match cut1 (trimP r1) with
    | none => .bad
    | some (wo, r2) => .cmp nm wo (trimP r2)
/-- what one answers, by what Read answers -/
def oneC (rd : List UInt8 → Option V) (s : List UInt8) : Option C :=
  match shape s with
  | .bad => none
  | .has nm => some ⟨nm, 7, ⟨0, 0, 0, [], false⟩⟩
  | .cmp nm wo vt => match rd vt with
    | none => none
    | some v => (wordIx wo).map fun (k : Nat) => (⟨nm, (k : Int), v⟩ : C)
theorem trimP_le (s : List UInt8) : (trimP s).length ≤ s.length := by
  show (Lib.trimLeftB (Lib.trimRightB s 32) 32).length ≤ _
  unfold Lib.trimLeftB Lib.trimRightB
  have h1 := (List.dropWhile_sublist (· == (32 : UInt8)) (l := (s.reverse.dropWhile (· == 32)).reverse)).length_le
  have h2 := (List.dropWhile_sublist (· == (32 : UInt8)) (l := s.reverse)).length_le
  rw [List.length_reverse] at h1 h2
  omega
theorem one_any (s : List UInt8) (rd : List UInt8 → Option V) (w : World) (hw : Words w) (hs : s.length ≤ 100000)
    (hrd : ∀ nm wo vt, shape s = .cmp nm wo vt → ∀ W, Below w.heap.size w W → Calls Tryz.prog 10 #[.string ⟨vt.toArray⟩] W fun e w' => e = .returned (rdOut (rd vt)) ∧ Below W.heap.size W w') :
    Calls Tryz.prog 42 #[.string ⟨s.toArray⟩] w fun e w' => e = .returned (oneOut (oneC rd s)) ∧ Below w.heap.size w w' := by
  have hl0 := trimP_le s
  rcases cut1_ways (trimP s) with ⟨h, hc⟩ | ⟨nm, r1, h1, h32, hc⟩
  · have e : oneC rd s = none := by unfold oneC shape; rw [hc]
    rw [e]
    exact one_no1 s w hs h
  have hl1 : nm.length + r1.length ≤ 100000 := by have := congrArg List.length h1; simp at this; omega
  have hl2 := trimP_le r1
  by_cases hh : nm = [104, 97, 115] ∧ trimP r1 ≠ [] ∧ 32 ∉ trimP r1
  · have e : oneC rd s = some ⟨trimP r1, 7, ⟨0, 0, 0, [], false⟩⟩ := by
      have : shape s = .has (trimP r1) := by
        unfold shape
        rw [hc]
        simp only
        rw [if_pos hh]
      unfold oneC
      rw [this]
    rw [e]
    obtain ⟨rfl, h0, h3⟩ := hh
    exact one_hasR s r1 w hs h1 h0 h3 (by omega)
  · rcases cut1_ways (trimP r1) with ⟨h, hc2⟩ | ⟨wo, r2, h2, hwo, hc2⟩
    · have e : oneC rd s = none := by
        have : shape s = .bad := by
          unfold shape
          rw [hc]
          simp only
          rw [if_neg hh, hc2]
        unfold oneC
        rw [this]
      rw [e]
      refine one_no2 s nm r1 (trimP r1) w hs h1 h32 rfl h ?_ hl1
      by_cases hn : nm = [104, 97, 115]
      · right
        by_cases h0 : trimP r1 = []
        · exact h0
        · exact absurd ⟨hn, h0, h⟩ hh
      · left
        rw [beq_eq_false_iff_ne]
        exact hn
    · have hl3 : wo.length + r2.length ≤ 100000 := by have := congrArg List.length h2; simp at this; omega
      have hsh : shape s = .cmp nm wo (trimP r2) := by
        unfold shape
        rw [hc]
        simp only
        rw [if_neg hh, hc2]
      have hrd2 := hrd nm wo (trimP r2) hsh
      unfold oneC
      rw [hsh]
      simp only
      cases hv : rd (trimP r2) with
      | none =>
        rw [hv] at hrd2
        exact one_no3 s nm r1 (trimP r1) wo r2 (trimP r2) w hs h1 h32 rfl h2 hwo rfl hrd2 hl1 hl3
      | some v =>
        rw [hv] at hrd2
        obtain ⟨vk, vn, vx, vt, vy⟩ := v
        exact one_yes s nm r1 (trimP r1) wo r2 (trimP r2) vk vn vx vt vy w hw hs h1 h32 rfl h2 hwo rfl hrd2 hl1 hl3
end Go.Proofs.YtnccpddjdgndcaaGreatDoor.Pa
end

section
/- THE WALK OF parse.Filter AT ANY TEXT, whatever parse.one answers of its pieces. -/
namespace Go.Proofs.YtnccpddjdgndcaaGreatDoor.Pa
open Go.RowKit Flt Go.Proofs.YtnccpddjdgndcaaGreatDoor.Val
attribute [local go_sem] run_store_flt
set_option maxRecDepth 20000 in
set_option maxHeartbeats 1000000 in
/-- nothing behind the scope -/
theorem pfilter_none (sc rest : List UInt8) (w : World) (h58 : 58 ∉ sc) (hl : sc.length + rest.length + 1 ≤ 100000) (hne : trimP rest = []) :
    Calls Tryz.prog 18 #[.string ⟨(sc ++ 58 :: rest).toArray⟩] w fun e w' => Made (trimP sc) [] e w' ∧ Below w.heap.size w w' := by
  have htl := trimP_le sc
  have hcu := fun W => pcut_some 58 sc rest W h58 (by unfold maxLen; omega)
  have ht1 := fun W => ptrim_any sc W (by unfold maxLen; omega)
  have ht2 := fun W => ptrim_any rest W (by unfold maxLen; omega)
  rw [hne] at ht2
  have hrt : ∀ W, Calls Tryz.prog 21 #[ev (trimP sc) none 0 0] W fun e w' => e = .returned (.bool (fRight (trimP sc) [])) ∧ Below W.heap.size W w' := fun W => fright_any (trimP sc) none 0 [] W (fun i hi => absurd hi (by simp)) (by decide) (by omega) (by simp)
  have hm : ∀ e w', Made (trimP sc) [] e w' = if 6 < ([] : List C).length then e = .returned (.tuple #[ev [] none 0 0, .int .i64 2]) else if fRight (trimP sc) [] = true then ∃ b0 cp, e = .returned (.tuple #[ev (trimP sc) b0 ([] : List C).length cp, .int .i64 0]) ∧ Conds w' b0 [] else e = .returned (.tuple #[ev [] none 0 0, .int .i64 1]) := fun e w' => rfl
  generalize fRight (trimP sc) [] = FR at *
  generalize hts : trimP sc = ts at *
  have HCU := Lib.hid hcu; have HT1 := Lib.hid ht1; have HT2 := Lib.hid ht2; have HRT := Lib.hid hrt; have HM := Lib.hid hm
  clear hcu ht1 ht2 hrt hm h58 hts hl htl hne
  go_enter Tryz.func18, Tryz.ntmps18
  go_upto_region 16 with (first | (go_at_call 39; (with_reducible refine (HCU.out _).mono ?_); rintro e w1 ⟨rfl, n1, rfl⟩) | (go_at_call 40; (with_reducible refine (HT1.out _).mono ?_); rintro e w1 ⟨rfl, n2, rfl⟩) | (go_at_call 40; (with_reducible refine (HT2.out _).mono ?_); rintro e w1 ⟨rfl, n3, rfl⟩) | fail)
  obtain ⟨W5, hW5⟩ : ∃ W5, W5 = ((((w.alloc (.cells #[.string ⟨#[]⟩, .slice none 0 0] 35)).drewN (n1 + n2)).alloc (.cells #[.string ⟨ts.toArray⟩, .slice none 0 0] 35)).drewN n3) := ⟨_, rfl⟩
  obtain ⟨⟨r0, r1, rz⟩, ⟨f0, f1, fz⟩, hs5, hb5⟩ := fil_start w (n1 + n2) n3 ts hW5
  rw [← hW5]
  have hpr : w.heap.size < W5.heap.size := by omega
  have hpf : w.heap.size + 1 < W5.heap.size := by omega
  clear hW5 hs5
  cases FR
  · go_wp2_with (first | (go_at_call 21; (with_reducible refine (HRT.out _).mono ?_); rintro e w7 ⟨rfl, hb7⟩; have q0 := (hb7.cell (p := ⟨w.heap.size, 0, none⟩) hpr).trans r0; have q1 := (hb7.cell (p := ⟨w.heap.size, 1, none⟩) hpr).trans r1; have qz := fun o => (hb7.frozen (p := ⟨w.heap.size, o, none⟩) hpr).trans (rz o)) | fail)
    obtain ⟨c0, c1, hbz⟩ := set2_at w7 w.heap.size (.string ⟨#[]⟩) (.slice none 0 0) q0 q1
    generalize World.setCell (World.setCell _ _ _) _ _ = Wz at *
    refine bodyPost_ret (v := .tuple #[ev [] none 0 0, .int .i64 1]) (by simp [results, Tryz.results18, go_sem, c0, c1]; try rfl) rfl ?_
    refine ⟨?_, (btrans hb5 hb7).trans hbz⟩
    rw [HM.out, if_neg (by decide)]
    simp
  · go_wp2_with (first | (go_at_call 21; (with_reducible refine (HRT.out _).mono ?_); rintro e w7 ⟨rfl, hb7⟩; have q0 := (hb7.cell (p := ⟨w.heap.size, 0, none⟩) hpr).trans r0; have q1 := (hb7.cell (p := ⟨w.heap.size, 1, none⟩) hpr).trans r1; have qz := fun o => (hb7.frozen (p := ⟨w.heap.size, o, none⟩) hpr).trans (rz o); have x0 := (hb7.cell (p := ⟨w.heap.size + 1, 0, none⟩) hpf).trans f0; have x1 := (hb7.cell (p := ⟨w.heap.size + 1, 1, none⟩) hpf).trans f1) | fail)
    obtain ⟨c0, c1, hbz⟩ := set2_at w7 w.heap.size (.string ⟨ts.toArray⟩) (.slice none 0 0) q0 q1
    generalize World.setCell (World.setCell _ _ _) _ _ = Wz at *
    refine bodyPost_ret (v := .tuple #[ev ts none 0 0, .int .i64 0]) (by simp [results, Tryz.results18, go_sem, c0, c1]; try rfl) rfl ?_
    refine ⟨?_, (btrans hb5 hb7).trans hbz⟩
    rw [HM.out, if_neg (by decide)]
    simp only [if_true]
    exact ⟨none, 0, rfl, fun i hi => absurd hi (by simp)⟩
/-- WHAT parse.Filter ANSWERS OF ANY TEXT -/
inductive FilO where
  | form
  | some (sc : List UInt8) (cs : List C)
end Go.Proofs.YtnccpddjdgndcaaGreatDoor.Pa
end

section
/- THE WALK OF cond.Print: what a condition's text is. -/
namespace Go.Proofs.YtnccpddjdgndcaaGreatDoor.Val
open Go.RowKit Flt
def hasT : List UInt8 := [104, 97, 115, 32]
/-- a condition's text -/
def cT (c : C) : List UInt8 := if c.op == 7 then hasT ++ c.name else c.name ++ [32] ++ wordB c.op ++ [32] ++ vT c.val
theorem itoa_len (n : Int) (h0 : -9223372036854775808 ≤ n) (h1 : n ≤ 9223372036854775807) : (Lib.itoa n).length ≤ 100 := by
  have a := Fmt.nDigits_le20 (u := n.natAbs) (by omega)
  have b := Fmt.nDigits_le20 (u := n.toNat) (by omega)
  unfold Lib.itoa
  split
  · rw [List.length_cons, Lib.decDigits_length]; omega
  · rw [Lib.decDigits_length]; omega
theorem quoteT_len (t : List UInt8) : (Quo.quoteT Lib.goPrintTabs t).length ≤ 10 * t.length + 2 := by
  unfold Quo.quoteT
  rw [List.length_map]
  have h := Lib.quoteZ_length_le Lib.goPrintTabs ⟨t.toArray⟩
  have hs : (⟨t.toArray⟩ : ByteArray).size = t.length := by simp [ByteArray.size]
  rw [hs] at h
  exact h
theorem vT_len (v : V) (h0 : -9223372036854775808 ≤ v.int) (h1 : v.int ≤ 9223372036854775807) : (vT v).length ≤ 10 * v.text.length + 2000 := by
  unfold vT
  split
  · have := itoa_len v.int h0 h1; omega
  · split
    · have := flt_len (Ord.canon v.num)
      unfold Fmt.fltT
      split
      · omega
      · rw [List.length_append]; simp; omega
    · split
      · have := quoteT_len v.text; omega
      · have a : yesT.length = 3 := rfl
        have b : noT.length = 2 := rfl
        split <;> omega
set_option maxHeartbeats 1000000 in
theorem cprint_in (nm : List UInt8) (op k n : Int) (x : Nat) (t : List UInt8) (y : Bool) (ps : List UInt8) (w : World) (hw : Words w) (h7 : (op == 7) = false) (hnm : nm.length ≤ 1000000) (hps : ps.length ≤ 1000000)
    (hp : ∀ w1, Below w.heap.size w w1 → Calls Tryz.prog 13 #[val k n x t y] w1 fun e w' => e = .returned (.string ⟨ps.toArray⟩) ∧ Below w1.heap.size w1 w') :
    Calls Tryz.prog 25 #[cond nm op k n x t y] w fun e w' => e = .returned (.string ⟨(nm ++ [32] ++ wordB op ++ [32] ++ ps).toArray⟩) ∧ Below w.heap.size w w' := by
  have hwl := wordB_len op
  have HW := Lib.hid hw; have HP := Lib.hid hp; clear hw hp
  generalize hwd : wordB op = wd at *
  have HWD := Lib.hid hwd; clear hwd
  obtain ⟨y1, hy1⟩ : ∃ l, l = nm ++ [32] := ⟨_, rfl⟩
  obtain ⟨y2, hy2⟩ : ∃ l, l = y1 ++ wd := ⟨_, rfl⟩
  obtain ⟨y3, hy3⟩ : ∃ l, l = y2 ++ [32] := ⟨_, rfl⟩
  obtain ⟨y4, hy4⟩ : ∃ l, l = y3 ++ ps := ⟨_, rfl⟩
  have l1 : y1.length = nm.length + 1 := by rw [hy1]; simp
  have l2 : y2.length = y1.length + wd.length := by rw [hy2]; simp
  have l3 : y3.length = y2.length + 1 := by rw [hy3]; simp
  have r1 : ∀ w, (Op.stringOp .add ⟨nm.toArray⟩ ⟨#[32]⟩).run Tryz.prog w = .ok (.string ⟨y1.toArray⟩) w := fun w => by rw [hy1]; exact run_string_add_lists w nm [32] (by omega) (by simp)
  have r2 : ∀ w, (Op.stringOp .add ⟨y1.toArray⟩ ⟨wd.toArray⟩).run Tryz.prog w = .ok (.string ⟨y2.toArray⟩) w := fun w => by rw [hy2]; exact run_string_add_lists w y1 wd (by omega) (by omega)
  have r3 : ∀ w, (Op.stringOp .add ⟨y2.toArray⟩ ⟨#[32]⟩).run Tryz.prog w = .ok (.string ⟨y3.toArray⟩) w := fun w => by rw [hy3]; exact run_string_add_lists w y2 [32] (by omega) (by simp)
  have r4 : ∀ w, (Op.stringOp .add ⟨y3.toArray⟩ ⟨ps.toArray⟩).run Tryz.prog w = .ok (.string ⟨y4.toArray⟩) w := fun w => by rw [hy4]; exact run_string_add_lists w y3 ps (by omega) (by omega)
  have HY : nm ++ [32] ++ wd ++ [32] ++ ps = y4 := by rw [hy4, hy3, hy2, hy1]
  have HY' := Lib.hid HY
  clear hy1 hy2 hy3 hy4 l1 l2 l3 HY hwl hnm hps
  go_enter Tryz.func25, Tryz.ntmps25
  go_wp2_with fail
  go_region_held3 (fun w' => w'.cell? ⟨w.heap.size, 0, none⟩ = some (.string ⟨nm.toArray⟩) ∧ w'.cell? ⟨w.heap.size, 1, none⟩ = some (.int .i64 op) ∧ w'.cell? ⟨w.heap.size, 2, none⟩ = some (.int .i64 k) ∧ w'.cell? ⟨w.heap.size, 3, none⟩ = some (.int .i64 n) ∧ w'.cell? ⟨w.heap.size, 4, none⟩ = some (.float .f64 x) ∧ w'.cell? ⟨w.heap.size, 5, none⟩ = some (.string ⟨t.toArray⟩) ∧ w'.cell? ⟨w.heap.size, 6, none⟩ = some (.bool y) ∧ Words w' ∧ Below w.heap.size w w' ∧ w.heap.size < w'.heap.size)
    (first | exact held_start HW.out | assumption | exact held_below (by assumption) (by assumption))
    (first | (go_at_call 19; refine (word_any _ _ (held_words (by assumption))).mono ?_; rintro e w' ⟨rfl, rfl⟩; rw [HWD.out]) | (go_at_call 13; refine (HP.out _ (held_own (by assumption))).mono ?_; rintro e w1 ⟨rfl, hb⟩))
  go_goals
  all_goals
    go_wp2
    go_ret
    exact ⟨ret_str HY'.out.symm, held_own (by assumption)⟩
set_option maxHeartbeats 1000000 in
theorem cprint_has (nm : List UInt8) (k n : Int) (x : Nat) (t : List UInt8) (y : Bool) (w : World) (hnm : nm.length ≤ 1000000) :
    Calls Tryz.prog 25 #[cond nm 7 k n x t y] w fun e w' => e = .returned (.string ⟨(hasT ++ nm).toArray⟩) ∧ Below w.heap.size w w' := by
  obtain ⟨y1, hy1⟩ : ∃ l, l = hasT ++ nm := ⟨_, rfl⟩
  have r1 : ∀ w, (Op.stringOp .add ⟨#[104, 97, 115, 32]⟩ ⟨nm.toArray⟩).run Tryz.prog w = .ok (.string ⟨y1.toArray⟩) w := fun w => by rw [hy1]; exact run_string_add_lists w [104, 97, 115, 32] nm (by decide) (by omega)
  rw [← hy1]
  clear hnm hy1
  go_enter Tryz.func25, Tryz.ntmps25
  go_wp2_with fail
  go_ret
  exact ⟨rfl, balloc _ _⟩
theorem cprint_any (nm : List UInt8) (op k n : Int) (x : Nat) (t : List UInt8) (y : Bool) (w : World) (hw : Words w) (hT : Tab.Tabs w) (hnm : nm.length ≤ 1000000) (ht : t.length ≤ 90000) (hx : x < 18446744073709551616) (h0 : -9223372036854775808 ≤ n) (h1 : n ≤ 9223372036854775807) :
    Calls Tryz.prog 25 #[cond nm op k n x t y] w fun e w' => e = .returned (.string ⟨(cT ⟨nm, op, k, n, x, t, y⟩).toArray⟩) ∧ Below w.heap.size w w' := by
  by_cases h7 : op = 7
  · subst h7
    exact cprint_has nm k n x t y w hnm
  · have e7 : (op == 7) = false := by simpa using h7
    have hl := vT_len ⟨k, n, x, t, y⟩ h0 h1
    have e : cT ⟨nm, op, k, n, x, t, y⟩ = nm ++ [32] ++ wordB op ++ [32] ++ vT ⟨k, n, x, t, y⟩ := by unfold cT; rw [e7]; rfl
    rw [e]
    exact cprint_in nm op k n x t y _ w hw e7 hnm (by simp only at hl; omega) (fun w1 hb => vprint_any k n x t y w1 hx h0 h1 (by omega) (hT.below hb (Nat.le_refl _)))
end Go.Proofs.YtnccpddjdgndcaaGreatDoor.Val
end

section
/- THE WALK OF filter.Norm's comparison: by the conditions' texts. -/
namespace Go.Proofs.YtnccpddjdgndcaaGreatDoor.Val
open Go.RowKit Flt
/-- a condition that is not long, whose numbers are words -/
def CSmall (c : C) : Prop := c.name.length ≤ 1000 ∧ c.val.text.length ≤ 1000 ∧ c.val.num < 18446744073709551616 ∧ -9223372036854775808 ≤ c.val.int ∧ c.val.int ≤ 9223372036854775807
/-- how two conditions stand -/
def cmpC (a b : C) : Int := Lib.compareBytes (cT a) (cT b)
end Go.Proofs.YtnccpddjdgndcaaGreatDoor.Val
end

section
/- CONDITIONS IN A ROW, and how the library sorts a short row: plain, and in memory. No walk. -/
namespace Go.Proofs.YtnccpddjdgndcaaGreatDoor.Val
open Go.RowKit Flt
def cells7 (c : C) : List Value := [.string ⟨c.name.toArray⟩, .int .i64 c.op, .int .i64 c.val.kind, .int .i64 c.val.int, .float .f64 c.val.num, .string ⟨c.val.text.toArray⟩, .bool c.val.yes]
def flatC (l : List C) : List Value := l.flatMap cells7
theorem flatC_len (l : List C) : (flatC l).length = l.length * 7 := by
  induction l with
  | nil => rfl
  | cons v l ih => unfold flatC at *; rw [List.flatMap_cons, List.length_append, ih]; simp [cells7]; omega
theorem flatC_at : ∀ (l : List C) (i j : Nat) (hi : i < l.length), j < 7 → (flatC l)[i * 7 + j]? = (cells7 l[i])[j]?
  | v :: l, 0, j, _, hj => by
    unfold flatC; rw [List.flatMap_cons, List.getElem?_append_left (by simp [cells7]; omega)]; simp
  | v :: l, i + 1, j, hi, hj => by
    unfold flatC; rw [List.flatMap_cons, List.getElem?_append_right (by simp [cells7]; omega)]
    have e : (i + 1) * 7 + j - (cells7 v).length = i * 7 + j := by simp [cells7]; omega
    rw [e]
    exact flatC_at l i j (by simpa using hi) hj
theorem flatC_one (l : List C) : ∀ u ∈ flatC l, u.oneCell' = true := by
  intro u hu
  obtain ⟨v, _, hv⟩ := List.mem_flatMap.1 hu
  simp only [cells7, List.mem_cons, List.not_mem_nil, or_false] at hv
  rcases hv with rfl | rfl | rfl | rfl | rfl | rfl | rfl <;> rfl
theorem flatC_app (l : List C) (a : C) : flatC (l ++ [a]) = flatC l ++ flatC [a] := by simp [flatC]
/-- a row of conditions, in a block of its own, Z behind -/
def Row (w : World) (g : Nat) (l : List C) (Z : List Value) : Prop := w.heap[g]? = some (.cells (flatC l ++ Z).toArray 41 (0, 0))
theorem Row.at {w : World} {g : Nat} {l : List C} {Z : List Value} (h : Row w g l Z) (i j : Nat) (hi : i < l.length) (hj : j < 7) : w.cell? ⟨g, i * 7 + j, none⟩ = (cells7 l[i])[j]? := by
  have hl := flatC_len l
  rw [cell_of_row w g _ _ _ _ h]
  rw [List.getElem?_toArray, List.getElem?_append_left (by omega), flatC_at l i j hi hj]
theorem Row.lt {w : World} {g : Nat} {l : List C} {Z : List Value} (h : Row w g l Z) : g < w.heap.size := (Array.getElem?_eq_some_iff.1 h).1
theorem Row.below {w w2 : World} {g : Nat} {l : List C} {Z : List Value} {B : Nat} (h : Row w g l Z) (hb : Below B w w2) (hg : g < B) : Row w2 g l Z := (hb.block g hg).trans h
theorem setCell_row {w : World} {g : Nat} {cs : Array Value} {t : TypeId} {fz : Nat × Nat} (h : w.heap[g]? = some (.cells cs t fz)) (o : Nat) (v : Value) :
    (w.setCell ⟨g, o, none⟩ v).heap[g]? = some (.cells (cs.setIfInBounds o v) t fz) := by
  unfold World.setCell
  simp [Array.getElem?_modify, h]
theorem set_mid (P Q : List Value) (x0 x1 x2 x3 x4 x5 x6 v0 v1 v2 v3 v4 v5 v6 : Value) (n : Nat) (hn : P.length = n) :
    (((((((P ++ x0 :: x1 :: x2 :: x3 :: x4 :: x5 :: x6 :: Q).set n v0).set (n + 1) v1).set (n + 2) v2).set (n + 3) v3).set (n + 4) v4).set (n + 5) v5).set (n + 6) v6 =
      P ++ v0 :: v1 :: v2 :: v3 :: v4 :: v5 :: v6 :: Q := by
  subst hn
  have e : ∀ (k : Nat) (L : List Value) (v : Value), (P ++ L).set (P.length + k) v = P ++ L.set k v := fun k L v => by
    rw [List.set_append_right _ _ (by omega)]
    congr 2
    omega
  have e0 : ∀ (L : List Value) (v : Value), (P ++ L).set P.length v = P ++ L.set 0 v := fun L v => e 0 L v
  rw [e0, e, e, e, e, e, e]
  rfl
/-- seven cells stored -/
def put7 (w : World) (g o : Nat) (c : C) : World :=
  ((((((w.setCell ⟨g, o, none⟩ (.string ⟨c.name.toArray⟩)).setCell ⟨g, o + 1, none⟩ (.int .i64 c.op)).setCell ⟨g, o + 2, none⟩ (.int .i64 c.val.kind)).setCell ⟨g, o + 3, none⟩ (.int .i64 c.val.int)).setCell ⟨g, o + 4, none⟩ (.float .f64 c.val.num)).setCell ⟨g, o + 5, none⟩ (.string ⟨c.val.text.toArray⟩)).setCell ⟨g, o + 6, none⟩ (.bool c.val.yes)
theorem store7 {w : World} {g : Nat} {cs : Array Value} {t : TypeId} {fz : Nat × Nat} (h : w.heap[g]? = some (.cells cs t fz)) (o : Nat) (c : C) :
    (put7 w g o c).heap[g]? = some (.cells (((((((cs.setIfInBounds o (.string ⟨c.name.toArray⟩)).setIfInBounds (o + 1) (.int .i64 c.op)).setIfInBounds (o + 2) (.int .i64 c.val.kind)).setIfInBounds (o + 3) (.int .i64 c.val.int)).setIfInBounds (o + 4) (.float .f64 c.val.num)).setIfInBounds (o + 5) (.string ⟨c.val.text.toArray⟩)).setIfInBounds (o + 6) (.bool c.val.yes)) t fz) :=
  setCell_row (setCell_row (setCell_row (setCell_row (setCell_row (setCell_row (setCell_row h o _) _ _) _ _) _ _) _ _) _ _) _ _
theorem flatC_split (l : List C) (j : Nat) (hj : j < l.length) : flatC l = flatC (l.take j) ++ (cells7 l[j] ++ flatC (l.drop (j + 1))) := by
  have e : l = l.take j ++ l[j] :: l.drop (j + 1) := by
    rw [← List.drop_eq_getElem_cons hj, List.take_append_drop]
  rw [show flatC l = flatC (l.take j ++ l[j] :: l.drop (j + 1)) from congrArg flatC e]
  unfold flatC
  rw [List.flatMap_append, List.flatMap_cons]
theorem Row.put {w : World} {g : Nat} {l : List C} {Z : List Value} (h : Row w g l Z) (j : Nat) (hj : j < l.length) (c : C) : Row (put7 w g (j * 7) c) g (l.set j c) Z := by
  refine (store7 h (j * 7) c).trans (congrArg (fun z => some (Obj.cells z 41 (0, 0))) (Array.ext' ?_))
  simp only [Array.toList_setIfInBounds]
  rw [flatC_split l j hj, flatC_split (l.set j c) j (by simpa using hj)]
  have hp : (flatC (l.take j)).length = j * 7 := by rw [flatC_len, List.length_take]; rw [Nat.min_eq_left (by omega)]
  have e1 : (l.set j c).take j = l.take j := List.take_set_of_le (Nat.le_refl _)
  have e2 : (l.set j c).drop (j + 1) = l.drop (j + 1) := List.drop_set_of_lt (by omega)
  have e3 : (l.set j c)[j]'(by simpa using hj) = c := List.getElem_set_self ..
  rw [e1, e2, e3]
  simp only [cells7, List.append_assoc, List.cons_append, List.nil_append]
  exact set_mid _ _ _ _ _ _ _ _ _ _ _ _ _ _ _ _ _ hp
/-- two neighbours change places -/
def swp (L : List C) (j : Nat) : List C := (L.set (j + 1) L[j]!).set j L[j + 1]!
/-- one goes down as far as it is below its neighbour -/
def bub : List C → Nat → List C
  | L, 0 => L
  | L, j + 1 => if cmpC L[j + 1]! L[j]! < 0 then bub (swp L j) j else L
/-- the first i + 1 are brought in order -/
def isort (L : List C) : Nat → List C
  | 0 => L
  | i + 1 => bub (isort L i) (i + 1)
end Go.Proofs.YtnccpddjdgndcaaGreatDoor.Val
end

section
/- THE WALK OF the library's insertion sort over a row of conditions, and of SortStableFunc at a short row. -/
namespace Go.Proofs.YtnccpddjdgndcaaGreatDoor.Val
open Go.RowKit Flt
attribute [local go_sem] run_store_flt
end Go.Proofs.YtnccpddjdgndcaaGreatDoor.Val
end

section
/- THE WALK OF filter.needless: does another condition imply one? -/
namespace Go.Proofs.YtnccpddjdgndcaaGreatDoor.Val
open Go.RowKit Flt
attribute [local go_sem] run_store_flt
end Go.Proofs.YtnccpddjdgndcaaGreatDoor.Val
end

section
/- THE WALK OF filter.Norm. -/
namespace Go.Proofs.YtnccpddjdgndcaaGreatDoor.Val
open Go.RowKit Flt
def sortC (L : List C) : List C := isort L (L.length - 1)
theorem info_cond : (Tryz.prog.info? 41).map (fun i => (i.zero, i.size, i.bytes)) = some (some (.agg #[.string .empty, .int .i64 0, .int .i64 0, .int .i64 0, .float .f64 0, .string .empty, .bool false]), 7, 72) := by kernel_rfl
theorem new_cond (w : World) (g : Nat) (hg : g = w.heap.size) (c : C) (e : TypeId) : ∀ j u, (flatC [c])[j]? = some u → (w.alloc (.cells #[.string ⟨c.name.toArray⟩, .int .i64 c.op, .int .i64 c.val.kind, .int .i64 c.val.int, .float .f64 c.val.num, .string ⟨c.val.text.toArray⟩, .bool c.val.yes] e)).cell? ((⟨g, 0, none⟩ : Addr).add j) = some u := by
  subst hg
  intro j u hj
  have hadd : (⟨w.heap.size, 0, none⟩ : Addr).add j = ⟨w.heap.size, j, none⟩ := by unfold Addr.add; split <;> simp_all
  rw [hadd]
  simpa [flatC, cells7, go_sem] using hj
theorem canon_small {c : C} (h : CSmall c ∧ 0 ≤ c.op ∧ c.op ≤ 7) : CSmall (canonC c) ∧ 0 ≤ (canonC c).op ∧ (canonC c).op ≤ 7 := by
  obtain ⟨nm, op, k, n, x, t, y⟩ := c
  obtain ⟨⟨h1, h2, h3, h4, h5⟩, h6, h7⟩ := h
  simp only at h1 h2 h3 h4 h5 h6 h7
  unfold canonC
  split
  · exact ⟨⟨h1, by show 0 ≤ _; omega, by show 0 < _; omega, by show _ ≤ (0 : Int); omega, by show (0 : Int) ≤ _; omega⟩, by show (0 : Int) ≤ 7; omega, by show (7 : Int) ≤ 7; omega⟩
  · have hv : (canonV ⟨k, n, x, t, y⟩).text.length ≤ 1000 ∧ (canonV ⟨k, n, x, t, y⟩).num < 18446744073709551616 ∧ -9223372036854775808 ≤ (canonV ⟨k, n, x, t, y⟩).int ∧ (canonV ⟨k, n, x, t, y⟩).int ≤ 9223372036854775807 := by
      unfold canonV
      split
      · exact ⟨by show 0 ≤ _; omega, by show 0 < _; omega, h4, h5⟩
      · split
        · exact ⟨by show 0 ≤ _; omega, canon_lt x h3, by show _ ≤ (0 : Int); omega, by show (0 : Int) ≤ _; omega⟩
        · split
          · exact ⟨h2, by show 0 < _; omega, by show _ ≤ (0 : Int); omega, by show (0 : Int) ≤ _; omega⟩
          · split <;> exact ⟨by show 0 ≤ _; omega, by show 0 < _; omega, by show _ ≤ (0 : Int); omega, by show (0 : Int) ≤ _; omega⟩
    exact ⟨⟨h1, hv.1, hv.2.1, hv.2.2.1, hv.2.2.2⟩, h6, h7⟩
theorem own_conds {w : World} {v : Value} {l : List C} {base : Nat} (h : w.ownsRow base 41 7 v l.length (flatC l)) :
    ∃ b0 cap, v = .slice b0 l.length cap ∧ Conds w b0 l := by
  rcases h.2 with ⟨rfl, h0⟩ | ⟨g, cp, cur, rfl, hb, hg, hh⟩
  · have : l = [] := List.eq_nil_of_length_eq_zero h0
    subst this
    exact ⟨none, 0, rfl, fun i hi => absurd hi (Nat.not_lt_zero _)⟩
  · refine ⟨some ⟨g, 0, none⟩, cp, rfl, fun i hi => ⟨_, rfl, ?_⟩⟩
    have k : ∀ j (hj : j < 7), w.cell? ⟨g, i * 7 + j, none⟩ = (cells7 l[i])[j]? := by
      intro j hj
      have hl := flatC_len l
      have hm := flatC_at l i j hi hj
      have hc : (cells7 l[i])[j]? = some ((cells7 l[i])[j]'(by simpa [cells7] using hj)) := by simp
      rw [hc] at hm ⊢
      have := h.cells rfl (i * 7 + j) _ hm
      have hadd : (⟨g, 0, none⟩ : Addr).add (i * 7 + j) = ⟨g, i * 7 + j, none⟩ := by unfold Addr.add; split <;> simp_all
      rw [← hadd]; exact this
    have hadd : (⟨g, 0, none⟩ : Addr).add (i * 7) = ⟨g, i * 7, none⟩ := by unfold Addr.add; split <;> simp_all
    rw [hadd]
    exact ⟨k 0 (by decide), k 1 (by decide), k 2 (by decide), k 3 (by decide), k 4 (by decide), k 5 (by decide), k 6 (by decide)⟩
theorem own_low7 {W W2 : World} {base e size : Nat} {v : Value} {n : Nat} {xs : List Value} (h : W.ownsRow base e size v n xs) (hb : Below W.heap.size W W2) : W2.ownsRow base e size v n xs :=
  Fmt.own_low h hb (fun k hk => (h.lt k hk).2)
attribute [local go_sem] run_store_flt
end Go.Proofs.YtnccpddjdgndcaaGreatDoor.Val
end

section
/- THE WALK OF filter.Print, over whatever cond.Print writes. -/
namespace Go.Proofs.YtnccpddjdgndcaaGreatDoor.Val
open Go.RowKit Flt
attribute [local go_sem] run_store_flt
def fprK (sc : List UInt8) (l : List C) (pr : C → List UInt8) : Nat → List UInt8
  | 0 => sc ++ [58]
  | k + 1 => (fprK sc l pr k ++ (if k = 0 then [] else [32, 38])) ++ ([32] ++ pr l[k]!)
theorem fprK_len (sc : List UInt8) (l : List C) (pr : C → List UInt8) (B : Nat) (k : Nat) (h : ∀ i, i < k → (pr l[i]!).length ≤ B) : (fprK sc l pr k).length ≤ sc.length + 1 + k * (B + 3) := by
  induction k with
  | zero => simp [fprK]
  | succ k ih =>
    have h1 := ih (fun i hi => h i (by omega))
    have h2 := h k (by omega)
    unfold fprK
    simp only [List.length_append, List.length_cons, List.length_nil]
    have h3 : (if k = 0 then ([] : List UInt8) else [32, 38]).length ≤ 2 := by split <;> simp
    rw [Nat.succ_mul]
    omega
set_option maxHeartbeats 2000000 in
theorem fprint_any (sf : List UInt8) (a0 : Option Addr) (cap : Nat) (l : List C) (pr : C → List UInt8) (w : World) (hw : Words w) (hl : Conds w a0 l) (hlm : l.length ≤ 20) (hsf : sf.length ≤ 1000000) (hpl : ∀ c ∈ l, (pr c).length ≤ 100000)
    (hp : ∀ c ∈ l, ∀ W, Words W → Below w.heap.size w W → Calls Tryz.prog 25 #[cc c] W fun e w' => e = .returned (.string ⟨(pr c).toArray⟩) ∧ Below W.heap.size W w') :
    Calls Tryz.prog 20 #[ev sf a0 l.length cap] w fun e w' => e = .returned (.string ⟨(fprK sf l pr l.length).toArray⟩) ∧ Below w.heap.size w w' := by
  have hfl (k : Nat) (h : k ≤ l.length) : (fprK sf l pr k).length ≤ 3000100 := by
    have := fprK_len sf l pr 100000 k (fun i hi => by
      rw [getElem!_pos l i (by omega)]; exact hpl _ (List.getElem_mem _))
    have h2 : k * 100003 ≤ 20 * 100003 := Nat.mul_le_mul_right _ (by omega)
    omega
  have h0 : fprK sf l pr 0 = sf ++ [58] := rfl
  have hst (k : Nat) (h : k < l.length) : fprK sf l pr (k + 1) = (fprK sf l pr k ++ (if k = 0 then [] else [32, 38])) ++ ([32] ++ pr l[k]) := by
    conv => lhs; unfold fprK
    rw [getElem!_pos l k h]
  have HL := Lib.hid hl; have HP := Lib.hid hp; have HW := Lib.hid hw; have HFL := Lib.hid hfl; have HST := Lib.hid hst; have HPL := Lib.hid hpl
  clear hl hp hw hfl hst hpl
  generalize hF : fprK sf l pr = F at *
  have r1 : ∀ w, (Op.stringOp .add ⟨sf.toArray⟩ ⟨#[58]⟩).run Tryz.prog w = .ok (.string ⟨(F 0).toArray⟩) w := fun w => by rw [h0]; exact run_string_add_lists w sf [58] (by omega) (by simp)
  clear hF h0
  go_enter Tryz.func20, Tryz.ntmps20
  go_wp2_with fail
  have hx1 := box2_new w sf a0 l.length cap 35
  have hbw := balloc w (.cells #[.string ⟨sf.toArray⟩, .slice a0 l.length cap] 35)
  have HX1 := Lib.hid hx1; have HBW := Lib.hid hbw
  clear hx1 hbw r1
  generalize w.alloc _ = W0 at *
  go_loopw [3, 12] (fun vs vi wr => ∃ k : Nat, k ≤ l.length ∧ vs = .string ⟨(F k).toArray⟩ ∧ vi = .int .i64 k ∧ Below W0.heap.size W0 wr) (fun _ vi _ => l.length - (intOf vi).toNat)
  case atStart => exact ⟨0, Nat.zero_le _, rfl, rfl, Below.refl _ _⟩
  case round =>
    obtain ⟨k, hk, rfl, rfl, hbr⟩ := hrel
    have hbz := btrans HBW.out hbr
    have HBZ := Lib.hid hbz; have HBR := Lib.hid hbr
    clear hbz hbr
    by_cases hlt : k < l.length
    · have i1 : (k : Int) < (l.length : Int) := by omega
      have i0 : (0 : Int) ≤ (k : Int) := by omega
      have hl1 := HFL.out k hk
      have hl2 := HPL.out _ (List.getElem_mem hlt)
      have hs := HST.out k hlt
      obtain ⟨a, rfl, v0, v1, v2, v3, v4, v5, v6⟩ := (HL.out.below HBZ.out) k hlt
      have hpc := HP.out _ (List.getElem_mem hlt)
      generalize hT : F (k + 1) = T at *
      have HT := Lib.hid hT; clear hT
      generalize F k = S at *
      generalize pr l[k] = p at *
      have HPC := Lib.hid hpc
      clear hpc
      obtain ⟨y1, hy1⟩ : ∃ y, y = [32] ++ p := ⟨_, rfl⟩
      have r1 : ∀ w, (Op.stringOp .add ⟨#[32]⟩ ⟨p.toArray⟩).run Tryz.prog w = .ok (.string ⟨y1.toArray⟩) w := fun w => by rw [hy1]; exact run_string_add_lists w [32] p (by simp) (by omega)
      have l1 : y1.length = p.length + 1 := by rw [hy1]; simp
      rw [← hy1] at hs
      by_cases hk0 : k = 0
      · rw [if_pos hk0, List.append_nil] at hs
        have k0 : ¬ (0 : Int) < (k : Int) := by omega
        clear hk0
        have r2 : ∀ w, (Op.stringOp .add ⟨S.toArray⟩ ⟨y1.toArray⟩).run Tryz.prog w = .ok (.string ⟨T.toArray⟩) w := fun w => by rw [hs]; exact run_string_add_lists w S y1 (by omega) (by omega)
        clear hy1 hs l1
        go_wp2_with (go_at_call 25; refine (HPC.out _ ((HW.out.below HBZ.out).below (balloc _ _)) (btrans HBZ.out (balloc _ _))).mono ?_; rintro e w5 ⟨rfl, hb5⟩)
        exact ⟨⟨k + 1, by omega, by rw [HT.out], by go_num, btrans (btrans HBR.out (balloc _ _)) hb5⟩, by simp [intOf]; go_num⟩
      · rw [if_neg hk0] at hs
        have k0 : (0 : Int) < (k : Int) := by omega
        obtain ⟨y2, hy2⟩ : ∃ y, y = S ++ [32, 38] := ⟨_, rfl⟩
        have r2 : ∀ w, (Op.stringOp .add ⟨S.toArray⟩ ⟨#[32, 38]⟩).run Tryz.prog w = .ok (.string ⟨y2.toArray⟩) w := fun w => by rw [hy2]; exact run_string_add_lists w S [32, 38] (by omega) (by simp)
        have l2 : y2.length = S.length + 2 := by rw [hy2]; simp
        rw [← hy2] at hs
        have r3 : ∀ w, (Op.stringOp .add ⟨y2.toArray⟩ ⟨y1.toArray⟩).run Tryz.prog w = .ok (.string ⟨T.toArray⟩) w := fun w => by rw [hs]; exact run_string_add_lists w y2 y1 (by omega) (by omega)
        clear hy1 hy2 hs l1 l2
        go_wp2_with (go_at_call 25; refine (HPC.out _ ((HW.out.below HBZ.out).below (balloc _ _)) (btrans HBZ.out (balloc _ _))).mono ?_; rintro e w5 ⟨rfl, hb5⟩)
        exact ⟨⟨k + 1, by omega, by rw [HT.out], by go_num, btrans (btrans HBR.out (balloc _ _)) hb5⟩, by simp [intOf]; go_num⟩
    · obtain rfl : k = l.length := by omega
      go_wp2
      go_ret
      exact ⟨rfl, HBZ.out⟩
end Go.Proofs.YtnccpddjdgndcaaGreatDoor.Val
end
