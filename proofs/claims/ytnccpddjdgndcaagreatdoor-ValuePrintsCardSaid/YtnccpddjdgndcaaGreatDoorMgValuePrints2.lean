/- MERGED BY A PROGRAM OF MINE (pmg.py) out of my own texts, pruned, in their order: UqG, UqH, CondFit, Fit02, ReadT, CPrint, RdT, RfFn, RfForm, PfA, PfB, PfC, PfD, RdN, Canon, OrdKey, Same, VInj, VBack, VPrints, VPrAny. -/
import Derived.Test.YtnccpddjdgndcaaGreatDoorMgValuePrints1
import Derived.Test.YtnccpddjdgndcaaGreatDoorFmtP
import Derived.Test.YtnccpddjdgndcaaGreatDoorCond
import Derived.RegionCalls
import Derived.Deep.RegionWith
import Derived.Deep.RegionHeld3
import Derived.Test.YtnccpddjdgndcaaGreatDoorFmtW
import Derived.Test.YtnccpddjdgndcaaGreatDoorRfDef
import Derived.Test.YtnccpddjdgndcaaGreatDoorRfD
import Derived.Lib.ParseIntBTie
import Derived.Lib.AtoiAllCases
import Derived.Lib.ItoaLen
import Derived.Handy
import Derived.Laws.IdiomCopy
import Derived.Test.YtnccpddjdgndcaaGreatDoorOrd

section
/- THE WALK OF strconv.unquote AT ANY TEXT THAT A QUOTE BEGINS (the slow road). -/
namespace Go.Proofs.YtnccpddjdgndcaaGreatDoor.Unq
open Go.RowKit Go.Lib Go.Proofs.YtnccpddjdgndcaaGreatDoor.Quo
def szOf : Value → Nat
  | .string s => s.size
  | _ => 0
theorem st_pass {w0 W W2 : World} {base : Nat} {v : Value} {txt : List UInt8} (h : Fmt.St w0 W base none v txt) (hb : Below W.heap.size W W2) : Fmt.St w0 W2 base none v txt :=
  ⟨Fmt.own_low h.own hb h.own_lt, fun p hp => (by cases hp), h.low.trans (hb.mono h.size), Nat.le_trans h.size hb.size⟩
theorem err_below {w w' : World} (h : ErrS w) (hb : Below w.heap.size w w') : ErrS w' := by
  obtain ⟨t, x, h⟩ := h
  exact ⟨t, x, Tab.cell_below hb (Nat.le_refl _) h⟩
theorem idx_in (k : UInt8) (a : List UInt8) (hk : k ≠ 34) : (Lib.indexByte (34 :: (a ++ [34])) k != -1) = decide (k ∈ a) := by
  by_cases h : k ∈ a
  · obtain ⟨x, y, e, _, hi⟩ := ix_cases k (34 :: (a ++ [34])) (by simp [h])
    rw [hi, decide_eq_true h]
    simp
  · rw [ix_none _ k (by simp [h, hk]), decide_eq_false h]
    rfl
theorem conv_back {w W : World} {base : Nat} {v : Value} {out : List UInt8} (h : Fmt.St w W base none v out) : (convert 95 9 v).run Tryz.prog W = .ok (.string ⟨out.toArray⟩) W := by
  rcases Go.Joins.ownsRow_forms h.own with ⟨e, e0⟩ | ⟨g, cap, e⟩
  · have : out = [] := List.length_eq_zero_iff.1 e0
    subst e this
    rw [run_convert_bytes_string W 95 9 5 none 0 0 Tryz.underlying95 Tryz.underlying5 Tryz.underlying9]
    rfl
  · have ho := h.own
    rw [e] at ho
    subst e
    exact run_convert_bytes_back W 95 9 5 ⟨g, 0, none⟩ cap out Tryz.underlying95 Tryz.underlying5 Tryz.underlying9 (Fmt.own_cells ho)
theorem u8_wrap (v : Int) : IntKind.u8.wrap v = v % 256 := by go_num
theorem new_byte (w : World) (v : Int) (t : TypeId) : ∀ j u, [Fmt.e8 (tb (v % 256))][j]? = some u → (w.alloc (.cells #[.int .u8 (IntKind.u8.wrap v)] t)).cell? ((⟨w.heap.size, 0, none⟩ : Addr).add j) = some u := by
  have e : Fmt.e8 (tb (v % 256)) = .int .u8 (IntKind.u8.wrap v) := by
    show Value.int .u8 ((tb (v % 256)).toNat : Int) = _
    rw [tb_nat (by omega) (by omega), u8_wrap]
  rw [e]
  exact Fmt.cells_new1 w _ t
set_option maxRecDepth 20000 in
set_option maxHeartbeats 4000000 in
/-- the slow road: a text's index of the next quote is there, and it is not plain -/
theorem unq_slow (s t u : ByteArray) (n : Nat) (H : Option (List UInt8 × List UInt8)) (b92 b10 bv : Bool) (hq : (!b92 && !b10 && bv) = false) (hs : s.size ≤ 10000) (h0 : 0 < s.size) (h34 : ((s[0]'h0).toNat : Int) = 34) (ht : s.extract 1 s.size = t) (hn : n + 2 ≤ s.size)
    (hts : t.size + 1 = s.size) (hix : Lib.indexByte t.data.toList 34 = (n : Int)) (hu : s.extract 0 (n + 2) = u) (hc1 : (Lib.indexByte u.data.toList 92 != -1) = b92) (hc2 : (Lib.indexByte u.data.toList 10 != -1) = b10)
    (hv : Lib.validD (s.extract 1 (n + 1)).data.toList = bv) (hH : uqGo (t.size + 1) t.data.toList [] = H) (w : World) (hE : ErrS w) (hT : Tab.Tabs w) :
    Calls Tryz.prog 46 #[.string s, .bool true] w fun e w' => UnR s H e ∧ Below w.heap.size w w' := by
  obtain ⟨i0, hi, hz0, hz1, hz2⟩ := info_parts Fmt.info_u8
  have hxs : (s.extract 1 (n + 1)).size ≤ 1000000 := by simp [ByteArray.size_extract]; omega
  have hva := fun W (hW : Lib.Utf8Tabs 3 4 W) => (Go.Proofs.Any.utf8_ValidString Tryz.lays196 (s.extract 1 (n + 1)) W (by omega) hW)
  rw [hv] at hva
  have hd1 := fun W => contains_of u 92 b92 (by rw [show ((92 : Int).toNat.toUInt8) = 92 from rfl]; exact hc1) W
  have hd2 := fun W => contains_of u 10 b10 (by rw [show ((10 : Int).toNat.toUInt8) = 10 from rfl]; exact hc2) W
  have hin := fun W => index_any t 34 W
  rw [show ((34 : Int).toNat.toUInt8) = 34 from rfl, hix] at hin
  have HVA := Lib.hid hva; have HD1 := Lib.hid hd1; have HD2 := Lib.hid hd2; have HIN := Lib.hid hin; have HT := Lib.hid hT; have HE := Lib.hid hE; have HH := Lib.hid hH
  obtain ⟨c, hcap⟩ : ∃ c : Nat, 3 * ((n : Int) + 2) / 2 = (c : Int) := ⟨3 * (n + 2) / 2, by omega⟩
  have hcb : c ≤ 100000 := by omega
  have j0 : (0 : Int) < (s.size : Int) := by omega
  have j1 : (1 : Int) ≤ (s.size : Int) := by omega
  have j2 : ¬ (s.size : Int) < 2 := by omega
  have j3 : (n : Int) + 2 ≤ (s.size : Int) := by omega
  have j4 : (0 : Int) ≤ (n : Int) + 2 := by omega
  have j5 : ¬ (n : Int) < 0 := by omega
  clear hva hd1 hd2 hin hT hE hH hv hc1 hc2 hix
  go_enter Tryz.func46, Tryz.ntmps46
  go_upto_region 25 with (first | (go_at_call 70; refine (HIN.out _).mono ?_; rintro e w' ⟨rfl, rfl⟩) | fail)
  go_cut [99] from 88 to 98 (fun v wx => v = .bool (!b92 && !b10) ∧ w = wx)
  case first => as_aux_lemma =>
    have ARM : True := trivial
    cases b92 <;> cases b10
    all_goals
      go_wp2_with (first | (go_at_call 71; ((with_reducible refine (HD1.out _).mono ?_); rintro e w' ⟨rfl, rfl⟩)) | (go_at_call 71; ((with_reducible refine (HD2.out _).mono ?_); rintro e w' ⟨rfl, rfl⟩)) | fail)
      go_meet
      exact ⟨rfl, rfl⟩
  case rest => as_aux_lemma =>
    obtain ⟨rfl, rfl⟩ := hcut
    go_upto_if 99 with fail
    go_cut [] from 99 to 143 (fun wx => Hid (Below w.heap.size w wx))
    case first => as_aux_lemma =>
      cases hqq : (!b92 && !b10)
      · go_wp2_with fail
        go_meet
        exact Lib.hid (Below.refl _ _)
      · rw [hqq, Bool.true_and] at hq
        subst hq
        go_wp2_with (first | (go_at_call 72; refine (HVA.out _ HT.out.utf).mono ?_; rintro e w1 ⟨rfl, hb1⟩) | fail)
        go_meet
        exact Lib.hid hb1
    case rest => as_aux_lemma =>
      have HBW := hcut
      go_wp2_with (first | (at_make; refine wpList_make_own _ rfl _ _ 95 rfl w.heap.size 5 i0 (.int .u8 0) 1 Tryz.underlying95 hi hz0 hz1 _ _ _ c rfl rfl (by first | rfl | assumption) (by rw [hz2]; omega) (by unfold maxLen; omega) HBW.out.size ?_; intro w1 hown hg) | fail)
      have HS1 := Lib.hid (⟨hown, fun p hp => (by cases hp), HBW.out.grown hg HBW.out.size (by intro k hk; cases hk), Nat.le_trans HBW.out.size hg.size⟩ : Fmt.St w w1 w.heap.size none _ [])
      clear hown hg
      go_loopw [0, 14] (fun v0 v14 wr => ∃ (q : ByteArray) (out : List UInt8) (g : Nat), v0 = .string q ∧ Hid (Fmt.St w wr w.heap.size none v14 out) ∧ q.size + 1 ≤ g ∧ q.size ≤ 10000 ∧ out.length + 4 * q.size ≤ 50000 ∧ Hid (uqGo g q.data.toList out = H)) (fun v0 _ _ => szOf v0)
      case atStart => exact ⟨t, [], t.size + 1, rfl, Lib.hid HS1.out, by omega, by omega, by simp; omega, Lib.hid HH.out⟩
      case round =>
        obtain ⟨q, out, g, rfl, HS, hg1, hq1, ho1, HG⟩ := hrel
        clear HS1
        obtain ⟨tE, xE, hc⟩ := err_below HE.out HS.out.low
        by_cases hq0 : q.size = 0
        · have k0 : ¬ (0 : Int) < (q.size : Int) := by omega
          have hg := HG.out
          have e0 : q.data.toList = [] := List.length_eq_zero_iff.1 (by rw [Array.length_toList]; exact hq0)
          rw [e0, show g = (g - 1) + 1 by omega, uqGo_nil] at hg
          have HN := Lib.hid hg.symm
          clear hg e0 hq0
          go_wp2_with fail
          go_quiet (fail)
          go_wp2_with fail
          refine bodyPost_ret (v := .tuple #[.string ⟨#[]⟩, .string s, .iface tE xE]) (by simp [results, Tryz.results46, go_sem]; try rfl) rfl ?_
          exact ⟨by rw [HN.out]; exact ⟨_, _, rfl⟩, Val.bdrewN HS.out.low nq⟩
        have hp : 0 < q.size := by omega
        have k0 : (0 : Int) < (q.size : Int) := by omega
        have eq0 := list_ne q hp
        by_cases b34 : ((q[0]'hp).toNat : Int) = 34
        · have hg := HG.out
          rw [eq0, show g = (g - 1) + 1 by omega, uqGo_end _ _ _ _ b34] at hg
          have HN := Lib.hid hg.symm
          have hx := ext_end q 1
          have HX := Lib.hid hx
          have k1 : (1 : Int) ≤ (q.size : Int) := by omega
          have b1 : (((q[0]'hp).toNat : Int) != 34) = false := by simp [b34]
          have b2 : (((q[0]'hp).toNat : Int) == 34) = true := by simp [b34]
          have hcv := conv_back HS.out
          clear hg hx eq0
          go_wp2_with fail
          refine bodyPost_ret (v := .tuple #[.string ⟨out.toArray⟩, .string (q.extract 1 q.size), .nilIface]) (by simp [results, Tryz.results46, go_sem]; try rfl) rfl ?_
          exact ⟨by rw [HN.out, HX.out]; rfl, HS.out.low⟩
        have b1 : (((q[0]'hp).toNat : Int) != 34) = true := by simpa using b34
        have hcall := uq_any q (by omega) wr (err_below HE.out HS.out.low) (HT.out.below HS.out.low (Nat.le_refl _))
        cases hu : uqc q.data.toList with
        | none =>
          rw [hu] at hcall
          have HC := Lib.hid hcall
          have hg := HG.out
          rw [eq0, show g = (g - 1) + 1 by omega, uqGo_none _ _ _ _ b34 (by rw [← eq0]; exact hu)] at hg
          have HN := Lib.hid hg.symm
          clear hg hcall eq0
          obtain ⟨b10, hb10⟩ : ∃ b, (((q[0]'hp).toNat : Int) == 10) = b := ⟨_, rfl⟩
          cases b10
          all_goals
            go_wp2_with (first | (go_at_call 74; refine HC.out.mono ?_; rintro e w1 ⟨⟨vv, mm, qq, tt, xx, rfl⟩, hb1⟩; obtain ⟨tF, xF, hcF⟩ := err_below HE.out (st_pass HS.out hb1).low) | fail)
            go_quiet (fail)
            go_wp2_with fail
            refine bodyPost_ret (v := .tuple #[.string ⟨#[]⟩, .string s, .iface tF xF]) (by simp [results, Tryz.results46, go_sem]; try rfl) rfl ?_
            exact ⟨by rw [HN.out]; exact ⟨_, _, rfl⟩, Val.bdrewN (st_pass HS.out hb1).low nq⟩
        | some x =>
          obtain ⟨v, mb, t2⟩ := x
          rw [hu] at hcall
          have HC := Lib.hid hcall
          have hbd := uqc_bds _ _ _ _ hu
          have hlq : q.data.toList.length = q.size := by rw [Array.length_toList]; rfl
          rw [hlq] at hbd
          by_cases h10 : ((q[0]'hp).toNat : Int) = 10
          · have hg := HG.out
            rw [eq0, show g = (g - 1) + 1 by omega, uqGo_nl _ _ _ _ b34 h10] at hg
            have HN := Lib.hid hg.symm
            have b10 : (((q[0]'hp).toNat : Int) == 10) = true := by simp [h10]
            clear hg hcall eq0 hlq
            go_wp2_with (first | (go_at_call 74; refine HC.out.mono ?_; rintro e w1 ⟨hR, hb1⟩; obtain rfl : e = _ := hR; obtain ⟨tF, xF, hcF⟩ := err_below HE.out (st_pass HS.out hb1).low) | fail)
            go_quiet (fail)
            go_wp2_with fail
            refine bodyPost_ret (v := .tuple #[.string ⟨#[]⟩, .string s, .iface tF xF]) (by simp [results, Tryz.results46, go_sem]; try rfl) rfl ?_
            exact ⟨by rw [HN.out]; exact ⟨_, _, rfl⟩, Val.bdrewN (st_pass HS.out hb1).low nq⟩
          · have hg := HG.out
            rw [eq0, show g = (g - 1) + 1 by omega, uqGo_some _ _ _ _ _ _ _ b34 h10 (by rw [← eq0]; exact hu)] at hg
            have b10 : (((q[0]'hp).toNat : Int) == 10) = false := by simpa using h10
            have hal := app_len v mb
            have ht2 : (⟨t2.toArray⟩ : ByteArray).size = t2.length := by show t2.toArray.size = _; simp
            by_cases hcase : v < 128 ∨ mb = false
            · have ha : app v mb = [tb (v % 256)] := by unfold app; rw [if_pos hcase]
              rw [ha] at hg hal
              have HG2 := Lib.hid hg
              have hmb : ((decide (v < 128)) || !mb) = true := by simpa using hcase
              clear hg hcall eq0 hlq ha hcase
              obtain ⟨bL, hbL⟩ : ∃ b, decide (v < 128) = b := ⟨_, rfl⟩
              rw [hbL] at hmb
              cases bL <;> cases mb
              case false.true => cases hmb
              all_goals
                try (have vL : ¬ v < 128 := by simpa using hbL)
                try (have vL : v < 128 := by simpa using hbL)
                clear hmb hbL
                go_wp2_with (first
                | (go_at_call 74; refine HC.out.mono ?_; rintro e w1 ⟨hR, hb1⟩; obtain rfl : e = _ := hR; have HS2 := Lib.hid (st_pass HS.out hb1))
                  | (at_builtin; refine wpList_byte rfl _ _ rfl (HS2.out.alloc _) _ 1 (tb (v % 256)) rfl (new_byte _ _ _) (by omega) ?_; intro v' w3 hs3) | fail)
                exact ⟨⟨⟨t2.toArray⟩, out ++ [tb (v % 256)], g - 1, rfl, Lib.hid hs3, by omega, by omega, by simp at hal ⊢; omega, HG2⟩, by simp [szOf]; omega⟩
            · have ha : app v mb = (encodeRuneZ v).map tb := by unfold app; rw [if_neg hcase]
              rw [ha] at hg hal
              have HG2 := Lib.hid hg
              have vL : ¬ v < 128 := fun h => hcase (Or.inl h)
              obtain rfl : mb = true := by
                cases mb
                · exact absurd (Or.inr rfl) hcase
                · rfl
              clear hg hcall eq0 hlq ha hcase
              go_wp2_with (first
                | (go_at_call 74; refine HC.out.mono ?_; rintro e w1 ⟨hR, hb1⟩; obtain rfl : e = _ := hR; have HS2 := Lib.hid (st_pass HS.out hb1))
                | (go_at_call 75; refine (Tryz.utf8_AppendRune_plain w.heap.size _ _ _ v (by omega) (by omega) _ HS2.out.own (by omega) HS2.out.size).mono ?_; rintro e w3 ⟨v', rfl, hown, oo, hg3⟩; have hs3 := st_rune HS2.out oo hown hg3) | fail)
              all_goals first
                | exact ⟨⟨⟨t2.toArray⟩, out ++ (encodeRuneZ v).map tb, g - 1, rfl, Lib.hid hs3, by omega, by omega, by rw [List.length_append]; omega, HG2⟩, by simp [szOf]; omega⟩
                | omega
                | trace_state
end Go.Proofs.YtnccpddjdgndcaaGreatDoor.Unq
end

section
/- THE WALKS OF strconv.unquote AND strconv.Unquote AT ANY TEXT THAT A DOUBLE QUOTE BEGINS. -/
namespace Go.Proofs.YtnccpddjdgndcaaGreatDoor.Unq
open Go.RowKit Go.Lib Go.Proofs.YtnccpddjdgndcaaGreatDoor.Quo
set_option maxRecDepth 20000 in
set_option maxHeartbeats 4000000 in
/-- the quick road, with what stands behind the second quote -/
theorem unq_quick (s t u bd rs : ByteArray) (n : Nat) (hs : s.size ≤ 10000) (h0 : 0 < s.size) (h34 : ((s[0]'h0).toNat : Int) = 34) (ht : s.extract 1 s.size = t) (hn : n + 2 ≤ s.size)
    (hix : Lib.indexByte t.data.toList 34 = (n : Int)) (hu : s.extract 0 (n + 2) = u) (hbd : s.extract 1 (n + 1) = bd) (hrs : s.extract (n + 2) s.size = rs) (hus : u.size = n + 2) (hc1 : (Lib.indexByte u.data.toList 92 != -1) = false) (hc2 : (Lib.indexByte u.data.toList 10 != -1) = false)
    (hv : Lib.validD bd.data.toList = true) (hbs : bd.size ≤ 10000) (hub : u.extract 1 (n + 1) = bd) (w : World) (hT : Tab.Tabs w) :
    Calls Tryz.prog 46 #[.string s, .bool true] w fun e w' => e = .returned (.tuple #[.string bd, .string rs, .nilIface]) ∧ Below w.heap.size w w' := by
  have hva := fun W (hW : Lib.Utf8Tabs 3 4 W) => (Go.Proofs.Any.utf8_ValidString Tryz.lays196 bd W (by omega) hW)
  rw [hv] at hva
  have hd1 := fun W => contains_of u 92 false (by rw [show ((92 : Int).toNat.toUInt8) = 92 from rfl]; exact hc1) W
  have hd2 := fun W => contains_of u 10 false (by rw [show ((10 : Int).toNat.toUInt8) = 10 from rfl]; exact hc2) W
  have hin := fun W => index_any t 34 W
  rw [show ((34 : Int).toNat.toUInt8) = 34 from rfl, hix] at hin
  have HVA := Lib.hid hva; have HD1 := Lib.hid hd1; have HD2 := Lib.hid hd2; have HIN := Lib.hid hin; have HT := Lib.hid hT
  have HUS := Lib.hid hus
  have j0 : (0 : Int) < (s.size : Int) := by omega
  have j1 : (1 : Int) ≤ (s.size : Int) := by omega
  have j2 : ¬ (s.size : Int) < 2 := by omega
  have j3 : (n : Int) + 2 ≤ (s.size : Int) := by omega
  have j4 : (0 : Int) ≤ (n : Int) + 2 := by omega
  have j5 : ¬ (n : Int) < 0 := by omega
  have j6 : (n : Int) + 2 ≤ (u.size : Int) := by omega
  have j7 : (n : Int) + 1 ≤ (u.size : Int) := by omega
  clear hva hd1 hd2 hin hT hv hc1 hc2 hix hus
  go_enter Tryz.func46, Tryz.ntmps46
  go_wp2_with (first
    | (go_at_call 70; refine (HIN.out _).mono ?_; rintro e w' ⟨rfl, rfl⟩)
    | (go_at_call 71; ((with_reducible refine (HD1.out _).mono ?_); rintro e w' ⟨rfl, rfl⟩))
    | (go_at_call 71; ((with_reducible refine (HD2.out _).mono ?_); rintro e w' ⟨rfl, rfl⟩))
    | (go_at_call 72; refine (HVA.out _ HT.out.utf).mono ?_; rintro e w1 ⟨rfl, hb1⟩) | fail)
  go_quiet (fail)
  go_wp2_with fail
  refine bodyPost_ret (v := .tuple #[.string bd, .string rs, .nilIface]) (by simp [results, Tryz.results46, go_sem]; exact ⟨hub, hrs⟩) rfl ?_
  exact ⟨rfl, Val.bdrewN hb1 nq⟩
set_option maxRecDepth 20000 in
set_option maxHeartbeats 4000000 in
/-- no second quote -/
theorem unq_open (s t : ByteArray) (hs : s.size ≤ 10000) (h0 : 0 < s.size) (h34 : ((s[0]'h0).toNat : Int) = 34) (ht : s.extract 1 s.size = t) (hix : Lib.indexByte t.data.toList 34 = -1) (w : World) (hE : ErrS w) :
    Calls Tryz.prog 46 #[.string s, .bool true] w fun e w' => UnR s none e ∧ Below w.heap.size w w' := by
  obtain ⟨tE, xE, hc⟩ := hE
  have hin := fun W => index_any t 34 W
  rw [show ((34 : Int).toNat.toUInt8) = 34 from rfl, hix] at hin
  have HIN := Lib.hid hin
  have j0 : (0 : Int) < (s.size : Int) := by omega
  have j1 : (1 : Int) ≤ (s.size : Int) := by omega
  clear hin hix
  by_cases h2 : s.size < 2
  · have j2 : (s.size : Int) < 2 := by omega
    go_enter Tryz.func46, Tryz.ntmps46
    go_wp2_with fail
    go_quiet (fail)
    go_wp2_with fail
    refine bodyPost_ret (v := .tuple #[.string ⟨#[]⟩, .string s, .iface tE xE]) (by simp [results, Tryz.results46, go_sem]; try rfl) rfl ?_
    exact ⟨⟨_, _, rfl⟩, Val.bdrewN (Below.refl _ _) nq⟩
  · have j2 : ¬ (s.size : Int) < 2 := by omega
    go_enter Tryz.func46, Tryz.ntmps46
    go_wp2_with (first | (go_at_call 70; refine (HIN.out _).mono ?_; rintro e w' ⟨rfl, rfl⟩) | fail)
    go_quiet (fail)
    go_wp2_with fail
    refine bodyPost_ret (v := .tuple #[.string ⟨#[]⟩, .string s, .iface tE xE]) (by simp [results, Tryz.results46, go_sem]; try rfl) rfl ?_
    exact ⟨⟨_, _, rfl⟩, Val.bdrewN (Below.refl _ _) nq⟩
theorem unquote_any (r : List UInt8) (hs : r.length ≤ 9000) (w : World) (hE : ErrS w) (hT : Tab.Tabs w) :
    Calls Tryz.prog 46 #[.string ⟨(34 :: r).toArray⟩, .bool true] w fun e w' => UnR ⟨(34 :: r).toArray⟩ (uqR r) e ∧ Below w.heap.size w w' := by
  have hz : (⟨(34 :: r).toArray⟩ : ByteArray).size = r.length + 1 := by show (34 :: r).toArray.size = _; simp
  have ht : (⟨(34 :: r).toArray⟩ : ByteArray).extract 1 (⟨(34 :: r).toArray⟩ : ByteArray).size = ⟨r.toArray⟩ := ext_end _ 1
  unfold uqR
  by_cases hm : (34 : UInt8) ∈ r
  · obtain ⟨a, b, rfl, ha, hi⟩ := ix_cases 34 r hm
    rw [List.length_append, List.length_cons] at hs hz
    rw [hi, if_neg (by omega)]
    have et : (a ++ 34 :: b).take a.length = a := List.take_left' rfl
    have ed : (a ++ 34 :: b).drop (a.length + 1) = b := by rw [← List.drop_drop, List.drop_left' rfl]; rfl
    rw [show (a.length : Int).toNat = a.length by omega, et, ed]
    have hu : (⟨(34 :: (a ++ 34 :: b)).toArray⟩ : ByteArray).extract 0 (a.length + 2) = ⟨(34 :: (a ++ [34])).toArray⟩ := by
      rw [ext_list2]
      congr 2
      rw [List.drop_zero, show 34 :: (a ++ 34 :: b) = (34 :: (a ++ [34])) ++ b by simp]
      exact List.take_left' (by simp)
    have hbd : (⟨(34 :: (a ++ 34 :: b)).toArray⟩ : ByteArray).extract 1 (a.length + 1) = ⟨a.toArray⟩ := by
      rw [ext_list2]
      congr 2
    have hrs : (⟨(34 :: (a ++ 34 :: b)).toArray⟩ : ByteArray).extract (a.length + 2) (⟨(34 :: (a ++ 34 :: b)).toArray⟩ : ByteArray).size = ⟨b.toArray⟩ := by
      rw [ext_end]
      congr 2
    have hus : (⟨(34 :: (a ++ [34])).toArray⟩ : ByteArray).size = a.length + 2 := by show (34 :: (a ++ [34])).toArray.size = _; simp
    have hub : (⟨(34 :: (a ++ [34])).toArray⟩ : ByteArray).extract 1 (a.length + 1) = ⟨a.toArray⟩ := by
      rw [ext_list2]
      congr 2
      exact List.take_left' (by simp)
    have has : (⟨a.toArray⟩ : ByteArray).size = a.length := by show a.toArray.size = _; simp
    have hts : (⟨(a ++ 34 :: b).toArray⟩ : ByteArray).size = a.length + 1 + b.length := by show (a ++ 34 :: b).toArray.size = _; simp; omega
    by_cases hq : 92 ∉ a ∧ 10 ∉ a ∧ Lib.validD a = true
    · rw [if_pos hq]
      exact unq_quick _ _ _ _ _ a.length (by omega) (by omega) rfl ht (by omega) hi hu hbd hrs hus (by rw [idx_in 92 a (by decide)]; simpa using hq.1) (by rw [idx_in 10 a (by decide)]; simpa using hq.2.1) hq.2.2 (by omega) hub w hT
    · rw [if_neg hq]
      refine unq_slow _ _ _ a.length _ (decide (92 ∈ a)) (decide (10 ∈ a)) (Lib.validD a) ?_ (by omega) (by omega) rfl ht (by omega) (by omega) hi hu (idx_in 92 a (by decide)) (idx_in 10 a (by decide)) (by rw [hbd]) ?_ w hE hT
      · by_cases q1 : 92 ∈ a
        · rw [decide_eq_true q1]; rfl
        · by_cases q2 : 10 ∈ a
          · rw [decide_eq_true q2]; simp
          · have : ¬ Lib.validD a = true := fun h => hq ⟨q1, q2, h⟩
            simp [this]
      · rw [hts, List.length_append, List.length_cons]
        rw [show a.length + 1 + b.length = a.length + (b.length + 1) by omega]
  · have hi := ix_none r 34 hm
    rw [hi, if_pos (by omega)]
    exact unq_open _ _ (by omega) (by omega) rfl ht hi w hE
set_option maxHeartbeats 1000000 in
theorem unqP_eq (r : List UInt8) : unqP r = match uqR r with | some (a, []) => some a | _ => none := by
  unfold unqP uqR
  split
  · rfl
  · simp only
    split
    · split
      · rename_i h; rw [h]
      · rename_i h
        split
        · rename_i e; injection e with e; injection e with e1 e2; exact absurd e2 h
        · rfl
    · split <;> simp_all
/-- what Unquote answers -/
def UQ (o : Option (List UInt8)) (e : Ending) : Prop :=
  match o with
  | none => ∃ (t : TypeId) (x : Value), e = .returned (.tuple #[.string ⟨#[]⟩, .iface t x])
  | some a => e = .returned (.tuple #[.string ⟨a.toArray⟩, .nilIface])
set_option maxRecDepth 20000 in
set_option maxHeartbeats 2000000 in
theorem Unquote_any (r : List UInt8) (hs : r.length ≤ 9000) (w : World) (hE : ErrS w) (hT : Tab.Tabs w) :
    Calls Tryz.prog 29 #[.string ⟨(34 :: r).toArray⟩] w fun e w' => UQ (unqP r) e ∧ Below w.heap.size w w' := by
  have hu := unquote_any r hs w hE hT
  have hc := fun w1 (h : Below w.heap.size w w1) => err_below hE h
  have HC := Lib.hid hc
  rw [unqP_eq]
  have hlen : 0 < (34 :: r).length := by simp
  generalize (34 :: r) = l at *
  generalize uqR r = o at *
  have HU := Lib.hid hu
  clear hu hc hE hT
  match o with
  | none =>
    go_enter Tryz.func29, Tryz.ntmps29
    go_wp2_with (first | (go_at_call 46; refine HU.out.mono ?_; rintro e w1 ⟨⟨tE, xE, rfl⟩, hb1⟩; obtain ⟨tF, xF, hcF⟩ := HC.out w1 hb1) | fail)
    go_quiet (fail)
    go_wp2_with fail
    refine bodyPost_ret (v := .tuple #[.string ⟨#[]⟩, .iface tF xF]) (by simp [results, Tryz.results29, go_sem]; try rfl) rfl ?_
    exact ⟨⟨_, _, rfl⟩, Val.bdrewN hb1 nq⟩
  | some (a, []) =>
    go_enter Tryz.func29, Tryz.ntmps29
    go_wp2_with (first | (go_at_call 46; refine HU.out.mono ?_; rintro e w1 ⟨hR, hb1⟩; obtain rfl : e = _ := hR) | fail)
    refine bodyPost_ret (v := .tuple #[.string ⟨a.toArray⟩, .nilIface]) (by simp [results, Tryz.results29, go_sem]; try rfl) rfl ?_
    exact ⟨rfl, hb1⟩
  | some (a, c :: b) =>
    have hz : (0 : Int) < ((⟨(c :: b).toArray⟩ : ByteArray).size : Int) := by
      have : (⟨(c :: b).toArray⟩ : ByteArray).size = b.length + 1 := by show (c :: b).toArray.size = _; simp
      omega
    generalize (⟨(c :: b).toArray⟩ : ByteArray) = q at *
    go_enter Tryz.func29, Tryz.ntmps29
    go_wp2_with (first | (go_at_call 46; refine HU.out.mono ?_; rintro e w1 ⟨hR, hb1⟩; obtain rfl : e = _ := hR; obtain ⟨tF, xF, hcF⟩ := HC.out w1 hb1) | fail)
    go_quiet (fail)
    go_wp2_with fail
    refine bodyPost_ret (v := .tuple #[.string ⟨#[]⟩, .iface tF xF]) (by simp [results, Tryz.results29, go_sem]; try rfl) rfl ?_
    exact ⟨⟨_, _, rfl⟩, Val.bdrewN hb1 nq⟩
end Go.Proofs.YtnccpddjdgndcaaGreatDoor.Unq
end

section
/- THE WALK OF the laws' fit of package cond: it prints 'a < 3'. -/
namespace Go.Proofs.YtnccpddjdgndcaaGreatDoor.Val
open Go.RowKit Flt
theorem run_store_flt (P : Program) (w : World) (a : Addr) (m : Mode) (k : FloatKind) (b : Nat) : (store a (.float k b) m).run P w = stored P w a (.float k b) m := run_store P w a _ m rfl
attribute [local go_sem] run_store_flt
theorem size1 {w w1 : World} {o : Obj} (hb : Below (w.alloc o).heap.size (w.alloc o) w1) : w.heap.size < w1.heap.size := Nat.lt_of_lt_of_le (by show w.heap.size < (w.alloc o).heap.size; simp) hb.size
end Go.Proofs.YtnccpddjdgndcaaGreatDoor.Val
end

section
/- THE WALK OF the fit of chapter 02's laws: it reads "3.0" and prints "a". -/
namespace Go.Proofs.YtnccpddjdgndcaaGreatDoor.Val
open Go.RowKit Flt
attribute [local go_sem] run_store_flt
/-- three, as a number -/
abbrev F3 : Nat := 4613937818241073152
theorem vT_3 : vT ⟨1, 0, F3, [], false⟩ = [51, 46, 48] := by decide +kernel
theorem vT_a : vT ⟨2, 0, 0, [97], false⟩ = [34, 97, 34] := by decide +kernel
theorem any3 (W : World) : Calls Tryz.prog 30 #[Pf.t3, .string ⟨#[46, 101, 73, 78]⟩] W fun e w' => e = .returned (.bool true) ∧ Below W.heap.size W w' :=
  (any_at [51, 46, 48] W (by decide) (by decide)).mono fun _ _ ⟨h1, h2⟩ => ⟨h1, h2⟩
theorem right3 (W : World) : Calls Tryz.prog 12 #[val 1 0 F3 [] false] W fun e w' => e = .returned (.bool true) ∧ Below W.heap.size W w' :=
  (vright_any 1 0 F3 [] false W (by decide)).mono fun _ _ ⟨h1, h2⟩ => ⟨h1, h2⟩
theorem print3 (W : World) (hT : Tab.Tabs W) : Calls Tryz.prog 13 #[val 1 0 F3 [] false] W fun e w' => e = .returned (.string ⟨#[51, 46, 48]⟩) ∧ Below W.heap.size W w' :=
  (vprint_any 1 0 F3 [] false W (by decide) (by decide) (by decide) (by decide) hT).mono fun _ _ ⟨h1, h2⟩ => ⟨by rw [h1, vT_3], h2⟩
theorem printa (W : World) (hT : Tab.Tabs W) : Calls Tryz.prog 13 #[val 2 0 0 [97] false] W fun e w' => e = .returned (.string ⟨#[34, 97, 34]⟩) ∧ Below W.heap.size W w' :=
  (vprint_any 2 0 0 [97] false W (by decide) (by decide) (by decide) (by decide) hT).mono fun _ _ ⟨h1, h2⟩ => ⟨by rw [h1, vT_a], h2⟩
theorem canon3 (W : World) : Calls Tryz.prog 32 #[.float .f64 F3] W fun e w' => e = .returned (.float .f64 F3) ∧ W = w' :=
  (Ord.canon_any F3 W).mono fun _ _ ⟨h1, h2⟩ => ⟨by rw [h1, show Ord.canon F3 = F3 by decide +kernel], h2⟩
theorem set5_at (w : World) (b : Nat) (v0 v1 v2 v3 v4 : Value) (h : ∀ j, j < 5 → (w.cell? ⟨b, j, none⟩).isSome = true) :
    (((((w.setCell ⟨b, 0, none⟩ v0).setCell ⟨b, 1, none⟩ v1).setCell ⟨b, 2, none⟩ v2).setCell ⟨b, 3, none⟩ v3).setCell ⟨b, 4, none⟩ v4).cell? ⟨b, 0, none⟩ = some v0 ∧
    (((((w.setCell ⟨b, 0, none⟩ v0).setCell ⟨b, 1, none⟩ v1).setCell ⟨b, 2, none⟩ v2).setCell ⟨b, 3, none⟩ v3).setCell ⟨b, 4, none⟩ v4).cell? ⟨b, 1, none⟩ = some v1 ∧
    (((((w.setCell ⟨b, 0, none⟩ v0).setCell ⟨b, 1, none⟩ v1).setCell ⟨b, 2, none⟩ v2).setCell ⟨b, 3, none⟩ v3).setCell ⟨b, 4, none⟩ v4).cell? ⟨b, 2, none⟩ = some v2 ∧
    (((((w.setCell ⟨b, 0, none⟩ v0).setCell ⟨b, 1, none⟩ v1).setCell ⟨b, 2, none⟩ v2).setCell ⟨b, 3, none⟩ v3).setCell ⟨b, 4, none⟩ v4).cell? ⟨b, 3, none⟩ = some v3 ∧
    (((((w.setCell ⟨b, 0, none⟩ v0).setCell ⟨b, 1, none⟩ v1).setCell ⟨b, 2, none⟩ v2).setCell ⟨b, 3, none⟩ v3).setCell ⟨b, 4, none⟩ v4).cell? ⟨b, 4, none⟩ = some v4 ∧
    Below b w (((((w.setCell ⟨b, 0, none⟩ v0).setCell ⟨b, 1, none⟩ v1).setCell ⟨b, 2, none⟩ v2).setCell ⟨b, 3, none⟩ v3).setCell ⟨b, 4, none⟩ v4) := by
  have e := World.cell?_setCells_in b [v0, v1, v2, v3, v4] 0 w (fun j hj => by rw [Nat.zero_add]; exact h j hj)
  exact ⟨e 0 (by simp), e 1 (by simp), e 2 (by simp), e 3 (by simp), e 4 (by simp),
    (((((Below.refl b w).setCell (Nat.le_refl _) _).setCell (Nat.le_refl _) _).setCell (Nat.le_refl _) _).setCell (Nat.le_refl _) _).setCell (Nat.le_refl _) _⟩
/-- two boxes laid one behind the other, seen from a later world -/
theorem two_box {w w1 : World} {A B : Array Value} {T U : TypeId} (hb : Below ((w.alloc (.cells A T)).alloc (.cells B U)).heap.size ((w.alloc (.cells A T)).alloc (.cells B U)) w1) :
    (∀ o, w1.cell? ⟨w.heap.size, o, none⟩ = A[o]?) ∧ (∀ o, w1.cell? ⟨w.heap.size + 1, o, none⟩ = B[o]?) ∧ (∀ o, w1.frozen? ⟨w.heap.size, o, none⟩ = false) ∧ (∀ o, w1.frozen? ⟨w.heap.size + 1, o, none⟩ = false) ∧
      w.heap.size + 1 < w1.heap.size ∧ Below w.heap.size w w1 := by
  have hz := size2 hb
  have c : ∀ b o, b < w.heap.size + 2 → w1.cell? ⟨b, o, none⟩ = ((w.alloc (.cells A T)).alloc (.cells B U)).cell? ⟨b, o, none⟩ := fun b o h => hb.cell (p := ⟨b, o, none⟩) (by simp; omega)
  have f : ∀ b o, b < w.heap.size + 2 → w1.frozen? ⟨b, o, none⟩ = ((w.alloc (.cells A T)).alloc (.cells B U)).frozen? ⟨b, o, none⟩ := fun b o h => hb.frozen (p := ⟨b, o, none⟩) (by simp; omega)
  exact ⟨fun o => (c _ o (by omega)).trans (by simp), fun o => (c _ o (by omega)).trans (by simp), fun o => (f _ o (by omega)).trans (by simp), fun o => (f _ o (by omega)).trans (by simp), hz, btrans (balloc2 _ _ _) hb⟩
/-- the second one is written -/
theorem two_set {w w1 : World} {A B : Array Value} {T U : TypeId} (hb : Below ((w.alloc (.cells A T)).alloc (.cells B U)).heap.size ((w.alloc (.cells A T)).alloc (.cells B U)) w1) (hB : B.size = 5) (v0 v1 v2 v3 v4 : Value) :
    ∃ W2, W2 = (((((w1.setCell ⟨w.heap.size + 1, 0, none⟩ v0).setCell ⟨w.heap.size + 1, 1, none⟩ v1).setCell ⟨w.heap.size + 1, 2, none⟩ v2).setCell ⟨w.heap.size + 1, 3, none⟩ v3).setCell ⟨w.heap.size + 1, 4, none⟩ v4) ∧
      (∀ o, W2.cell? ⟨w.heap.size, o, none⟩ = A[o]?) ∧ (W2.cell? ⟨w.heap.size + 1, 0, none⟩ = some v0 ∧ W2.cell? ⟨w.heap.size + 1, 1, none⟩ = some v1 ∧ W2.cell? ⟨w.heap.size + 1, 2, none⟩ = some v2 ∧ W2.cell? ⟨w.heap.size + 1, 3, none⟩ = some v3 ∧ W2.cell? ⟨w.heap.size + 1, 4, none⟩ = some v4) ∧
      (∀ o, W2.frozen? ⟨w.heap.size, o, none⟩ = false) ∧ w.heap.size + 1 < W2.heap.size ∧ Below w.heap.size w W2 := by
  obtain ⟨c0, c1, f0, f1, hz, hl⟩ := two_box hb
  obtain ⟨e0, e1, e2, e3, e4, h2⟩ := set5_at w1 (w.heap.size + 1) v0 v1 v2 v3 v4 (fun j hj => by rw [c1, Array.getElem?_eq_getElem (by omega)]; rfl)
  exact ⟨_, rfl, fun o => (h2.cell (p := ⟨w.heap.size, o, none⟩) (Nat.lt_succ_self _)).trans (c0 o), ⟨e0, e1, e2, e3, e4⟩, fun o => (h2.frozen (p := ⟨w.heap.size, o, none⟩) (Nat.lt_succ_self _)).trans (f0 o), Nat.lt_of_lt_of_le hz h2.size, hl.trans (h2.mono (by omega))⟩
set_option maxRecDepth 20000 in
set_option maxHeartbeats 4000000 in
theorem read3_any (w : World) (hT : Tab.Tabs w) (hP : Pf.PfT w) : Calls Tryz.prog 10 #[Pf.t3] w fun e w' => e = .returned (.tuple #[val 1 0 F3 [] false, .bool true]) ∧ Below w.heap.size w w' := by
  have HT := Lib.hid hT; have HP := Lib.hid hP; clear hT hP
  go_enter Tryz.func10, Tryz.ntmps10
  go_wp2_with (first
    | (go_at_call 30; refine (any3 _).mono ?_; rintro e w1 ⟨rfl, hb1⟩; have HB1 := Lib.hid hb1; obtain ⟨c0, c1, f0, f1, hz1, hl1⟩ := two_box hb1; clear hb1)
    | (go_at_call 31; refine (Pf.parse_3 _ (HP.out.below hl1 (Nat.le_refl _))).mono ?_; rintro e w' ⟨rfl, rfl⟩)
    | (go_at_call 32; refine (canon3 _).mono ?_; rintro e w' ⟨rfl, rfl⟩) | fail)
  obtain ⟨W2, hW2, d0, ⟨e0, e1, e2, e3, e4⟩, g0, hz2, hl2⟩ := two_set HB1.out rfl (.int .i64 1) (.int .i64 0) (.float .f64 F3) (.string ⟨#[]⟩) (.bool false)
  rw [← hW2]
  clear c0 c1 f0 f1 hz1 hl1 HB1 hW2
  have HB := Lib.hid hl2; clear hl2
  go_wp2_with (first
    | (go_at_call 12; refine (right3 _).mono ?_; rintro e w3 ⟨rfl, hb3⟩; obtain ⟨hc3, hf3⟩ := bcell hb3; have hs3 := Nat.lt_of_lt_of_le hz2 hb3.size; have hs3' : w.heap.size < W2.heap.size := by omega)
    | (go_at_call 13; refine (print3 _ (HT.out.below (btrans HB.out hb3) (Nat.le_refl _))).mono ?_; rintro e w4 ⟨rfl, hb4⟩; obtain ⟨hc4, hf4⟩ := bcell hb4; have hs4' : w.heap.size < w3.heap.size := by omega) | fail)
  obtain ⟨r0, r1, r2, r3, r4, hb5⟩ := set5_at w4 w.heap.size (.int .i64 1) (.int .i64 0) (.float .f64 F3) (.string ⟨#[]⟩) (.bool false) (fun j hj => by
    rw [hc4 _ _ (by omega), hc3 _ _ (by omega), d0, Array.getElem?_eq_getElem (by exact hj)]; rfl)
  generalize World.setCell _ _ _ = W5 at *
  refine bodyPost_ret (v := .tuple #[val 1 0 F3 [] false, .bool true]) (by simp [results, Tryz.results10, go_sem, r0, r1, r2, r3, r4]; try rfl) rfl ?_
  exact ⟨rfl, (btrans (btrans HB.out hb3) hb4).trans hb5⟩
set_option maxRecDepth 20000 in
theorem of_a (w : World) : Calls Tryz.prog 27 #[.iface 9 (.string ⟨#[97]⟩)] w fun e w' => e = .returned (.tuple #[val 2 0 0 [97] false, .bool true]) ∧ Below w.heap.size w w' := by
  have t0 : ∀ w, (Instr.typeAssert (.iface 9 (.string ⟨#[97]⟩)) 20 3 true).run Tryz.prog w = .ok (.tuple #[.int .i64 0, .bool false]) w := fun _ => by kernel_rfl
  have t1 : ∀ w, (Instr.typeAssert (.iface 9 (.string ⟨#[97]⟩)) 20 2 true).run Tryz.prog w = .ok (.tuple #[.int .i64 0, .bool false]) w := fun _ => by kernel_rfl
  have t2 : ∀ w, (Instr.typeAssert (.iface 9 (.string ⟨#[97]⟩)) 20 23 true).run Tryz.prog w = .ok (.tuple #[.float .f64 0, .bool false]) w := fun _ => by kernel_rfl
  have t3 : ∀ w, (Instr.typeAssert (.iface 9 (.string ⟨#[97]⟩)) 20 9 true).run Tryz.prog w = .ok (.tuple #[.string ⟨#[97]⟩, .bool true]) w := fun _ => by kernel_rfl
  go_enter Tryz.func27, Tryz.ntmps27
  go_wp2_with fail
  go_returns
  exact ⟨rfl, by repeat (first | assumption | (with_reducible exact Below.refl _ _) | exact balloc _ _ | exact balloc2 _ _ _ | refine btrans ?_ (by assumption) | refine btrans ?_ (balloc _ _))⟩
theorem less12 (W : World) : Calls Tryz.prog 28 #[.float .f64 4607182418800017408, .float .f64 4611686018427387904] W fun e w' => e = .returned (.bool true) ∧ W = w' :=
  (Ord.less_any _ _ W).mono fun _ _ ⟨h1, h2⟩ => ⟨by rw [h1, show Flt.lt 4607182418800017408 4611686018427387904 = true by decide +kernel], h2⟩
set_option maxRecDepth 20000 in
set_option maxHeartbeats 4000000 in
theorem fit02_any (w : World) (hT : Tab.Tabs w) (hP : Pf.PfT w) : Calls Tryz.prog 9 #[] w fun e w' => e = .returned (.bool true) ∧ Below w.heap.size w w' := by
  have q3 : (FloatKind.f64.format.order F3 F3 == some .eq) = true := by decide +kernel
  have HT := Lib.hid hT; have HP := Lib.hid hP; clear hT hP
  go_enter Tryz.func9, Tryz.ntmps9
  go_wp2_with (first
    | (go_at_call 10; refine (read3_any _ HT.out HP.out).mono ?_; rintro e w1 ⟨rfl, hb1⟩)
    | (go_at_call 27; refine (of_a _).mono ?_; rintro e w2 ⟨rfl, hb2⟩; obtain ⟨hc2, hf2⟩ := bcell hb2; have hs2 := size1 hb2)
    | (go_at_call 13; refine (printa _ (HT.out.below (by repeat (first | assumption | (with_reducible exact Below.refl _ _) | exact balloc _ _ | exact balloc2 _ _ _ | refine btrans ?_ (by assumption) | refine btrans ?_ (balloc _ _))) (Nat.le_refl _))).mono ?_; rintro e w3 ⟨rfl, hb3⟩)
    | (go_at_call 28; refine (less12 _).mono ?_; rintro e w' ⟨rfl, rfl⟩) | fail)
  go_ret
  exact ⟨rfl, by repeat (first | assumption | (with_reducible exact Below.refl _ _) | exact balloc _ _ | exact balloc2 _ _ _ | refine btrans ?_ (by assumption) | refine btrans ?_ (balloc _ _))⟩
theorem light_v (k n : Int) (x : Nat) (t : List UInt8) (y : Bool) (w : World) (ht : t.length ≤ 140737488351232) : Calls Tryz.prog 14 #[val k n x t y] w fun e w' => e = .returned (.bool (decide (t.length ≤ 300))) ∧ Below w.heap.size w w' := by
  by_cases h : t.length ≤ 300
  · have s1 : decide ((t.length : Int) ≤ 300) = true := by rw [decide_eq_true_iff]; omega
    go_enter Tryz.func14, Tryz.ntmps14
    go_wp2
    go_ret
    exact ⟨ret_bool (by rw [decide_eq_true h]), balloc _ _⟩
  · have s1 : decide ((t.length : Int) ≤ 300) = false := by rw [decide_eq_false_iff_not]; omega
    go_enter Tryz.func14, Tryz.ntmps14
    go_wp2
    go_ret
    exact ⟨ret_bool (by rw [decide_eq_false h]), balloc _ _⟩
end Go.Proofs.YtnccpddjdgndcaaGreatDoor.Val
end

section
/- THE WALK OF value.Read AT A TEXT BETWEEN QUOTES that needs no escapes. -/
namespace Go.Proofs.YtnccpddjdgndcaaGreatDoor.Val
open Go.RowKit Flt
attribute [local go_sem] run_store_flt
end Go.Proofs.YtnccpddjdgndcaaGreatDoor.Val
end

section
/- THE WALK OF cond.Print: what a condition's text is. -/
namespace Go.Proofs.YtnccpddjdgndcaaGreatDoor.Val
open Go.RowKit Flt
theorem quoteT_len (t : List UInt8) : (Quo.quoteT Lib.goPrintTabs t).length ≤ 10 * t.length + 2 := by
  unfold Quo.quoteT
  rw [List.length_map]
  have h := Lib.quoteZ_length_le Lib.goPrintTabs ⟨t.toArray⟩
  have hs : (⟨t.toArray⟩ : ByteArray).size = t.length := by simp [ByteArray.size]
  rw [hs] at h
  exact h
end Go.Proofs.YtnccpddjdgndcaaGreatDoor.Val
end

section
/- value.Read AT A TEXT AS Quote WRITES IT. -/
namespace Go.Proofs.YtnccpddjdgndcaaGreatDoor.Val
open Go.RowKit Flt
attribute [local go_sem] run_store_flt
theorem quote_tail (t : List UInt8) : ∃ r, Quo.quoteT Lib.goPrintTabs t = 34 :: r ∧ Unq.unqP r = some t ∧ r.length ≤ 10 * t.length + 1 := by
  have h := quoteT_len t
  rw [Unq.quoteT_eq, List.length_cons] at h
  exact ⟨_, Unq.quoteT_eq _ _, Unq.unq_quote _ _, by omega⟩
set_option maxRecDepth 20000 in
set_option maxHeartbeats 4000000 in
theorem read_text (body : List UInt8) (w : World) (hl : body.length ≤ 40) (hT : Tab.Tabs w) (hE : Unq.ErrS w) :
    Calls Tryz.prog 10 #[.string ⟨(Quo.quoteT Lib.goPrintTabs body).toArray⟩] w fun e w' => e = .returned (.tuple #[val 2 0 0 body false, .bool true]) ∧ Below w.heap.size w w' := by
  obtain ⟨r, hq, hun, hrl⟩ := quote_tail body
  have hu := fun W hEW hW => Unq.Unquote_any r (by omega) W hEW hW
  rw [hun] at hu
  have hp := fun W hW => vprint_any 2 0 0 body false W (by decide) (by decide) (by decide) (by omega) hW
  have hvt : vT ⟨2, 0, 0, body, false⟩ = 34 :: r := hq
  rw [hvt] at hp
  rw [hq]
  have hr := fun W => vright_any 2 0 0 body false W (by omega)
  have hrr : vRight ⟨2, 0, 0, body, false⟩ = true := by
    show (true && true && decide (body.length ≤ 40)) = _
    simp; omega
  rw [hrr] at hr
  have HU := Lib.hid hu; have HPR := Lib.hid hp; have HR := Lib.hid hr; have HT := Lib.hid hT; have HE := Lib.hid hE
  clear hu hp hvt hr hrr hT hE hq hun
  go_enter Tryz.func10, Tryz.ntmps10
  go_wp2_with (first
    | (go_at_call 29; refine (HU.out _ (Unq.err_below HE.out (by repeat (first | assumption | (with_reducible exact Below.refl _ _) | exact balloc _ _ | exact balloc2 _ _ _ | refine btrans ?_ (by assumption) | refine btrans ?_ (balloc _ _)))) (HT.out.below (by repeat (first | assumption | (with_reducible exact Below.refl _ _) | exact balloc _ _ | exact balloc2 _ _ _ | refine btrans ?_ (by assumption) | refine btrans ?_ (balloc _ _))) (Nat.le_refl _))).mono ?_; rintro e w1 ⟨hR, hb1⟩; obtain rfl : e = _ := hR; have HB1 := Lib.hid hb1; obtain ⟨c0, c1, f0, f1, hz1, hl1⟩ := two_box hb1; clear hb1) | fail)
  obtain ⟨W2, hW2, d0, ⟨e0, e1, e2, e3, e4⟩, g0, hz2, hl2⟩ := two_set HB1.out rfl (.int .i64 2) (.int .i64 0) (.float .f64 0) (.string ⟨body.toArray⟩) (.bool false)
  rw [← hW2]
  clear c0 c1 f0 f1 hz1 hl1 HB1 hW2
  have HB := Lib.hid hl2; clear hl2
  go_wp2_with (first
    | (go_at_call 12; refine (HR.out _).mono ?_; rintro e w3 ⟨rfl, hb3⟩; obtain ⟨hc3, hf3⟩ := bcell hb3; have hs3 := Nat.lt_of_lt_of_le hz2 hb3.size; have hs3' : w.heap.size < W2.heap.size := by omega)
    | (go_at_call 13; refine (HPR.out _ (HT.out.below (btrans HB.out hb3) (Nat.le_refl _))).mono ?_; rintro e w4 ⟨rfl, hb4⟩; obtain ⟨hc4, hf4⟩ := bcell hb4; have hs4' : w.heap.size < w3.heap.size := by omega) | fail)
  obtain ⟨r0, r1, r2, r3, r4, hb5⟩ := set5_at w4 w.heap.size (.int .i64 2) (.int .i64 0) (.float .f64 0) (.string ⟨body.toArray⟩) (.bool false) (fun j hj => by
    rw [hc4 _ _ (by omega), hc3 _ _ (by omega), d0, Array.getElem?_eq_getElem (by exact hj)]; rfl)
  generalize World.setCell _ _ _ = W5 at *
  refine bodyPost_ret (v := .tuple #[val 2 0 0 body false, .bool true]) (by simp [results, Tryz.results10, go_sem, r0, r1, r2, r3, r4]; try rfl) rfl ?_
  exact ⟨rfl, (btrans (btrans HB.out hb3) hb4).trans hb5⟩
set_option maxRecDepth 20000 in
set_option maxHeartbeats 4000000 in
theorem read_text_no (body : List UInt8) (w : World) (hl : body.length ≤ 800) (h40 : 40 < body.length) (hT : Tab.Tabs w) (hE : Unq.ErrS w) :
    Calls Tryz.prog 10 #[.string ⟨(Quo.quoteT Lib.goPrintTabs body).toArray⟩] w fun e w' => e = .returned (.tuple #[val 0 0 0 [] false, .bool false]) ∧ Below w.heap.size w w' := by
  obtain ⟨r, hq, hun, hrl⟩ := quote_tail body
  have hu := fun W hEW hW => Unq.Unquote_any r (by omega) W hEW hW
  rw [hun] at hu
  have hp := fun W hW => vprint_any 2 0 0 body false W (by decide) (by decide) (by decide) (by omega) hW
  have hvt : vT ⟨2, 0, 0, body, false⟩ = 34 :: r := hq
  rw [hvt] at hp
  rw [hq]
  have hr := fun W => vright_any 2 0 0 body false W (by omega)
  have hrr : vRight ⟨2, 0, 0, body, false⟩ = false := by
    show (true && true && decide (body.length ≤ 40)) = _
    simp; omega
  rw [hrr] at hr
  have HU := Lib.hid hu; have HPR := Lib.hid hp; have HR := Lib.hid hr; have HT := Lib.hid hT; have HE := Lib.hid hE
  clear hu hp hvt hr hrr hT hE hq hun
  go_enter Tryz.func10, Tryz.ntmps10
  go_wp2_with (first
    | (go_at_call 29; refine (HU.out _ (Unq.err_below HE.out (by repeat (first | assumption | (with_reducible exact Below.refl _ _) | exact balloc _ _ | exact balloc2 _ _ _ | refine btrans ?_ (by assumption) | refine btrans ?_ (balloc _ _)))) (HT.out.below (by repeat (first | assumption | (with_reducible exact Below.refl _ _) | exact balloc _ _ | exact balloc2 _ _ _ | refine btrans ?_ (by assumption) | refine btrans ?_ (balloc _ _))) (Nat.le_refl _))).mono ?_; rintro e w1 ⟨hR, hb1⟩; obtain rfl : e = _ := hR; have HB1 := Lib.hid hb1; obtain ⟨c0, c1, f0, f1, hz1, hl1⟩ := two_box hb1; clear hb1) | fail)
  obtain ⟨W2, hW2, d0, ⟨e0, e1, e2, e3, e4⟩, g0, hz2, hl2⟩ := two_set HB1.out rfl (.int .i64 2) (.int .i64 0) (.float .f64 0) (.string ⟨body.toArray⟩) (.bool false)
  rw [← hW2]
  clear c0 c1 f0 f1 hz1 hl1 HB1 hW2
  have HB := Lib.hid hl2; clear hl2
  go_wp2_with (first
    | (go_at_call 12; refine (HR.out _).mono ?_; rintro e w3 ⟨rfl, hb3⟩; obtain ⟨hc3, hf3⟩ := bcell hb3; have hs3 := Nat.lt_of_lt_of_le hz2 hb3.size; have hs3' : w.heap.size < W2.heap.size := by omega)
    | (go_at_call 13; refine (HPR.out _ (HT.out.below (btrans HB.out hb3) (Nat.le_refl _))).mono ?_; rintro e w4 ⟨rfl, hb4⟩; obtain ⟨hc4, hf4⟩ := bcell hb4; have hs4' : w.heap.size < w3.heap.size := by omega) | fail)
  obtain ⟨r0, r1, r2, r3, r4, hb5⟩ := set5_at w3 w.heap.size (.int .i64 0) (.int .i64 0) (.float .f64 0) (.string ⟨#[]⟩) (.bool false) (fun j hj => by
    rw [hc3 _ _ (by omega), d0, Array.getElem?_eq_getElem (by exact hj)]; rfl)
  generalize World.setCell _ _ _ = W5 at *
  refine bodyPost_ret (v := .tuple #[val 0 0 0 [] false, .bool false]) (by simp [results, Tryz.results10, go_sem, r0, r1, r2, r3, r4]; try rfl) rfl ?_
  exact ⟨rfl, (btrans HB.out hb3).trans hb5⟩
end Go.Proofs.YtnccpddjdgndcaaGreatDoor.Val
end

section
/- WHAT strconv.readFloat READS OF A DECIMAL TEXT. No walk. -/
namespace Go.Proofs.YtnccpddjdgndcaaGreatDoor.Pf
open Go.RowKit Go.Proofs.YtnccpddjdgndcaaGreatDoor.Fmt
/-- what is kept of digits: their number, below ten to their number -/
def Sig (r : RS) (D : List UInt8) : Prop := r.m = (dval D : Int) ∧ r.us = false ∧ r.tr = false ∧ r.nd = r.ndm ∧ 0 ≤ r.nd ∧ (r.nd = 0 → dval D = 0) ∧ (1 ≤ r.nd → 10 ^ (r.nd - 1).toNat ≤ dval D)
theorem dval_one (D : List UInt8) (c : UInt8) : dval (D ++ [c]) = dval D * 10 + (c.toNat - 48) := by
  rw [dval_append]; simp [dval]
theorem dval_mono (D i : List UInt8) : dval D ≤ dval (D ++ i) := by
  rw [dval_append]
  have := Nat.pow_pos (n := i.length) (show 0 < 10 by decide)
  have := Nat.le_mul_of_pos_right (dval D) this
  omega
/-- one digit more -/
theorem sig_step (D : List UInt8) (c : UInt8) (r : RS) (hc : IsD c) (hs : Sig r D) (hl : dval (D ++ [c]) < 1000000000000000000) :
    ∃ r2, rfStep false (c.toNat : Int) r = some r2 ∧ Sig r2 (D ++ [c]) ∧ r2.dot = r.dot ∧ r2.dig = true ∧ r2.dp - r2.nd = r.dp - r.nd - 1 := by
  obtain ⟨h1, h2, h3, h4, h5, h6, h7⟩ := hs
  unfold IsD at hc
  have hv := dval_one D c
  unfold rfStep
  rw [if_neg (by omega), if_neg (by omega), if_pos (by omega)]
  by_cases hz : (c.toNat : Int) = 48 ∧ r.nd = 0
  · rw [if_pos hz]
    have := h6 hz.2
    refine ⟨_, rfl, ⟨by simp only; rw [h1, hv]; omega, h2, h3, h4, h5, fun _ => by rw [hv]; omega, fun h => absurd h (by simp only; omega)⟩, rfl, rfl, by simp only; omega⟩
  · rw [if_neg hz]
    unfold rfDig
    have hn : r.nd ≤ 18 := by
      rcases Int.lt_or_le 18 r.nd with g | g
      · exfalso
        have a := h7 (by omega)
        have b : 10 ^ 18 ≤ 10 ^ (r.nd - 1).toNat := Nat.pow_le_pow_right (by decide) (by omega)
        rw [show (10 : Nat) ^ 18 = 1000000000000000000 by decide] at b
        omega
      · exact g
    rw [if_pos (by unfold mostZ; rw [if_neg (by decide)]; omega)]
    have hw : IntKind.u64.wrap (IntKind.u64.wrap (r.m * baseZ false) + ((c.toNat : Int) - 48)) = (dval (D ++ [c]) : Int) := by
      have e : baseZ false = 10 := rfl
      rw [e, h1, hv, IntKind.wrap_u64, IntKind.wrap_u64]
      omega
    refine ⟨_, rfl, ⟨hw, h2, h3, by simp only; omega, by simp only; omega, fun h => by simp only at h; omega, fun _ => ?_⟩, rfl, rfl, by simp only; omega⟩
    simp only
    rw [show (r.nd + 1 - 1).toNat = r.nd.toNat by omega, hv]
    rcases Int.lt_or_le 0 r.nd with g | g
    · have a := h7 (by omega)
      rw [show r.nd.toNat = (r.nd - 1).toNat + 1 by omega, Nat.pow_succ]
      omega
    · rw [show r.nd.toNat = 0 by omega]
      have : ¬ (c.toNat : Int) = 48 := fun h => hz ⟨h, by omega⟩
      omega
/-- many digits -/
theorem sig_run : ∀ (i D rest : List UInt8) (r : RS), (∀ c ∈ i, IsD c) → Sig r D → dval (D ++ i) < 1000000000000000000 →
    ∃ r2, rfGo false (i ++ rest) r = rfGo false rest r2 ∧ Sig r2 (D ++ i) ∧ r2.dot = r.dot ∧ (r.dig = true ∨ i ≠ [] → r2.dig = true) ∧ r2.dp - r2.nd = r.dp - r.nd - (i.length : Int)
  | [], D, rest, r, _, hs, _ => ⟨r, rfl, by rw [List.append_nil]; exact hs, rfl, fun h => h.elim id (fun h => absurd rfl h), by simp⟩
  | c :: l, D, rest, r, hi, hs, hl => by
    have e : D ++ c :: l = (D ++ [c]) ++ l := by simp
    rw [e] at hl ⊢
    obtain ⟨r1, g1, g2, g3, g4, g5⟩ := sig_step D c r (hi c (List.mem_cons_self ..)) hs (Nat.lt_of_le_of_lt (dval_mono _ l) hl)
    obtain ⟨r2, k1, k2, k3, k4, k5⟩ := sig_run l (D ++ [c]) rest r1 (fun x hx => hi x (List.mem_cons_of_mem _ hx)) g2 hl
    refine ⟨r2, ?_, k2, k3.trans g3, fun _ => k4 (Or.inl g4), by rw [k5, g5, List.length_cons]; omega⟩
    rw [List.cons_append, rfGo, g1]
    exact k1
theorem sig0 : Sig rs0 [] := ⟨rfl, rfl, rfl, rfl, Int.le_refl _, fun _ => rfl, fun h => absurd h (by decide)⟩
theorem ex_run : ∀ (l : List UInt8) (a : Nat), (∀ c ∈ l, IsD c) → a * 10 ^ l.length + dval l < 10000 → exGo l a false = (((a * 10 ^ l.length + dval l : Nat) : Int), false, [])
  | [], a, _, _ => by simp [exGo, dval]
  | c :: l, a, hi, hl => by
    have hc := hi c (List.mem_cons_self ..)
    unfold IsD at hc
    rw [dval_cons, List.length_cons, Nat.pow_succ] at hl
    have p := Nat.pow_pos (n := l.length) (show 0 < 10 by decide)
    have e : a * (10 ^ l.length * 10) + ((c.toNat - 48) * 10 ^ l.length + dval l) = (a * 10 + (c.toNat - 48)) * 10 ^ l.length + dval l := by grind
    rw [e] at hl
    have ha : a < 10000 := by
      have := Nat.le_mul_of_pos_right (a * 10 + (c.toNat - 48)) p
      omega
    unfold exGo
    rw [if_neg (by omega), if_pos (by omega), if_pos (by omega)]
    have h2 : (a : Int) * 10 + (c.toNat : Int) - 48 = ((a * 10 + (c.toNat - 48) : Nat) : Int) := by omega
    rw [h2, ex_run l _ (fun x hx => hi x (List.mem_cons_of_mem _ hx)) hl, dval_cons, List.length_cons, Nat.pow_succ, e]
/-- an exponent's text -/
def ExpT (s : List UInt8) (e : Int) : Prop := (s = [] ∧ e = 0) ∨ ∃ g ds, s = 101 :: g :: ds ∧ ds ≠ [] ∧ (∀ c ∈ ds, IsD c) ∧ dval ds < 1000 ∧ ((g = 43 ∧ e = (dval ds : Int)) ∨ (g = 45 ∧ e = -(dval ds : Int)))
/-- a decimal text: digits ahead of the point, digits behind it, an exponent -/
def Frm (X i f : List UInt8) (e : Int) : Prop := (∀ c ∈ i, IsD c) ∧ (∀ c ∈ f, IsD c) ∧ i ≠ [] ∧ ∃ s, ExpT s e ∧ (X = i ++ 46 :: (f ++ s) ∨ (f = [] ∧ X = i ++ s))
theorem stop_at (s : List UInt8) (e : Int) (h : ExpT s e) (r : RS) : rfGo false s r = (r, s) := by
  rcases h with ⟨rfl, _⟩ | ⟨g, ds, rfl, _⟩
  · rfl
  · have : rfStep false ((101 : UInt8).toNat : Int) r = none := rfl
    rw [rfGo, this]
theorem low_e : low ((101 : UInt8).toNat : Int) = 101 := by decide
theorem rf_end (r : RS) (s : List UInt8) (e : Int) (h : ExpT s e) (hu : r.us = false) (ht : r.tr = false) (hd : r.dig = true) :
    rfEnd false (r, s) = some ⟨r.m, if r.m = 0 then 0 else (if r.dot then r.dp else r.nd) + e - r.ndm, false, false, []⟩ := by
  unfold rfEnd
  simp only
  rw [if_neg (by rw [hd]; decide), hu, ht]
  simp only [Bool.false_eq_true, if_false, Int.mul_one]
  rcases h with ⟨rfl, rfl⟩ | ⟨g, ds, rfl, hne, hdd, hl, hg⟩
  · rw [if_neg (by decide), Int.add_zero]
  · have h1 : isX false (101 :: g :: ds) = true := by show (low ((101 : UInt8).toNat : Int) == 101) = true; rw [low_e]; rfl
    rw [if_pos h1]
    have hx : exAll (g :: ds) false = some (e, false, []) := by
      obtain ⟨d, t, rfl⟩ := List.exists_cons_of_ne_nil hne
      have hd0 := hdd d (List.mem_cons_self ..)
      unfold IsD at hd0
      have hr := ex_run (d :: t) 0 hdd (by rw [Nat.zero_mul]; omega)
      rw [Nat.zero_mul, Nat.zero_add] at hr
      rcases hg with ⟨rfl, rfl⟩ | ⟨rfl, rfl⟩
      · have : exSg (43 :: d :: t) = (1, d :: t) := rfl
        unfold exAll
        rw [this]
        simp only
        rw [if_pos (by omega), show exGo (d :: t) 0 false = exGo (d :: t) ((0 : Nat) : Int) false from rfl, hr]
        simp
      · have : exSg (45 :: d :: t) = (-1, d :: t) := rfl
        unfold exAll
        rw [this]
        simp only
        rw [if_pos (by omega), show exGo (d :: t) 0 false = exGo (d :: t) ((0 : Nat) : Int) false from rfl, hr]
        simp
    rw [List.drop_one, List.tail_cons, hx]
/-- what is read of a decimal text -/
theorem rf_form (X i f : List UInt8) (e : Int) (h : Frm X i f e) (hl : dval (i ++ f) < 1000000000000000000) :
    rfDec X = some ⟨(dval (i ++ f) : Int), if dval (i ++ f) = 0 then 0 else e - (f.length : Int), false, false, []⟩ := by
  obtain ⟨hi, hf, hne, s, hs, hX⟩ := h
  have z : ((dval (i ++ f) : Int) = 0) ↔ (dval (i ++ f) = 0) := by omega
  rcases hX with rfl | ⟨rfl, rfl⟩
  · obtain ⟨r1, a1, a2, a3, a4, a5⟩ := sig_run i [] (46 :: (f ++ s)) rs0 hi sig0 (Nat.lt_of_le_of_lt (dval_mono i f) hl)
    have hdg := a4 (Or.inr hne)
    have h46 : rfStep false ((46 : UInt8).toNat : Int) r1 = some { r1 with dot := true, dp := r1.nd } := by
      unfold rfStep
      rw [if_neg (by decide), if_pos (by decide), if_neg (by rw [a3]; decide)]
    obtain ⟨b1, b2, b3, b4, b5, b6, b7⟩ := a2
    obtain ⟨r2, c1, c2, c3, c4, c5⟩ := sig_run f ([] ++ i) s { r1 with dot := true, dp := r1.nd } hf ⟨b1, b2, b3, b4, b5, b6, b7⟩ hl
    have hdg2 := c4 (Or.inl hdg)
    unfold rfDec
    rw [a1, rfGo, h46]
    simp only
    rw [c1, stop_at s e hs]
    obtain ⟨d1, d2, d3, d4, _⟩ := c2
    simp only at c5 c3
    rw [rf_end r2 s e hs d2 d3 hdg2, c3, d1, List.nil_append]
    have he : (if (dval (i ++ f) : Int) = 0 then (0 : Int) else (if true = true then r2.dp else r2.nd) + e - r2.ndm) = (if dval (i ++ f) = 0 then 0 else e - (f.length : Int)) := by
      rw [if_pos rfl]
      by_cases h : dval (i ++ f) = 0
      · rw [if_pos (z.2 h), if_pos h]
      · rw [if_neg (fun q => h (z.1 q)), if_neg h]; omega
    rw [he]
  · obtain ⟨r1, a1, a2, a3, a4, a5⟩ := sig_run i [] s rs0 hi sig0 (by simpa using hl)
    have hdg := a4 (Or.inr hne)
    unfold rfDec
    rw [a1, stop_at s e hs]
    obtain ⟨d1, d2, d3, d4, _⟩ := a2
    rw [rf_end r1 s e hs d2 d3 hdg, a3, d1, List.nil_append]
    rw [List.append_nil] at z ⊢
    have he : (if (dval i : Int) = 0 then (0 : Int) else (if rs0.dot = true then r1.dp else r1.nd) + e - r1.ndm) = (if dval i = 0 then 0 else e - (([] : List UInt8).length : Int)) := by
      rw [if_neg (show ¬ rs0.dot = true by decide)]
      by_cases h : dval i = 0
      · rw [if_pos (z.2 h), if_pos h]
      · rw [if_neg (fun q => h (z.1 q)), if_neg h, List.length_nil]; omega
    rw [he]
end Go.Proofs.YtnccpddjdgndcaaGreatDoor.Pf
end

section
/- WHAT IS READ OF A NUMBER's OWN TEXT: digits and a power of ten that lie where the number is the nearest one. No walk. -/
namespace Go.Proofs.YtnccpddjdgndcaaGreatDoor.Pf
open Go.RowKit Go.Proofs.YtnccpddjdgndcaaGreatDoor.Fmt Go.Proofs.YtnccpddjdgndcaaGreatDoor.Nt
theorem exps_ne (x : Nat) : exps x ≠ [] := by unfold exps; split <;> simp
theorem expT_of (x : Int) (h0 : -1000 < x) (h1 : x < 1000) : ExpT (101 :: ((if x < 0 then [45] else [43]) ++ exps x.natAbs)) x := by
  right
  have hv := exps_val x.natAbs (by omega)
  by_cases h : x < 0
  · rw [if_pos h]
    exact ⟨45, exps x.natAbs, rfl, exps_ne _, exps_isD _, by omega, Or.inr ⟨rfl, by omega⟩⟩
  · rw [if_neg h]
    exact ⟨43, exps x.natAbs, rfl, exps_ne _, exps_isD _, by omega, Or.inl ⟨rfl, by omega⟩⟩
/-- the two ways of a number's text: with a point or an 'e'; digits alone -/
theorem g_frm (D : List UInt8) (dp : Int) (hD : ∀ c ∈ D, IsD c) (h1 : 1 ≤ D.length) (hlo : -400 ≤ dp) (hhi : dp ≤ 400) :
    (∃ i f e, Frm (gText D dp) i f e ∧ dval (i ++ f) = dval D ∧ e - (f.length : Int) = dp - (D.length : Int) ∧ ∃ c ∈ gText D dp, c = 46 ∨ c = 101) ∨
    (∃ i, gText D dp = i ∧ (∀ c ∈ i, IsD c) ∧ i ≠ [] ∧ i.length ≤ 6 ∧ (D.length : Int) ≤ dp ∧ dval i = dval D * 10 ^ (dp - (D.length : Int)).toNat) := by
  unfold gText
  split
  · left
    have hx := expT_of (dp - 1) (by omega) (by omega)
    obtain ⟨d, r, rfl⟩ : ∃ d r, D = d :: r := by
      cases D with
      | nil => simp at h1
      | cons d r => exact ⟨d, r, rfl⟩
    have hd : ∀ c ∈ [d], IsD c := fun c hc => hD c (by rw [List.mem_singleton] at hc; subst hc; exact List.mem_cons_self ..)
    have hr : ∀ c ∈ r, IsD c := fun c hc => hD c (List.mem_cons_of_mem _ hc)
    cases r with
    | nil =>
      have e : eText [d] dp = [d] ++ 101 :: ((if dp - 1 < 0 then [45] else [43]) ++ exps (dp - 1).natAbs) := by
        unfold eText; simp
      refine ⟨[d], [], dp - 1, ⟨hd, by simp, by simp, _, hx, Or.inr ⟨rfl, e⟩⟩, by simp, by simp, 101, by rw [e]; simp, Or.inr rfl⟩
    | cons x r =>
      have e : eText (d :: x :: r) dp = [d] ++ 46 :: ((x :: r) ++ 101 :: ((if dp - 1 < 0 then [45] else [43]) ++ exps (dp - 1).natAbs)) := by
        unfold eText; simp
      refine ⟨[d], x :: r, dp - 1, ⟨hd, hr, by simp, _, hx, Or.inl e⟩, by simp, by simp; omega, 46, by rw [e]; simp, Or.inl rfl⟩
  · rename_i hcase
    rcases Int.lt_or_le 0 dp with hp | hp
    · obtain ⟨q, rfl⟩ : ∃ q : Nat, dp = (q : Int) := ⟨dp.toNat, by omega⟩
      rcases Nat.lt_or_ge q D.length with hq | hq
      · left
        have e : fText D (q : Int) = D.take q ++ 46 :: D.drop q := by
          have h3 : (-(q : Int)).toNat = 0 := by omega
          have h4 : q - D.length = 0 := by omega
          rw [fText, if_pos hp, if_pos (by omega), Int.toNat_natCast, h3, h4]
          simp
        refine ⟨D.take q, D.drop q, 0, ⟨fun c hc => hD c (List.mem_of_mem_take hc), fun c hc => hD c (List.mem_of_mem_drop hc), ?_, [], Or.inl ⟨rfl, rfl⟩, Or.inl (by rw [e, List.append_nil])⟩, by rw [List.take_append_drop], by rw [List.length_drop]; omega, 46, by rw [e]; simp, Or.inl rfl⟩
        intro h
        have := congrArg List.length h
        rw [List.length_take, List.length_nil] at this
        omega
      · right
        have e : fText D (q : Int) = D ++ List.replicate (q - D.length) 48 := by
          rw [fText, if_pos hp, if_neg (by omega), Int.toNat_natCast, List.take_of_length_le hq]
          simp
        refine ⟨_, rfl, ?_, ?_, ?_, by omega, ?_⟩
        · rw [e]; exact app_isD hD (zeros_isD _)
        · rw [e]; intro h; have := congrArg List.length h; rw [List.length_append, List.length_nil] at this; omega
        · rw [e, List.length_append, List.length_replicate]; omega
        · rw [e, dval_append, dval_zeros, List.length_replicate, Nat.add_zero]
          congr 2
          omega
    · left
      have e : fText D dp = [48] ++ 46 :: (List.replicate (-dp).toNat 48 ++ D) := by
        have h3 : dp.toNat = 0 := by omega
        rw [fText, if_neg (by omega), if_pos (by omega), h3]; simp
      refine ⟨[48], List.replicate (-dp).toNat 48 ++ D, 0, ⟨zeros_isD 1, app_isD (zeros_isD _) hD, by simp, [], Or.inl ⟨rfl, rfl⟩, Or.inl (by rw [e, List.append_nil])⟩, ?_, by simp; omega, 46, by rw [e]; simp, Or.inl rfl⟩
      rw [show [48] ++ (List.replicate (-dp).toNat 48 ++ D) = (List.replicate 1 48 ++ List.replicate (-dp).toNat 48) ++ D by simp, dval_append, List.replicate_append_replicate, dval_zeros, Nat.zero_mul, Nat.zero_add]
theorem dval_lt : ∀ (l : List UInt8), (∀ c ∈ l, IsD c) → dval l < 10 ^ l.length
  | [], _ => by simp [dval]
  | c :: l, h => by
    have hc := h c (List.mem_cons_self ..)
    unfold IsD at hc
    have := dval_lt l (fun x hx => h x (List.mem_cons_of_mem _ hx))
    have m := Nat.mul_le_mul_right (10 ^ l.length) (show c.toNat - 48 ≤ 9 by omega)
    rw [dval_cons, List.length_cons, Nat.pow_succ]
    omega
/-- the least place of a number's digits -/
def P0 (b : Nat) : Int := -sfP (fm b) (fE b)
theorem p0_tab : ∀ k : Nat, k < 2046 → pw2 ((k : Int) - 1074) * pw10 0 ≤ 16 * (pw2 0 * pw10 (lg10 ((k : Int) - 1074))) ∧ pw2 ((k : Int) - 1074) * pw10 0 ≤ 16 * (pw2 0 * pw10 (skew ((k : Int) - 1074))) ∧
    -340 ≤ lg10 ((k : Int) - 1074) ∧ -340 ≤ skew ((k : Int) - 1074) := by decide +kernel
theorem p0_ok (b : Nat) (h : bexp b ≤ 2046) (h0 : bexp b ≠ 0 ∨ bman b ≠ 0) : pw2 (bE b) * pw10 0 ≤ 16 * (pw2 0 * pw10 (P0 b)) ∧ -340 ≤ P0 b := by
  have hb := bman_lt b
  unfold P0
  by_cases hx : bexp b = 0
  · obtain ⟨z, _, z1, z2, _, hm, hE, hz, _, _⟩ := sub_facts b hx (by omega)
    have hbE : bE b = -1074 := by unfold bE; rw [if_pos hx]
    have hsf : sfP (fm b) (fE b) = -lg10 (-1074) := by unfold sfP; rw [if_neg (by omega), if_neg (by omega)]
    rw [hbE, hsf, Int.neg_neg]
    obtain ⟨t1, _, t3, _⟩ := p0_tab 0 (by decide)
    rw [show ((0 : Nat) : Int) - 1074 = -1074 by decide] at t1 t3
    exact ⟨t1, t3⟩
  · have hE : fE b = (bexp b : Int) - 1086 := by unfold fE; rw [if_neg hx]
    have hbE : bE b = ((bexp b - 1 : Nat) : Int) - 1074 := by unfold bE; rw [if_neg hx]; omega
    obtain ⟨t1, t2, t3, t4⟩ := p0_tab (bexp b - 1) (by omega)
    have e11 : fE b + 11 = ((bexp b - 1 : Nat) : Int) - 1074 := by omega
    rw [hbE]
    unfold sfP
    rw [e11]
    split
    · rw [Int.neg_neg]; exact ⟨t2, t4⟩
    · rw [if_pos (by omega), Int.neg_neg]; exact ⟨t1, t3⟩
theorem short_p0 (b : Nat) : P0 b ≤ (short (fm b) (fE b)).2 := by
  unfold P0 short
  split
  · simp only; omega
  · split <;> simp only <;> omega
theorem pw10_309 : 36028797018963968 * pw2 969 * pw10 0 < pw2 0 * pw10 309 := by decide +kernel
theorem pw10_mono {a b : Int} (h : a ≤ b) : pw10 a ≤ pw10 b := Nat.pow_le_pow_right (by decide) (by omega)
/-- digits that lie where a number is the nearest one are few -/
theorem inr_small (b m : Nat) (p : Int) (h1 : 1 ≤ b) (h2 : b < 9218868437227405312) (hm : 1 ≤ m) (hr : InR b (m * pw2 0 * pw10 p)) : p ≤ 308 ∧ (P0 b ≤ p → m < 144115188075855872) := by
  obtain ⟨f1, f2, f3, f4, f5, f6, f7⟩ := bM_facts b h1 h2
  obtain ⟨_, r2, _⟩ := hr
  have c4 : (4 * bM b + 2) * pw2 (bE b - 2) * pw10 0 < 36028797018963968 * pw2 (bE b - 2) * pw10 0 := Nat.mul_lt_mul_of_pos_right (Nat.mul_lt_mul_of_pos_right (by omega) (pw2_pos _)) (pw10_pos _)
  have b0 : bexp b = b / 4503599627370496 := by unfold bexp; omega
  have b1 : bman b = b % 4503599627370496 := rfl
  constructor
  · rcases Int.lt_or_le 308 p with g | g
    · exfalso
      have a1 := pw10_mono (show (309 : Int) ≤ p by omega)
      have a2 := Nat.mul_le_mul_left (pw2 0) a1
      have a3 := Nat.mul_le_mul_right (pw10 0) (Nat.mul_le_mul_left 36028797018963968 (pw2_mono (show bE b - 2 ≤ 969 by omega)))
      have a4 := pw10_309
      have a5 := Nat.mul_le_mul_right (pw2 0 * pw10 p) hm
      rw [Nat.mul_assoc m] at r2
      omega
    · exact g
  · intro hp
    obtain ⟨t1, _⟩ := p0_ok b (by omega) (by omega)
    have a1 := pw10_mono hp
    have a2 := Nat.mul_le_mul_left (pw2 0) a1
    have e : pw2 (bE b) = pw2 (bE b - 2) * 2 ^ 2 := pw2_step _ _ _ (by omega) (by omega)
    have X := Nat.mul_pos (pw2_pos 0) (pw10_pos p)
    rw [e] at t1
    have e2 : pw2 (bE b - 2) * 2 ^ 2 * pw10 0 = 4 * (pw2 (bE b - 2) * pw10 0) := by grind
    have e3 : 36028797018963968 * pw2 (bE b - 2) * pw10 0 = 36028797018963968 * (pw2 (bE b - 2) * pw10 0) := by grind
    have e4 : m * pw2 0 * pw10 p = m * (pw2 0 * pw10 p) := by grind
    rw [e2] at t1
    rw [e3] at c4
    rw [e4] at r2
    have : m * (pw2 0 * pw10 p) < 144115188075855872 * (pw2 0 * pw10 p) := by omega
    exact Nat.lt_of_mul_lt_mul_right this
/-- a number's text -/
theorem flt_form (b : Nat) (hb : bexp b ≤ 2046) (h0 : bexp b ≠ 0 ∨ bman b ≠ 0) :
    ∃ X i f e, fltT b = sgn (bneg b) ++ X ∧ Frm X i f e ∧ 1 ≤ dval (i ++ f) ∧ dval (i ++ f) < 144115188075855872 ∧ -340 ≤ e - (f.length : Int) ∧ e - (f.length : Int) ≤ 308 ∧
      InR (b % 9223372036854775808) (dval (i ++ f) * pw2 0 * pw10 (e - (f.length : Int))) := by
  have hn : Num b := ⟨hb, h0⟩
  have hft : ftoaT b = sgn (bneg b) ++ numT b := by unfold ftoaT; rw [if_neg (by omega), if_neg (by omega)]
  obtain ⟨g1, g2, g3, g4⟩ := hn.facts
  obtain ⟨k1, k2, k3, k4⟩ := hn.nd
  have hl := digs_len_le (short (fm b) (fE b)).1
  have hv := digs_val (short (fm b) (fE b)).1
  have hDD := digs_isD (short (fm b) (fE b)).1
  have hp0 := short_p0 b
  have m0 : bman (b % 9223372036854775808) = bman b := by unfold bman; omega
  have x0 : bexp (b % 9223372036854775808) = bexp b := by unfold bexp; omega
  have hsm : b % 9223372036854775808 < 9218868437227405312 ∧ 1 ≤ b % 9223372036854775808 := by unfold bexp bman at *; omega
  have hin := short_in _ hsm.2 hsm.1
  rw [fkey_low] at hin
  have hP : P0 (b % 9223372036854775808) = P0 b := by
    unfold P0
    congr 2
    · unfold fm fz; rw [m0, x0]
    · unfold fE fz; rw [m0, x0]
  have small := fun m p => inr_small (b % 9223372036854775808) m p hsm.2 hsm.1
  rw [hP] at small
  have hp1 := (p0_ok b hb h0).2
  have hfk : fkey b = (short (fm b) (fE b)).1 * pw10 (short (fm b) (fE b)).2 := rfl
  rw [hfk] at hin
  have hnum : numT b = gText (digs (short (fm b) (fE b)).1) ((Lib.nDigits (short (fm b) (fE b)).1 : Int) + (short (fm b) (fE b)).2) := rfl
  have hgf := g_frm (digs (short (fm b) (fE b)).1) ((Lib.nDigits (short (fm b) (fE b)).1 : Int) + (short (fm b) (fE b)).2) hDD k1 (by omega) (by omega)
  rw [← hnum] at hgf
  generalize (short (fm b) (fE b)).2 = p at *
  generalize (short (fm b) (fE b)).1 = d at *
  generalize digs d = D at *
  generalize Lib.nDigits d = n at *
  have hD1 : 1 ≤ dval D := by
    rcases Nat.eq_zero_or_pos (dval D) with z | z
    · rw [z, Nat.zero_mul] at hv; omega
    · exact z
  rcases hgf with ⟨i, f, e, h1, h2, h3, c, hc, hcc⟩ | ⟨i, h1, h2, h3, h4, h5, h6⟩
  · have hmk : marked (ftoaT b) = true := by
      rw [marked_iff, hft]
      refine ⟨c, List.mem_append_right _ hc, ?_⟩
      rcases hcc with h | h
      · exact Or.inl h
      · exact Or.inr (Or.inl h)
    have hT : InR (b % 9223372036854775808) (dval (i ++ f) * pw2 0 * pw10 (e - (f.length : Int))) := by
      rw [h2, h3]
      have e1 : dval D * pw2 0 * pw10 ((n : Int) + p - (D.length : Int)) = d * pw10 p * pw2 0 := by
        rw [← hv, show (n : Int) + p - (D.length : Int) = p + ((n - D.length : Nat) : Int) by omega, pw10_step p _ (n - D.length) rfl (by omega)]
        grind
      rw [e1]
      exact hin
    have hs := small _ _ (by rw [h2]; exact hD1) hT
    refine ⟨numT b, i, f, e, by unfold fltT; rw [hmk, if_pos rfl, hft], h1, by rw [h2]; exact hD1, hs.2 (by omega), by omega, hs.1, hT⟩
  · have hmk : marked (ftoaT b) = false := by
      cases hm : marked (ftoaT b)
      · rfl
      · exfalso
        rw [marked_iff, hft] at hm
        obtain ⟨c, hc, hcc⟩ := hm
        rcases List.mem_append.1 hc with q | q
        · unfold sgn at q
          split at q
          · rw [List.mem_singleton] at q; subst q; revert hcc; decide
          · cases q
        · have := h2 c (h1 ▸ q)
          unfold IsD at this
          rcases hcc with rfl | rfl | rfl | rfl <;> revert this <;> decide
    have hm10 : dval (i ++ [48]) = dval i * 10 := dval_end i
    have hT : InR (b % 9223372036854775808) (dval (i ++ [48]) * pw2 0 * pw10 (-1)) := by
      have e1 : dval (i ++ [48]) * pw2 0 * pw10 (-1) = d * pw10 p * pw2 0 := by
        have a1 : pw10 0 = pw10 (-1) * 10 ^ 1 := pw10_step _ _ _ (by omega) (by omega)
        have a2 : dval i * pw10 0 = d * pw10 p := by
          rw [h6, ← hv]
          have q1 := pw10_add ((n : Int) + p - (D.length : Int)) 0 (((n - D.length : Nat) : Int) + p) 0 (by omega) (by omega) (by omega) (by omega) (by omega)
          have q2 : pw10 ((n : Int) + p - (D.length : Int)) = pw10 0 * 10 ^ ((n : Int) + p - (D.length : Int)).toNat := pw10_step _ _ _ (by omega) (by omega)
          have q3 : pw10 ((n : Int) + p - (D.length : Int)) = pw10 p * 10 ^ (n - D.length) := pw10_step _ _ _ (by omega) (by omega)
          rw [show dval D * 10 ^ ((n : Int) + p - (D.length : Int)).toNat * pw10 0 = dval D * (pw10 0 * 10 ^ ((n : Int) + p - (D.length : Int)).toNat) by grind, ← q2, q3]
          grind
        rw [hm10, ← a2, a1]
        grind
      rw [e1]
      exact hin
    have hs := small _ _ (by rw [hm10]; rcases Nat.eq_zero_or_pos (dval i) with z | z; (exfalso; rw [h6] at z; have := Nat.mul_pos hD1 (Nat.pow_pos (n := ((n : Int) + p - (D.length : Int)).toNat) (show 0 < 10 by decide)); omega); omega) hT
    have hlt := dval_lt i h2
    have hle : 10 ^ i.length ≤ 10 ^ 6 := Nat.pow_le_pow_right (by decide) h4
    rw [show (10 : Nat) ^ 6 = 1000000 by decide] at hle
    refine ⟨numT b ++ [46, 48], i, [48], 0, by unfold fltT; rw [hmk, if_neg (by decide), hft, List.append_assoc], ⟨h2, zeros_isD 1, h3, [], Or.inl ⟨rfl, rfl⟩, Or.inl (by rw [h1]; simp)⟩, ?_, by rw [hm10]; omega, by decide, by decide, hT⟩
    rw [hm10, h6]
    have := Nat.mul_pos hD1 (Nat.pow_pos (n := ((n : Int) + p - (D.length : Int)).toNat) (show 0 < 10 by decide))
    omega
end Go.Proofs.YtnccpddjdgndcaaGreatDoor.Pf
end

section
/- THE WALKS OF strconv.atof64 AND ParseFloat AT A NUMBER's TEXT. -/
namespace Go.Proofs.YtnccpddjdgndcaaGreatDoor.Pf
open Go.RowKit Go.Proofs.YtnccpddjdgndcaaGreatDoor.Fmt Go.Proofs.YtnccpddjdgndcaaGreatDoor.Nt Ieee
/-- "infinity", "nan" -/
abbrev tInf : ByteArray := ⟨#[105, 110, 102, 105, 110, 105, 116, 121]⟩
theorem gi0 (h : 0 < tInf.size) : (tInf[0]'h) = 105 := rfl
attribute [local go_sem] gi0
set_option maxRecDepth 20000 in
set_option maxHeartbeats 1000000 in
theorem prefix0 (s : ByteArray) (h0 : 0 < s.size) (hd : 48 ≤ ((s[0]'h0).toNat : Int) ∧ ((s[0]'h0).toNat : Int) ≤ 57) (w : World) :
    Calls Tryz.prog 187 #[.string s, .string tInf] w fun e w' => e = .returned (.int .i64 0) ∧ w = w' := by
  have i0 : (0 : Int) < (s.size : Int) := by omega
  have i1 : (0 : Int) < min 8 (s.size : Int) := by omega
  have d1 : ¬ (65 : Int) ≤ ((s[0]'h0).toNat : Int) := by omega
  have d2 : (((s[0]'h0).toNat : Int) != 105) = true := by simp; omega
  clear hd
  go_enter Tryz.func187, Tryz.ntmps187
  go_wp2_with fail
  go_rounds 1
  go_ret
  exact ⟨rfl, rfl⟩
set_option maxRecDepth 20000 in
set_option maxHeartbeats 1000000 in
/-- digits ahead: nothing special -/
theorem special_pos (s : ByteArray) (h0 : 0 < s.size) (hd : 48 ≤ ((s[0]'h0).toNat : Int) ∧ ((s[0]'h0).toNat : Int) ≤ 57) (w : World) :
    Calls Tryz.prog 147 #[.string s] w fun e w' => e = .returned (.tuple #[.float .f64 0, .int .i64 0, .bool false]) ∧ w = w' := by
  have i0 : (0 : Int) < (s.size : Int) := by omega
  have z0 : ((s.size : Int) == 0) = false := beq_eq_false_iff_ne.2 (by omega)
  have d1 : (((s[0]'h0).toNat : Int) == 43) = false := by simp; omega
  have d2 : (((s[0]'h0).toNat : Int) == 45) = false := by simp; omega
  have d3 : (((s[0]'h0).toNat : Int) == 105) = false := by simp; omega
  have d4 : (((s[0]'h0).toNat : Int) == 73) = false := by simp; omega
  have d5 : (((s[0]'h0).toNat : Int) == 110) = false := by simp; omega
  have d6 : (((s[0]'h0).toNat : Int) == 78) = false := by simp; omega
  clear hd
  go_enter Tryz.func147, Tryz.ntmps147
  go_wp2
  go_returns
  exact ⟨rfl, rfl⟩
set_option maxRecDepth 20000 in
set_option maxHeartbeats 1000000 in
theorem special_neg (s t : ByteArray) (h0 : 0 < s.size) (h45 : ((s[0]'h0).toNat : Int) = 45) (ht : s.extract 1 s.size = t) (ht0 : 0 < t.size) (hd : 48 ≤ ((t[0]'ht0).toNat : Int) ∧ ((t[0]'ht0).toNat : Int) ≤ 57) (w : World) :
    Calls Tryz.prog 147 #[.string s] w fun e w' => e = .returned (.tuple #[.float .f64 0, .int .i64 0, .bool false]) ∧ w = w' := by
  have hpre := fun W => prefix0 t ht0 hd W
  have HPRE := Lib.hid hpre
  have i0 : (0 : Int) < (s.size : Int) := by omega
  have i1 : (1 : Int) ≤ (s.size : Int) := by omega
  have z0 : ((s.size : Int) == 0) = false := beq_eq_false_iff_ne.2 (by omega)
  have d1 : (((s[0]'h0).toNat : Int) == 43) = false := by simp; omega
  have d2 : (((s[0]'h0).toNat : Int) == 45) = true := by simp; omega
  clear hpre hd h45
  go_enter Tryz.func147, Tryz.ntmps147
  go_wp2_with (first | (go_at_call 187; refine (HPRE.out _).mono ?_; rintro e w' ⟨rfl, rfl⟩) | fail)
  go_returns
  exact ⟨rfl, rfl⟩
/-- the numbers' texts that are none, or have no end -/
abbrev tNaN : ByteArray := ⟨#[78, 97, 78]⟩
abbrev tnan : ByteArray := ⟨#[110, 97, 110]⟩
abbrev tInf3 : ByteArray := ⟨#[73, 110, 102]⟩
abbrev tPInf : ByteArray := ⟨#[43, 73, 110, 102]⟩
abbrev tNInf : ByteArray := ⟨#[45, 73, 110, 102]⟩
theorem gn0 (h : 0 < tNaN.size) : (tNaN[0]'h) = 78 := rfl
theorem gn1 (h : 1 < tNaN.size) : (tNaN[1]'h) = 97 := rfl
theorem gn2 (h : 2 < tNaN.size) : (tNaN[2]'h) = 78 := rfl
theorem gm0 (h : 0 < tnan.size) : (tnan[0]'h) = 110 := rfl
theorem gm1 (h : 1 < tnan.size) : (tnan[1]'h) = 97 := rfl
theorem gm2 (h : 2 < tnan.size) : (tnan[2]'h) = 110 := rfl
theorem gi1 (h : 1 < tInf.size) : (tInf[1]'h) = 110 := rfl
theorem gi2 (h : 2 < tInf.size) : (tInf[2]'h) = 102 := rfl
theorem gj0 (h : 0 < tInf3.size) : (tInf3[0]'h) = 73 := rfl
theorem gj1 (h : 1 < tInf3.size) : (tInf3[1]'h) = 110 := rfl
theorem gj2 (h : 2 < tInf3.size) : (tInf3[2]'h) = 102 := rfl
theorem gp0 (h : 0 < tPInf.size) : (tPInf[0]'h) = 43 := rfl
theorem gq0 (h : 0 < tNInf.size) : (tNInf[0]'h) = 45 := rfl
theorem xp : tPInf.extract 1 4 = tInf3 := rfl
theorem xq : tNInf.extract 1 4 = tInf3 := rfl
attribute [local go_sem] gi1 gi2 gn0 gn1 gn2 gm0 gm1 gm2 gj0 gj1 gj2 gp0 gq0 xp xq
set_option maxRecDepth 20000 in
set_option maxHeartbeats 1000000 in
theorem prefix_nan (w : World) : Calls Tryz.prog 187 #[.string tNaN, .string tnan] w fun e w' => e = .returned (.int .i64 3) ∧ w = w' := by
  go_enter Tryz.func187, Tryz.ntmps187
  go_wp2_with fail
  go_rounds 5
  go_ret
  exact ⟨rfl, rfl⟩
set_option maxRecDepth 20000 in
set_option maxHeartbeats 1000000 in
theorem prefix_inf (w : World) : Calls Tryz.prog 187 #[.string tInf3, .string tInf] w fun e w' => e = .returned (.int .i64 3) ∧ w = w' := by
  go_enter Tryz.func187, Tryz.ntmps187
  go_wp2_with fail
  go_rounds 5
  go_ret
  exact ⟨rfl, rfl⟩
theorem nan_call (w : World) : Calls Tryz.prog 189 #[] w fun e w' => e = .returned (.float .f64 9221120237041090561) ∧ w = w' := by
  go_enter Tryz.func189, Tryz.ntmps189
  go_wp2_with (first | (simp only [sfrom_call]) | fail)
  go_ret
  exact ⟨rfl, rfl⟩
theorem inf_pos (w : World) : Calls Tryz.prog 188 #[.int .i64 1] w fun e w' => e = .returned (.float .f64 9218868437227405312) ∧ w = w' := by
  go_enter Tryz.func188, Tryz.ntmps188
  go_wp2_with (first | (simp only [sfrom_call]) | fail)
  go_ret
  exact ⟨rfl, rfl⟩
theorem inf_neg (w : World) : Calls Tryz.prog 188 #[.int .i64 (-1)] w fun e w' => e = .returned (.float .f64 18442240474082181120) ∧ w = w' := by
  go_enter Tryz.func188, Tryz.ntmps188
  go_wp2_with (first | (simp only [sfrom_call]) | fail)
  go_ret
  exact ⟨rfl, rfl⟩
set_option maxRecDepth 20000 in
set_option maxHeartbeats 1000000 in
theorem special_nan (w : World) : Calls Tryz.prog 147 #[.string tNaN] w fun e w' => e = .returned (.tuple #[.float .f64 9221120237041090561, .int .i64 3, .bool true]) ∧ w = w' := by
  go_enter Tryz.func147, Tryz.ntmps147
  go_wp2_with (first | (go_at_call 187; refine (prefix_nan _).mono ?_; rintro e w' ⟨rfl, rfl⟩) | (go_at_call 189; refine (nan_call _).mono ?_; rintro e w' ⟨rfl, rfl⟩) | fail)
  go_returns
  exact ⟨rfl, rfl⟩
set_option maxRecDepth 20000 in
set_option maxHeartbeats 1000000 in
theorem special_pinf (w : World) : Calls Tryz.prog 147 #[.string tPInf] w fun e w' => e = .returned (.tuple #[.float .f64 9218868437227405312, .int .i64 4, .bool true]) ∧ w = w' := by
  go_enter Tryz.func147, Tryz.ntmps147
  go_wp2_with (first | (go_at_call 187; refine (prefix_inf _).mono ?_; rintro e w' ⟨rfl, rfl⟩) | (go_at_call 188; refine (inf_pos _).mono ?_; rintro e w' ⟨rfl, rfl⟩) | fail)
  go_returns
  exact ⟨rfl, rfl⟩
set_option maxRecDepth 20000 in
set_option maxHeartbeats 1000000 in
theorem special_ninf (w : World) : Calls Tryz.prog 147 #[.string tNInf] w fun e w' => e = .returned (.tuple #[.float .f64 18442240474082181120, .int .i64 4, .bool true]) ∧ w = w' := by
  go_enter Tryz.func147, Tryz.ntmps147
  go_wp2_with (first | (go_at_call 187; refine (prefix_inf _).mono ?_; rintro e w' ⟨rfl, rfl⟩) | (go_at_call 188; refine (inf_neg _).mono ?_; rintro e w' ⟨rfl, rfl⟩) | fail)
  go_returns
  exact ⟨rfl, rfl⟩
end Go.Proofs.YtnccpddjdgndcaaGreatDoor.Pf
end

section
/- THE WALKS OF strconv.atof64 AND ParseFloat AT A NUMBER's TEXT (second part). -/
namespace Go.Proofs.YtnccpddjdgndcaaGreatDoor.Pf
open Go.RowKit Go.Proofs.YtnccpddjdgndcaaGreatDoor.Fmt Go.Proofs.YtnccpddjdgndcaaGreatDoor.Nt Ieee
theorem rf_num (s : ByteArray) (ng : Bool) (j d : Nat) (p : Int) (hs : s.size ≤ 100000) (h0 : s.size ≠ 0) (hj : sgP s.data.toList = (ng, j)) (hx : hexP s.data.toList j = false) (ho : rfDec (s.data.toList.drop j) = some ⟨(d : Int), p, false, false, []⟩) (w : World) :
    Calls Tryz.prog 148 #[.string s] w fun e w' => e = .returned (.tuple #[.int .u64 d, .int .i64 p, .bool ng, .bool false, .bool false, .int .i64 s.size, .bool true]) ∧ Below w.heap.size w w' := by
  refine (rf_dec s w ng j hs h0 hj hx).mono ?_
  rintro e w' ⟨h, hb⟩
  have h1 : rfEnd false (rfGo false (s.data.toList.drop j) rs0) = some ⟨(d : Int), p, false, false, []⟩ := ho
  rw [h1] at h
  obtain ⟨m, x, tr, n, ok, rfl, n0, n1, m0, m1, x0, x1, hno, hyes⟩ := h
  obtain ⟨q1, q2, q3, q4, q5⟩ := hyes _ rfl
  refine ⟨?_, hb⟩
  have q6 := q1 rfl
  simp only [List.length_nil] at q2 q3 q4 q5
  have q7 : n = (s.size : Int) := by omega
  rw [q2, q3, q4, q6, q7]
/-- what a number's text is read as -/
structure NumT (s : ByteArray) (v : Nat) : Prop where
  hs : s.size ≤ 100000
  h0 : s.size ≠ 0
  spec : ∀ w, Calls Tryz.prog 147 #[.string s] w fun e w' => e = .returned (.tuple #[.float .f64 0, .int .i64 0, .bool false]) ∧ w = w'
  num : ∃ (ng : Bool) (j d : Nat) (p : Int), sgP s.data.toList = (ng, j) ∧ hexP s.data.toList j = false ∧ rfDec (s.data.toList.drop j) = some ⟨(d : Int), p, false, false, []⟩ ∧
    ((d = 0 ∧ v = sgN ng) ∨ (1 ≤ d ∧ d < 144115188075855872 ∧ -340 ≤ p ∧ p ≤ 308 ∧ ∃ b, 1 ≤ b ∧ b < 9218868437227405312 ∧ InR b (d * pw2 0 * pw10 p) ∧ v = double.word ng b))
set_option maxRecDepth 20000 in
set_option maxHeartbeats 2000000 in
theorem atof_num (s : ByteArray) (v : Nat) (h : NumT s v) (w : World) (hW : PfW w) (hP : Pow w) :
    Calls Tryz.prog 111 #[.string s] w fun e w' => e = .returned (.tuple #[.float .f64 v, .int .i64 s.size, .nilIface]) ∧ Below w.heap.size w w' := by
  obtain ⟨hs, h0, hsp, ng, j, d, p, hj, hx, ho, hv⟩ := h
  have hrf := fun W => rf_num s ng j d p hs h0 hj hx ho W
  have hb2 := fun W => bool2_any ng W
  have HSP := Lib.hid hsp; have HRF := Lib.hid hrf; have HB2 := Lib.hid hb2
  clear hsp hrf hj hx ho hb2
  have o0 : bits .or .u64 0 0 = 0 := by decide
  have o1 : bits .or .u64 9223372036854775808 0 = 9223372036854775808 := by decide
  have O0 := Lib.hid o0; have O1 := Lib.hid o1
  have HP := Lib.hid hP; have HWW := Lib.hid hW
  clear o0 o1 hP hW
  rcases hv with ⟨rfl, rfl⟩ | ⟨d1, d2, p1, p2, b, b1, b2, hr, rfl⟩
  · cases ng
    all_goals
      go_enter Tryz.func111, Tryz.ntmps111
      go_wp2_with (first | (go_at_call 147; refine (HSP.out _).mono ?_; rintro e w1 ⟨rfl, rfl⟩) | (go_at_call 148; refine (HRF.out _).mono ?_; rintro e w1 ⟨rfl, hb1⟩; have hopt := Tab.cell_below hb1 (Nat.le_refl _) HWW.out.opt) | (go_at_call 156; refine (bool2_any _ _).mono ?_; rintro e w2 ⟨rfl, rfl⟩) | (simp only [sfrom_call, O0.out, O1.out]) | fail)
      try simp only [O0.out, O1.out]
      go_returns
      exact ⟨rfl, hb1⟩
  · have hv2 := pfV_of b d p ng b1 b2 d1 d2 (by omega) (by omega) hr
    have hor : bits .or .u64 ((sgN ng : Nat) : Int) 0 = ((sgN ng : Nat) : Int) := by
      have := or_u (sgN ng) 0 (by cases ng <;> decide) (by decide)
      rw [Nat.or_zero] at this
      exact this
    have hpf := fun W hW => pf64_any d p (sgN ng : Nat) d1 (by omega) (by omega) (by omega) hor W hW
    rw [hv2] at hpf
    simp only [Int.toNat_natCast, errV, Bool.false_eq_true, if_false] at hpf
    have hex := fun W hW => exact_any d p ng d1 (by omega) (by omega) (by omega) W hW
    have HPF := Lib.hid hpf; have HEX := Lib.hid hex; have HR := Lib.hid hr
    have dB : ((d : Int) == 0) = false := beq_eq_false_iff_ne.2 (by omega)
    clear hv2 hor hpf hex hr
    have hp1 : ¬ (310 : Int) < p := by omega
    have hp2 : ¬ p < -345 := by omega
    cases ng
    all_goals
      have hpf2 := HPF.out
      try rw [show ((sgN false : Nat) : Int) = 0 from rfl] at hpf2
      try rw [show ((sgN true : Nat) : Int) = 9223372036854775808 from rfl] at hpf2
      have HPF2 := Lib.hid hpf2
      clear hpf2 HPF
      go_enter Tryz.func111, Tryz.ntmps111
      go_upto_region 19 with (first | (go_at_call 147; refine (HSP.out _).mono ?_; rintro e w1 ⟨rfl, rfl⟩) | (go_at_call 148; refine (HRF.out _).mono ?_; rintro e w1 ⟨rfl, hb1⟩; have hopt := Tab.cell_below hb1 (Nat.le_refl _) HWW.out.opt) | (go_at_call 156; refine (bool2_any _ _).mono ?_; rintro e w2 ⟨rfl, rfl⟩) | fail)
      have hW1 := HWW.out.below hb1 (Nat.le_refl _)
      have hP1 : Pow w1 := fun i hi => ⟨Tab.cell_below hb1 (Nat.le_refl _) (HP.out i hi).1, Tab.cell_below hb1 (Nat.le_refl _) (HP.out i hi).2⟩
      have HW1 := Lib.hid hW1; have HP1 := Lib.hid hP1
      clear hW1 hP1
      go_upto_region 20 with (first | (go_at_call 158; refine (HEX.out _ HW1.out).mono ?_; rintro e w2 ⟨⟨x, ok, rfl, hx⟩, rfl⟩) | fail)
      cases ok
      · clear hx
        go_wp2_with (first | (go_at_call 159; refine (HPF2.out _ HP1.out).mono ?_; rintro e w3 ⟨rfl, hb3⟩) | fail)
        go_returns
        exact ⟨rfl, Val.btrans hb1 hb3⟩
      · have hxx := hx rfl b b1 b2 HR.out
        subst hxx
        clear hx
        go_wp2_with fail
        go_returns
        exact ⟨rfl, hb1⟩
/-- the text's whole road -/
theorem prefix_num (s : ByteArray) (v : Nat) (h : NumT s v) (w : World) (hW : PfW w) (hP : Pow w) :
    Calls Tryz.prog 79 #[.string s, .int .i64 64] w fun e w' => e = .returned (.tuple #[.float .f64 v, .int .i64 s.size, .nilIface]) ∧ Below w.heap.size w w' := by
  have ha := atof_num s v h w hW hP
  have HA := Lib.hid ha; clear ha h
  go_enter Tryz.func79, Tryz.ntmps79
  go_wp2_with (go_at_call 111; refine HA.out.mono ?_; rintro e w' ⟨rfl, hb⟩)
  go_returns
  exact ⟨rfl, hb⟩
theorem iparse_num (s : ByteArray) (v : Nat) (h : NumT s v) (w : World) (hW : PfW w) (hP : Pow w) :
    Calls Tryz.prog 48 #[.string s, .int .i64 64] w fun e w' => e = .returned (.tuple #[.float .f64 v, .nilIface]) ∧ Below w.heap.size w w' := by
  have ha := prefix_num s v h w hW hP
  have HA := Lib.hid ha; clear ha h
  go_enter Tryz.func48, Tryz.ntmps48
  go_wp2_with (go_at_call 79; refine HA.out.mono ?_; rintro e w' ⟨rfl, hb⟩)
  go_returns
  exact ⟨rfl, hb⟩
theorem parse_num (s : ByteArray) (v : Nat) (h : NumT s v) (w : World) (hW : PfW w) (hP : Pow w) :
    Calls Tryz.prog 31 #[.string s, .int .i64 64] w fun e w' => e = .returned (.tuple #[.float .f64 v, .nilIface]) ∧ Below w.heap.size w w' := by
  have ha := iparse_num s v h w hW hP
  have HA := Lib.hid ha; clear ha h
  go_enter Tryz.func31, Tryz.ntmps31
  go_wp2_with (go_at_call 48; refine HA.out.mono ?_; rintro e w' ⟨rfl, hb⟩)
  go_returns
  exact ⟨rfl, hb⟩
end Go.Proofs.YtnccpddjdgndcaaGreatDoor.Pf
end

section
/- ParseFloat GIVES BACK THE NUMBER WHOSE TEXT IS READ. -/
namespace Go.Proofs.YtnccpddjdgndcaaGreatDoor.Pf
open Go.RowKit Go.Proofs.YtnccpddjdgndcaaGreatDoor.Fmt Go.Proofs.YtnccpddjdgndcaaGreatDoor.Nt Ieee
theorem frm_head (X i f : List UInt8) (e : Int) (h : Frm X i f e) : ∃ c r, X = c :: r ∧ IsD c := by
  obtain ⟨hi, hf, hne, s, hs, hX⟩ := h
  obtain ⟨c, t, rfl⟩ := List.exists_cons_of_ne_nil hne
  rcases hX with rfl | ⟨_, rfl⟩
  · exact ⟨c, _, rfl, hi c (List.mem_cons_self ..)⟩
  · exact ⟨c, _, rfl, hi c (List.mem_cons_self ..)⟩
theorem frm_chr (X i f : List UInt8) (e : Int) (h : Frm X i f e) : ∀ c ∈ X, IsN c := by
  obtain ⟨hi, hf, hne, s, hs, hX⟩ := h
  have hsn : ∀ c ∈ s, IsN c := by
    intro c hc
    rcases hs with ⟨rfl, _⟩ | ⟨g, ds, rfl, _, hd, _, hg⟩
    · cases hc
    · rcases List.mem_cons.1 hc with rfl | hc
      · exact .inr (.inr (.inr (.inr rfl)))
      rcases List.mem_cons.1 hc with rfl | hc
      · rcases hg with ⟨rfl, _⟩ | ⟨rfl, _⟩
        · exact .inr (.inl rfl)
        · exact .inr (.inr (.inl rfl))
      · exact .inl (hd c hc)
  intro c hc
  rcases hX with rfl | ⟨_, rfl⟩
  · rcases List.mem_append.1 hc with hc | hc
    · exact .inl (hi c hc)
    rcases List.mem_cons.1 hc with rfl | hc
    · exact .inr (.inr (.inr (.inl rfl)))
    rcases List.mem_append.1 hc with hc | hc
    · exact .inl (hf c hc)
    · exact hsn c hc
  · rcases List.mem_append.1 hc with hc | hc
    · exact .inl (hi c hc)
    · exact hsn c hc
theorem low_n : ∀ c : Nat, c < 256 → (48 ≤ c ∧ c ≤ 57) ∨ c = 43 ∨ c = 45 ∨ c = 46 ∨ c = 101 → (low (c : Int) == 120) = false := by decide +kernel
theorem low_isN (c : UInt8) (h : IsN c) : (low (c.toNat : Int) == 120) = false := by
  refine low_n c.toNat c.toNat_lt ?_
  rcases h with h | rfl | rfl | rfl | rfl
  · exact .inl h
  · exact .inr (.inl rfl)
  · exact .inr (.inr (.inl rfl))
  · exact .inr (.inr (.inr (.inl rfl)))
  · exact .inr (.inr (.inr (.inr rfl)))
theorem hexP_no (l X : List UInt8) (j : Nat) (hl : l.drop j = X) (hX : ∀ c ∈ X, IsN c) : hexP l j = false := by
  unfold hexP
  by_cases h : j + 2 < l.length
  · have : IsN (l.getD (j + 1) 0) := by
      refine hX _ ?_
      rw [← hl, List.getD_eq_getElem?_getD, List.getElem?_eq_getElem (by omega), Option.getD_some]
      refine List.mem_drop_iff_getElem.2 ⟨1, by omega, ?_⟩
      congr 1
    rw [low_isN _ this, Bool.and_false, Bool.and_false]
  · rw [decide_eq_false h, Bool.false_and]
theorem size_list (l : List UInt8) : (⟨l.toArray⟩ : ByteArray).size = l.length := by simp [ByteArray.size]
theorem numT_make (ng : Bool) (X i f : List UInt8) (e : Int) (v d : Nat) (p : Int) (h : Frm X i f e) (hl : (sgn ng ++ X).length ≤ 100000) (hr : rfDec X = some ⟨(d : Int), p, false, false, []⟩)
    (hv : (d = 0 ∧ v = sgN ng) ∨ (1 ≤ d ∧ d < 144115188075855872 ∧ -340 ≤ p ∧ p ≤ 308 ∧ ∃ b, 1 ≤ b ∧ b < 9218868437227405312 ∧ InR b (d * pw2 0 * pw10 p) ∧ v = double.word ng b)) : NumT ⟨(sgn ng ++ X).toArray⟩ v := by
  obtain ⟨c, r, rfl, hc⟩ := frm_head X i f e h
  have hn := frm_chr _ i f e h
  have hcd : 48 ≤ (c.toNat : Int) ∧ (c.toNat : Int) ≤ 57 := by unfold IsD at hc; omega
  have hz := size_list (sgn ng ++ c :: r)
  cases ng
  · have e0 : sgn false ++ c :: r = c :: r := rfl
    rw [e0] at hz hl ⊢
    have hp : 0 < (⟨(c :: r).toArray⟩ : ByteArray).size := by rw [hz]; simp
    refine ⟨by rw [hz]; exact hl, by omega, fun w => special_pos _ hp (by exact hcd) w, false, 0, d, p, ?_, ?_, ?_, hv⟩
    · show sgP (c :: r) = _
      unfold sgP
      simp only
      rw [if_neg (by omega), if_neg (by omega)]
    · exact hexP_no _ (c :: r) 0 rfl hn
    · exact hr
  · have e0 : sgn true ++ c :: r = 45 :: c :: r := rfl
    rw [e0] at hz hl ⊢
    have hp : 0 < (⟨(45 :: c :: r).toArray⟩ : ByteArray).size := by rw [hz]; simp
    have hz2 := size_list (c :: r)
    have hx : (⟨(45 :: c :: r).toArray⟩ : ByteArray).extract 1 (⟨(45 :: c :: r).toArray⟩ : ByteArray).size = ⟨(c :: r).toArray⟩ := by
      apply ByteArray.ext
      rw [ByteArray.data_extract, hz]
      simp
    refine ⟨by rw [hz]; exact hl, by omega, fun w => special_neg _ ⟨(c :: r).toArray⟩ hp (by rfl) hx (by rw [hz2]; simp) (by exact hcd) w, true, 1, d, p, ?_, ?_, ?_, hv⟩
    · rfl
    · exact hexP_no _ (c :: r) 1 rfl hn
    · exact hr
theorem flt_len2 (v : Nat) : (fltT v).length ≤ 2000 := by
  have h := Val.flt_len v
  unfold fltT
  split
  · omega
  · rw [List.length_append]; simp; omega
theorem numT_of (v : Nat) (hv : v < 18446744073709551616) (hb : bexp v ≤ 2046) : NumT ⟨(fltT v).toArray⟩ v := by
  have hlen := flt_len2 v
  have hsplit : v = sgN (bneg v) + v % 9223372036854775808 := by
    unfold bneg sgN
    by_cases h : v / 9223372036854775808 = 0
    · simp [h]; omega
    · have : v / 9223372036854775808 = 1 := by omega
      simp [this]; omega
  by_cases hz : bexp v = 0 ∧ bman v = 0
  · have hft : ftoaT v = sgn (bneg v) ++ [48] := by unfold ftoaT; rw [if_neg (by omega), if_pos hz]
    have hm : marked (ftoaT v) = false := by rw [hft]; cases bneg v <;> decide
    have ht : fltT v = sgn (bneg v) ++ [48, 46, 48] := by unfold fltT; rw [hm, if_neg (by decide), hft, List.append_assoc]; rfl
    have hfr : Frm [48, 46, 48] [48] [48] 0 := ⟨zeros_isD 1, zeros_isD 1, by simp, [], Or.inl ⟨rfl, rfl⟩, Or.inl rfl⟩
    have hr := rf_form _ _ _ _ hfr (by decide)
    have hv0 : v % 9223372036854775808 = 0 := by unfold bexp bman at hz; omega
    rw [ht] at hlen ⊢
    refine numT_make (bneg v) _ _ _ _ v 0 0 hfr (by omega) (by rw [hr]; rfl) (Or.inl ⟨rfl, by omega⟩)
  · obtain ⟨X, i, f, e, ht, hfr, m1, m2, p1, p2, hr⟩ := flt_form v hb (by omega)
    have hrr := rf_form X i f e hfr (by omega)
    rw [if_neg (by omega)] at hrr
    rw [ht] at hlen ⊢
    have hbb : 1 ≤ v % 9223372036854775808 ∧ v % 9223372036854775808 < 9218868437227405312 := by unfold bexp bman at *; omega
    exact numT_make (bneg v) X i f e v _ _ hfr (by omega) hrr (Or.inr ⟨m1, m2, p1, p2, v % 9223372036854775808, hbb.1, hbb.2, hr, by rw [word_eq]; exact hsplit⟩)
end Go.Proofs.YtnccpddjdgndcaaGreatDoor.Pf
end

section
/- ParseFloat GIVES BACK ANY NUMBER's TEXT; value.Read AT A NUMBER's TEXT. -/
namespace Go.Proofs.YtnccpddjdgndcaaGreatDoor.Pf
open Go.RowKit Go.Proofs.YtnccpddjdgndcaaGreatDoor.Fmt Go.Proofs.YtnccpddjdgndcaaGreatDoor.Nt Ieee
theorem atof_spec (s : ByteArray) (v : Nat) (h : ∀ w, Calls Tryz.prog 147 #[.string s] w fun e w' => e = .returned (.tuple #[.float .f64 v, .int .i64 s.size, .bool true]) ∧ w = w') (w : World) :
    Calls Tryz.prog 111 #[.string s] w fun e w' => e = .returned (.tuple #[.float .f64 v, .int .i64 s.size, .nilIface]) ∧ Below w.heap.size w w' := by
  have HA := Lib.hid h; clear h
  go_enter Tryz.func111, Tryz.ntmps111
  go_wp2_with (first | (go_at_call 147; refine (HA.out _).mono ?_; rintro e w1 ⟨rfl, rfl⟩) | fail)
  go_returns
  exact ⟨rfl, Below.refl _ _⟩
theorem parse_of (s : ByteArray) (v : Nat) (w : World) (ha : Calls Tryz.prog 111 #[.string s] w fun e w' => e = .returned (.tuple #[.float .f64 v, .int .i64 s.size, .nilIface]) ∧ Below w.heap.size w w') :
    Calls Tryz.prog 31 #[.string s, .int .i64 64] w fun e w' => e = .returned (.tuple #[.float .f64 v, .nilIface]) ∧ Below w.heap.size w w' := by
  have h1 : Calls Tryz.prog 79 #[.string s, .int .i64 64] w fun e w' => e = .returned (.tuple #[.float .f64 v, .int .i64 s.size, .nilIface]) ∧ Below w.heap.size w w' := by
    have HA := Lib.hid ha; clear ha
    go_enter Tryz.func79, Tryz.ntmps79
    go_wp2_with (go_at_call 111; refine HA.out.mono ?_; rintro e w' ⟨rfl, hb⟩)
    go_returns
    exact ⟨rfl, hb⟩
  have h2 : Calls Tryz.prog 48 #[.string s, .int .i64 64] w fun e w' => e = .returned (.tuple #[.float .f64 v, .nilIface]) ∧ Below w.heap.size w w' := by
    have HA := Lib.hid h1; clear h1 ha
    go_enter Tryz.func48, Tryz.ntmps48
    go_wp2_with (go_at_call 79; refine HA.out.mono ?_; rintro e w' ⟨rfl, hb⟩)
    go_returns
    exact ⟨rfl, hb⟩
  have HA := Lib.hid h2; clear h1 h2 ha
  go_enter Tryz.func31, Tryz.ntmps31
  go_wp2_with (go_at_call 48; refine HA.out.mono ?_; rintro e w' ⟨rfl, hb⟩)
  go_returns
  exact ⟨rfl, hb⟩
/-- the text of any number that is kept -/
theorem parse_flt (v : Nat) (hv : v < 18446744073709551616) (hc : Ord.canon v = v) (w : World) (hW : PfW w) (hP : Pow w) :
    Calls Tryz.prog 31 #[.string ⟨(fltT v).toArray⟩, .int .i64 64] w fun e w' => e = .returned (.tuple #[.float .f64 v, .nilIface]) ∧ Below w.heap.size w w' := by
  have hx : bexp v < 2048 := Nat.mod_lt _ (by decide)
  by_cases hb : bexp v = 2047
  · by_cases hm : bman v = 0
    · rw [fltT_inf v hb hm]
      cases hn : bneg v
      · have : v = 9218868437227405312 := by unfold bexp bman bneg at *; simp at hn; omega
        subst this
        exact parse_of _ _ w (atof_spec _ _ (fun w => special_pinf w) w)
      · have : v = 18442240474082181120 := by unfold bexp bman bneg at *; simp at hn; omega
        subst this
        exact parse_of _ _ w (atof_spec _ _ (fun w => special_ninf w) w)
    · rw [fltT_nan v hb hm]
      have hnan : Flt.nan v = true := by
        unfold Flt.nan Flt.rung
        rw [decide_eq_true_iff, show Flt.inf = 9218868437227405312 by decide, show (2 : Nat) ^ 63 = 9223372036854775808 by decide]
        unfold bexp bman at *
        omega
      have : v = 9221120237041090561 := by
        unfold Ord.canon at hc
        rw [hnan, if_pos rfl] at hc
        exact hc.symm
      subst this
      exact parse_of _ _ w (atof_spec _ _ (fun w => special_nan w) w)
  · exact parse_num _ v (numT_of v hv (by omega)) w hW hP
theorem flt_marked (v : Nat) : marked (fltT v) = true := by
  unfold fltT
  cases h : marked (ftoaT v)
  · rw [if_neg (by decide), marked_iff]
    exact ⟨46, by simp, Or.inl rfl⟩
  · rw [if_pos rfl]; exact h
theorem flt_head (v : Nat) : ∃ c r, fltT v = c :: r ∧ c ≠ 34 ∧ c ≠ 121 ∧ c ≠ 110 := by
  have h0 : ∃ c r, ftoaT v = c :: r ∧ c ≠ 34 ∧ c ≠ 121 ∧ c ≠ 110 := by
    have hx : bexp v < 2048 := Nat.mod_lt _ (by decide)
    unfold ftoaT
    split
    · split
      · exact ⟨_, _, rfl, by decide, by decide, by decide⟩
      · split
        · exact ⟨_, _, rfl, by decide, by decide, by decide⟩
        · exact ⟨_, _, rfl, by decide, by decide, by decide⟩
    · have key : ∀ (X : List UInt8), (∃ c r, X = c :: r ∧ IsD c) → ∃ c r, sgn (bneg v) ++ X = c :: r ∧ c ≠ 34 ∧ c ≠ 121 ∧ c ≠ 110 := by
        rintro X ⟨c, r, rfl, hd⟩
        cases bneg v
        · exact ⟨c, r, rfl, isD_ne hd _ (by decide), isD_ne hd _ (by decide), isD_ne hd _ (by decide)⟩
        · exact ⟨45, _, rfl, by decide, by decide, by decide⟩
      split
      · exact key _ ⟨48, [], rfl, by unfold IsD; decide⟩
      · exact key _ (Num.mk (by omega) (by omega) : Num v).head
  obtain ⟨c, r, h, q⟩ := h0
  unfold fltT
  split
  · exact ⟨c, r, h, q⟩
  · exact ⟨c, r ++ [46, 48], by rw [h]; rfl, q⟩
end Go.Proofs.YtnccpddjdgndcaaGreatDoor.Pf
namespace Go.Proofs.YtnccpddjdgndcaaGreatDoor.Val
open Go.RowKit Flt
attribute [local go_sem] run_store_flt
theorem idx0 (c : UInt8) (r : List UInt8) (h : 0 < (⟨(c :: r).toArray⟩ : ByteArray).size) : ((⟨(c :: r).toArray⟩ : ByteArray)[0]'h) = c := rfl
attribute [local go_sem] idx0
theorem any_at2 (t : List UInt8) (W : World) (ha : ∀ c ∈ t, c.toNat < 128) (hl : t.length ≤ 100000) :
    Calls Tryz.prog 30 #[.string ⟨t.toArray⟩, .string ⟨#[46, 101, 73, 78]⟩] W fun e w' => e = .returned (.bool (Fmt.marked t)) ∧ Below W.heap.size W w' := by
  have h : (⟨t.toArray⟩ : ByteArray).size = t.length := by simp [ByteArray.size]
  refine Tryz.strings_ContainsAny_laid ⟨t.toArray⟩ ⟨#[46, 101, 73, 78]⟩ W (by rw [h]; omega) (by decide) (fun j b hb => ha b ?_) (fun j b hb => ?_)
  · exact List.mem_of_getElem? hb
  · have : b ∈ [46, 101, 73, 78] := List.mem_of_getElem? hb
    simp only [List.mem_cons, List.not_mem_nil, or_false] at this
    rcases this with rfl | rfl | rfl | rfl <;> decide
theorem flt_ascii2 (b : Nat) : ∀ c ∈ Fmt.fltT b, c.toNat < 128 := by
  intro c hc
  unfold Fmt.fltT at hc
  split at hc
  · exact flt_ascii b c hc
  · rcases List.mem_append.1 hc with h | h
    · exact flt_ascii b c h
    · simp only [List.mem_cons, List.not_mem_nil, or_false] at h
      rcases h with rfl | rfl <;> decide
set_option maxRecDepth 20000 in
set_option maxHeartbeats 4000000 in
theorem read_num (v : Nat) (hv : v < 18446744073709551616) (hc : Ord.canon v = v) (w : World) (hT : Tab.Tabs w) (hP : Pf.PfW w) :
    Calls Tryz.prog 10 #[.string ⟨(Fmt.fltT v).toArray⟩] w fun e w' => e = .returned (.tuple #[val 1 0 v [] false, .bool true]) ∧ Below w.heap.size w w' := by
  have hpa := fun W hW hP2 => Pf.parse_flt v hv hc W hW hP2
  have hlen := Pf.flt_len2 v
  have hany := fun W => any_at2 (Fmt.fltT v) W (flt_ascii2 v) (by omega)
  rw [Pf.flt_marked] at hany
  have hpr := fun W hW => vprint_any 1 0 v [] false W hv (by decide) (by decide) (by decide) hW
  have hvt : vT ⟨1, 0, v, [], false⟩ = Fmt.fltT v := by
    show Fmt.fltT (Ord.canon v) = _
    rw [hc]
  rw [hvt] at hpr
  have hcan := fun W => Ord.canon_any v W
  rw [hc] at hcan
  have hri := fun W => vright_any 1 0 v [] false W (by decide)
  rw [show vRight ⟨1, 0, v, [], false⟩ = true from rfl] at hri
  obtain ⟨c, r, hl, n34, n121, n110⟩ := Pf.flt_head v
  rw [hl] at hlen hpa hany hpr ⊢
  have HPA := Lib.hid hpa; have HAN := Lib.hid hany; have HPR := Lib.hid hpr; have HC := Lib.hid hcan; have HR := Lib.hid hri; have HT := Lib.hid hT; have HP := Lib.hid hP
  clear hpa hany hpr hcan hri hT hP hvt hc hl
  have m34 : (((c.toNat : Int)) == 34) = false := beq_eq_false_iff_ne.2 (fun h => n34 (UInt8.toNat_inj.1 (by show c.toNat = 34; omega)))
  have m121 : (c == 121) = false := beq_eq_false_iff_ne.2 n121
  have m110 : (c == 110) = false := beq_eq_false_iff_ne.2 n110
  have hP10 : Fmt.Pow w := HT.out.pow
  have HP1 := Lib.hid hP10; clear hP10
  go_enter Tryz.func10, Tryz.ntmps10
  go_wp2_with (first
    | (go_at_call 30; refine (HAN.out _).mono ?_; rintro e w1 ⟨rfl, hb1⟩; have HB1 := Lib.hid hb1; obtain ⟨c0, c1, f0, f1, hz1, hl1⟩ := two_box hb1; clear hb1)
    | (go_at_call 31; refine (HPA.out _ (HP.out.below hl1 (Nat.le_refl _)) ((HT.out.below hl1 (Nat.le_refl _)).pow)).mono ?_; rintro e w2 ⟨rfl, hb2⟩; have HB2 := Lib.hid (btrans HB1.out hb2); clear c0 c1 f0 f1 hz1 hl1 hb2; obtain ⟨c0, c1, f0, f1, hz1, hl1⟩ := two_box HB2.out)
    | (go_at_call 32; refine (HC.out _).mono ?_; rintro e w' ⟨rfl, rfl⟩) | fail)
  obtain ⟨W2, hW2, d0, ⟨e0, e1, e2, e3, e4⟩, g0, hz2, hl2⟩ := two_set HB2.out rfl (.int .i64 1) (.int .i64 0) (.float .f64 v) (.string ⟨#[]⟩) (.bool false)
  rw [← hW2]
  clear c0 c1 f0 f1 hz1 hl1 HB1 HB2 hW2
  have HB := Lib.hid hl2; clear hl2
  go_wp2_with (first
    | (go_at_call 12; refine (HR.out _).mono ?_; rintro e w3 ⟨rfl, hb3⟩; obtain ⟨hc3, hf3⟩ := bcell hb3; have hs3 := Nat.lt_of_lt_of_le hz2 hb3.size; have hs3' : w.heap.size < W2.heap.size := by omega)
    | (go_at_call 13; refine (HPR.out _ (HT.out.below (btrans HB.out hb3) (Nat.le_refl _))).mono ?_; rintro e w4 ⟨rfl, hb4⟩; obtain ⟨hc4, hf4⟩ := bcell hb4; have hs4' : w.heap.size < w3.heap.size := by omega) | fail)
  obtain ⟨r0, r1, r2, r3, r4, hb5⟩ := set5_at w4 w.heap.size (.int .i64 1) (.int .i64 0) (.float .f64 v) (.string ⟨#[]⟩) (.bool false) (fun j hj => by
    rw [hc4 _ _ (by omega), hc3 _ _ (by omega), d0, Array.getElem?_eq_getElem (by exact hj)]; rfl)
  generalize World.setCell _ _ _ = W5 at *
  refine bodyPost_ret (v := .tuple #[val 1 0 v [] false, .bool true]) (by simp [results, Tryz.results10, go_sem, r0, r1, r2, r3, r4]; try rfl) rfl ?_
  exact ⟨rfl, (btrans (btrans HB.out hb3) hb4).trans hb5⟩
end Go.Proofs.YtnccpddjdgndcaaGreatDoor.Val
end

section
/- value.Read AT A WHOLE NUMBER's TEXT, AND AT YES AND NO. -/
namespace Go.Proofs.YtnccpddjdgndcaaGreatDoor.Val
open Go.RowKit Flt
attribute [local go_sem] run_store_flt idx0
theorem uint_run : ∀ (l : List UInt8) (a : Nat), (∀ c ∈ l, Fmt.IsD c) → a * 10 ^ l.length + Fmt.dval l < 18446744073709551616 → Lib.parseUint10 a l = .ok (a * 10 ^ l.length + Fmt.dval l)
  | [], a, _, _ => by simp [Lib.parseUint10, Fmt.dval]
  | c :: l, a, hi, hl => by
    have hc := hi c (List.mem_cons_self ..)
    unfold Fmt.IsD at hc
    rw [Fmt.dval_cons, List.length_cons, Nat.pow_succ] at hl ⊢
    have p := Nat.pow_pos (n := l.length) (show 0 < 10 by decide)
    have e : a * (10 ^ l.length * 10) + ((c.toNat - 48) * 10 ^ l.length + Fmt.dval l) = (a * 10 + (c.toNat - 48)) * 10 ^ l.length + Fmt.dval l := by grind
    rw [e] at hl ⊢
    have ha := Nat.le_mul_of_pos_right (a * 10 + (c.toNat - 48)) p
    unfold Lib.parseUint10
    rw [if_pos hc, if_neg (by omega), if_neg (by omega)]
    exact uint_run l _ (fun x hx => hi x (List.mem_cons_of_mem _ hx)) hl
theorem mag_dec (u : Nat) (h : u < 18446744073709551616) : Lib.parseMag (Lib.decDigits u) = .ok u := by
  obtain ⟨hv, hd⟩ := Fmt.decDigits_val u
  have hne : Lib.decDigits u ≠ [] := by
    intro e
    have h2 := Lib.decDigits_length u
    rw [e, List.length_nil] at h2
    have := Lib.nDigits_pos u
    omega
  unfold Lib.parseMag
  rw [if_neg hne, uint_run _ 0 hd (by rw [hv]; omega), hv, Nat.zero_mul, Nat.zero_add]
theorem int_back (n : Int) (h0 : -9223372036854775808 ≤ n) (h1 : n ≤ 9223372036854775807) : Lib.parseIntB 64 (Lib.itoa n) = .ok n := by
  rw [Lib.parseIntB_64]
  by_cases hn : n < 0
  · obtain ⟨u, rfl⟩ : ∃ u : Nat, n = -(u : Int) := ⟨n.natAbs, by omega⟩
    rw [Lib.itoa_neg u (by omega), Lib.atoiAll_minus, mag_dec u (by omega)]
    unfold Lib.signed
    simp only
    rw [if_neg (by omega)]
  · obtain ⟨u, rfl⟩ : ∃ u : Nat, n = (u : Int) := ⟨n.toNat, by omega⟩
    rw [Lib.itoa_nonneg]
    obtain ⟨hv, hd⟩ := Fmt.decDigits_val u
    have hm := mag_dec u (by omega)
    cases hl : Lib.decDigits u with
    | nil =>
      have h2 := Lib.decDigits_length u
      rw [hl, List.length_nil] at h2
      have := Lib.nDigits_pos u
      omega
    | cons c r =>
      have hc := hd c (by rw [hl]; exact List.mem_cons_self ..)
      unfold Fmt.IsD at hc
      rw [← hl, hl, Lib.atoiAll_plain c r (by omega) (by omega), ← hl, hm]
      unfold Lib.signless
      simp only
      rw [if_neg (by omega)]
theorem itoa_sig (n : Int) : ∀ c ∈ Lib.itoa n, Fmt.IsD c ∨ c = 45 := by
  intro c hc
  unfold Lib.itoa at hc
  split at hc
  · rcases List.mem_cons.1 hc with rfl | h
    · exact Or.inr rfl
    · exact Or.inl ((Fmt.decDigits_val _).2 c h)
  · exact Or.inl ((Fmt.decDigits_val _).2 c hc)
theorem itoa_no (n : Int) : Fmt.marked (Lib.itoa n) = false := by
  cases h : Fmt.marked (Lib.itoa n)
  · rfl
  · rw [Fmt.marked_iff] at h
    obtain ⟨c, hc, q⟩ := h
    exfalso
    rcases itoa_sig n c hc with k | rfl
    · unfold Fmt.IsD at k
      rcases q with rfl | rfl | rfl | rfl <;> revert k <;> decide
    · revert q; decide
theorem itoa_head (n : Int) : ∃ c r, Lib.itoa n = c :: r ∧ c ≠ 34 ∧ c ≠ 121 ∧ c ≠ 110 := by
  have hc := itoa_sig n
  cases h : Lib.itoa n with
  | nil =>
    exfalso
    unfold Lib.itoa at h
    split at h
    · cases h
    · have h2 := Lib.decDigits_length n.toNat
      rw [h, List.length_nil] at h2
      have := Lib.nDigits_pos n.toNat
      omega
  | cons c r =>
    refine ⟨c, r, rfl, ?_⟩
    rw [h] at hc
    rcases hc c (List.mem_cons_self ..) with k | rfl
    · exact ⟨Fmt.isD_ne k _ (by decide), Fmt.isD_ne k _ (by decide), Fmt.isD_ne k _ (by decide)⟩
    · decide
set_option maxRecDepth 20000 in
set_option maxHeartbeats 4000000 in
theorem read_int (n : Int) (h0 : -9223372036854775808 ≤ n) (h1 : n ≤ 9223372036854775807) (w : World) (hT : Tab.Tabs w) :
    Calls Tryz.prog 10 #[.string ⟨(Lib.itoa n).toArray⟩] w fun e w' => e = .returned (.tuple #[val 0 n 0 [] false, .bool true]) ∧ Below w.heap.size w w' := by
  have hlen := Lib.itoa_length_le n h0 h1
  have hsz := Pf.size_list (Lib.itoa n)
  have hpa : ∀ W, Calls Tryz.prog 33 #[.string ⟨(Lib.itoa n).toArray⟩, .int .i64 10, .int .i64 64] W fun e w' => e = .returned (.tuple #[.int .i64 n, .nilIface]) ∧ Below W.heap.size W w' := fun W => by
    refine (Tryz.strconv_ParseInt_10_at64_ok ⟨(Lib.itoa n).toArray⟩ (by rw [hsz]; omega) n (int_back n h0 h1) W).mono ?_
    rintro e w' ⟨rfl, h⟩
    refine ⟨rfl, ?_⟩
    rcases h with rfl | ⟨t, rfl⟩
    · exact Below.refl _ _
    · exact Lib.bytesWorld_below _ _ _
  have hany := fun W => any_at2 (Lib.itoa n) W (fun c hc => by rcases itoa_sig n c hc with k | rfl; (unfold Fmt.IsD at k; omega); decide) (by omega)
  rw [itoa_no] at hany
  have hpr := fun W hW => vprint_any 0 n 0 [] false W (by decide) h0 h1 (by decide) hW
  have hvt : vT ⟨0, n, 0, [], false⟩ = Lib.itoa n := rfl
  rw [hvt] at hpr
  have hri := fun W => vright_any 0 n 0 [] false W (by decide)
  rw [show vRight ⟨0, n, 0, [], false⟩ = true from rfl] at hri
  obtain ⟨c, r, hl, n34, n121, n110⟩ := itoa_head n
  rw [hl] at hlen hpa hany hpr ⊢
  have HPA := Lib.hid hpa; have HAN := Lib.hid hany; have HPR := Lib.hid hpr; have HR := Lib.hid hri; have HT := Lib.hid hT
  clear hpa hany hpr hri hT hvt hl hsz
  have m34 : (((c.toNat : Int)) == 34) = false := beq_eq_false_iff_ne.2 (fun h => n34 (UInt8.toNat_inj.1 (by show c.toNat = 34; omega)))
  have m121 : (c == 121) = false := beq_eq_false_iff_ne.2 n121
  have m110 : (c == 110) = false := beq_eq_false_iff_ne.2 n110
  go_enter Tryz.func10, Tryz.ntmps10
  go_wp2_with (first
    | (go_at_call 30; refine (HAN.out _).mono ?_; rintro e w1 ⟨rfl, hb1⟩; have HB1 := Lib.hid hb1; obtain ⟨c0, c1, f0, f1, hz1, hl1⟩ := two_box hb1; clear hb1)
    | (go_at_call 33; refine (HPA.out _).mono ?_; rintro e w2 ⟨rfl, hb2⟩; have HB2 := Lib.hid (btrans HB1.out hb2); clear c0 c1 f0 f1 hz1 hl1 hb2; obtain ⟨c0, c1, f0, f1, hz1, hl1⟩ := two_box HB2.out) | fail)
  obtain ⟨W2, hW2, d0, ⟨e0, e1, e2, e3, e4⟩, g0, hz2, hl2⟩ := two_set HB2.out rfl (.int .i64 0) (.int .i64 n) (.float .f64 0) (.string ⟨#[]⟩) (.bool false)
  rw [← hW2]
  clear c0 c1 f0 f1 hz1 hl1 HB1 HB2 hW2
  have HB := Lib.hid hl2; clear hl2
  go_wp2_with (first
    | (go_at_call 12; refine (HR.out _).mono ?_; rintro e w3 ⟨rfl, hb3⟩; obtain ⟨hc3, hf3⟩ := bcell hb3; have hs3 := Nat.lt_of_lt_of_le hz2 hb3.size; have hs3' : w.heap.size < W2.heap.size := by omega)
    | (go_at_call 13; refine (HPR.out _ (HT.out.below (btrans HB.out hb3) (Nat.le_refl _))).mono ?_; rintro e w4 ⟨rfl, hb4⟩; obtain ⟨hc4, hf4⟩ := bcell hb4; have hs4' : w.heap.size < w3.heap.size := by omega) | fail)
  obtain ⟨r0, r1, r2, r3, r4, hb5⟩ := set5_at w4 w.heap.size (.int .i64 0) (.int .i64 n) (.float .f64 0) (.string ⟨#[]⟩) (.bool false) (fun j hj => by
    rw [hc4 _ _ (by omega), hc3 _ _ (by omega), d0, Array.getElem?_eq_getElem (by exact hj)]; rfl)
  generalize World.setCell _ _ _ = W5 at *
  refine bodyPost_ret (v := .tuple #[val 0 n 0 [] false, .bool true]) (by simp [results, Tryz.results10, go_sem, r0, r1, r2, r3, r4]; try rfl) rfl ?_
  exact ⟨rfl, (btrans (btrans HB.out hb3) hb4).trans hb5⟩
set_option maxRecDepth 20000 in
set_option maxHeartbeats 4000000 in
theorem read_bool (b : Bool) (w : World) (hT : Tab.Tabs w) :
    Calls Tryz.prog 10 #[.string ⟨(if b then yesT else noT).toArray⟩] w fun e w' => e = .returned (.tuple #[val 3 0 0 [] b, .bool true]) ∧ Below w.heap.size w w' := by
  have hpr := fun W hW => vprint_any 3 0 0 [] b W (by decide) (by decide) (by decide) (by decide) hW
  have hri := fun W => vright_any 3 0 0 [] b W (by decide)
  rw [show vRight ⟨3, 0, 0, [], b⟩ = true from rfl] at hri
  rw [show vT ⟨3, 0, 0, [], b⟩ = (if b then yesT else noT) from rfl] at hpr
  have HPR := Lib.hid hpr; have HR := Lib.hid hri; have HT := Lib.hid hT
  clear hpr hri hT
  have hq : (noT == [121, 101, 115]) = false := by decide
  cases b
  · skip
    go_enter Tryz.func10, Tryz.ntmps10
    go_wp2_with (first
      | (go_at_call 12; refine (HR.out _).mono ?_; rintro e w3 ⟨rfl, hb3⟩; obtain ⟨c0, c1, f0, f1, hz1, hl1⟩ := two_box hb3)
      | (go_at_call 13; refine (HPR.out _ (HT.out.below hl1 (Nat.le_refl _))).mono ?_; rintro e w4 ⟨rfl, hb4⟩; obtain ⟨hc4, hf4⟩ := bcell hb4; have hs4' : w.heap.size < w3.heap.size := by omega) | fail)
    obtain ⟨r0, r1, r2, r3, r4, hb5⟩ := set5_at w4 w.heap.size (.int .i64 3) (.int .i64 0) (.float .f64 0) (.string ⟨#[]⟩) (.bool false) (fun j hj => by
      rw [hc4 _ _ (by omega), c0, Array.getElem?_eq_getElem (by exact hj)]; rfl)
    generalize World.setCell _ _ _ = W5 at *
    refine bodyPost_ret (v := .tuple #[val 3 0 0 [] false, .bool true]) (by simp [results, Tryz.results10, go_sem, r0, r1, r2, r3, r4]; try rfl) rfl ?_
    exact ⟨rfl, (btrans hl1 hb4).trans hb5⟩
  · skip
    go_enter Tryz.func10, Tryz.ntmps10
    go_wp2_with (first
      | (go_at_call 12; refine (HR.out _).mono ?_; rintro e w3 ⟨rfl, hb3⟩; obtain ⟨c0, c1, f0, f1, hz1, hl1⟩ := two_box hb3)
      | (go_at_call 13; refine (HPR.out _ (HT.out.below hl1 (Nat.le_refl _))).mono ?_; rintro e w4 ⟨rfl, hb4⟩; obtain ⟨hc4, hf4⟩ := bcell hb4; have hs4' : w.heap.size < w3.heap.size := by omega) | fail)
    obtain ⟨r0, r1, r2, r3, r4, hb5⟩ := set5_at w4 w.heap.size (.int .i64 3) (.int .i64 0) (.float .f64 0) (.string ⟨#[]⟩) (.bool true) (fun j hj => by
      rw [hc4 _ _ (by omega), c0, Array.getElem?_eq_getElem (by exact hj)]; rfl)
    generalize World.setCell _ _ _ = W5 at *
    refine bodyPost_ret (v := .tuple #[val 3 0 0 [] true, .bool true]) (by simp [results, Tryz.results10, go_sem, r0, r1, r2, r3, r4]; try rfl) rfl ?_
    exact ⟨rfl, (btrans hl1 hb4).trans hb5⟩
end Go.Proofs.YtnccpddjdgndcaaGreatDoor.Val
end

section
/- THE WALKS OF value.Canon and cond.Canon. -/
namespace Go.Proofs.YtnccpddjdgndcaaGreatDoor.Val
open Go.RowKit Flt
attribute [local go_sem] run_store_flt
def canonV (v : V) : V := if v.kind == 0 then ⟨0, v.int, 0, [], false⟩ else if v.kind == 1 then ⟨1, 0, Ord.canon v.num, [], false⟩ else if v.kind == 2 then ⟨2, 0, 0, v.text, false⟩ else if v.kind == 3 then ⟨3, 0, 0, [], v.yes⟩ else ⟨0, 0, 0, [], false⟩
/-- a value's own form -/
abbrev vv (v : V) : Value := val v.kind v.int v.num v.text v.yes
theorem kind_ways (k : Int) : (k == 0) = true ∨ ((k == 0) = false ∧ (k == 1) = true) ∨ ((k == 0) = false ∧ (k == 1) = false ∧ (k == 2) = true) ∨ ((k == 0) = false ∧ (k == 1) = false ∧ (k == 2) = false ∧ (k == 3) = true) ∨ ((k == 0) = false ∧ (k == 1) = false ∧ (k == 2) = false ∧ (k == 3) = false) := by
  cases h0 : (k == 0) <;> cases h1 : (k == 1) <;> cases h2 : (k == 2) <;> cases h3 : (k == 3) <;> simp
set_option maxHeartbeats 400000 in
theorem vcanon_any (k n : Int) (x : Nat) (t : List UInt8) (y : Bool) (w : World) :
    Calls Tryz.prog 15 #[val k n x t y] w fun e w' => e = .returned (vv (canonV ⟨k, n, x, t, y⟩)) ∧ Below w.heap.size w w' := by
  have hr : canonV ⟨k, n, x, t, y⟩ = if k == 0 then ⟨0, n, 0, [], false⟩ else if k == 1 then ⟨1, 0, Ord.canon x, [], false⟩ else if k == 2 then ⟨2, 0, 0, t, false⟩ else if k == 3 then ⟨3, 0, 0, [], y⟩ else ⟨0, 0, 0, [], false⟩ := rfl
  have HR := Lib.hid hr; clear hr
  rcases kind_ways k with h0 | ⟨h0, h1⟩ | ⟨h0, h1, h2⟩ | ⟨h0, h1, h2, h3⟩ | ⟨h0, h1, h2, h3⟩
  all_goals
    go_enter Tryz.func15, Tryz.ntmps15
    go_wp2_with (go_at_call 32; refine (Ord.canon_any _ _).mono ?_; rintro e w' ⟨rfl, rfl⟩)
    go_returns
    exact ⟨by rw [HR.out]; simp only [*, Bool.false_eq_true, if_false, if_true], by repeat (first | assumption | (with_reducible exact Below.refl _ _) | exact balloc _ _ | exact balloc2 _ _ _ | refine btrans ?_ (by assumption) | refine btrans ?_ (balloc _ _))⟩
end Go.Proofs.YtnccpddjdgndcaaGreatDoor.Val
end

section
/- THE WALKS OF package order: Key, Same. -/
namespace Go.Proofs.YtnccpddjdgndcaaGreatDoor.Ord
open Go.RowKit Flt
attribute [local go_sem] ford_eq ford_lt ford_gt
theorem bits_call (b : Nat) (w : World) : (callFunc 86 #[.float .f64 b]).run Tryz.prog w = .ok (.value (.int .u64 b)) w :=
  run_callFunc_extern (e := Extern.MathFloatBits.float64bits) Tryz.func86 (by kernel_rfl) (by kernel_rfl) (by kernel_rfl) (by kernel_rfl) _ w
theorem umax_xor (b : Nat) (hb : b < 18446744073709551616) : bits .xor .u64 IntKind.u64.max (b : Int) = ((most - b : Nat) : Int) := by
  have h := u64_xor 18446744073709551615 (b : Int) (by decide) (by decide) (by omega) (by omega)
  have e : IntKind.u64.max = 18446744073709551615 := by decide
  rw [e, h]
  have e2 : (18446744073709551615 : Int).toNat = most := by decide
  rw [e2, Int.toNat_natCast, xor_most hb]
theorem top_or (b : Nat) (hb : b < 18446744073709551616) : bits .or .u64 (b : Int) 9223372036854775808 = ((b ||| top : Nat) : Int) := by
  have h := u64_or (b : Int) 9223372036854775808 (by omega) (by omega) (by decide) (by decide)
  rw [h, Int.toNat_natCast]; rfl
theorem ret_u64 {a b : Int} (h : a = b) : Ending.returned (.int .u64 a) = .returned (.int .u64 b) := by rw [h]
set_option maxHeartbeats 400000 in
theorem key_any (b : Nat) (hb : b < 18446744073709551616) (w : World) :
    Calls Tryz.prog 52 #[.float .f64 b] w fun e w' => e = .returned (.int .u64 (key b)) ∧ w = w' := by
  have hc := bits_call
  have h1 := ford_ne_self (canon b)
  rw [canon_nan] at h1
  cases hn : nan b with
  | true =>
    rw [key_nan hn]
    rw [hn] at h1; clear hn hb
    go_enter Tryz.func52, Tryz.ntmps52
    go_wp2_with (go_at_call 32; refine (canon_any _ _).mono ?_; rintro e w' ⟨rfl, rfl⟩)
    go_ret
    exact ⟨rfl, rfl⟩
  | false =>
    rw [hn] at h1
    have hk := key_of_canon b hb hn
    have hl := canon_lt b hb
    clear hn hb
    by_cases h : canon b / 9223372036854775808 = 1
    · rw [if_pos h] at hk
      have HK := Lib.hid hk; clear hk
      have h' : ((canon b : Int) / 9223372036854775808 == 1) = true := by rw [beq_iff_eq]; omega
      clear h
      go_enter Tryz.func52, Tryz.ntmps52
      go_wp2_with (go_at_call 32; refine (canon_any _ _).mono ?_; rintro e w' ⟨rfl, rfl⟩)
      go_ret
      exact ⟨ret_u64 (by rw [HK.out, umax_xor _ hl]), rfl⟩
    · rw [if_neg h] at hk
      have HK := Lib.hid hk; clear hk
      have h' : ((canon b : Int) / 9223372036854775808 == 1) = false := by rw [beq_eq_false_iff_ne]; omega
      clear h
      go_enter Tryz.func52, Tryz.ntmps52
      go_wp2_with (go_at_call 32; refine (canon_any _ _).mono ?_; rintro e w' ⟨rfl, rfl⟩)
      go_ret
      exact ⟨ret_u64 (by rw [HK.out, top_or _ hl]), rfl⟩
def same (a b : Nat) : Bool := key a == key b
theorem beq_cast (a b : Nat) : ((a : Int) == (b : Int)) = (a == b) := by
  rw [Bool.eq_iff_iff]; simp; omega
set_option maxHeartbeats 400000 in
theorem same_any (a b : Nat) (ha : a < 18446744073709551616) (hb : b < 18446744073709551616) (w : World) :
    Calls Tryz.prog 34 #[.float .f64 a, .float .f64 b] w fun e w' => e = .returned (.bool (same a b)) ∧ w = w' := by
  go_enter Tryz.func34, Tryz.ntmps34
  go_wp2_with (go_at_call 52; refine (key_any _ (by assumption) _).mono ?_; rintro e w' ⟨rfl, rfl⟩)
  go_ret
  exact ⟨ret_bool (beq_cast _ _), rfl⟩
end Go.Proofs.YtnccpddjdgndcaaGreatDoor.Ord
end

section
/- THE WALKS OF value.Same, cond.below, cond.above. -/
namespace Go.Proofs.YtnccpddjdgndcaaGreatDoor.Val
open Go.RowKit Flt
def sameB (a b : V) : Bool := a.kind == b.kind && (if a.kind == 0 then a.int == b.int else if a.kind == 1 then Ord.same a.num b.num else if a.kind == 2 then a.text == b.text else a.yes == b.yes)
set_option maxHeartbeats 400000 in
theorem same_any (k1 n1 : Int) (x1 : Nat) (t1 : List UInt8) (y1 : Bool) (k2 n2 : Int) (x2 : Nat) (t2 : List UInt8) (y2 : Bool) (w : World) (h1 : x1 < 18446744073709551616) (h2 : x2 < 18446744073709551616) :
    Calls Tryz.prog 11 #[val k1 n1 x1 t1 y1, val k2 n2 x2 t2 y2] w fun e w' => e = .returned (.bool (sameB ⟨k1, n1, x1, t1, y1⟩ ⟨k2, n2, x2, t2, y2⟩)) ∧ Below w.heap.size w w' := by
  have hr : sameB ⟨k1, n1, x1, t1, y1⟩ ⟨k2, n2, x2, t2, y2⟩ = (k1 == k2 && (if k1 == 0 then n1 == n2 else if k1 == 1 then Ord.same x1 x2 else if k1 == 2 then t1 == t2 else y1 == y2)) := rfl
  have ho (w : World) := Ord.same_any x1 x2 h1 h2 w
  generalize Ord.same x1 x2 = sb at *
  have HR := Lib.hid hr; have HO := Lib.hid ho; clear hr ho h1 h2
  cases hk : (k1 == k2)
  · have hk' : (k1 != k2) = true := by rw [bne, hk]; rfl
    go_enter Tryz.func11, Tryz.ntmps11
    go_wp2
    go_ret
    exact ⟨ret_bool (by rw [HR.out, hk]; rfl), balloc2 _ _ _⟩
  have hk' : (k1 != k2) = false := by rw [bne, hk]; rfl
  cases q0 : (k1 == 0)
  · cases q1 : (k1 == 1)
    · cases q2 : (k1 == 2)
      all_goals
        go_enter Tryz.func11, Tryz.ntmps11
        go_wp2
        go_ret
        exact ⟨ret_bool (by rw [HR.out, hk, q0, q1, q2]; rfl), balloc2 _ _ _⟩
    · go_enter Tryz.func11, Tryz.ntmps11
      go_wp2_with (go_at_call 34; refine (HO.out _).mono ?_; rintro e w' ⟨rfl, rfl⟩)
      go_ret
      exact ⟨ret_bool (by rw [HR.out, hk, q0, q1]; rfl), balloc2 _ _ _⟩
  · go_enter Tryz.func11, Tryz.ntmps11
    go_wp2
    go_ret
    exact ⟨ret_bool (by rw [HR.out, hk, q0]; rfl), balloc2 _ _ _⟩
end Go.Proofs.YtnccpddjdgndcaaGreatDoor.Val
end

section
/- VALUES THAT ARE NOT THE SAME HAVE TEXTS THAT ARE NOT, whatever stands behind; those that are the same have one. No walk. -/
namespace Go.Proofs.YtnccpddjdgndcaaGreatDoor.Val
open Go.RowKit Flt
theorem nan_iff (b : Nat) : nan b = true ↔ 9218868437227405312 < b % 9223372036854775808 := by
  unfold nan rung inf
  rw [decide_eq_true_eq]
theorem canon_bits (x : Nat) (hx : x < 18446744073709551616) : Ord.canon x < 18446744073709551616 ∧
    ((Ord.canon x = 9221120237041090561) ∨ (Fmt.bexp (Ord.canon x) ≤ 2046) ∨ (Fmt.bexp (Ord.canon x) = 2047 ∧ Fmt.bman (Ord.canon x) = 0)) := by
  refine ⟨canon_lt x hx, ?_⟩
  have na := nan_iff x
  unfold Ord.canon Ord.nan0
  cases h1 : nan x
  · rw [h1] at na
    have : ¬ 9218868437227405312 < x % 9223372036854775808 := fun h => by have := na.2 h; cases this
    simp only [Bool.false_eq_true, if_false]
    split
    · right; left; decide
    · right
      unfold Fmt.bexp Fmt.bman
      omega
  · left; rfl
end Go.Proofs.YtnccpddjdgndcaaGreatDoor.Val
end

section
/- value.Read AT THE TEXT OF ANY VALUE IN ITS OWN FORM. -/
namespace Go.Proofs.YtnccpddjdgndcaaGreatDoor.Val
open Go.RowKit Flt
theorem canon2_two (x : Nat) : Ord.canon (Ord.canon x) = Ord.canon x := by
  unfold Ord.canon
  cases h : nan x
  · cases h2 : Ord.zero x
    · simp only [h, h2, Bool.false_eq_true, if_false]
    · simp only [Bool.false_eq_true, if_false, if_true]
      rw [if_neg (by decide), if_pos (by decide)]
  · simp only [if_true]
    rw [if_pos (by decide)]
theorem canon2_fits (v : V) (hn : -9223372036854775808 ≤ v.int ∧ v.int ≤ 9223372036854775807) : (-9223372036854775808 ≤ (canonV v).int ∧ (canonV v).int ≤ 9223372036854775807) ∧ (canonV v).text.length ≤ v.text.length := by
  unfold canonV
  split
  · exact ⟨hn, by simp⟩
  split
  · exact ⟨by simp, by simp⟩
  split
  · exact ⟨by simp, by simp⟩
  split <;> exact ⟨by simp, by simp⟩
/-- what Read answers at the text of a value in its own form -/
def back (c : V) : Value := .tuple #[if vRight c then vv c else val 0 0 0 [] false, .bool (vRight c)]
theorem read_back (v : V) (hx : v.num < 18446744073709551616) (hn : -9223372036854775808 ≤ v.int ∧ v.int ≤ 9223372036854775807) (ht : v.text.length ≤ 800) (w : World) (hT : Tab.Tabs w) (hE : Unq.ErrS w) (hP : Pf.PfW w) :
    Calls Tryz.prog 10 #[.string ⟨(vT (canonV v)).toArray⟩] w fun e w' => e = .returned (back (canonV v)) ∧ Below w.heap.size w w' := by
  obtain ⟨k, n, x, t, y⟩ := v
  dsimp only at hx hn ht
  rcases kind_ways k with h | ⟨h0, h⟩ | ⟨h0, h1, h⟩ | ⟨h0, h1, h2, h⟩ | ⟨h0, h1, h2, h3⟩
  · have e : canonV ⟨k, n, x, t, y⟩ = ⟨0, n, 0, [], false⟩ := by simp only [canonV, h, if_true]
    rw [e]
    exact read_int n hn.1 hn.2 w hT
  · have e : canonV ⟨k, n, x, t, y⟩ = ⟨1, 0, Ord.canon x, [], false⟩ := by simp only [canonV, h0, h, if_true, Bool.false_eq_true, if_false]
    rw [e]
    have e2 : vT ⟨1, 0, Ord.canon x, [], false⟩ = Fmt.fltT (Ord.canon x) := by
      show Fmt.fltT (Ord.canon (Ord.canon x)) = _
      rw [canon2_two]
    rw [e2]
    exact read_num (Ord.canon x) (canon_bits x hx).1 (canon2_two x) w hT hP
  · have e : canonV ⟨k, n, x, t, y⟩ = ⟨2, 0, 0, t, false⟩ := by simp only [canonV, h0, h1, h, if_true, Bool.false_eq_true, if_false]
    rw [e]
    by_cases hl : t.length ≤ 40
    · have hr : vRight ⟨2, 0, 0, t, false⟩ = true := by
        show (true && true && decide (t.length ≤ 40)) = _
        simp; omega
      have := read_text t w hl hT hE
      unfold back
      rw [hr]
      exact this
    · have hr : vRight ⟨2, 0, 0, t, false⟩ = false := by
        show (true && true && decide (t.length ≤ 40)) = _
        simp; omega
      have := read_text_no t w ht (by omega) hT hE
      unfold back
      rw [hr]
      exact this
  · have e : canonV ⟨k, n, x, t, y⟩ = ⟨3, 0, 0, [], y⟩ := by simp only [canonV, h0, h1, h2, h, if_true, Bool.false_eq_true, if_false]
    rw [e]
    exact read_bool y w hT
  · have e : canonV ⟨k, n, x, t, y⟩ = ⟨0, 0, 0, [], false⟩ := by simp only [canonV, h0, h1, h2, h3, Bool.false_eq_true, if_false]
    rw [e]
    exact read_int 0 (by decide) (by decide) w hT
theorem one_box {w w1 : World} {A : Array Value} {T : TypeId} (hb : Below (w.alloc (.cells A T)).heap.size (w.alloc (.cells A T)) w1) :
    (∀ o, w1.cell? ⟨w.heap.size, o, none⟩ = A[o]?) ∧ (∀ o, w1.frozen? ⟨w.heap.size, o, none⟩ = false) ∧ w.heap.size < w1.heap.size ∧ Below w.heap.size w w1 := by
  have hz := size1 hb
  have c : ∀ b o, b < w.heap.size + 1 → w1.cell? ⟨b, o, none⟩ = (w.alloc (.cells A T)).cell? ⟨b, o, none⟩ := fun b o h => hb.cell (p := ⟨b, o, none⟩) (by simp; omega)
  have f : ∀ b o, b < w.heap.size + 1 → w1.frozen? ⟨b, o, none⟩ = (w.alloc (.cells A T)).frozen? ⟨b, o, none⟩ := fun b o h => hb.frozen (p := ⟨b, o, none⟩) (by simp; omega)
  exact ⟨fun o => (c _ o (by omega)).trans (by simp), fun o => (f _ o (by omega)).trans (by simp), hz, btrans (balloc _ _) hb⟩
theorem one_set {w w1 : World} {A : Array Value} {T : TypeId} (hb : Below (w.alloc (.cells A T)).heap.size (w.alloc (.cells A T)) w1) (hA : A.size = 5) (v0 v1 v2 v3 v4 : Value) :
    ∃ W2, W2 = (((((w1.setCell ⟨w.heap.size, 0, none⟩ v0).setCell ⟨w.heap.size, 1, none⟩ v1).setCell ⟨w.heap.size, 2, none⟩ v2).setCell ⟨w.heap.size, 3, none⟩ v3).setCell ⟨w.heap.size, 4, none⟩ v4) ∧
      (W2.cell? ⟨w.heap.size, 0, none⟩ = some v0 ∧ W2.cell? ⟨w.heap.size, 1, none⟩ = some v1 ∧ W2.cell? ⟨w.heap.size, 2, none⟩ = some v2 ∧ W2.cell? ⟨w.heap.size, 3, none⟩ = some v3 ∧ W2.cell? ⟨w.heap.size, 4, none⟩ = some v4) ∧ w.heap.size < W2.heap.size ∧ Below w.heap.size w W2 := by
  obtain ⟨c0, f0, hz, hl⟩ := one_box hb
  obtain ⟨e0, e1, e2, e3, e4, h2⟩ := set5_at w1 w.heap.size v0 v1 v2 v3 v4 (fun j hj => by rw [c0, Array.getElem?_eq_getElem (by omega)]; rfl)
  exact ⟨_, rfl, ⟨e0, e1, e2, e3, e4⟩, Nat.lt_of_lt_of_le hz h2.size, hl.trans h2⟩
end Go.Proofs.YtnccpddjdgndcaaGreatDoor.Val
end

section
/- THE WALK OF the law ValuePrints of chapter 02. -/
namespace Go.Proofs.YtnccpddjdgndcaaGreatDoor.Val
open Go.RowKit Flt
attribute [local go_sem] run_store_flt
theorem same_self (c : V) : sameB c c = true := by
  have h : Ord.same c.num c.num = true := by unfold Ord.same; simp
  unfold sameB
  simp [h]
theorem pf_of_w {w : World} (h : Pf.PfW w) : Pf.PfT w := by
  obtain ⟨h1, h2, R, o, c, h3, h4⟩ := h
  exact ⟨h1, h2, R, o, c, h3, h4 1 (by decide)⟩
theorem vp_below {w W W2 : World} {b c : Nat} {v0 v1 v2 v3 v4 u0 u1 u2 u3 u4 : Value} (hb : Below W.heap.size W W2)
    (h : W.cell? ⟨b, 0, none⟩ = some v0 ∧ W.cell? ⟨b, 1, none⟩ = some v1 ∧ W.cell? ⟨b, 2, none⟩ = some v2 ∧ W.cell? ⟨b, 3, none⟩ = some v3 ∧ W.cell? ⟨b, 4, none⟩ = some v4 ∧ W.cell? ⟨c, 0, none⟩ = some u0 ∧ W.cell? ⟨c, 1, none⟩ = some u1 ∧ W.cell? ⟨c, 2, none⟩ = some u2 ∧ W.cell? ⟨c, 3, none⟩ = some u3 ∧ W.cell? ⟨c, 4, none⟩ = some u4 ∧ Below w.heap.size w W ∧ b < W.heap.size ∧ c < W.heap.size) :
    W2.cell? ⟨b, 0, none⟩ = some v0 ∧ W2.cell? ⟨b, 1, none⟩ = some v1 ∧ W2.cell? ⟨b, 2, none⟩ = some v2 ∧ W2.cell? ⟨b, 3, none⟩ = some v3 ∧ W2.cell? ⟨b, 4, none⟩ = some v4 ∧ W2.cell? ⟨c, 0, none⟩ = some u0 ∧ W2.cell? ⟨c, 1, none⟩ = some u1 ∧ W2.cell? ⟨c, 2, none⟩ = some u2 ∧ W2.cell? ⟨c, 3, none⟩ = some u3 ∧ W2.cell? ⟨c, 4, none⟩ = some u4 ∧ Below w.heap.size w W2 ∧ b < W2.heap.size ∧ c < W2.heap.size := by
  obtain ⟨h0, h1, h2, h3, h4, g0, g1, g2, g3, g4, hB, hz, hz2⟩ := h
  have e : ∀ o, W2.cell? ⟨b, o, none⟩ = W.cell? ⟨b, o, none⟩ := fun o => hb.cell (p := ⟨b, o, none⟩) hz
  have f : ∀ o, W2.cell? ⟨c, o, none⟩ = W.cell? ⟨c, o, none⟩ := fun o => hb.cell (p := ⟨c, o, none⟩) hz2
  exact ⟨(e 0).trans h0, (e 1).trans h1, (e 2).trans h2, (e 3).trans h3, (e 4).trans h4, (f 0).trans g0, (f 1).trans g1, (f 2).trans g2, (f 3).trans g3, (f 4).trans g4, btrans hB hb, Nat.lt_of_lt_of_le hz hb.size, Nat.lt_of_lt_of_le hz2 hb.size⟩
theorem vp_own {w W : World} {b c : Nat} {v0 v1 v2 v3 v4 u0 u1 u2 u3 u4 : Value} (h : W.cell? ⟨b, 0, none⟩ = some v0 ∧ W.cell? ⟨b, 1, none⟩ = some v1 ∧ W.cell? ⟨b, 2, none⟩ = some v2 ∧ W.cell? ⟨b, 3, none⟩ = some v3 ∧ W.cell? ⟨b, 4, none⟩ = some v4 ∧ W.cell? ⟨c, 0, none⟩ = some u0 ∧ W.cell? ⟨c, 1, none⟩ = some u1 ∧ W.cell? ⟨c, 2, none⟩ = some u2 ∧ W.cell? ⟨c, 3, none⟩ = some u3 ∧ W.cell? ⟨c, 4, none⟩ = some u4 ∧ Below w.heap.size w W ∧ b < W.heap.size ∧ c < W.heap.size) : Below w.heap.size w W := by
  obtain ⟨_, _, _, _, _, _, _, _, _, _, hB, _, _⟩ := h; exact hB
theorem vp_start {w w5 w6 : World} {b : Nat} {v0 v1 v2 v3 v4 u0 u1 u2 u3 u4 : Value} {T : TypeId} (hB : Below w.heap.size w w5) (hz : b < w5.heap.size) (h0 : w5.cell? ⟨b, 0, none⟩ = some v0) (h1 : w5.cell? ⟨b, 1, none⟩ = some v1) (h2 : w5.cell? ⟨b, 2, none⟩ = some v2) (h3 : w5.cell? ⟨b, 3, none⟩ = some v3) (h4 : w5.cell? ⟨b, 4, none⟩ = some v4)
    (hb : Below (w5.alloc (.cells #[u0, u1, u2, u3, u4] T)).heap.size (w5.alloc (.cells #[u0, u1, u2, u3, u4] T)) w6) :
    w6.cell? ⟨b, 0, none⟩ = some v0 ∧ w6.cell? ⟨b, 1, none⟩ = some v1 ∧ w6.cell? ⟨b, 2, none⟩ = some v2 ∧ w6.cell? ⟨b, 3, none⟩ = some v3 ∧ w6.cell? ⟨b, 4, none⟩ = some v4 ∧ w6.cell? ⟨w5.heap.size, 0, none⟩ = some u0 ∧ w6.cell? ⟨w5.heap.size, 1, none⟩ = some u1 ∧ w6.cell? ⟨w5.heap.size, 2, none⟩ = some u2 ∧ w6.cell? ⟨w5.heap.size, 3, none⟩ = some u3 ∧ w6.cell? ⟨w5.heap.size, 4, none⟩ = some u4 ∧ Below w.heap.size w w6 ∧ b < w6.heap.size ∧ w5.heap.size < w6.heap.size := by
  obtain ⟨c, _, hz2, hl⟩ := one_box hb
  have e : ∀ o, w6.cell? ⟨b, o, none⟩ = w5.cell? ⟨b, o, none⟩ := fun o => hl.cell (p := ⟨b, o, none⟩) hz
  exact ⟨(e 0).trans h0, (e 1).trans h1, (e 2).trans h2, (e 3).trans h3, (e 4).trans h4, c 0, c 1, c 2, c 3, c 4, btrans hB hl, by omega, hz2⟩
set_option maxRecDepth 100000 in
set_option maxHeartbeats 8000000 in
theorem prints_in (k0 n0 : Int) (x0 : Nat) (t0 : List UInt8) (y0 : Bool) (k n : Int) (x : Nat) (t : List UInt8) (y : Bool) (p : List UInt8) (w : World) (hT : Tab.Tabs w) (hP : Pf.PfW w) (hE : Unq.ErrS w) (ht : t0.length ≤ 300) (hcan : ∀ w, Calls Tryz.prog 15 #[val k0 n0 x0 t0 y0] w fun e w' => e = .returned (val k n x t y) ∧ Below w.heap.size w w')
    (hpr : ∀ w, Tab.Tabs w → Calls Tryz.prog 13 #[val k n x t y] w fun e w' => e = .returned (.string ⟨p.toArray⟩) ∧ Below w.heap.size w w')
    (hrd : ∀ w, Tab.Tabs w → Unq.ErrS w → Pf.PfW w → Calls Tryz.prog 10 #[.string ⟨p.toArray⟩] w fun e w' => e = .returned (back ⟨k, n, x, t, y⟩) ∧ Below w.heap.size w w')
    (hri : ∀ w, Calls Tryz.prog 12 #[val k n x t y] w fun e w' => e = .returned (.bool (vRight ⟨k, n, x, t, y⟩)) ∧ Below w.heap.size w w')
    (hs : ∀ w, Calls Tryz.prog 11 #[val k n x t y, val k n x t y] w fun e w' => e = .returned (.bool true) ∧ Below w.heap.size w w') (vb : Bool)
    (hv : ∀ w, Calls Tryz.prog 16 #[val k n x t y] w fun e w' => e = .returned (.bool vb) ∧ Below w.heap.size w w') :
    Calls Tryz.prog 4 #[val k0 n0 x0 t0 y0] w fun e w' => e = .returned (.bool true) ∧ Below w.heap.size w w' := by
  have hl (w : World) := light_v k0 n0 x0 t0 y0 w (by omega)
  rw [show decide (t0.length ≤ 300) = true from decide_eq_true ht] at hl
  have HL := Lib.hid hl; have HT := Lib.hid hT; have HP := Lib.hid hP; have HE := Lib.hid hE; have HCAN := Lib.hid hcan; have HPR := Lib.hid hpr; have HS := Lib.hid hs; have HV := Lib.hid hv
  clear hl hT hP hE hcan hpr hs hv
  unfold back at hrd
  cases hr : vRight ⟨k, n, x, t, y⟩
  all_goals
    rw [hr] at hri hrd
    have HRI := Lib.hid hri; have HRD := Lib.hid hrd
    clear hri hrd hr
    try simp only [Bool.false_eq_true, if_false, if_true] at HRD
    go_enter Tryz.func4, Tryz.ntmps4
    go_wp2_with (first | (go_at_call 9; refine (fit02_any _ (HT.out.below (by repeat (first | assumption | (with_reducible exact Below.refl _ _) | exact balloc _ _ | exact balloc2 _ _ _ | refine btrans ?_ (by assumption) | refine btrans ?_ (balloc _ _))) (Nat.le_refl _)) (pf_of_w (HP.out.below (by repeat (first | assumption | (with_reducible exact Below.refl _ _) | exact balloc _ _ | exact balloc2 _ _ _ | refine btrans ?_ (by assumption) | refine btrans ?_ (balloc _ _))) (Nat.le_refl _)))).mono ?_; rintro e w1 ⟨rfl, hb1⟩; obtain ⟨hc1, hf1⟩ := bcell hb1) | (go_at_call 14; refine (HL.out _).mono ?_; (rintro e w2 ⟨rfl, hb2⟩; replace hb1 := btrans hb1 hb2; clear hb2 hc1 hf1; obtain ⟨hc1, hf1⟩ := bcell hb1)) | (go_at_call 15; refine (HCAN.out _).mono ?_; (rintro e w2 ⟨rfl, hb2⟩; replace hb1 := btrans hb1 hb2; clear hb2 hc1 hf1; obtain ⟨hc1, hf1⟩ := bcell hb1)) | fail)
    obtain ⟨W2, hW2, ⟨e0, e1, e2, e3, e4⟩, hz2, hl2⟩ := one_set hb1 rfl (.int .i64 k) (.int .i64 n) (.float .f64 x) (.string ⟨t.toArray⟩) (.bool y)
    rw [← hW2]
    clear hW2 hb1 hc1 hf1
    go_wp2_with (first
      | (go_at_call 13; refine (HPR.out _ (HT.out.below hl2 (Nat.le_refl _))).mono ?_; rintro e w4 ⟨rfl, hb4⟩; obtain ⟨hc4, hf4⟩ := bcell hb4; have hl4 := btrans hl2 hb4; have hz4 := Nat.lt_of_lt_of_le hz2 hb4.size)
      | (go_at_call 10; refine (HRD.out _ (HT.out.below hl4 (Nat.le_refl _)) (Unq.err_below HE.out hl4) (HP.out.below hl4 (Nat.le_refl _))).mono ?_; rintro e w5 ⟨rfl, hb5⟩; have HB5 := Lib.hid (btrans hl4 hb5); obtain ⟨hc5, hf5⟩ := bcell (btrans hb4 hb5); have c0 := (hc5 _ 0 hz2).trans e0; have c1 := (hc5 _ 1 hz2).trans e1; have c2 := (hc5 _ 2 hz2).trans e2; have c3 := (hc5 _ 3 hz2).trans e3; have c4 := (hc5 _ 4 hz2).trans e4; have hz5 := Nat.lt_of_lt_of_le hz4 hb5.size; clear hc5 hf5 hc4 hf4 e0 e1 e2 e3 e4 hl2 hl4 hb4 hb5 hz2 hz4)
      | (go_at_call 12; refine (HRI.out _).mono ?_; rintro e w6 ⟨rfl, hb6⟩) | fail)
  · go_ret
    exact ⟨rfl, btrans (btrans HB5.out (balloc _ _)) hb6⟩
  · have HSS := Lib.hid (vp_start HB5.out hz5 c0 c1 c2 c3 c4 hb6)
    obtain ⟨W5, hW5⟩ : ∃ m, w5.heap.size = m := ⟨_, rfl⟩
    rw [hW5] at HSS ⊢
    clear c0 c1 c2 c3 c4 hb6 hz5 HB5 hW5
    refine wp_region_held_drew (S := (fun w' => w'.cell? ⟨w.heap.size, 0, none⟩ = some (.int .i64 k) ∧ w'.cell? ⟨w.heap.size, 1, none⟩ = some (.int .i64 n) ∧ w'.cell? ⟨w.heap.size, 2, none⟩ = some (.float .f64 x) ∧ w'.cell? ⟨w.heap.size, 3, none⟩ = some (.string ⟨t.toArray⟩) ∧ w'.cell? ⟨w.heap.size, 4, none⟩ = some (.bool y) ∧ w'.cell? ⟨W5, 0, none⟩ = some (.int .i64 k) ∧ w'.cell? ⟨W5, 1, none⟩ = some (.int .i64 n) ∧ w'.cell? ⟨W5, 2, none⟩ = some (.float .f64 x) ∧ w'.cell? ⟨W5, 3, none⟩ = some (.string ⟨t.toArray⟩) ∧ w'.cell? ⟨W5, 4, none⟩ = some (.bool y) ∧ Below w.heap.size w w' ∧ w.heap.size < w'.heap.size ∧ W5 < w'.heap.size)) (by kernel_rfl) ?_ (fun hq0 => ?_)
    · ((try dsimp only); (first | exact HSS.out | exact vp_below (bdrewN (Below.refl _ _) 1) HSS.out | assumption | exact vp_below (by assumption) (by assumption)))
    (refine wpAnyH_take (i := 0) (oi := ?_) (v := ?_) ?_ (by kernel_rfl) (by kernel_rfl) (by kernel_rfl) ?_ (Or.inl ⟨?_, ?_⟩) (by assumption) ?_; rotate_left 2; (· (simp only [List.getElem?_toArray, List.getElem?_cons_zero]; first | done | rfl)); (· exact (fun _ _ _ h => h)); (· rfl); (· (intro w hSw; (try dsimp only at hSw); go_simp; (try with_reducible rfl))))
    (try simp only [Act.put, List.setIfInBounds_toArray, List.set_cons_zero, List.set_cons_succ])
    (refine wpAnyH_take (i := 1) (oi := ?_) (v := ?_) ?_ (by kernel_rfl) (by kernel_rfl) (by kernel_rfl) ?_ (Or.inl ⟨?_, ?_⟩) (by assumption) ?_; rotate_left 2; (· (simp only [List.getElem?_toArray, List.getElem?_cons_succ, List.getElem?_cons_zero]; first | done | rfl)); (· exact (fun _ _ _ h => h)); (· rfl); (· (intro w hSw; (try dsimp only at hSw); go_simp; (try with_reducible rfl))))
    (try simp only [Act.put, List.setIfInBounds_toArray, List.set_cons_zero, List.set_cons_succ])
    (refine wpAnyH_take (i := 2) (oi := ?_) (v := ?_) ?_ (by kernel_rfl) (by kernel_rfl) (by kernel_rfl) ?_ (Or.inl ⟨?_, ?_⟩) (by assumption) ?_; rotate_left 2; (· (simp only [List.getElem?_toArray, List.getElem?_cons_succ, List.getElem?_cons_zero]; first | done | rfl)); (· exact (fun _ _ _ h => h)); (· rfl); (· (intro w hSw; (try dsimp only at hSw); go_simp; (try with_reducible rfl))))
    (try simp only [Act.put, List.setIfInBounds_toArray, List.set_cons_zero, List.set_cons_succ])
    (refine wpAnyH_take (i := 3) (oi := ?_) (v := ?_) ?_ (by kernel_rfl) (by kernel_rfl) (by kernel_rfl) ?_ (Or.inl ⟨?_, ?_⟩) (by assumption) ?_; rotate_left 2; (· (simp only [List.getElem?_toArray, List.getElem?_cons_succ, List.getElem?_cons_zero]; first | done | rfl)); (· exact (fun _ _ _ h => h)); (· rfl); (· (intro w hSw; (try dsimp only at hSw); go_simp; (try with_reducible rfl))))
    (try simp only [Act.put, List.setIfInBounds_toArray, List.set_cons_zero, List.set_cons_succ])
    refine wpAnyH_ready (rs := [4]) (by kernel_rfl) (by simp) ?_
    refine AllReadyH.cons (o := ?_) ?_ (fun K hK => ?_) AllReadyH.nil
    rotate_left 1
    · (simp only [List.getElem?_toArray, List.getElem?_cons_succ, List.getElem?_cons_zero]; first | done | rfl)
    go_simp
    first | (refine hK.out _ _ ?_ (fun hq1 => ?_)) | ((first | (go_at_call 11; refine (HS.out _).mono ?_) | (go_at_call 13; refine (HPR.out _ (HT.out.below (vp_own (by assumption)) (Nat.le_refl _))).mono ?_) | (go_at_call 16; refine (HV.out _).mono ?_)); (rintro e w9 ⟨rfl, hb9⟩); refine hK.out _ _ ?_ (fun hq1 => ?_)) | ((first | (go_at_call 11; refine (HS.out _).mono ?_) | (go_at_call 13; refine (HPR.out _ (HT.out.below (vp_own (by assumption)) (Nat.le_refl _))).mono ?_) | (go_at_call 16; refine (HV.out _).mono ?_)); (rintro e w9 ⟨rfl, hb9⟩); go_wp2_with fail; refine hK.out _ _ ?_ (fun hq1 => ?_)) | fail
    · ((try dsimp only); (first | exact HSS.out | exact vp_below (bdrewN (Below.refl _ _) 1) HSS.out | assumption | exact vp_below (by assumption) (by assumption)))
    clear hK K
    (try simp only [Act.put, List.setIfInBounds_toArray, List.set_cons_zero, List.set_cons_succ])
    clear hq0
    (refine wpAnyH_take (i := 5) (oi := ?_) (v := ?_) ?_ (by kernel_rfl) (by kernel_rfl) (by kernel_rfl) ?_ (Or.inl ⟨?_, ?_⟩) (by assumption) ?_; rotate_left 2; (· (simp only [List.getElem?_toArray, List.getElem?_cons_succ, List.getElem?_cons_zero]; first | done | rfl)); (· exact (fun _ _ _ h => h)); (· rfl); (· (intro w hSw; (try dsimp only at hSw); go_simp; (try with_reducible rfl))))
    (try simp only [Act.put, List.setIfInBounds_toArray, List.set_cons_zero, List.set_cons_succ])
    (refine wpAnyH_take (i := 6) (oi := ?_) (v := ?_) ?_ (by kernel_rfl) (by kernel_rfl) (by kernel_rfl) ?_ (Or.inl ⟨?_, ?_⟩) (by assumption) ?_; rotate_left 2; (· (simp only [List.getElem?_toArray, List.getElem?_cons_succ, List.getElem?_cons_zero]; first | done | rfl)); (· exact (fun _ _ _ h => h)); (· rfl); (· (intro w hSw; (try dsimp only at hSw); go_simp; (try with_reducible rfl))))
    (try simp only [Act.put, List.setIfInBounds_toArray, List.set_cons_zero, List.set_cons_succ])
    (refine wpAnyH_take (i := 7) (oi := ?_) (v := ?_) ?_ (by kernel_rfl) (by kernel_rfl) (by kernel_rfl) ?_ (Or.inl ⟨?_, ?_⟩) (by assumption) ?_; rotate_left 2; (· (simp only [List.getElem?_toArray, List.getElem?_cons_succ, List.getElem?_cons_zero]; first | done | rfl)); (· exact (fun _ _ _ h => h)); (· rfl); (· (intro w hSw; (try dsimp only at hSw); go_simp; (try with_reducible rfl))))
    (try simp only [Act.put, List.setIfInBounds_toArray, List.set_cons_zero, List.set_cons_succ])
    (refine wpAnyH_take (i := 8) (oi := ?_) (v := ?_) ?_ (by kernel_rfl) (by kernel_rfl) (by kernel_rfl) ?_ (Or.inl ⟨?_, ?_⟩) (by assumption) ?_; rotate_left 2; (· (simp only [List.getElem?_toArray, List.getElem?_cons_succ, List.getElem?_cons_zero]; first | done | rfl)); (· exact (fun _ _ _ h => h)); (· rfl); (· (intro w hSw; (try dsimp only at hSw); go_simp; (try with_reducible rfl))))
    (try simp only [Act.put, List.setIfInBounds_toArray, List.set_cons_zero, List.set_cons_succ])
    (refine wpAnyH_take (i := 9) (oi := ?_) (v := ?_) ?_ (by kernel_rfl) (by kernel_rfl) (by kernel_rfl) ?_ (Or.inl ⟨?_, ?_⟩) (by assumption) ?_; rotate_left 2; (· (simp only [List.getElem?_toArray, List.getElem?_cons_succ, List.getElem?_cons_zero]; first | done | rfl)); (· exact (fun _ _ _ h => h)); (· rfl); (· (intro w hSw; (try dsimp only at hSw); go_simp; (try with_reducible rfl))))
    (try simp only [Act.put, List.setIfInBounds_toArray, List.set_cons_zero, List.set_cons_succ])
    (refine wpAnyH_take (i := 10) (oi := ?_) (v := ?_) ?_ (by kernel_rfl) (by kernel_rfl) (by kernel_rfl) ?_ (Or.inl ⟨?_, ?_⟩) (by assumption) ?_; rotate_left 2; (· (simp only [List.getElem?_toArray, List.getElem?_cons_succ, List.getElem?_cons_zero]; first | done | rfl)); (· exact (fun _ _ _ h => h)); (· rfl); (· (intro w hSw; (try dsimp only at hSw); go_simp; (try with_reducible rfl))))
    (try simp only [Act.put, List.setIfInBounds_toArray, List.set_cons_zero, List.set_cons_succ])
    (refine wpAnyH_take (i := 11) (oi := ?_) (v := ?_) ?_ (by kernel_rfl) (by kernel_rfl) (by kernel_rfl) ?_ (Or.inl ⟨?_, ?_⟩) (by assumption) ?_; rotate_left 2; (· (simp only [List.getElem?_toArray, List.getElem?_cons_succ, List.getElem?_cons_zero]; first | done | rfl)); (· exact (fun _ _ _ h => h)); (· rfl); (· (intro w hSw; (try dsimp only at hSw); go_simp; (try with_reducible rfl))))
    (try simp only [Act.put, List.setIfInBounds_toArray, List.set_cons_zero, List.set_cons_succ])
    (refine wpAnyH_take (i := 12) (oi := ?_) (v := ?_) ?_ (by kernel_rfl) (by kernel_rfl) (by kernel_rfl) ?_ (Or.inl ⟨?_, ?_⟩) (by assumption) ?_; rotate_left 2; (· (simp only [List.getElem?_toArray, List.getElem?_cons_succ, List.getElem?_cons_zero]; first | done | rfl)); (· exact (fun _ _ _ h => h)); (· rfl); (· (intro w hSw; (try dsimp only at hSw); go_simp; (try with_reducible rfl))))
    (try simp only [Act.put, List.setIfInBounds_toArray, List.set_cons_zero, List.set_cons_succ])
    (refine wpAnyH_take (i := 13) (oi := ?_) (v := ?_) ?_ (by kernel_rfl) (by kernel_rfl) (by kernel_rfl) ?_ (Or.inl ⟨?_, ?_⟩) (by assumption) ?_; rotate_left 2; (· (simp only [List.getElem?_toArray, List.getElem?_cons_succ, List.getElem?_cons_zero]; first | done | rfl)); (· exact (fun _ _ _ h => h)); (· rfl); (· (intro w hSw; (try dsimp only at hSw); go_simp; (try with_reducible rfl))))
    (try simp only [Act.put, List.setIfInBounds_toArray, List.set_cons_zero, List.set_cons_succ])
    (refine wpAnyH_take (i := 14) (oi := ?_) (v := ?_) ?_ (by kernel_rfl) (by kernel_rfl) (by kernel_rfl) ?_ (Or.inl ⟨?_, ?_⟩) (by assumption) ?_; rotate_left 2; (· (simp only [List.getElem?_toArray, List.getElem?_cons_succ, List.getElem?_cons_zero]; first | done | rfl)); (· exact (fun _ _ _ h => h)); (· rfl); (· (intro w hSw; (try dsimp only at hSw); go_simp; (try with_reducible rfl))))
    (try simp only [Act.put, List.setIfInBounds_toArray, List.set_cons_zero, List.set_cons_succ])
    (refine wpAnyH_take (i := 16) (oi := ?_) (v := ?_) ?_ (by kernel_rfl) (by kernel_rfl) (by kernel_rfl) ?_ (Or.inl ⟨?_, ?_⟩) (by assumption) ?_; rotate_left 2; (· (simp only [List.getElem?_toArray, List.getElem?_cons_succ, List.getElem?_cons_zero]; first | done | rfl)); (· exact (fun _ _ _ h => h)); (· rfl); (· (intro w hSw; (try dsimp only at hSw); go_simp; (try with_reducible rfl))))
    (try simp only [Act.put, List.setIfInBounds_toArray, List.set_cons_zero, List.set_cons_succ])
    refine wpAnyH_ready (rs := [15]) (by kernel_rfl) (by simp) ?_
    refine AllReadyH.cons (o := ?_) ?_ (fun K hK => ?_) AllReadyH.nil
    rotate_left 1
    · (simp only [List.getElem?_toArray, List.getElem?_cons_succ, List.getElem?_cons_zero]; first | done | rfl)
    go_simp
    first | (refine hK.out _ _ ?_ (fun hq2 => ?_)) | ((first | (go_at_call 11; refine (HS.out _).mono ?_) | (go_at_call 13; refine (HPR.out _ (HT.out.below (vp_own (by assumption)) (Nat.le_refl _))).mono ?_) | (go_at_call 16; refine (HV.out _).mono ?_)); (rintro e w9 ⟨rfl, hb9⟩); refine hK.out _ _ ?_ (fun hq2 => ?_)) | ((first | (go_at_call 11; refine (HS.out _).mono ?_) | (go_at_call 13; refine (HPR.out _ (HT.out.below (vp_own (by assumption)) (Nat.le_refl _))).mono ?_) | (go_at_call 16; refine (HV.out _).mono ?_)); (rintro e w9 ⟨rfl, hb9⟩); go_wp2_with fail; refine hK.out _ _ ?_ (fun hq2 => ?_)) | fail
    · ((try dsimp only); (first | exact HSS.out | exact vp_below (bdrewN (Below.refl _ _) 1) HSS.out | assumption | exact vp_below (by assumption) (by assumption)))
    clear hK K
    (try simp only [Act.put, List.setIfInBounds_toArray, List.set_cons_zero, List.set_cons_succ])
    clear hq1
    refine wpAnyH_ready (rs := [17]) (by kernel_rfl) (by simp) ?_
    refine AllReadyH.cons (o := ?_) ?_ (fun K hK => ?_) AllReadyH.nil
    rotate_left 1
    · (simp only [List.getElem?_toArray, List.getElem?_cons_succ, List.getElem?_cons_zero]; first | done | rfl)
    go_simp
    first | (refine hK.out _ _ ?_ (fun hq3 => ?_)) | ((first | (go_at_call 11; refine (HS.out _).mono ?_) | (go_at_call 13; refine (HPR.out _ (HT.out.below (vp_own (by assumption)) (Nat.le_refl _))).mono ?_) | (go_at_call 16; refine (HV.out _).mono ?_)); (rintro e w9 ⟨rfl, hb9⟩); refine hK.out _ _ ?_ (fun hq3 => ?_)) | ((first | (go_at_call 11; refine (HS.out _).mono ?_) | (go_at_call 13; refine (HPR.out _ (HT.out.below (vp_own (by assumption)) (Nat.le_refl _))).mono ?_) | (go_at_call 16; refine (HV.out _).mono ?_)); (rintro e w9 ⟨rfl, hb9⟩); go_wp2_with fail; refine hK.out _ _ ?_ (fun hq3 => ?_)) | fail
    · ((try dsimp only); (first | exact HSS.out | exact vp_below (bdrewN (Below.refl _ _) 1) HSS.out | assumption | exact vp_below (by assumption) (by assumption)))
    clear hK K
    (try simp only [Act.put, List.setIfInBounds_toArray, List.set_cons_zero, List.set_cons_succ])
    clear hq2
    (refine wpAnyH_take (i := 18) (oi := ?_) (v := ?_) ?_ (by kernel_rfl) (by kernel_rfl) (by kernel_rfl) ?_ (Or.inl ⟨?_, ?_⟩) (by assumption) ?_; rotate_left 2; (· (simp only [List.getElem?_toArray, List.getElem?_cons_succ, List.getElem?_cons_zero]; first | done | rfl)); (· exact (fun _ _ _ h => h)); (· rfl); (· (intro w hSw; (try dsimp only at hSw); go_simp; (try with_reducible rfl))))
    (try simp only [Act.put, List.setIfInBounds_toArray, List.set_cons_zero, List.set_cons_succ])
    (refine wpAnyH_take (i := 19) (oi := ?_) (v := ?_) ?_ (by kernel_rfl) (by kernel_rfl) (by kernel_rfl) ?_ (Or.inl ⟨?_, ?_⟩) (by assumption) ?_; rotate_left 2; (· (simp only [List.getElem?_toArray, List.getElem?_cons_succ, List.getElem?_cons_zero]; first | done | rfl)); (· exact (fun _ _ _ h => h)); (· rfl); (· (intro w hSw; (try dsimp only at hSw); go_simp; (try with_reducible rfl))))
    (try simp only [Act.put, List.setIfInBounds_toArray, List.set_cons_zero, List.set_cons_succ])
    (refine wpAnyH_take (i := 20) (oi := ?_) (v := ?_) ?_ (by kernel_rfl) (by kernel_rfl) (by kernel_rfl) ?_ (Or.inl ⟨?_, ?_⟩) (by assumption) ?_; rotate_left 2; (· (simp only [List.getElem?_toArray, List.getElem?_cons_succ, List.getElem?_cons_zero]; first | done | rfl)); (· exact (fun _ _ _ h => h)); (· rfl); (· (intro w hSw; (try dsimp only at hSw); go_simp; (try with_reducible rfl))))
    (try simp only [Act.put, List.setIfInBounds_toArray, List.set_cons_zero, List.set_cons_succ])
    (refine wpAnyH_take (i := 21) (oi := ?_) (v := ?_) ?_ (by kernel_rfl) (by kernel_rfl) (by kernel_rfl) ?_ (Or.inl ⟨?_, ?_⟩) (by assumption) ?_; rotate_left 2; (· (simp only [List.getElem?_toArray, List.getElem?_cons_succ, List.getElem?_cons_zero]; first | done | rfl)); (· exact (fun _ _ _ h => h)); (· rfl); (· (intro w hSw; (try dsimp only at hSw); go_simp; (try with_reducible rfl))))
    (try simp only [Act.put, List.setIfInBounds_toArray, List.set_cons_zero, List.set_cons_succ])
    (refine wpAnyH_take (i := 23) (oi := ?_) (v := ?_) ?_ (by kernel_rfl) (by kernel_rfl) (by kernel_rfl) ?_ (Or.inl ⟨?_, ?_⟩) (by assumption) ?_; rotate_left 2; (· (simp only [List.getElem?_toArray, List.getElem?_cons_succ, List.getElem?_cons_zero]; first | done | rfl)); (· exact (fun _ _ _ h => h)); (· rfl); (· (intro w hSw; (try dsimp only at hSw); go_simp; (try with_reducible rfl))))
    (try simp only [Act.put, List.setIfInBounds_toArray, List.set_cons_zero, List.set_cons_succ])
    refine wpAnyH_ready (rs := [22]) (by kernel_rfl) (by simp) ?_
    refine AllReadyH.cons (o := ?_) ?_ (fun K hK => ?_) AllReadyH.nil
    rotate_left 1
    · (simp only [List.getElem?_toArray, List.getElem?_cons_succ, List.getElem?_cons_zero]; first | done | rfl)
    go_simp
    first | (refine hK.out _ _ ?_ (fun hq4 => ?_)) | ((first | (go_at_call 11; refine (HS.out _).mono ?_) | (go_at_call 13; refine (HPR.out _ (HT.out.below (vp_own (by assumption)) (Nat.le_refl _))).mono ?_) | (go_at_call 16; refine (HV.out _).mono ?_)); (rintro e w9 ⟨rfl, hb9⟩); refine hK.out _ _ ?_ (fun hq4 => ?_)) | ((first | (go_at_call 11; refine (HS.out _).mono ?_) | (go_at_call 13; refine (HPR.out _ (HT.out.below (vp_own (by assumption)) (Nat.le_refl _))).mono ?_) | (go_at_call 16; refine (HV.out _).mono ?_)); (rintro e w9 ⟨rfl, hb9⟩); go_wp2_with fail; refine hK.out _ _ ?_ (fun hq4 => ?_)) | fail
    · ((try dsimp only); (first | exact HSS.out | exact vp_below (bdrewN (Below.refl _ _) 1) HSS.out | assumption | exact vp_below (by assumption) (by assumption)))
    clear hK K
    (try simp only [Act.put, List.setIfInBounds_toArray, List.set_cons_zero, List.set_cons_succ])
    clear hq3
    (refine wpAnyH_take (i := 24) (oi := ?_) (v := ?_) ?_ (by kernel_rfl) (by kernel_rfl) (by kernel_rfl) ?_ (Or.inl ⟨?_, ?_⟩) (by assumption) ?_; rotate_left 2; (· (simp only [List.getElem?_toArray, List.getElem?_cons_succ, List.getElem?_cons_zero]; first | done | rfl)); (· exact (fun _ _ _ h => h)); (· rfl); (· (intro w hSw; (try dsimp only at hSw); go_simp; (try with_reducible rfl))))
    (try simp only [Act.put, List.setIfInBounds_toArray, List.set_cons_zero, List.set_cons_succ])
    (refine wpAnyH_take (i := 25) (oi := ?_) (v := ?_) ?_ (by kernel_rfl) (by kernel_rfl) (by kernel_rfl) ?_ (Or.inl ⟨?_, ?_⟩) (by assumption) ?_; rotate_left 2; (· (simp only [List.getElem?_toArray, List.getElem?_cons_succ, List.getElem?_cons_zero]; first | done | rfl)); (· exact (fun _ _ _ h => h)); (· rfl); (· (intro w hSw; (try dsimp only at hSw); go_simp; (try with_reducible rfl))))
    (try simp only [Act.put, List.setIfInBounds_toArray, List.set_cons_zero, List.set_cons_succ])
    (refine wpAnyH_take (i := 26) (oi := ?_) (v := ?_) ?_ (by kernel_rfl) (by kernel_rfl) (by kernel_rfl) ?_ (Or.inl ⟨?_, ?_⟩) (by assumption) ?_; rotate_left 2; (· (simp only [List.getElem?_toArray, List.getElem?_cons_succ, List.getElem?_cons_zero]; first | done | rfl)); (· exact (fun _ _ _ h => h)); (· rfl); (· (intro w hSw; (try dsimp only at hSw); go_simp; (try with_reducible rfl))))
    (try simp only [Act.put, List.setIfInBounds_toArray, List.set_cons_zero, List.set_cons_succ])
    refine wpAnyH_done (by kernel_rfl) ?_ _
    go_wp2
    go_ret
    exact ⟨rfl, vp_own (by assumption)⟩
end Go.Proofs.YtnccpddjdgndcaaGreatDoor.Val
end

section
/- THE WALK OF the law ValuePrints of chapter 02, at any value. -/
namespace Go.Proofs.YtnccpddjdgndcaaGreatDoor.Val
open Go.RowKit Flt
set_option maxRecDepth 100000 in
set_option maxHeartbeats 8000000 in
theorem prints_any (k n : Int) (x : Nat) (t : List UInt8) (y : Bool) (w : World) (hT : Tab.Tabs w) (hP : Pf.PfW w) (hE : Unq.ErrS w) (hx : x < 18446744073709551616) (ht : t.length ≤ 140737488351232) (hn : -9223372036854775808 ≤ n ∧ n ≤ 9223372036854775807) :
    Calls Tryz.prog 4 #[val k n x t y] w fun e w' => e = .returned (.bool true) ∧ Below w.heap.size w w' := by
  by_cases hl3 : t.length ≤ 300
  · have hrd := fun w hT hE hP => read_back ⟨k, n, x, t, y⟩ hx hn (by dsimp only; omega) w hT hE hP
    have hcan := fun w => vcanon_any k n x t y w
    have hcf := canon2_fits ⟨k, n, x, t, y⟩ hn
    have hcx : (canonV ⟨k, n, x, t, y⟩).num < 18446744073709551616 := by
      unfold canonV
      split
      · exact Nat.zero_lt_succ _
      split
      · exact (canon_bits x hx).1
      split
      · exact Nat.zero_lt_succ _
      split <;> exact Nat.zero_lt_succ _
    generalize canonV ⟨k, n, x, t, y⟩ = c at *
    obtain ⟨kc, nc, xc, tc, yc⟩ := c
    dsimp only at hcf hcx
    have hsm := fun w => same_any kc nc xc tc yc kc nc xc tc yc w hcx hcx
    rw [same_self] at hsm
    exact prints_in k n x t y kc nc xc tc yc _ w hT hP hE hl3 hcan (fun w hW => vprint_any kc nc xc tc yc w hcx hcf.1.1 hcf.1.2 (by omega) hW) hrd
      (fun w => vright_any kc nc xc tc yc w (by omega)) hsm _ (fun w => void_any kc nc xc tc yc w)
  · have hl (w : World) := light_v k n x t y w ht
    rw [show decide (t.length ≤ 300) = false from decide_eq_false hl3] at hl
    have HL := Lib.hid hl; have HT := Lib.hid hT; have HP := Lib.hid hP
    clear hl hT hP hE
    go_enter Tryz.func4, Tryz.ntmps4
    go_wp2_with (first | (go_at_call 9; refine (fit02_any _ (HT.out.below (by repeat (first | assumption | (with_reducible exact Below.refl _ _) | exact balloc _ _ | exact balloc2 _ _ _ | refine btrans ?_ (by assumption) | refine btrans ?_ (balloc _ _))) (Nat.le_refl _)) (pf_of_w (HP.out.below (by repeat (first | assumption | (with_reducible exact Below.refl _ _) | exact balloc _ _ | exact balloc2 _ _ _ | refine btrans ?_ (by assumption) | refine btrans ?_ (balloc _ _))) (Nat.le_refl _)))).mono ?_; rintro e w1 ⟨rfl, hb1⟩; obtain ⟨hc1, hf1⟩ := bcell hb1) | (go_at_call 14; refine (HL.out _).mono ?_; (rintro e w2 ⟨rfl, hb2⟩; replace hb1 := btrans hb1 hb2; clear hb2 hc1 hf1; obtain ⟨hc1, hf1⟩ := bcell hb1)) | fail)
    all_goals first | omega | (go_ret; exact ⟨rfl, by repeat (first | assumption | (with_reducible exact Below.refl _ _) | exact balloc _ _ | exact balloc2 _ _ _ | refine btrans ?_ (by assumption) | refine btrans ?_ (balloc _ _))⟩)
end Go.Proofs.YtnccpddjdgndcaaGreatDoor.Val
end
