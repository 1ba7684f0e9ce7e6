/- THE WALK OF the law EventMany. -/
import Derived.Test.YtdggofleokjmcaaGreatDoorRightA
import Derived.Test.YtdggofleokjmcaaGreatDoorNewOk
import Derived.Laws.IdiomStrings
import Derived.Laws.BitsLemmas
namespace Go.Proofs.YtdggofleokjmcaaGreatDoor.Val
open Go.RowKit Flt
attribute [local go_sem] run_store_flt
theorem newB_len_eq : ∀ (l : List A), (∀ i (hi : i < l.length) j (hj : j < l.length), i < j → l[i].name ≠ l[j].name) → (newB l).length = l.length := by
  have key : ∀ (k : Nat) (l : List A), l.length = k → (∀ i (hi : i < l.length) j (hj : j < l.length), i < j → l[i].name ≠ l[j].name) → (newB l).length = l.length := by
    intro k
    induction k with
    | zero => intro l h _; have : l = [] := List.eq_nil_of_length_eq_zero h; subst this; rfl
    | succ k ih =>
      intro l h hd
      have e : l = l.take k ++ [l[k]] := by
        have h1 : l.take (k + 1) = l := List.take_of_length_le (by omega)
        rw [← List.take_succ_eq_append_getElem (by omega), h1]
      have hl : (l.take k).length = k := by rw [List.length_take]; omega
      have h2 := ih (l.take k) hl (fun i hi j hj hij => by
        rw [List.getElem_take, List.getElem_take]
        exact hd i (by omega) j (by omega) hij)
      have hn : lastV (l.take k) l[k].name = none := lastV_none fun a ha => by
        obtain ⟨i, hi, rfl⟩ := List.mem_iff_getElem.1 ha
        rw [List.getElem_take]
        exact hd i (by omega) k (by omega) (by omega)
      have h3 : newB l = insL (canonA l[k]) (newB (l.take k)) := by
        conv => lhs; rw [e, newB_snoc, step_ins (newB_rising _)]
      rw [h3]
      rcases insL_len (a := canonA l[k]) (l := newB (l.take k)) with h4 | h4
      · have hgn : getL (newB (l.take k)) (canonA l[k]).name = none := by rw [newB_get]; exact hn
        rw [h4, h2, hgn, hl, h]; rfl
      · exact absurd (newB_rising _) h4
  exact fun l h => key _ l rfl h
def manyA (i : Nat) : A := ⟨[110, UInt8.ofNat (97 + (7 * i) % 16)], ⟨0, i, 0, [], false⟩⟩
def manyL (n : Nat) : List A := (List.range n).map manyA
theorem manyL_len (n : Nat) : (manyL n).length = n := by simp [manyL]
theorem manyL_succ (n : Nat) : manyL (n + 1) = manyL n ++ [manyA n] := by simp [manyL, List.range_succ]
theorem many_len (n : Nat) (h : n ≤ 15) : (newB (manyL n)).length = n := by
  rw [newB_len_eq, manyL_len]
  intro i hi j hj hij
  rw [manyL_len] at hi hj
  have e1 : (manyL n)[i]'(by rw [manyL_len]; exact hi) = manyA i := by simp [manyL]
  have e2 : (manyL n)[j]'(by rw [manyL_len]; exact hj) = manyA j := by simp [manyL]
  rw [e1, e2]
  unfold manyA
  intro hc
  simp only [List.cons.injEq, and_true, true_and] at hc
  have hc' := congrArg UInt8.toNat hc
  simp only [UInt8.toNat_ofNat'] at hc'
  omega
theorem many_name : ∀ i, i < 16 → Sc.nameB (manyA i).name = true := by decide
theorem many_right (n : Nat) (h : n ≤ 15) : rightL (newB (manyL n)) = decide (n ≤ 8) := by
  unfold rightL
  rw [many_len n h]
  have hall : ∀ k, k ≤ (newB (manyL n)).length → rightN (newB (manyL n)) k = true := by
    intro k
    induction k with
    | zero => intro _; rfl
    | succ k ih =>
      intro hk
      unfold rightN
      rw [ih (by omega), Bool.true_and]
      have hlt : k < (newB (manyL n)).length := by omega
      obtain ⟨x, hx, hxn, hxv⟩ := mem_newB (List.getElem_mem hlt)
      obtain ⟨i, hi, rfl⟩ := List.mem_map.1 hx
      have hi' := List.mem_range.1 hi
      have hv : canonV (manyA i).val = (manyA i).val := by simp [canonV, manyA]
      have hke : keptB (manyA i).val = true := by simp [keptB, manyA, voidB, canonV, eqV, Flt.eq]; decide
      have hvr : vRight (manyA i).val = true := by simp [vRight, manyA]
      have hnm := many_name i (by omega)
      have hris := List.pairwise_iff_getElem.1 (newB_rising (manyL n))
      cases k with
      | zero => rw [rOk_zero _ hlt, ← hxn, hxv, hv, hke, hvr, hnm]; rfl
      | succ j =>
        have hb : Op.bytesLess ((newB (manyL n))[j]'(by omega)).name (newB (manyL n))[j + 1].name = true := by
          rw [less_cmp]; simpa using hris j (j + 1) (by omega) hlt (by omega)
        rw [rOk_succ _ _ hlt, hb, ← hxn, hxv, hv, hke, hvr, hnm]; rfl
  rw [hall n (by rw [many_len n h]; exact Nat.le_refl _), Bool.true_and]
set_option maxRecDepth 20000 in
set_option maxHeartbeats 1000000 in
theorem many_any (n : Int) (w : World) (hm : ∃ m : Nat, m ≤ 15 ∧ bits .and .i64 n 15 = (m : Int)) :
    Calls Tryz.prog 4 #[.int .i64 n] w fun e w' => e = .returned (.bool true) ∧ Below w.heap.size w w' := by
  obtain ⟨m, hm, hbits⟩ := hm
  have hml := many_len m hm
  have hmr := many_right m hm
  have HML := Lib.hid hml; have HMR := Lib.hid hmr
  clear hml hmr
  obtain ⟨i0, hi, hz0, hz1, hz2⟩ := info_parts info_attr
  go_enter Tryz.func4, Tryz.ntmps4
  go_wp2_with (go_at_call 15; refine (fit03_any _).mono ?_; rintro e w1 ⟨rfl, hb1⟩)
  go_loopw [3, 11] (fun vl vi wr => ∃ (k : Nat) (v : Value), k ≤ m ∧ vi = .int .i64 k ∧ vl = v ∧ wr.ownsRow w1.heap.size 32 6 v (manyL k).length (flatA (manyL k)) ∧ Below w1.heap.size w1 wr) (fun _ vi _ => m - (intOf vi).toNat)
  case atStart => exact ⟨0, _, Nat.zero_le _, rfl, rfl, World.ownsRow_nil _ _ _ _, Below.refl _ _⟩
  case round =>
    obtain ⟨k, v, hk, rfl, rfl, hown, hbr⟩ := hrel
    by_cases hlt : k < m
    · have i1 : (k : Int) < (m : Int) := by omega
      have i0' : (0 : Int) ≤ (k : Int) := by omega
      have OWN := Lib.hid hown
      clear hown
      obtain ⟨c, hc⟩ : ∃ c : UInt8, c = UInt8.ofNat (97 + (7 * k) % 16) := ⟨_, rfl⟩
      have hci : (97 + 7 * (k : Int) % 16) = (c.toNat : Int) := by
        rw [hc, UInt8.toNat_ofNat', Nat.mod_eq_of_lt (by omega)]; push_cast; rfl
      have hcv : ∀ W : World, (convert 33 9 (.slice (some ⟨W.heap.size, 0, none⟩) 1 1)).run Tryz.prog (W.alloc (.cells #[.int .u8 (97 + 7 * (k : Int) % 16)] 5)) = .ok (.string ⟨#[c]⟩) (W.alloc (.cells #[.int .u8 (97 + 7 * (k : Int) % 16)] 5)) := fun W => by
        rw [hci]
        exact run_convert_bytes_back _ 33 9 5 ⟨W.heap.size, 0, none⟩ 1 [c] Tryz.underlying33 Tryz.underlying5 Tryz.underlying9 (fun j hj => by
          have : j = 0 := by simpa using hj
          subst this
          exact World.cell?_alloc_at _ _ _ _ rfl)
      have r1 : ∀ w, (Op.stringOp .add ⟨#[110]⟩ ⟨#[c]⟩).run Tryz.prog w = .ok (.string ⟨#[110, c]⟩) w := fun w => run_string_add_lists w [110] [c] (by simp) (by simp)
      have hmk : manyL (k + 1) = manyL k ++ [⟨[110, c], ⟨0, k, 0, [], false⟩⟩] := by rw [manyL_succ, hc]; rfl
      have HMK := Lib.hid hmk; have HC := Lib.hid hc
      have hkl := manyL_len k
      have HKL := Lib.hid hkl
      have hkm : (manyL k).length ≤ 15 := by rw [hkl]; omega
      clear hmk hc hci hkl
      go_wp2_with (first | (at_builtin; refine wpList_append_own _ rfl _ _ 22 rfl w1.heap.size 32 i0 (.agg #[.string .empty, .int .i64 0, .int .i64 0, .float .f64 0, .string .empty, .bool false]) 6 64 Tryz.underlying22 hi hz0 hz1 hz2 rfl (by decide) _ _ _ rfl ((OWN.out.alloc _).alloc _) ⟨wr.heap.size + 1, 0, none⟩ 1 1 (flatA [⟨[110, c], ⟨0, k, 0, [], false⟩⟩]) rfl rfl ?news (flatA_one _) (by unfold maxLen; omega) (by omega) (by have := hbr.size; simp; omega) ?_; rotate_left; (case news => exact new_attr2 (wr.alloc _) (wr.heap.size + 1) (by simp) ⟨[110, c], ⟨0, k, 0, [], false⟩⟩ _); intro v' w4 hown' hgrow3 hnil3))
      have hb4 : Below w1.heap.size w1 w4 := Below.grown (btrans hbr (balloc2 _ _ _)) hgrow3 (by have := hbr.size; simp; omega) (fun q hq => (OWN.out.lt q hq).1)
      refine ⟨⟨k + 1, v', by omega, by go_num, rfl, ?_, hb4⟩, by simp [intOf]; go_num⟩
      rw [HMK.out, List.length_append, flatA_apps]
      exact hown'
    · obtain rfl : k = m := by omega
      have hkl := manyL_len k
      obtain ⟨a0, cap, rfl, hat⟩ := own_attrs hown
      have HAT := Lib.hid hat; have HKL := Lib.hid hkl
      clear hat hown hkl
      have hmle : (manyL k).length ≤ 15 := by rw [HKL.out]; omega
      have hnew := new_any [] a0 cap (manyL k) wr HAT.out (by omega)
      have hnle := newB_len (manyL k)
      have hok : ∀ x ∈ newB (manyL k), x.name.length ≤ 140737488351232 ∧ x.val.text.length ≤ 140737488351232 := fun x hx => by
        obtain ⟨y, hy, h1, h2⟩ := mem_newB hx
        obtain ⟨i, _, rfl⟩ := List.mem_map.1 hy
        rw [← h1, h2]
        have : (canonV (manyA i).val).text = [] := by simp [canonV, manyA]
        rw [this]; simp [manyA]
      have HNEW := Lib.hid hnew; have HOK := Lib.hid hok
      clear hnew hok
      generalize newB (manyL k) = nb at *
      go_wp2_with fail
      refine HNEW.out.mono ?_
      rintro e w3 ⟨b0, cp, rfl, hat3, _, hb3⟩
      have HAT3 := Lib.hid hat3
      clear hat3
      have hnk : ((nb.length : Nat) : Int) = (k : Int) := by rw [HML.out]
      have hb := btrans (btrans hb1 hbr) hb3
      have HB := Lib.hid hb
      clear hb hb1 hbr hb3 HNEW
      have hrt (w : World) (h : Attrs w b0 nb) := eright_any [] b0 cp nb w h (by omega) HOK.out
      rw [HMR.out] at hrt
      by_cases h8 : k ≤ 8
      · have d8 : decide ((k : Int) ≤ 8) = true := by rw [decide_eq_true_iff]; omega
        rw [decide_eq_true h8] at hrt
        have HRT := Lib.hid hrt
        clear hrt
        go_wp2_with (go_at_call 20; refine (HRT.out _ (HAT3.out.below (balloc _ _))).mono ?_; rintro e w4 ⟨rfl, hb4⟩)
        go_ret
        exact ⟨rfl, btrans (btrans HB.out (balloc _ _)) hb4⟩
      · have d8 : decide ((k : Int) ≤ 8) = false := by rw [decide_eq_false_iff_not]; omega
        rw [decide_eq_false h8] at hrt
        have HRT := Lib.hid hrt
        clear hrt
        go_wp2_with (go_at_call 20; refine (HRT.out _ (HAT3.out.below (balloc _ _))).mono ?_; rintro e w4 ⟨rfl, hb4⟩)
        go_ret
        exact ⟨rfl, btrans (btrans HB.out (balloc _ _)) hb4⟩
theorem and15 (n : Int) : ∃ m : Nat, m ≤ 15 ∧ bits .and .i64 n 15 = (m : Int) := by
  have h15 : (BitVec.ofInt 64 15).toNat = 2 ^ 4 - 1 := by decide
  have key : (BitVec.ofInt 64 n &&& BitVec.ofInt 64 15).toNat = (n % ((2 ^ 64 : Nat) : Int)).toNat % 2 ^ 4 := by
    rw [BitVec.toNat_and, BitVec.toNat_ofInt, h15, Nat.and_two_pow_sub_one_eq_mod]
  refine ⟨(n % ((2 ^ 64 : Nat) : Int)).toNat % 2 ^ 4, by omega, ?_⟩
  show IntKind.i64.wrap ((BitVec.ofInt 64 n &&& BitVec.ofInt 64 15).toNat : Nat) = _
  rw [key, IntKind.wrap_i64]
  omega
end Go.Proofs.YtdggofleokjmcaaGreatDoor.Val
