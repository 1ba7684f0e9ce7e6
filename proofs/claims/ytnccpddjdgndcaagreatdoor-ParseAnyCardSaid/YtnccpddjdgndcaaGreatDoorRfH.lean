/- THE WALK OF strconv.readFloat AT ANY HEXADECIMAL TEXT. -/
import Derived.Test.YtnccpddjdgndcaaGreatDoorRfB
import Derived.Handy
import Derived.WalkMore
import Derived.Deep.DeepCutAuto
import Derived.Deep.CutBlock
import Derived.Deep.CutRange
import Derived.Deep.LoopGhost
import Derived.Deep.QuietTactic
import Derived.Lib.Hide
namespace Go.Proofs.YtnccpddjdgndcaaGreatDoor.Pf
open Go.RowKit
set_option maxRecDepth 20000 in
set_option maxHeartbeats 40000000 in
theorem rf_hex (s : ByteArray) (w : World) (ng : Bool) (j : Nat) (hs : s.size ≤ 100000) (h0 : s.size ≠ 0) (hj : sgP s.data.toList = (ng, j)) (hx : hexP s.data.toList j = true) :
    Calls Tryz.prog 148 #[.string s] w fun e w' => RfP s ng true (rfEnd true (rfGo true (s.data.toList.drop (j + 2)) rs0)) e ∧ Below w.heap.size w w' := by
  have i0 : (0 : Int) < (s.size : Int) := by omega
  have hlen : s.data.toList.length = s.size := by rw [Array.length_toList]; rfl
  have hgd : ∀ i (h : i < s.size), s.data.toList.getD i 0 = s[i] := fun i h => by rw [List.getD_eq_getElem?_getD, List.getElem?_eq_getElem (by rw [hlen]; exact h), Option.getD_some, Array.getElem_toList]; rfl
  have hcs : (((s[0]'(by omega)).toNat : Int) = 43 ∧ ng = false ∧ j = 1) ∨ (¬ ((s[0]'(by omega)).toNat : Int) = 43 ∧ ((s[0]'(by omega)).toNat : Int) = 45 ∧ ng = true ∧ j = 1) ∨ (¬ ((s[0]'(by omega)).toNat : Int) = 43 ∧ ¬ ((s[0]'(by omega)).toNat : Int) = 45 ∧ ng = false ∧ j = 0) := by
    have h1 := hgd 0 (by omega)
    cases hl : s.data.toList with
    | nil => rw [hl] at hlen; simp at hlen; omega
    | cons c r =>
      rw [hl] at hj h1
      have h2 : c = s[0]'(by omega) := h1
      rw [← h2]
      unfold sgP at hj
      simp only at hj
      split at hj
      · rename_i q; cases hj; exact Or.inl ⟨q, rfl, rfl⟩
      · rename_i q
        split at hj
        · rename_i q2; cases hj; exact Or.inr (Or.inl ⟨q, q2, rfl, rfl⟩)
        · rename_i q2; cases hj; exact Or.inr (Or.inr ⟨q, q2, rfl, rfl⟩)
  have hj1 : j ≤ 1 := by omega
  have hxx := hx
  unfold hexP at hxx
  rw [hlen] at hxx
  have HX := Lib.hid hxx; have HGD := Lib.hid hgd; have HJ := Lib.hid hj; have HXX := Lib.hid hx
  clear hxx hgd hj hx
  go_enter Tryz.func148, Tryz.ntmps148
  go_wp2
  go_step3
  go_upto_block 0 with fail
  go_cut [4, 7] from 28 to 35 (fun va vb wx => va = .bool ng ∧ vb = .int .i64 j ∧ w = wx)
  case first => as_aux_lemma =>
    rcases hcs with ⟨c1, rfl, rfl⟩ | ⟨c1, c2, rfl, rfl⟩ | ⟨c1, c2, rfl, rfl⟩
    all_goals
      go_wp2_with fail
      go_meet
      exact ⟨rfl, rfl, rfl⟩
  case rest => as_aux_lemma =>
    obtain ⟨rfl, rfl, rfl⟩ := hcut
    clear hcs
    go_upto_region 12 with fail
    go_cut [54] from 36 to 53 (fun v wx => v = .bool true ∧ w = wx)
    case first => as_aux_lemma =>
      by_cases q1 : j + 2 < s.size
      · have i1 : (j : Int) + 2 < (s.size : Int) := by omega
        have i2 : (0 : Int) ≤ (j : Int) := by omega
        have i3 : (j : Int) < (s.size : Int) := by omega
        have i4 : (0 : Int) ≤ (j : Int) + 1 := by omega
        have i5 : (j : Int) + 1 < (s.size : Int) := by omega
        have hx := HX.out
        rw [HGD.out j (by omega), HGD.out (j + 1) (by omega), decide_eq_true q1, Bool.true_and] at hx
        by_cases q2 : ((s[j]'(by omega)).toNat : Int) = 48
        · have q3 : (((s[j]'(by omega)).toNat : Int) == 48) = true := by simpa using q2
          rw [q3, Bool.true_and] at hx
          go_wp2_with (first | (go_at_call 115; refine (lower_any _ _).mono ?_; rintro e w1 ⟨rfl, rfl⟩) | fail)
          go_meet
          exact ⟨rfl, rfl⟩
        · have q3 : (((s[j]'(by omega)).toNat : Int) == 48) = false := by simpa using q2
          rw [q3, Bool.false_and] at hx
          cases hx
      · have i1 : ¬ (j : Int) + 2 < (s.size : Int) := by omega
        have hx := HX.out
        rw [decide_eq_false q1, Bool.false_and] at hx
        cases hx
    case rest => as_aux_lemma =>
      obtain ⟨rfl, rfl⟩ := hcut
      have hj2 : j + 2 < s.size := by
        have hx := HX.out
        by_cases q1 : j + 2 < s.size
        · exact q1
        · rw [decide_eq_false q1, Bool.false_and] at hx; cases hx
      obtain ⟨jH, hjH⟩ : ∃ jH : Nat, j + 2 = jH := ⟨_, rfl⟩
      have hjJ : (j : Int) + 2 = (jH : Int) := by omega
      have HJH := Lib.hid hjH
      go_upto_region 23 with fail
      go_step3
      go_upto_block 1 with fail
      obtain ⟨R, hR⟩ : ∃ R, rfGo true (s.data.toList.drop jH) rs0 = R := ⟨_, rfl⟩
      have HR := Lib.hid hR; clear hR
      go_cut [2, 5, 7, 9, 13, 14, 15, 16, 17] from 57 to 138 (fun v2 v5 v7 v9 v13 v14 v15 v16 v17 wx => ∃ k : Nat, v2 = .int .u64 R.1.m ∧ v5 = .bool R.1.tr ∧ v7 = .int .i64 k ∧ v9 = .bool R.1.us ∧ v13 = .bool R.1.dot ∧ v14 = .bool R.1.dig ∧ v15 = .int .i64 R.1.nd ∧ v16 = .int .i64 R.1.ndm ∧ v17 = .int .i64 R.1.dp ∧ k ≤ s.size ∧ RB R.1 k ∧ Hid (R.2 = s.data.toList.drop k) ∧ w = wx)
      case first => as_aux_lemma =>
        go_wp2
        go_loopw [2, 5, 7, 9, 13, 14, 15, 16, 17] (fun v2 v5 v7 v9 v13 v14 v15 v16 v17 wr => ∃ (r : RS) (k : Nat), v2 = .int .u64 r.m ∧ v5 = .bool r.tr ∧ v7 = .int .i64 k ∧ v9 = .bool r.us ∧ v13 = .bool r.dot ∧ v14 = .bool r.dig ∧ v15 = .int .i64 r.nd ∧ v16 = .int .i64 r.ndm ∧ v17 = .int .i64 r.dp ∧ Hid (rfGo true (s.data.toList.drop k) r = R) ∧ k ≤ s.size ∧ RB r k ∧ w = wr) (fun _ _ v7 _ _ _ _ _ _ _ => s.size - (intOf v7).toNat)
        case atStart => exact ⟨rs0, jH, rfl, rfl, rfl, rfl, rfl, rfl, rfl, rfl, rfl, Lib.hid HR.out, by omega, by unfold RB; simp [rs0], rfl⟩
        case round =>
          obtain ⟨r, k, rfl, rfl, rfl, rfl, rfl, rfl, rfl, rfl, rfl, HG, hk, hb, rfl⟩ := hrel
          by_cases hlt : k < s.size
          · have i1 : (k : Int) < (s.size : Int) := by omega
            have i2 : (0 : Int) ≤ (k : Int) := by omega
            have hg : s.data.toList[k]'(by rw [hlen]; exact hlt) = s[k] := by rw [Array.getElem_toList]; rfl
            have hdr : s.data.toList.drop k = s[k] :: s.data.toList.drop (k + 1) := by rw [List.drop_eq_getElem_cons (by rw [hlen]; exact hlt), hg]
            have hN := go_none true (s.data.toList.drop (k + 1)) r s[k]
            have hS := fun r2 => go_some true (s.data.toList.drop (k + 1)) r s[k] r2
            rw [← hdr, HG.out] at hN hS
            have hB1 : (s[k].toNat : Int) < 256 := by have := s[k].toNat_lt; omega
            have hlw := low_bd s[k].toNat (by omega)
            have HS := Lib.hid hS; have HN := Lib.hid hN; have HB := Lib.hid hb; have HDR := Lib.hid hdr; have HLEN := Lib.hid hlen; have hb0 := hb.1; have hb1 := hb.2.1; have hb2 := hb.2.2.1; have hb3 := hb.2.2.2.1; have hb4 := hb.2.2.2.2.1; have hb5 := hb.2.2.2.2.2.1
            clear hS hN hb hdr hlen hg
            by_cases c95 : (s[k].toNat : Int) = 95
            · have b95 : ((s[k].toNat : Int) == 95) = true := by simpa using c95
              go_wp2_with fail
              refine ⟨⟨{ r with us := true }, k + 1, (by first | rfl | simp [z1]), rfl, by go_num, rfl, rfl, rfl, by go_num, by go_num, by go_num, Lib.hid (HS.out _ (by unfold rfStep; rw [if_pos c95])).symm, by omega, ?_, trivial⟩, by simp [intOf]; go_num⟩
              have hb := HB.out
              unfold RB at hb ⊢
              simp only
              omega
            have b95 : ((s[k].toNat : Int) == 95) = false := by simpa using c95
            by_cases c46 : (s[k].toNat : Int) = 46
            · have b46 : ((s[k].toNat : Int) == 46) = true := by simpa using c46
              cases hdot : r.dot
              · go_wp2_with fail
                refine ⟨⟨{ r with dot := true, dp := r.nd }, k + 1, (by first | rfl | simp [z1]), rfl, by go_num, rfl, rfl, rfl, by go_num, by go_num, by go_num, Lib.hid (HS.out _ (by unfold rfStep; rw [if_neg c95, if_pos c46, hdot]; rfl)).symm, by omega, ?_, trivial⟩, by simp [intOf]; go_num⟩
                have hb := HB.out
                unfold RB at hb ⊢
                simp only
                omega
              · have hR := HN.out (by unfold rfStep; rw [if_neg c95, if_pos c46, hdot]; rfl)
                have HR2 := Lib.hid hR
                clear hR
                go_wp2_with fail
                go_meet
                rw [HR2.out]
                exact ⟨k, rfl, rfl, rfl, rfl, by rw [hdot], rfl, rfl, rfl, rfl, hk, HB.out, Lib.hid rfl, rfl⟩
            have b46 : ((s[k].toNat : Int) == 46) = false := by simpa using c46
            by_cases cd : 48 ≤ (s[k].toNat : Int) ∧ (s[k].toNat : Int) ≤ 57
            · obtain ⟨d1, d2⟩ := cd
              have e0 : (0 : Int) ≤ (s[k].toNat : Int) - 48 := by omega
              have e1 : (s[k].toNat : Int) - 48 < 256 := by omega
              by_cases cz : (s[k].toNat : Int) = 48 ∧ r.nd = 0
              · obtain ⟨z1, z2⟩ := cz
                have y1 : ((s[k].toNat : Int) == 48) = true := by simpa using z1
                have y2 : (r.nd == 0) = true := by simpa using z2
                go_wp2_with fail
                refine ⟨⟨{ r with dig := true, dp := r.dp - 1 }, k + 1, (by first | rfl | simp [z1]), rfl, by go_num, rfl, rfl, rfl, by go_num, by go_num, by go_num, Lib.hid (HS.out _ (by unfold rfStep; rw [if_neg c95, if_neg c46, if_pos ⟨d1, d2⟩, if_pos ⟨z1, z2⟩])).symm, by omega, ?_, trivial⟩, by simp [intOf]; go_num⟩
                have hb := HB.out
                unfold RB at hb ⊢
                simp only
                omega
              · have hst : rfStep true (s[k].toNat : Int) r = some (rfDig true ((s[k].toNat : Int) - 48) ((s[k].toNat : Int) != 48) r) := by unfold rfStep; rw [if_neg c95, if_neg c46, if_pos ⟨d1, d2⟩, if_neg cz]
                have HST := Lib.hid hst
                clear hst
                have hz : ((s[k].toNat : Int) = 48 ∧ ((s[k].toNat : Int) == 48) = true ∧ ¬ r.nd = 0 ∧ (r.nd == 0) = false ∧ ((s[k].toNat : Int) != 48) = false) ∨ (¬ (s[k].toNat : Int) = 48 ∧ ((s[k].toNat : Int) == 48) = false ∧ ((s[k].toNat : Int) != 48) = true) := by
                  by_cases z1 : (s[k].toNat : Int) = 48
                  · have z2 : ¬ r.nd = 0 := fun h => cz ⟨z1, h⟩
                    exact Or.inl ⟨z1, by simpa using z1, z2, by simpa using z2, by simp [z1]⟩
                  · exact Or.inr ⟨z1, by simpa using z1, by simpa using z1⟩
                clear cz
                by_cases cm : r.ndm < 16
                · have cm2 : decide (r.ndm < 16) = true := by simpa using cm
                  rcases hz with ⟨z1, z2, z3, z4, z5⟩ | ⟨z1, z2, z5⟩
                  all_goals
                    go_wp2_with fail
                    refine ⟨⟨{ r with dig := true, nd := r.nd + 1, m := IntKind.u64.wrap (IntKind.u64.wrap (r.m * 16) + ((s[k].toNat : Int) - 48)), ndm := r.ndm + 1 }, k + 1, (by first | rfl | simp [z1]), rfl, by go_num, rfl, rfl, rfl, by go_num, by go_num, by go_num, Lib.hid (HS.out _ (by rw [HST.out]; unfold rfDig; rw [if_pos (show r.ndm < mostZ true from cm)]; rfl)).symm, by omega, ?_, trivial⟩, by simp [intOf]; go_num⟩
                    have hb := HB.out
                    unfold RB at hb ⊢
                    simp only
                    have hw := wrap_u64_bd (IntKind.u64.wrap (r.m * 16) + ((s[k].toNat : Int) - 48))
                    omega
                · have cm2 : decide (r.ndm < 16) = false := by simpa using cm
                  rcases hz with ⟨z1, z2, z3, z4, z5⟩ | ⟨z1, z2, z5⟩
                  · go_wp2_with fail
                    refine ⟨⟨{ r with dig := true, nd := r.nd + 1 }, k + 1, (by first | rfl | simp [z1]), rfl, by go_num, rfl, rfl, rfl, by go_num, by go_num, by go_num, Lib.hid (HS.out _ (by rw [HST.out]; unfold rfDig; rw [if_neg (show ¬ r.ndm < mostZ true by unfold mostZ; simp; omega), z5, Bool.or_false])).symm, by omega, ?_, trivial⟩, by simp [intOf]; go_num⟩
                    have hb := HB.out
                    unfold RB at hb ⊢
                    simp only
                    omega
                  · go_wp2_with fail
                    refine ⟨⟨{ r with dig := true, nd := r.nd + 1, tr := true }, k + 1, (by first | rfl | simp [z1]), rfl, by go_num, rfl, rfl, rfl, by go_num, by go_num, by go_num, Lib.hid (HS.out _ (by rw [HST.out]; unfold rfDig; rw [if_neg (show ¬ r.ndm < mostZ true by unfold mostZ; simp; omega), z5, Bool.or_true])).symm, by omega, ?_, trivial⟩, by simp [intOf]; go_num⟩
                    have hb := HB.out
                    unfold RB at hb ⊢
                    simp only
                    omega
            have hd : (48 ≤ (s[k].toNat : Int) ∧ ¬ (s[k].toNat : Int) ≤ 57) ∨ ¬ 48 ≤ (s[k].toNat : Int) := by omega
            have LOW : ∀ W, Calls Tryz.prog 115 #[.int .u8 (s[k].toNat : Int)] W fun e w' => e = .returned (.int .u8 (low (s[k].toNat : Int))) ∧ W = w' := fun W => lower_any _ W
            have HLOW := Lib.hid LOW; clear LOW
            have HCD := Lib.hid cd; clear cd
            by_cases l1 : 97 ≤ low (s[k].toNat : Int) ∧ low (s[k].toNat : Int) ≤ 102
            · have hst : rfStep true (s[k].toNat : Int) r = some (rfDig true (low (s[k].toNat : Int) - 97 + 10) true r) := by unfold rfStep; rw [if_neg c95, if_neg c46, if_neg HCD.out, if_pos ⟨rfl, l1.1, l1.2⟩]
              have HST := Lib.hid hst; clear hst
              obtain ⟨l1, l2⟩ := l1
              have e0 : (0 : Int) ≤ low (s[k].toNat : Int) - 97 + 10 := by omega
              have e1 : low (s[k].toNat : Int) - 97 + 10 < 256 := by omega
              have e2 : (0 : Int) ≤ low (s[k].toNat : Int) - 97 := by omega
              by_cases cm : r.ndm < 16
              · have cm2 : decide (r.ndm < 16) = true := by simpa using cm
                rcases hd with ⟨d1, d2⟩ | d1
                all_goals
                  go_wp2_with (first | (go_at_call 115; refine (lower_any _ _).mono ?_; rintro e w1 ⟨rfl, rfl⟩) | fail)
                  refine ⟨⟨{ r with dig := true, nd := r.nd + 1, m := IntKind.u64.wrap (IntKind.u64.wrap (r.m * 16) + (low (s[k].toNat : Int) - 97 + 10)), ndm := r.ndm + 1 }, k + 1, (by first | rfl | simp [z1]), rfl, by go_num, rfl, rfl, rfl, by go_num, by go_num, by go_num, Lib.hid (HS.out _ (by rw [HST.out]; unfold rfDig; rw [if_pos (show r.ndm < mostZ true from cm)]; rfl)).symm, by omega, ?_, trivial⟩, by simp [intOf]; go_num⟩
                  have hb := HB.out
                  unfold RB at hb ⊢
                  simp only
                  have hw := wrap_u64_bd (IntKind.u64.wrap (r.m * 16) + (low (s[k].toNat : Int) - 97 + 10))
                  omega
              · have cm2 : decide (r.ndm < 16) = false := by simpa using cm
                rcases hd with ⟨d1, d2⟩ | d1
                all_goals
                  go_wp2_with (first | (go_at_call 115; refine (lower_any _ _).mono ?_; rintro e w1 ⟨rfl, rfl⟩) | fail)
                  refine ⟨⟨{ r with dig := true, nd := r.nd + 1, tr := true }, k + 1, (by first | rfl | simp [z1]), rfl, by go_num, rfl, rfl, rfl, by go_num, by go_num, by go_num, Lib.hid (HS.out _ (by rw [HST.out]; unfold rfDig; rw [if_neg (show ¬ r.ndm < mostZ true by unfold mostZ; simp; omega), Bool.or_true])).symm, by omega, ?_, trivial⟩, by simp [intOf]; go_num⟩
                  have hb := HB.out
                  unfold RB at hb ⊢
                  simp only
                  omega
            have hst : rfStep true (s[k].toNat : Int) r = none := by unfold rfStep; rw [if_neg c95, if_neg c46, if_neg HCD.out, if_neg (fun h => l1 h.2)]
            have hR := HN.out hst
            have HR2 := Lib.hid hR
            clear hR hst
            have hl : (97 ≤ low (s[k].toNat : Int) ∧ ¬ low (s[k].toNat : Int) ≤ 102) ∨ ¬ 97 ≤ low (s[k].toNat : Int) := by omega
            clear l1
            rcases hd with ⟨d1, d2⟩ | d1
            all_goals
              rcases hl with ⟨l1, l2⟩ | l1
              all_goals
                go_wp2_with (first | (go_at_call 115; refine (lower_any _ _).mono ?_; rintro e w1 ⟨rfl, rfl⟩) | fail)
                go_meet
                rw [HR2.out]
                exact ⟨k, rfl, rfl, rfl, rfl, rfl, rfl, rfl, rfl, rfl, hk, HB.out, Lib.hid rfl, rfl⟩
          · have i1 : ¬ (k : Int) < (s.size : Int) := by omega
            have hd0 : s.data.toList.drop k = [] := List.drop_of_length_le (by rw [hlen]; omega)
            have hR := HG.out
            rw [hd0] at hR
            have HR2 := Lib.hid hR.symm; have HD0 := Lib.hid hd0; have HB := Lib.hid hb; have HLEN := Lib.hid hlen
            clear hR hd0 hb hlen
            go_wp2_with fail
            go_meet
            rw [HR2.out]
            exact ⟨k, rfl, rfl, rfl, rfl, rfl, rfl, rfl, rfl, rfl, hk, HB.out, Lib.hid (by rw [HD0.out]; rfl), rfl⟩
      case rest => as_aux_lemma =>
        obtain ⟨k, rfl, rfl, rfl, rfl, rfl, rfl, rfl, rfl, rfl, hk, hb, HR2, rfl⟩ := hcut
        obtain ⟨O, hO⟩ : ∃ O, rfEnd true R = O := ⟨_, rfl⟩
        have hmb : 0 ≤ R.1.m ∧ R.1.m < 18446744073709551616 := by unfold RB at hb; omega
        have hr2 : R.2 = s.data.toList.drop k := HR2.out
        have HOO := Lib.hid (rfEnd_of true R.1 R.2)
        have hO' : rfEnd true (R.1, R.2) = O := hO
        have HO := Lib.hid hO'
        have HGO : Hid (rfEnd true (rfGo true (s.data.toList.drop jH) rs0) = O) := Lib.hid (by rw [HR.out]; exact hO)
        clear hO hO' hr2 HX HGD HJ HXX HR hlen i0 h0 hj1
        cases hdig : R.1.dig
        · have hN := (HOO.out).1 hdig
          have HN : Hid (O = none) := Lib.hid (by rw [← HO.out]; exact hN)
          have hb0 := hb
          unfold RB at hb0
          clear hb hN
          go_wp2_with fail
          try rw [Exit.noGoto_ret]
          refine bodyPost_ret (v := .tuple #[.int .u64 R.1.m, .int .i64 0, .bool ng, .bool R.1.tr, .bool true, .int .i64 (k : Nat), .bool false]) (by simp [results, Tryz.results148, go_sem]; try rfl) rfl ?_
          exact ⟨by rw [HJH.out, HGO.out]; exact ⟨_, _, _, _, _, rfl, by omega, by omega, hmb.1, hmb.2, by omega, by omega, fun _ => rfl, fun r hr => by rw [HN.out] at hr; cases hr⟩, Below.refl _ _⟩
        have hb0 := hb
        unfold RB at hb0
        clear hb
        obtain ⟨D, hD⟩ : ∃ D : Int, (if R.1.dot then R.1.dp else R.1.nd) = D := ⟨_, rfl⟩
        have hDb : -(k : Int) ≤ D ∧ D ≤ (k : Int) := by rw [← hD]; split <;> omega
        have HD := Lib.hid hD; clear hD
        go_upto_if 142 with fail
        go_cut [13, 17] from 141 to 143 (fun va v wx => va = .bool R.1.dot ∧ v = .int .i64 D ∧ w = wx)
        case first => as_aux_lemma =>
          cases hdot : R.1.dot
          · have hD := HD.out
            rw [hdot] at hD
            have HD2 := Lib.hid hD; clear hD
            go_wp2_with fail
            go_meet
            exact ⟨by rw [hdot], by rw [← HD2.out]; rfl, rfl⟩
          · have hD := HD.out
            rw [hdot] at hD
            have HD2 := Lib.hid hD; clear hD
            go_wp2_with fail
            go_meet
            exact ⟨by rw [hdot], by rw [← HD2.out]; rfl, rfl⟩
        case rest => as_aux_lemma =>
          obtain ⟨rfl, rfl, rfl⟩ := hcut
          obtain ⟨X, hX⟩ : ∃ X, isX true R.2 = X := ⟨_, rfl⟩
          have HX0 := Lib.hid hX
          have hlen : s.data.toList.length = s.size := by rw [Array.length_toList]; rfl
          have hXd : X = (if h : k < s.size then low ((s[k]'h).toNat : Int) == 112 else false) := by
            rw [← hX, HR2.out]
            split
            · rename_i h
              rw [List.drop_eq_getElem_cons (by rw [hlen]; exact h)]
              show (low ((s.data.toList[k]'(by rw [hlen]; exact h)).toNat : Int) == exLz true) = _
              rw [Array.getElem_toList]; rfl
            · rw [List.drop_of_length_le (by rw [hlen]; omega)]; rfl
          have HXD := Lib.hid hXd; have HLEN := Lib.hid hlen
          clear hX hXd hlen
          go_upto_region 57 with fail
          go_cut [161] from 150 to 160 (fun v wx => v = .bool X ∧ w = wx)
          case first => as_aux_lemma =>
            by_cases hlt : k < s.size
            · have i1 : (k : Int) < (s.size : Int) := by omega
              have i2 : (0 : Int) ≤ (k : Int) := by omega
              have hxd := HXD.out
              rw [dif_pos hlt] at hxd
              have HXE := Lib.hid hxd; clear hxd
              go_wp2_with (first | (go_at_call 115; refine (lower_any _ _).mono ?_; rintro e w1 ⟨rfl, rfl⟩) | fail)
              go_meet
              exact ⟨by rw [HXE.out], rfl⟩
            · have i1 : ¬ (k : Int) < (s.size : Int) := by omega
              have hxd := HXD.out
              rw [dif_neg hlt] at hxd
              have HXE := Lib.hid hxd; clear hxd
              go_wp2_with (first | (go_at_call 115; refine (lower_any _ _).mono ?_; rintro e w1 ⟨rfl, rfl⟩) | fail)
              go_meet
              exact ⟨by rw [HXE.out], rfl⟩
          case rest => as_aux_lemma =>
            obtain ⟨rfl, rfl⟩ := hcut
            go_upto_if 161 with fail
            go_cut [7, 9, 17] from 162 to 239 (fun v7 v9 v17 wx => ∃ (n : Nat) (us : Bool) (P : Int), v7 = .int .i64 n ∧ v9 = .bool us ∧ v17 = .int .i64 P ∧ n ≤ s.size ∧ -2000000 ≤ P ∧ P ≤ 2000000 ∧ Hid (O = some ⟨R.1.m, if R.1.m = 0 then 0 else P - R.1.ndm * 4, R.1.tr, us, s.data.toList.drop n⟩) ∧ w = wx)
            case first => as_aux_lemma =>
              cases X
              · have hN := (HOO.out).2.2.1 hdig HX0.out rfl
                have HN : Hid (O = none) := Lib.hid (by rw [← HO.out]; exact hN)
                clear hN
                go_wp2_with fail
                try rw [Exit.noGoto_ret]
                refine bodyPost_ret (v := .tuple #[.int .u64 R.1.m, .int .i64 0, .bool ng, .bool R.1.tr, .bool true, .int .i64 (k : Nat), .bool false]) (by simp [results, Tryz.results148, go_sem]; try rfl) rfl ?_
                exact ⟨by rw [HJH.out, HGO.out]; exact ⟨_, _, _, _, _, rfl, by omega, by omega, hmb.1, hmb.2, by omega, by omega, fun _ => rfl, fun r hr => by rw [HN.out] at hr; cases hr⟩, Below.refl _ _⟩
              · have hk1 : k < s.size := by
                  have hxd := HXD.out
                  by_cases h : k < s.size
                  · exact h
                  · rw [dif_neg h] at hxd; cases hxd
                have hd1 : R.2.drop 1 = s.data.toList.drop (k + 1) := by rw [HR2.out, List.drop_drop]
                have hEN := (HOO.out).2.2.2.1 hdig HX0.out
                have hES := fun e us q => (HOO.out).2.2.2.2 e us q hdig HX0.out
                rw [hd1, HO.out] at hEN
                rw [hd1, HO.out, HD.out] at hES
                have HEN := Lib.hid hEN; have HES := Lib.hid hES
                have hgi : ∀ i (h : i < s.size), s.data.toList.drop i = s[i] :: s.data.toList.drop (i + 1) := fun i h => by rw [List.drop_eq_getElem_cons (by rw [HLEN.out]; exact h), Array.getElem_toList]; rfl
                have hge : s.data.toList.drop s.size = [] := List.drop_of_length_le (by rw [HLEN.out]; exact Nat.le_refl _)
                have HGI := Lib.hid hgi; have HGE := Lib.hid hge
                clear hEN hES hd1 hgi hge HOO HO HD HXD HX0 HR2
                by_cases q1 : k + 1 < s.size
                · have i1 : (k : Int) + 1 < (s.size : Int) := by omega
                  have i2 : (0 : Int) ≤ (k : Int) + 1 := by omega
                  by_cases g1 : (s[k + 1].toNat : Int) = 43
                  · skip
                    have gb : ((s[k + 1].toNat : Int) == 43) = true := by simpa using g1
                    have hsg : exSg (s.data.toList.drop (k + 1)) = (1, s.data.toList.drop (k + 1 + 1)) := by rw [HGI.out (k + 1) q1]; unfold exSg; simp only; rw [if_pos g1]
                    by_cases q2 : k + 1 + 1 < s.size
                    · have j1 : (k : Int) + 1 + 1 < (s.size : Int) := by omega
                      have j2 : (0 : Int) ≤ (k : Int) + 1 + 1 := by omega
                      by_cases dd : 48 ≤ (s[k + 1 + 1].toNat : Int) ∧ (s[k + 1 + 1].toNat : Int) ≤ 57
                      · have hxa : exAll (s.data.toList.drop (k + 1)) R.1.us = (let x := exGo (s.data.toList.drop (k + 1 + 1)) 0 R.1.us; some (x.1 * (1), x.2)) := by
                          unfold exAll
                          rw [hsg]
                          simp only
                          rw [HGI.out (k + 1 + 1) q2]
                          simp only
                          rw [if_pos dd]
                        obtain ⟨Q, hQ⟩ : ∃ Q, exGo (s.data.toList.drop (k + 1 + 1)) 0 R.1.us = Q := ⟨_, rfl⟩
                        rw [hQ] at hxa
                        have hOS := HES.out _ _ _ hxa
                        have HOS := Lib.hid hOS; have HQ := Lib.hid hQ
                        clear hxa hOS hQ hsg
                        obtain ⟨d1, d2⟩ := dd
                        have d3 : ¬ (s[k + 1 + 1].toNat : Int) < 48 := by omega
                        have d4 : ¬ 57 < (s[k + 1 + 1].toNat : Int) := by omega
                        go_wp2_with (first | (go_at_call 115; refine (lower_any _ _).mono ?_; rintro e w1 ⟨rfl, rfl⟩) | fail)
                        go_loopw [7, 9, 20] (fun v7 v9 v20 wr => ∃ (i : Nat) (e : Int) (u : Bool), v7 = .int .i64 i ∧ v9 = .bool u ∧ v20 = .int .i64 e ∧ i ≤ s.size ∧ 0 ≤ e ∧ e ≤ 200000 ∧ Hid (exGo (s.data.toList.drop i) e u = Q) ∧ w = wr) (fun v7 _ _ _ => s.size - (intOf v7).toNat)
                        case atStart => exact ⟨k + 1 + 1, 0, R.1.us, by go_num, rfl, rfl, by omega, by omega, by omega, Lib.hid HQ.out, rfl⟩
                        case round =>
                          obtain ⟨i, e, u, rfl, rfl, rfl, hi, he0, he1, HE, rfl⟩ := hrel
                          by_cases lt : i < s.size
                          · have l1 : (i : Int) < (s.size : Int) := by omega
                            have l2 : (0 : Int) ≤ (i : Int) := by omega
                            have hE := HE.out
                            rw [HGI.out i lt] at hE
                            unfold exGo at hE
                            have HE2 := Lib.hid hE; clear hE
                            have hci : (s[i].toNat : Int) < 256 := by have := s[i].toNat_lt; omega
                            by_cases e95 : (s[i].toNat : Int) = 95
                            · have m1 : 48 ≤ (s[i].toNat : Int) := by omega
                              have m2 : ¬ (s[i].toNat : Int) ≤ 57 := by omega
                              have m3 : ((s[i].toNat : Int) == 95) = true := by simpa using e95
                              have hE := HE2.out; rw [if_pos e95] at hE; have HE3 := Lib.hid hE; clear hE
                              go_wp2_with fail
                              exact ⟨⟨i + 1, e, true, by go_num, rfl, rfl, by omega, he0, he1, HE3, trivial⟩, by simp [intOf]; go_num⟩
                            have m3 : ((s[i].toNat : Int) == 95) = false := by simpa using e95
                            by_cases ed : 48 ≤ (s[i].toNat : Int) ∧ (s[i].toNat : Int) ≤ 57
                            · have hE := HE2.out; rw [if_neg e95, if_pos ed] at hE; have HE3 := Lib.hid hE; clear hE
                              obtain ⟨m1, m2⟩ := ed
                              by_cases eb : e < 10000
                              · have hE := HE3.out; rw [if_pos eb] at hE; have HE4 := Lib.hid hE; clear hE
                                have b1 : e * 10 + (s[i].toNat : Int) - 48 ≤ 200000 := by omega
                                have b2 : 0 ≤ e * 10 + (s[i].toNat : Int) - 48 := by omega
                                go_wp2_with fail
                                exact ⟨⟨i + 1, e * 10 + (s[i].toNat : Int) - 48, u, by go_num, rfl, by go_num, by omega, b2, b1, HE4, trivial⟩, by simp [intOf]; go_num⟩
                              · have hE := HE3.out; rw [if_neg eb] at hE; have HE4 := Lib.hid hE; clear hE
                                go_wp2_with fail
                                exact ⟨⟨i + 1, e, u, by go_num, rfl, rfl, by omega, he0, he1, HE4, trivial⟩, by simp [intOf]; go_num⟩
                            have hE := HE2.out; rw [if_neg e95, if_neg ed, ← HGI.out i lt] at hE; have HQQ := Lib.hid hE.symm; clear hE
                            have hed : (48 ≤ (s[i].toNat : Int) ∧ ¬ (s[i].toNat : Int) ≤ 57) ∨ ¬ 48 ≤ (s[i].toNat : Int) := by omega
                            clear ed
                            rcases hed with ⟨m1, m2⟩ | m1
                            all_goals
                              go_wp2_with fail
                              go_meet
                              exact ⟨i, u, D * 4 + e * (1), rfl, rfl, by go_num, hi, by omega, by omega, Lib.hid (by rw [HOS.out, HQQ.out]; simp), rfl⟩
                          · have l1 : ¬ (i : Int) < (s.size : Int) := by omega
                            have hE := HE.out
                            obtain rfl : i = s.size := by omega
                            have hE3 : Q = (e, u, s.data.toList.drop s.size) := by rw [← hE, HGE.out]; rfl
                            have HQQ := Lib.hid hE3; clear hE hE3
                            go_wp2_with fail
                            go_meet
                            exact ⟨s.size, u, D * 4 + e * (1), rfl, rfl, by go_num, hi, by omega, by omega, Lib.hid (by rw [HOS.out, HQQ.out]; simp), rfl⟩
                      have hxa : exAll (s.data.toList.drop (k + 1)) R.1.us = none := by
                        unfold exAll
                        rw [hsg]
                        simp only
                        rw [HGI.out (k + 1 + 1) q2]
                        simp only
                        rw [if_neg dd]
                      have hN := HEN.out hxa
                      have HN : Hid (O = none) := Lib.hid hN
                      clear hN hxa hsg
                      have hed : (s[k + 1 + 1].toNat : Int) < 48 ∨ (¬ (s[k + 1 + 1].toNat : Int) < 48 ∧ 57 < (s[k + 1 + 1].toNat : Int)) := by omega
                      clear dd
                      rcases hed with m1 | ⟨m1, m2⟩
                      all_goals
                        go_wp2_with (first | (go_at_call 115; refine (lower_any _ _).mono ?_; rintro e w1 ⟨rfl, rfl⟩) | fail)
                        try rw [Exit.noGoto_ret]
                        refine bodyPost_ret (v := .tuple #[.int .u64 R.1.m, .int .i64 0, .bool ng, .bool R.1.tr, .bool true, .int .i64 ((k : Int) + 1 + 1), .bool false]) (by simp [results, Tryz.results148, go_sem]; try rfl) rfl ?_
                        exact ⟨by rw [HJH.out, HGO.out]; exact ⟨_, _, _, _, _, rfl, by omega, by omega, hmb.1, hmb.2, by omega, by omega, fun _ => rfl, fun r hr => by rw [HN.out] at hr; cases hr⟩, Below.refl _ _⟩
                    · have j1 : ¬ (k : Int) + 1 + 1 < (s.size : Int) := by omega
                      have hz : s.data.toList.drop (k + 1 + 1) = [] := List.drop_of_length_le (by rw [HLEN.out]; omega)
                      have hxa : exAll (s.data.toList.drop (k + 1)) R.1.us = none := by
                        unfold exAll
                        rw [hsg]
                        simp only
                        rw [hz]
                      have hN := HEN.out hxa
                      have HN : Hid (O = none) := Lib.hid hN
                      clear hN hxa hsg hz
                      go_wp2_with (first | (go_at_call 115; refine (lower_any _ _).mono ?_; rintro e w1 ⟨rfl, rfl⟩) | fail)
                      try rw [Exit.noGoto_ret]
                      refine bodyPost_ret (v := .tuple #[.int .u64 R.1.m, .int .i64 0, .bool ng, .bool R.1.tr, .bool true, .int .i64 ((k : Int) + 1 + 1), .bool false]) (by simp [results, Tryz.results148, go_sem]; try rfl) rfl ?_
                      exact ⟨by rw [HJH.out, HGO.out]; exact ⟨_, _, _, _, _, rfl, by omega, by omega, hmb.1, hmb.2, by omega, by omega, fun _ => rfl, fun r hr => by rw [HN.out] at hr; cases hr⟩, Below.refl _ _⟩
                  · by_cases g2 : (s[k + 1].toNat : Int) = 45
                    · skip
                      have ga : ((s[k + 1].toNat : Int) == 43) = false := by simpa using g1
                      have gb : ((s[k + 1].toNat : Int) == 45) = true := by simpa using g2
                      have hsg : exSg (s.data.toList.drop (k + 1)) = (-1, s.data.toList.drop (k + 1 + 1)) := by rw [HGI.out (k + 1) q1]; unfold exSg; simp only; rw [if_neg g1, if_pos g2]
                      by_cases q2 : k + 1 + 1 < s.size
                      · have j1 : (k : Int) + 1 + 1 < (s.size : Int) := by omega
                        have j2 : (0 : Int) ≤ (k : Int) + 1 + 1 := by omega
                        by_cases dd : 48 ≤ (s[k + 1 + 1].toNat : Int) ∧ (s[k + 1 + 1].toNat : Int) ≤ 57
                        · have hxa : exAll (s.data.toList.drop (k + 1)) R.1.us = (let x := exGo (s.data.toList.drop (k + 1 + 1)) 0 R.1.us; some (x.1 * (-1), x.2)) := by
                            unfold exAll
                            rw [hsg]
                            simp only
                            rw [HGI.out (k + 1 + 1) q2]
                            simp only
                            rw [if_pos dd]
                          obtain ⟨Q, hQ⟩ : ∃ Q, exGo (s.data.toList.drop (k + 1 + 1)) 0 R.1.us = Q := ⟨_, rfl⟩
                          rw [hQ] at hxa
                          have hOS := HES.out _ _ _ hxa
                          have HOS := Lib.hid hOS; have HQ := Lib.hid hQ
                          clear hxa hOS hQ hsg
                          obtain ⟨d1, d2⟩ := dd
                          have d3 : ¬ (s[k + 1 + 1].toNat : Int) < 48 := by omega
                          have d4 : ¬ 57 < (s[k + 1 + 1].toNat : Int) := by omega
                          go_wp2_with (first | (go_at_call 115; refine (lower_any _ _).mono ?_; rintro e w1 ⟨rfl, rfl⟩) | fail)
                          go_loopw [7, 9, 20] (fun v7 v9 v20 wr => ∃ (i : Nat) (e : Int) (u : Bool), v7 = .int .i64 i ∧ v9 = .bool u ∧ v20 = .int .i64 e ∧ i ≤ s.size ∧ 0 ≤ e ∧ e ≤ 200000 ∧ Hid (exGo (s.data.toList.drop i) e u = Q) ∧ w = wr) (fun v7 _ _ _ => s.size - (intOf v7).toNat)
                          case atStart => exact ⟨k + 1 + 1, 0, R.1.us, by go_num, rfl, rfl, by omega, by omega, by omega, Lib.hid HQ.out, rfl⟩
                          case round =>
                            obtain ⟨i, e, u, rfl, rfl, rfl, hi, he0, he1, HE, rfl⟩ := hrel
                            by_cases lt : i < s.size
                            · have l1 : (i : Int) < (s.size : Int) := by omega
                              have l2 : (0 : Int) ≤ (i : Int) := by omega
                              have hE := HE.out
                              rw [HGI.out i lt] at hE
                              unfold exGo at hE
                              have HE2 := Lib.hid hE; clear hE
                              have hci : (s[i].toNat : Int) < 256 := by have := s[i].toNat_lt; omega
                              by_cases e95 : (s[i].toNat : Int) = 95
                              · have m1 : 48 ≤ (s[i].toNat : Int) := by omega
                                have m2 : ¬ (s[i].toNat : Int) ≤ 57 := by omega
                                have m3 : ((s[i].toNat : Int) == 95) = true := by simpa using e95
                                have hE := HE2.out; rw [if_pos e95] at hE; have HE3 := Lib.hid hE; clear hE
                                go_wp2_with fail
                                exact ⟨⟨i + 1, e, true, by go_num, rfl, rfl, by omega, he0, he1, HE3, trivial⟩, by simp [intOf]; go_num⟩
                              have m3 : ((s[i].toNat : Int) == 95) = false := by simpa using e95
                              by_cases ed : 48 ≤ (s[i].toNat : Int) ∧ (s[i].toNat : Int) ≤ 57
                              · have hE := HE2.out; rw [if_neg e95, if_pos ed] at hE; have HE3 := Lib.hid hE; clear hE
                                obtain ⟨m1, m2⟩ := ed
                                by_cases eb : e < 10000
                                · have hE := HE3.out; rw [if_pos eb] at hE; have HE4 := Lib.hid hE; clear hE
                                  have b1 : e * 10 + (s[i].toNat : Int) - 48 ≤ 200000 := by omega
                                  have b2 : 0 ≤ e * 10 + (s[i].toNat : Int) - 48 := by omega
                                  go_wp2_with fail
                                  exact ⟨⟨i + 1, e * 10 + (s[i].toNat : Int) - 48, u, by go_num, rfl, by go_num, by omega, b2, b1, HE4, trivial⟩, by simp [intOf]; go_num⟩
                                · have hE := HE3.out; rw [if_neg eb] at hE; have HE4 := Lib.hid hE; clear hE
                                  go_wp2_with fail
                                  exact ⟨⟨i + 1, e, u, by go_num, rfl, rfl, by omega, he0, he1, HE4, trivial⟩, by simp [intOf]; go_num⟩
                              have hE := HE2.out; rw [if_neg e95, if_neg ed, ← HGI.out i lt] at hE; have HQQ := Lib.hid hE.symm; clear hE
                              have hed : (48 ≤ (s[i].toNat : Int) ∧ ¬ (s[i].toNat : Int) ≤ 57) ∨ ¬ 48 ≤ (s[i].toNat : Int) := by omega
                              clear ed
                              rcases hed with ⟨m1, m2⟩ | m1
                              all_goals
                                go_wp2_with fail
                                go_meet
                                exact ⟨i, u, D * 4 + e * (-1), rfl, rfl, by go_num, hi, by omega, by omega, Lib.hid (by rw [HOS.out, HQQ.out]; simp), rfl⟩
                            · have l1 : ¬ (i : Int) < (s.size : Int) := by omega
                              have hE := HE.out
                              obtain rfl : i = s.size := by omega
                              have hE3 : Q = (e, u, s.data.toList.drop s.size) := by rw [← hE, HGE.out]; rfl
                              have HQQ := Lib.hid hE3; clear hE hE3
                              go_wp2_with fail
                              go_meet
                              exact ⟨s.size, u, D * 4 + e * (-1), rfl, rfl, by go_num, hi, by omega, by omega, Lib.hid (by rw [HOS.out, HQQ.out]; simp), rfl⟩
                        have hxa : exAll (s.data.toList.drop (k + 1)) R.1.us = none := by
                          unfold exAll
                          rw [hsg]
                          simp only
                          rw [HGI.out (k + 1 + 1) q2]
                          simp only
                          rw [if_neg dd]
                        have hN := HEN.out hxa
                        have HN : Hid (O = none) := Lib.hid hN
                        clear hN hxa hsg
                        have hed : (s[k + 1 + 1].toNat : Int) < 48 ∨ (¬ (s[k + 1 + 1].toNat : Int) < 48 ∧ 57 < (s[k + 1 + 1].toNat : Int)) := by omega
                        clear dd
                        rcases hed with m1 | ⟨m1, m2⟩
                        all_goals
                          go_wp2_with (first | (go_at_call 115; refine (lower_any _ _).mono ?_; rintro e w1 ⟨rfl, rfl⟩) | fail)
                          try rw [Exit.noGoto_ret]
                          refine bodyPost_ret (v := .tuple #[.int .u64 R.1.m, .int .i64 0, .bool ng, .bool R.1.tr, .bool true, .int .i64 ((k : Int) + 1 + 1), .bool false]) (by simp [results, Tryz.results148, go_sem]; try rfl) rfl ?_
                          exact ⟨by rw [HJH.out, HGO.out]; exact ⟨_, _, _, _, _, rfl, by omega, by omega, hmb.1, hmb.2, by omega, by omega, fun _ => rfl, fun r hr => by rw [HN.out] at hr; cases hr⟩, Below.refl _ _⟩
                      · have j1 : ¬ (k : Int) + 1 + 1 < (s.size : Int) := by omega
                        have hz : s.data.toList.drop (k + 1 + 1) = [] := List.drop_of_length_le (by rw [HLEN.out]; omega)
                        have hxa : exAll (s.data.toList.drop (k + 1)) R.1.us = none := by
                          unfold exAll
                          rw [hsg]
                          simp only
                          rw [hz]
                        have hN := HEN.out hxa
                        have HN : Hid (O = none) := Lib.hid hN
                        clear hN hxa hsg hz
                        go_wp2_with (first | (go_at_call 115; refine (lower_any _ _).mono ?_; rintro e w1 ⟨rfl, rfl⟩) | fail)
                        try rw [Exit.noGoto_ret]
                        refine bodyPost_ret (v := .tuple #[.int .u64 R.1.m, .int .i64 0, .bool ng, .bool R.1.tr, .bool true, .int .i64 ((k : Int) + 1 + 1), .bool false]) (by simp [results, Tryz.results148, go_sem]; try rfl) rfl ?_
                        exact ⟨by rw [HJH.out, HGO.out]; exact ⟨_, _, _, _, _, rfl, by omega, by omega, hmb.1, hmb.2, by omega, by omega, fun _ => rfl, fun r hr => by rw [HN.out] at hr; cases hr⟩, Below.refl _ _⟩
                    · skip
                      have ga : ((s[k + 1].toNat : Int) == 43) = false := by simpa using g1
                      have gb : ((s[k + 1].toNat : Int) == 45) = false := by simpa using g2
                      have hsg : exSg (s.data.toList.drop (k + 1)) = (1, s.data.toList.drop (k + 1)) := by rw [HGI.out (k + 1) q1]; unfold exSg; simp only; rw [if_neg g1, if_neg g2]
                      have q2 : k + 1 < s.size := q1
                      by_cases dd : 48 ≤ (s[k + 1].toNat : Int) ∧ (s[k + 1].toNat : Int) ≤ 57
                      · have hxa : exAll (s.data.toList.drop (k + 1)) R.1.us = (let x := exGo (s.data.toList.drop (k + 1)) 0 R.1.us; some (x.1 * (1), x.2)) := by
                          unfold exAll
                          rw [hsg]
                          simp only
                          rw [HGI.out (k + 1) q2]
                          simp only
                          rw [if_pos dd]
                        obtain ⟨Q, hQ⟩ : ∃ Q, exGo (s.data.toList.drop (k + 1)) 0 R.1.us = Q := ⟨_, rfl⟩
                        rw [hQ] at hxa
                        have hOS := HES.out _ _ _ hxa
                        have HOS := Lib.hid hOS; have HQ := Lib.hid hQ
                        clear hxa hOS hQ hsg
                        obtain ⟨d1, d2⟩ := dd
                        have d3 : ¬ (s[k + 1].toNat : Int) < 48 := by omega
                        have d4 : ¬ 57 < (s[k + 1].toNat : Int) := by omega
                        go_wp2_with (first | (go_at_call 115; refine (lower_any _ _).mono ?_; rintro e w1 ⟨rfl, rfl⟩) | fail)
                        go_loopw [7, 9, 20] (fun v7 v9 v20 wr => ∃ (i : Nat) (e : Int) (u : Bool), v7 = .int .i64 i ∧ v9 = .bool u ∧ v20 = .int .i64 e ∧ i ≤ s.size ∧ 0 ≤ e ∧ e ≤ 200000 ∧ Hid (exGo (s.data.toList.drop i) e u = Q) ∧ w = wr) (fun v7 _ _ _ => s.size - (intOf v7).toNat)
                        case atStart => exact ⟨k + 1, 0, R.1.us, by go_num, rfl, rfl, by omega, by omega, by omega, Lib.hid HQ.out, rfl⟩
                        case round =>
                          obtain ⟨i, e, u, rfl, rfl, rfl, hi, he0, he1, HE, rfl⟩ := hrel
                          by_cases lt : i < s.size
                          · have l1 : (i : Int) < (s.size : Int) := by omega
                            have l2 : (0 : Int) ≤ (i : Int) := by omega
                            have hE := HE.out
                            rw [HGI.out i lt] at hE
                            unfold exGo at hE
                            have HE2 := Lib.hid hE; clear hE
                            have hci : (s[i].toNat : Int) < 256 := by have := s[i].toNat_lt; omega
                            by_cases e95 : (s[i].toNat : Int) = 95
                            · have m1 : 48 ≤ (s[i].toNat : Int) := by omega
                              have m2 : ¬ (s[i].toNat : Int) ≤ 57 := by omega
                              have m3 : ((s[i].toNat : Int) == 95) = true := by simpa using e95
                              have hE := HE2.out; rw [if_pos e95] at hE; have HE3 := Lib.hid hE; clear hE
                              go_wp2_with fail
                              exact ⟨⟨i + 1, e, true, by go_num, rfl, rfl, by omega, he0, he1, HE3, trivial⟩, by simp [intOf]; go_num⟩
                            have m3 : ((s[i].toNat : Int) == 95) = false := by simpa using e95
                            by_cases ed : 48 ≤ (s[i].toNat : Int) ∧ (s[i].toNat : Int) ≤ 57
                            · have hE := HE2.out; rw [if_neg e95, if_pos ed] at hE; have HE3 := Lib.hid hE; clear hE
                              obtain ⟨m1, m2⟩ := ed
                              by_cases eb : e < 10000
                              · have hE := HE3.out; rw [if_pos eb] at hE; have HE4 := Lib.hid hE; clear hE
                                have b1 : e * 10 + (s[i].toNat : Int) - 48 ≤ 200000 := by omega
                                have b2 : 0 ≤ e * 10 + (s[i].toNat : Int) - 48 := by omega
                                go_wp2_with fail
                                exact ⟨⟨i + 1, e * 10 + (s[i].toNat : Int) - 48, u, by go_num, rfl, by go_num, by omega, b2, b1, HE4, trivial⟩, by simp [intOf]; go_num⟩
                              · have hE := HE3.out; rw [if_neg eb] at hE; have HE4 := Lib.hid hE; clear hE
                                go_wp2_with fail
                                exact ⟨⟨i + 1, e, u, by go_num, rfl, rfl, by omega, he0, he1, HE4, trivial⟩, by simp [intOf]; go_num⟩
                            have hE := HE2.out; rw [if_neg e95, if_neg ed, ← HGI.out i lt] at hE; have HQQ := Lib.hid hE.symm; clear hE
                            have hed : (48 ≤ (s[i].toNat : Int) ∧ ¬ (s[i].toNat : Int) ≤ 57) ∨ ¬ 48 ≤ (s[i].toNat : Int) := by omega
                            clear ed
                            rcases hed with ⟨m1, m2⟩ | m1
                            all_goals
                              go_wp2_with fail
                              go_meet
                              exact ⟨i, u, D * 4 + e * (1), rfl, rfl, by go_num, hi, by omega, by omega, Lib.hid (by rw [HOS.out, HQQ.out]; simp), rfl⟩
                          · have l1 : ¬ (i : Int) < (s.size : Int) := by omega
                            have hE := HE.out
                            obtain rfl : i = s.size := by omega
                            have hE3 : Q = (e, u, s.data.toList.drop s.size) := by rw [← hE, HGE.out]; rfl
                            have HQQ := Lib.hid hE3; clear hE hE3
                            go_wp2_with fail
                            go_meet
                            exact ⟨s.size, u, D * 4 + e * (1), rfl, rfl, by go_num, hi, by omega, by omega, Lib.hid (by rw [HOS.out, HQQ.out]; simp), rfl⟩
                      have hxa : exAll (s.data.toList.drop (k + 1)) R.1.us = none := by
                        unfold exAll
                        rw [hsg]
                        simp only
                        rw [HGI.out (k + 1) q2]
                        simp only
                        rw [if_neg dd]
                      have hN := HEN.out hxa
                      have HN : Hid (O = none) := Lib.hid hN
                      clear hN hxa hsg
                      have hed : (s[k + 1].toNat : Int) < 48 ∨ (¬ (s[k + 1].toNat : Int) < 48 ∧ 57 < (s[k + 1].toNat : Int)) := by omega
                      clear dd
                      rcases hed with m1 | ⟨m1, m2⟩
                      all_goals
                        go_wp2_with (first | (go_at_call 115; refine (lower_any _ _).mono ?_; rintro e w1 ⟨rfl, rfl⟩) | fail)
                        try rw [Exit.noGoto_ret]
                        refine bodyPost_ret (v := .tuple #[.int .u64 R.1.m, .int .i64 0, .bool ng, .bool R.1.tr, .bool true, .int .i64 ((k : Int) + 1), .bool false]) (by simp [results, Tryz.results148, go_sem]; try rfl) rfl ?_
                        exact ⟨by rw [HJH.out, HGO.out]; exact ⟨_, _, _, _, _, rfl, by omega, by omega, hmb.1, hmb.2, by omega, by omega, fun _ => rfl, fun r hr => by rw [HN.out] at hr; cases hr⟩, Below.refl _ _⟩
                · have i1 : ¬ (k : Int) + 1 < (s.size : Int) := by omega
                  have hz : s.data.toList.drop (k + 1) = [] := List.drop_of_length_le (by rw [HLEN.out]; omega)
                  have hN := HEN.out (by rw [hz]; rfl)
                  have HN : Hid (O = none) := Lib.hid hN
                  clear hN hz
                  go_wp2_with (first | (go_at_call 115; refine (lower_any _ _).mono ?_; rintro e w1 ⟨rfl, rfl⟩) | fail)
                  try rw [Exit.noGoto_ret]
                  refine bodyPost_ret (v := .tuple #[.int .u64 R.1.m, .int .i64 0, .bool ng, .bool R.1.tr, .bool true, .int .i64 ((k : Int) + 1), .bool false]) (by simp [results, Tryz.results148, go_sem]; try rfl) rfl ?_
                  exact ⟨by rw [HJH.out, HGO.out]; exact ⟨_, _, _, _, _, rfl, by omega, by omega, hmb.1, hmb.2, by omega, by omega, fun _ => rfl, fun r hr => by rw [HN.out] at hr; cases hr⟩, Below.refl _ _⟩
            case rest => as_aux_lemma =>
              obtain ⟨n, us, P, rfl, rfl, rfl, hn, hP0, hP1, HN, rfl⟩ := hcut
              have n1 : (0 : Int) ≤ (n : Int) := by omega
              have n2 : (n : Int) ≤ (s.size : Int) := by omega
              by_cases hm : R.1.m = 0
              · have hmB : (R.1.m != 0) = false := by simpa using hm
                cases us
                · go_wp2_with (first | (go_at_call 116; refine (uok_any _ (by simp [ByteArray.size_extract]; omega) _).mono ?_; rintro e w1 ⟨⟨b, rfl⟩, rfl⟩) | fail)
                  try rw [Exit.noGoto_ret]
                  refine bodyPost_ret (v := .tuple #[.int .u64 0, .int .i64 0, .bool ng, .bool R.1.tr, .bool true, .int .i64 n, .bool true]) (by simp [results, Tryz.results148, go_sem]; try rfl) rfl ?_
                  exact ⟨by rw [HJH.out, HGO.out]; exact ⟨_, _, _, _, _, rfl, by omega, by omega, by omega, by omega, by omega, by omega, fun h => (by rw [HN.out] at h; cases h), fun r hr => by rw [HN.out] at hr; cases hr; exact ⟨fun _ => rfl, hm.symm, by simp only; rw [if_pos hm], rfl, by simp only; rw [List.length_drop, HLEN.out]; omega⟩⟩, Below.refl _ _⟩
                · go_wp2_with (first | (go_at_call 116; refine (uok_any _ (by simp [ByteArray.size_extract]; omega) _).mono ?_; rintro e w1 ⟨⟨b, rfl⟩, rfl⟩) | fail)
                  · try rw [Exit.noGoto_ret]
                    refine bodyPost_ret (v := .tuple #[.int .u64 0, .int .i64 0, .bool ng, .bool R.1.tr, .bool true, .int .i64 n, .bool false]) (by simp [results, Tryz.results148, go_sem]; try rfl) rfl ?_
                    exact ⟨by rw [HJH.out, HGO.out]; exact ⟨_, _, _, _, _, rfl, by omega, by omega, by omega, by omega, by omega, by omega, fun _ => rfl, fun r hr => by rw [HN.out] at hr; cases hr; exact ⟨fun h => absurd h (by simp), hm.symm, by simp only; rw [if_pos hm], rfl, by simp only; rw [List.length_drop, HLEN.out]; omega⟩⟩, Below.refl _ _⟩
                  · try rw [Exit.noGoto_ret]
                    refine bodyPost_ret (v := .tuple #[.int .u64 0, .int .i64 0, .bool ng, .bool R.1.tr, .bool true, .int .i64 n, .bool true]) (by simp [results, Tryz.results148, go_sem]; try rfl) rfl ?_
                    exact ⟨by rw [HJH.out, HGO.out]; exact ⟨_, _, _, _, _, rfl, by omega, by omega, by omega, by omega, by omega, by omega, fun h => (by rw [HN.out] at h; cases h), fun r hr => by rw [HN.out] at hr; cases hr; exact ⟨fun _ => rfl, hm.symm, by simp only; rw [if_pos hm], rfl, by simp only; rw [List.length_drop, HLEN.out]; omega⟩⟩, Below.refl _ _⟩
              · have hmB : (R.1.m != 0) = true := by simpa using hm
                cases us
                · go_wp2_with (first | (go_at_call 116; refine (uok_any _ (by simp [ByteArray.size_extract]; omega) _).mono ?_; rintro e w1 ⟨⟨b, rfl⟩, rfl⟩) | fail)
                  try rw [Exit.noGoto_ret]
                  refine bodyPost_ret (v := .tuple #[.int .u64 R.1.m, .int .i64 (P - R.1.ndm * 4), .bool ng, .bool R.1.tr, .bool true, .int .i64 n, .bool true]) (by simp [results, Tryz.results148, go_sem]; try rfl) rfl ?_
                  exact ⟨by rw [HJH.out, HGO.out]; exact ⟨_, _, _, _, _, rfl, by omega, by omega, by omega, by omega, by omega, by omega, fun h => (by rw [HN.out] at h; cases h), fun r hr => by rw [HN.out] at hr; cases hr; exact ⟨fun _ => rfl, rfl, by simp only; rw [if_neg hm], rfl, by simp only; rw [List.length_drop, HLEN.out]; omega⟩⟩, Below.refl _ _⟩
                · go_wp2_with (first | (go_at_call 116; refine (uok_any _ (by simp [ByteArray.size_extract]; omega) _).mono ?_; rintro e w1 ⟨⟨b, rfl⟩, rfl⟩) | fail)
                  · try rw [Exit.noGoto_ret]
                    refine bodyPost_ret (v := .tuple #[.int .u64 R.1.m, .int .i64 (P - R.1.ndm * 4), .bool ng, .bool R.1.tr, .bool true, .int .i64 n, .bool false]) (by simp [results, Tryz.results148, go_sem]; try rfl) rfl ?_
                    exact ⟨by rw [HJH.out, HGO.out]; exact ⟨_, _, _, _, _, rfl, by omega, by omega, by omega, by omega, by omega, by omega, fun _ => rfl, fun r hr => by rw [HN.out] at hr; cases hr; exact ⟨fun h => absurd h (by simp), rfl, by simp only; rw [if_neg hm], rfl, by simp only; rw [List.length_drop, HLEN.out]; omega⟩⟩, Below.refl _ _⟩
                  · try rw [Exit.noGoto_ret]
                    refine bodyPost_ret (v := .tuple #[.int .u64 R.1.m, .int .i64 (P - R.1.ndm * 4), .bool ng, .bool R.1.tr, .bool true, .int .i64 n, .bool true]) (by simp [results, Tryz.results148, go_sem]; try rfl) rfl ?_
                    exact ⟨by rw [HJH.out, HGO.out]; exact ⟨_, _, _, _, _, rfl, by omega, by omega, by omega, by omega, by omega, by omega, fun h => (by rw [HN.out] at h; cases h), fun r hr => by rw [HN.out] at hr; cases hr; exact ⟨fun _ => rfl, rfl, by simp only; rw [if_neg hm], rfl, by simp only; rw [List.length_drop, HLEN.out]; omega⟩⟩, Below.refl _ _⟩
end Go.Proofs.YtnccpddjdgndcaaGreatDoor.Pf
