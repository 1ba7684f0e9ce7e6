/- THE WALK OF strconv.UnquoteChar AT ANY TEXT, ahead of a double quote (last part). -/
import Derived.Test.YtnccpddjdgndcaaGreatDoorUqD
namespace Go.Proofs.YtnccpddjdgndcaaGreatDoor.Unq
open Go.RowKit Go.Lib Go.Proofs.YtnccpddjdgndcaaGreatDoor.Quo
def octR (o : Option (Int × List UInt8)) : Option (Int × Bool × List UInt8) := match o with
  | none => none
  | some (v, q) => if 255 < v then none else some (v, false, q)
set_option maxRecDepth 20000 in
set_option maxHeartbeats 8000000 in
theorem uq_oct (s : ByteArray) (h0 : 0 < s.size) (hb : ((s[0]'h0).toNat : Int) = 92) (h1 : 1 < s.size) (he0 : 48 ≤ ((s[1]'h1).toNat : Int)) (he1 : ((s[1]'h1).toNat : Int) ≤ 55) (hs : s.size ≤ 100000) (w : World) (hE : ErrS w) :
    Calls Tryz.prog 74 #[.string s, .int .u8 34] w fun e w' => UqP (octR (octGo 2 (s.data.toList.drop 2) (((s[1]'h1).toNat : Int) - 48))) e ∧ Below w.heap.size w w' := by
  obtain ⟨tE, xE, hc⟩ := hE
  obtain ⟨t, ht⟩ : ∃ t, s.extract 2 s.size = t := ⟨_, rfl⟩
  have htl : t.data.toList = s.data.toList.drop 2 := by rw [← ht, ext_end]
  have hts : t.size = s.size - 2 := by
    have := congrArg List.length htl
    rw [Array.length_toList, List.length_drop, Array.length_toList] at this
    exact this
  have hlen : t.data.toList.length = t.size := by rw [Array.length_toList]; rfl
  rw [← htl]
  have hgi : ∀ i (h : i < t.size), t.data.toList.drop i = t[i] :: t.data.toList.drop (i + 1) := fun i h => by rw [List.drop_eq_getElem_cons (by rw [hlen]; exact h), Array.getElem_toList]; rfl
  have hx := ext_end t 2
  have HX := Lib.hid hx; have HGI := Lib.hid hgi; have HT := Lib.hid ht; have HTL := Lib.hid htl; have HLEN := Lib.hid hlen
  have i0 : (0 : Int) < (s.size : Int) := by omega
  have i1 : ((s.size : Int) == 0) = false := beq_eq_false_iff_ne.2 (by omega)
  have i2 : ¬ (s.size : Int) ≤ 1 := by omega
  have i3 : (1 : Int) < (s.size : Int) := by omega
  have i4 : (2 : Int) ≤ (s.size : Int) := by omega
  obtain ⟨z, hz⟩ : ∃ z, ((s[1]'h1).toNat : Int) - 48 = z := ⟨_, rfl⟩
  rw [hz]
  obtain ⟨H, hH⟩ : ∃ H, octGo 2 t.data.toList z = H := ⟨_, rfl⟩
  have hshort : t.size < 2 → H = none := fun h => by rw [← hH]; exact oct_short 2 _ z (by rw [hlen]; exact h)
  have HH := Lib.hid hH; have HSH := Lib.hid hshort
  rw [hH]
  have hts2 : t.size ≤ 100000 := by omega
  have hcase : ((((s[1]'h1).toNat : Int) = 48 ∧ z = 0) ∨ (((s[1]'h1).toNat : Int) = 49 ∧ z = 1) ∨ (((s[1]'h1).toNat : Int) = 50 ∧ z = 2) ∨ (((s[1]'h1).toNat : Int) = 51 ∧ z = 3) ∨ (((s[1]'h1).toNat : Int) = 52 ∧ z = 4) ∨ (((s[1]'h1).toNat : Int) = 53 ∧ z = 5) ∨ (((s[1]'h1).toNat : Int) = 54 ∧ z = 6) ∨ (((s[1]'h1).toNat : Int) = 55 ∧ z = 7)) := by omega
  clear hx hgi htl hts hlen hH hshort hz he0 he1
  rcases hcase with ⟨e1, rfl⟩ | ⟨e1, rfl⟩ | ⟨e1, rfl⟩ | ⟨e1, rfl⟩ | ⟨e1, rfl⟩ | ⟨e1, rfl⟩ | ⟨e1, rfl⟩ | ⟨e1, rfl⟩
  all_goals
    go_enter Tryz.func74, Tryz.ntmps74
    go_upto_region 15 with fail
    clear ht
    by_cases hl : t.size < 2
    · have l1 : (t.size : Int) < 2 := by omega
      have HN := Lib.hid (HSH.out hl)
      go_wp2_with fail
      refine bodyPost_ret (v := .tuple #[.int .i32 0, .bool false, .string ⟨#[]⟩, .iface tE xE]) (by simp [results, Tryz.results74, go_sem]; try rfl) rfl ?_
      exact ⟨by rw [HN.out]; exact ⟨_, _, _, _, _, rfl⟩, Below.refl _ _⟩
    have l1 : ¬ (t.size : Int) < 2 := by omega
    go_wp2_with fail
    go_loopw [7, 17, 18] (fun v7 v13 v14 wr => ∃ (j : Nat) (v : Int), v7 = .nilIface ∧ v13 = .int .i32 v ∧ v14 = .int .i64 j ∧ j ≤ 2 ∧ -2147483648 ≤ v ∧ v ≤ 2147483647 ∧ Hid (octGo (2 - j) (t.data.toList.drop j) v = H) ∧ w = wr) (fun _ _ v14 _ => 2 - (RowKit.intOf v14).toNat)
    case atStart => exact ⟨0, _, rfl, rfl, rfl, by omega, by omega, by omega, Lib.hid HH.out, rfl⟩
    case round =>
      obtain ⟨j, v, rfl, rfl, rfl, hj, v0, v1, HG, rfl⟩ := hrel
      by_cases hlt : j < 2
      · have j1 : (j : Int) < 2 := by omega
        have j2 : (0 : Int) ≤ (j : Int) := by omega
        have j3 : (j : Int) < (t.size : Int) := by omega
        have hg := HG.out
        rw [HGI.out j (by omega), show 2 - j = (2 - (j + 1)) + 1 by omega, octGo] at hg
        have hcb : ((t[j]'(by omega)).toNat : Int) < 256 := by have := (t[j]'(by omega)).toNat_lt; omega
        by_cases hd : ((t[j]'(by omega)).toNat : Int) < 48 ∨ 55 < ((t[j]'(by omega)).toNat : Int)
        · rw [if_pos hd] at hg
          have HN := Lib.hid hg.symm
          have hd2 : (((t[j]'(by omega)).toNat : Int) - 48 < 0) ∨ (¬ ((t[j]'(by omega)).toNat : Int) - 48 < 0 ∧ 7 < ((t[j]'(by omega)).toNat : Int) - 48) := by omega
          clear hg hd
          rcases hd2 with d1 | ⟨d1, d2⟩
          all_goals
            go_wp2_with fail
            refine bodyPost_ret (v := .tuple #[.int .i32 0, .bool false, .string ⟨#[]⟩, .iface tE xE]) (by simp [results, Tryz.results74, go_sem]; try rfl) rfl ?_
            exact ⟨by rw [HN.out]; exact ⟨_, _, _, _, _, rfl⟩, Below.refl _ _⟩
        · rw [if_neg hd] at hg
          have HG2 := Lib.hid hg
          have d1 : ¬ ((t[j]'(by omega)).toNat : Int) - 48 < 0 := by omega
          have d2 : ¬ 7 < ((t[j]'(by omega)).toNat : Int) - 48 := by omega
          clear hg hd
          go_wp2_with fail
          have hbd := or_i32_bd (IntKind.i32.wrap (v * 8)) (((t[j]'(by omega)).toNat : Int) - 48)
          exact ⟨⟨j + 1, bits .or .i32 (IntKind.i32.wrap (v * 8)) (((t[j]'(by omega)).toNat : Int) - 48), rfl, by rw [w32], by go_num, by omega, hbd.1, hbd.2, Lib.hid HG2.out, trivial⟩, by simp [RowKit.intOf]; go_num⟩
      · obtain rfl : j = 2 := by omega
        have hg := HG.out
        have hg2 : H = some (v, t.data.toList.drop 2) := by rw [← hg]; rfl
        have HN := Lib.hid hg2; clear hg hg2
        have j1 : (2 : Int) ≤ (t.size : Int) := by omega
        by_cases hv : 255 < v
        · go_wp2_with fail
          refine bodyPost_ret (v := .tuple #[.int .i32 0, .bool false, .string ⟨#[]⟩, .iface tE xE]) (by simp [results, Tryz.results74, go_sem]; try rfl) rfl ?_
          exact ⟨by rw [HN.out]; unfold octR; simp only; rw [if_pos hv]; exact ⟨_, _, _, _, _, rfl⟩, Below.refl _ _⟩
        · go_wp2_with fail
          refine bodyPost_ret (v := .tuple #[.int .i32 v, .bool false, .string (t.extract 2 t.size), .nilIface]) (by simp [results, Tryz.results74, go_sem]; try rfl) rfl ?_
          exact ⟨by rw [HN.out, HX.out]; unfold octR; simp only; rw [if_neg (by omega)]; rfl, Below.refl _ _⟩
set_option maxRecDepth 20000 in
set_option maxHeartbeats 4000000 in
theorem uq_other (s : ByteArray) (h0 : 0 < s.size) (hb : ((s[0]'h0).toNat : Int) = 92) (h1 : 1 < s.size) (he : esc1 ((s[1]'h1).toNat : Int) = none) (hn : escN ((s[1]'h1).toNat : Int) = 0) (ho : ¬ (48 ≤ ((s[1]'h1).toNat : Int) ∧ ((s[1]'h1).toNat : Int) ≤ 55)) (w : World) (hE : ErrS w) :
    Calls Tryz.prog 74 #[.string s, .int .u8 34] w fun e w' => UqP none e ∧ Below w.heap.size w w' := by
  obtain ⟨tE, xE, hc⟩ := hE
  have i0 : (0 : Int) < (s.size : Int) := by omega
  have i1 : ((s.size : Int) == 0) = false := beq_eq_false_iff_ne.2 (by omega)
  have i2 : ¬ (s.size : Int) ≤ 1 := by omega
  have i3 : (1 : Int) < (s.size : Int) := by omega
  have i4 : (2 : Int) ≤ (s.size : Int) := by omega
  obtain ⟨E, hEE⟩ : ∃ E, ((s[1]'h1).toNat : Int) = E := ⟨_, rfl⟩
  rw [hEE] at he hn ho
  have n97 : ((s[1]'h1).toNat : Int) ≠ 97 := by rw [hEE]; rintro rfl; exact absurd he (by decide)
  have n98 : ((s[1]'h1).toNat : Int) ≠ 98 := by rw [hEE]; rintro rfl; exact absurd he (by decide)
  have n102 : ((s[1]'h1).toNat : Int) ≠ 102 := by rw [hEE]; rintro rfl; exact absurd he (by decide)
  have n110 : ((s[1]'h1).toNat : Int) ≠ 110 := by rw [hEE]; rintro rfl; exact absurd he (by decide)
  have n114 : ((s[1]'h1).toNat : Int) ≠ 114 := by rw [hEE]; rintro rfl; exact absurd he (by decide)
  have n116 : ((s[1]'h1).toNat : Int) ≠ 116 := by rw [hEE]; rintro rfl; exact absurd he (by decide)
  have n118 : ((s[1]'h1).toNat : Int) ≠ 118 := by rw [hEE]; rintro rfl; exact absurd he (by decide)
  have n120 : ((s[1]'h1).toNat : Int) ≠ 120 := by rw [hEE]; rintro rfl; exact absurd hn (by decide)
  have n117 : ((s[1]'h1).toNat : Int) ≠ 117 := by rw [hEE]; rintro rfl; exact absurd hn (by decide)
  have n85 : ((s[1]'h1).toNat : Int) ≠ 85 := by rw [hEE]; rintro rfl; exact absurd hn (by decide)
  have n48 : ((s[1]'h1).toNat : Int) ≠ 48 := by rw [hEE]; omega
  have n49 : ((s[1]'h1).toNat : Int) ≠ 49 := by rw [hEE]; omega
  have n50 : ((s[1]'h1).toNat : Int) ≠ 50 := by rw [hEE]; omega
  have n51 : ((s[1]'h1).toNat : Int) ≠ 51 := by rw [hEE]; omega
  have n52 : ((s[1]'h1).toNat : Int) ≠ 52 := by rw [hEE]; omega
  have n53 : ((s[1]'h1).toNat : Int) ≠ 53 := by rw [hEE]; omega
  have n54 : ((s[1]'h1).toNat : Int) ≠ 54 := by rw [hEE]; omega
  have n55 : ((s[1]'h1).toNat : Int) ≠ 55 := by rw [hEE]; omega
  have n92 : ((s[1]'h1).toNat : Int) ≠ 92 := by rw [hEE]; rintro rfl; exact absurd he (by decide)
  have n34 : ((s[1]'h1).toNat : Int) ≠ 34 := by rw [hEE]; rintro rfl; exact absurd he (by decide)
  have m97 : (((s[1]'h1).toNat : Int) == 97) = false := beq_eq_false_iff_ne.2 n97
  have m98 : (((s[1]'h1).toNat : Int) == 98) = false := beq_eq_false_iff_ne.2 n98
  have m102 : (((s[1]'h1).toNat : Int) == 102) = false := beq_eq_false_iff_ne.2 n102
  have m110 : (((s[1]'h1).toNat : Int) == 110) = false := beq_eq_false_iff_ne.2 n110
  have m114 : (((s[1]'h1).toNat : Int) == 114) = false := beq_eq_false_iff_ne.2 n114
  have m116 : (((s[1]'h1).toNat : Int) == 116) = false := beq_eq_false_iff_ne.2 n116
  have m118 : (((s[1]'h1).toNat : Int) == 118) = false := beq_eq_false_iff_ne.2 n118
  have m120 : (((s[1]'h1).toNat : Int) == 120) = false := beq_eq_false_iff_ne.2 n120
  have m117 : (((s[1]'h1).toNat : Int) == 117) = false := beq_eq_false_iff_ne.2 n117
  have m85 : (((s[1]'h1).toNat : Int) == 85) = false := beq_eq_false_iff_ne.2 n85
  have m48 : (((s[1]'h1).toNat : Int) == 48) = false := beq_eq_false_iff_ne.2 n48
  have m49 : (((s[1]'h1).toNat : Int) == 49) = false := beq_eq_false_iff_ne.2 n49
  have m50 : (((s[1]'h1).toNat : Int) == 50) = false := beq_eq_false_iff_ne.2 n50
  have m51 : (((s[1]'h1).toNat : Int) == 51) = false := beq_eq_false_iff_ne.2 n51
  have m52 : (((s[1]'h1).toNat : Int) == 52) = false := beq_eq_false_iff_ne.2 n52
  have m53 : (((s[1]'h1).toNat : Int) == 53) = false := beq_eq_false_iff_ne.2 n53
  have m54 : (((s[1]'h1).toNat : Int) == 54) = false := beq_eq_false_iff_ne.2 n54
  have m55 : (((s[1]'h1).toNat : Int) == 55) = false := beq_eq_false_iff_ne.2 n55
  have m92 : (((s[1]'h1).toNat : Int) == 92) = false := beq_eq_false_iff_ne.2 n92
  have m34 : (((s[1]'h1).toNat : Int) == 34) = false := beq_eq_false_iff_ne.2 n34
  clear n97 n98 n102 n110 n114 n116 n118 n120 n117 n85 n48 n49 n50 n51 n52 n53 n54 n55 n92 n34 he hn ho hEE
  by_cases e39 : ((s[1]'h1).toNat : Int) = 39
  · go_enter Tryz.func74, Tryz.ntmps74
    go_wp2_with fail
    refine bodyPost_ret (v := .tuple #[.int .i32 0, .bool false, .string ⟨#[]⟩, .iface tE xE]) (by simp [results, Tryz.results74, go_sem]; try rfl) rfl ?_
    exact ⟨⟨_, _, _, _, _, rfl⟩, Below.refl _ _⟩
  · have m39 : (((s[1]'h1).toNat : Int) == 39) = false := beq_eq_false_iff_ne.2 e39
    go_enter Tryz.func74, Tryz.ntmps74
    go_wp2_with fail
    refine bodyPost_ret (v := .tuple #[.int .i32 0, .bool false, .string ⟨#[]⟩, .iface tE xE]) (by simp [results, Tryz.results74, go_sem]; try rfl) rfl ?_
    exact ⟨⟨_, _, _, _, _, rfl⟩, Below.refl _ _⟩
theorem uqc_34 (c : UInt8) (r : List UInt8) (h : (c.toNat : Int) = 34) : uqc (c :: r) = none := by unfold uqc; simp only; rw [if_pos h]
theorem uqc_128 (c : UInt8) (r : List UInt8) (h : ¬ (c.toNat : Int) = 34) (h2 : 128 ≤ (c.toNat : Int)) : uqc (c :: r) = some (((decodeL (c :: r)).1 : Int), true, (c :: r).drop (decodeL (c :: r)).2) := by unfold uqc; simp only; rw [if_neg h, if_pos h2]
theorem uqc_pl (c : UInt8) (r : List UInt8) (h : ¬ (c.toNat : Int) = 34) (h2 : ¬ 128 ≤ (c.toNat : Int)) (h3 : ¬ (c.toNat : Int) = 92) : uqc (c :: r) = some ((c.toNat : Int), false, r) := by unfold uqc; simp only; rw [if_neg h, if_neg h2, if_pos h3]
theorem uqc_end (c : UInt8) (h3 : (c.toNat : Int) = 92) : uqc [c] = none := by unfold uqc; simp only; rw [if_neg (by omega), if_neg (by omega), if_neg (fun h => h h3)]
theorem uqc_92 (c e : UInt8) (t : List UInt8) (h3 : (c.toNat : Int) = 92) : uqc (c :: e :: t) = match esc1 (e.toNat : Int) with
        | some v => some (v, false, t)
        | none =>
          if escN (e.toNat : Int) ≠ 0 then hexR (e.toNat : Int) (hexGo (escN (e.toNat : Int)) t 0)
          else if 48 ≤ (e.toNat : Int) ∧ (e.toNat : Int) ≤ 55 then octR (octGo 2 t ((e.toNat : Int) - 48)) else none := by
  unfold uqc
  simp only
  rw [if_neg (by omega), if_neg (by omega), if_neg (fun h => h h3)]
  rfl
/-- any text -/
theorem uq_any (s : ByteArray) (hs : s.size ≤ 100000) (w : World) (hE : ErrS w) (hT : Tab.Tabs w) :
    Calls Tryz.prog 74 #[.string s, .int .u8 34] w fun e w' => UqP (uqc s.data.toList) e ∧ Below w.heap.size w w' := by
  by_cases h0 : s.size = 0
  · have e : s.data.toList = [] := List.length_eq_zero_iff.1 (by rw [Array.length_toList]; exact h0)
    rw [e]
    exact uq_nil s h0 w hE
  have hp : 0 < s.size := by omega
  have e0 := uqc_at s hp
  by_cases b34 : ((s[0]'hp).toNat : Int) = 34
  · have := uqc_34 _ (s.data.toList.drop 1) b34
    rw [← e0] at this
    rw [this]
    exact uq_quote s hp b34 w hE
  by_cases b128 : 128 ≤ ((s[0]'hp).toNat : Int)
  · have hl : decodeL s.data.toList = Utf8.decode s 0 := by unfold decodeL; rfl
    have hk : (Utf8.decode s 0).2 ≤ s.size := by
      have := decodeGo_le_size s
      unfold decodeGo at this
      rw [if_neg h0] at this
      exact this
    have := uqc_128 _ (s.data.toList.drop 1) b34 b128
    rw [← e0, hl] at this
    rw [this]
    exact uq_rune s hp b128 hs _ _ rfl hk w hT
  by_cases b92 : ((s[0]'hp).toNat : Int) = 92
  · by_cases h1 : s.size = 1
    · have e1 : s.data.toList.drop 1 = [] := List.drop_of_length_le (by rw [Array.length_toList]; exact Nat.le_of_eq h1)
      have := uqc_end _ b92
      rw [← e1, ← e0] at this
      rw [this]
      exact uq_last s hp b92 h1 w hE
    have hp1 : 1 < s.size := by omega
    have e1 := uqc_at1 s hp1
    have hu : uqc s.data.toList = match esc1 ((s[1]'hp1).toNat : Int) with
        | some v => some (v, false, s.data.toList.drop 2)
        | none =>
          if escN ((s[1]'hp1).toNat : Int) ≠ 0 then hexR ((s[1]'hp1).toNat : Int) (hexGo (escN ((s[1]'hp1).toNat : Int)) (s.data.toList.drop 2) 0)
          else if 48 ≤ ((s[1]'hp1).toNat : Int) ∧ ((s[1]'hp1).toNat : Int) ≤ 55 then octR (octGo 2 (s.data.toList.drop 2) (((s[1]'hp1).toNat : Int) - 48)) else none := by
      have := uqc_92 _ (s[1]'hp1) (s.data.toList.drop 2) b92
      rw [← e1, ← e0] at this
      exact this
    rw [hu]
    cases he : esc1 ((s[1]'hp1).toNat : Int) with
    | some v => exact uq_esc s hp b92 hp1 v he hs w
    | none =>
      simp only
      by_cases hn : escN ((s[1]'hp1).toNat : Int) = 0
      · rw [if_neg (fun h => h hn)]
        by_cases ho : 48 ≤ ((s[1]'hp1).toNat : Int) ∧ ((s[1]'hp1).toNat : Int) ≤ 55
        · rw [if_pos ho]
          exact uq_oct s hp b92 hp1 ho.1 ho.2 hs w hE
        · rw [if_neg ho]
          exact uq_other s hp b92 hp1 he hn ho w hE
      · rw [if_pos hn]
        refine uq_hex s hp b92 hp1 _ ?_ hs w hE
        unfold escN at hn ⊢
        split
        · rename_i q; exact Or.inl ⟨q, rfl⟩
        split
        · rename_i q; exact Or.inr (Or.inl ⟨q, rfl⟩)
        split
        · rename_i q; exact Or.inr (Or.inr ⟨q, rfl⟩)
        · rename_i q1 q2 q3; rw [if_neg q1, if_neg q2, if_neg q3] at hn; exact absurd rfl hn
  · have := uqc_pl _ (s.data.toList.drop 1) b34 b128 b92
    rw [← e0] at this
    rw [this]
    exact uq_plain s hp (by omega) b34 b92 hs w
end Go.Proofs.YtnccpddjdgndcaaGreatDoor.Unq
