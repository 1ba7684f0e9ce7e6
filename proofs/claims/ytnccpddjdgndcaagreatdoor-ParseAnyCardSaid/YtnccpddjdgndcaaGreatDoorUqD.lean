/- THE WALK OF strconv.UnquoteChar AT ANY TEXT, ahead of a double quote (third part: digits). -/
import Derived.Test.YtnccpddjdgndcaaGreatDoorUqC
namespace Go.Proofs.YtnccpddjdgndcaaGreatDoor.Unq
open Go.RowKit Go.Lib Go.Proofs.YtnccpddjdgndcaaGreatDoor.Quo
theorem or_i32_bd (a b : Int) : -2147483648 ≤ bits .or .i32 a b ∧ bits .or .i32 a b ≤ 2147483647 := by
  have : ∀ n : Int, -2147483648 ≤ IntKind.i32.wrap n ∧ IntKind.i32.wrap n ≤ 2147483647 := fun n => by rw [IntKind.wrap_i32]; omega
  exact this _
theorem w32 (n : Int) : IntKind.i32.wrap n = wrap32 n := by rw [IntKind.wrap_i32]; first | rfl | (unfold wrap32; omega)
/-- what digits are read as -/
def hexR (e : Int) (o : Option (Int × List UInt8)) : Option (Int × Bool × List UInt8) := match o with
  | none => none
  | some (v, q) => if e = 120 then some (v, false, q) else if Lib.validRune v then some (v, true, q) else none
set_option maxRecDepth 20000 in
set_option maxHeartbeats 4000000 in
theorem uq_hex (s : ByteArray) (h0 : 0 < s.size) (hb : ((s[0]'h0).toNat : Int) = 92) (h1 : 1 < s.size) (n : Nat) (hn : (((s[1]'h1).toNat : Int) = 120 ∧ n = 2) ∨ (((s[1]'h1).toNat : Int) = 117 ∧ n = 4) ∨ (((s[1]'h1).toNat : Int) = 85 ∧ n = 8)) (hs : s.size ≤ 100000) (w : World) (hE : ErrS w) :
    Calls Tryz.prog 74 #[.string s, .int .u8 34] w fun e w' => UqP (hexR ((s[1]'h1).toNat : Int) (hexGo n (s.data.toList.drop 2) 0)) e ∧ Below w.heap.size w w' := by
  obtain ⟨tE, xE, hc⟩ := hE
  obtain ⟨t, ht⟩ : ∃ t, s.extract 2 s.size = t := ⟨_, rfl⟩
  have htl : t.data.toList = s.data.toList.drop 2 := by rw [← ht, ext_end]
  have hts : t.size = s.size - 2 := by
    have := congrArg List.length htl
    rw [Array.length_toList, List.length_drop, Array.length_toList] at this
    exact this
  have hlen : t.data.toList.length = t.size := by rw [Array.length_toList]; rfl
  rw [← htl]
  have hgi : ∀ i (h : i < t.size), t.data.toList.drop i = t[i] :: t.data.toList.drop (i + 1) := fun i h => by rw [List.drop_eq_getElem_cons (by rw [hlen]; exact h), Array.getElem_toList]; rfl
  have hx := ext_end t n
  have HX := Lib.hid hx; have HGI := Lib.hid hgi; have HT := Lib.hid ht; have HTL := Lib.hid htl; have HLEN := Lib.hid hlen
  have i0 : (0 : Int) < (s.size : Int) := by omega
  have i1 : ((s.size : Int) == 0) = false := beq_eq_false_iff_ne.2 (by omega)
  have i2 : ¬ (s.size : Int) ≤ 1 := by omega
  have i3 : (1 : Int) < (s.size : Int) := by omega
  have i4 : (2 : Int) ≤ (s.size : Int) := by omega
  obtain ⟨H, hH⟩ : ∃ H, hexGo n t.data.toList 0 = H := ⟨_, rfl⟩
  have hshort : t.size < n → H = none := fun h => by rw [← hH]; exact hex_short n _ 0 (by rw [hlen]; exact h)
  have HH := Lib.hid hH; have HSH := Lib.hid hshort
  rw [hH]
  obtain ⟨e, he⟩ : ∃ e, ((s[1]'h1).toNat : Int) = e := ⟨_, rfl⟩
  rw [he] at hn ⊢
  have hts2 : t.size ≤ 100000 := by omega
  clear hx hgi htl hts hlen hH hshort
  rcases hn with ⟨rfl, rfl⟩ | ⟨rfl, rfl⟩ | ⟨rfl, rfl⟩

  · go_enter Tryz.func74, Tryz.ntmps74
    go_upto_region 15 with fail
    clear ht
    by_cases hl : t.size < 2
    · have l1 : (t.size : Int) < 2 := by omega
      have HN := Lib.hid (HSH.out hl)
      go_wp2_with fail
      refine bodyPost_ret (v := .tuple #[.int .i32 0, .bool false, .string ⟨#[]⟩, .iface tE xE]) (by simp [results, Tryz.results74, go_sem]; try rfl) rfl ?_
      exact ⟨by rw [HN.out]; exact ⟨_, _, _, _, _, rfl⟩, Below.refl _ _⟩
    have l1 : ¬ (t.size : Int) < 2 := by omega
    go_wp2_with fail
    go_loopw [7, 13, 14] (fun v7 v13 v14 wr => ∃ (j : Nat) (v : Int), v7 = .nilIface ∧ v13 = .int .i32 v ∧ v14 = .int .i64 j ∧ j ≤ 2 ∧ -2147483648 ≤ v ∧ v ≤ 2147483647 ∧ Hid (hexGo (2 - j) (t.data.toList.drop j) v = H) ∧ w = wr) (fun _ _ v14 _ => 2 - (RowKit.intOf v14).toNat)
    case atStart => exact ⟨0, 0, rfl, rfl, rfl, by omega, by omega, by omega, Lib.hid HH.out, rfl⟩
    case round =>
      obtain ⟨j, v, rfl, rfl, rfl, hj, v0, v1, HG, rfl⟩ := hrel
      by_cases hlt : j < 2
      · have j1 : (j : Int) < 2 := by omega
        have j2 : (0 : Int) ≤ (j : Int) := by omega
        have j3 : (j : Int) < (t.size : Int) := by omega
        have hg := HG.out
        rw [HGI.out j (by omega), show 2 - j = (2 - (j + 1)) + 1 by omega, hexGo] at hg
        have hcb : ((t[j]'(by omega)).toNat : Int) < 256 := by have := (t[j]'(by omega)).toNat_lt; omega
        have hun := fun W => unhex_any ((t[j]'(by omega)).toNat : Int) (by omega) hcb W
        cases hu : uhx ((t[j]'(by omega)).toNat : Int) with
        | none =>
          rw [hu] at hg hun
          have HUN := Lib.hid hun; have HN := Lib.hid hg.symm
          clear hun hg hu
          go_wp2_with (first | (go_at_call 104; refine (HUN.out _).mono ?_; rintro e w1 ⟨rfl, rfl⟩) | fail)
          refine bodyPost_ret (v := .tuple #[.int .i32 0, .bool false, .string ⟨#[]⟩, .iface tE xE]) (by simp [results, Tryz.results74, go_sem]; try rfl) rfl ?_
          exact ⟨by rw [HN.out]; exact ⟨_, _, _, _, _, rfl⟩, Below.refl _ _⟩
        | some x =>
          rw [hu] at hg hun
          have HUN := Lib.hid hun; have HG2 := Lib.hid hg
          clear hun hg hu
          go_wp2_with (first | (go_at_call 104; refine (HUN.out _).mono ?_; rintro e w1 ⟨rfl, rfl⟩) | fail)
          have hbd := or_i32_bd (IntKind.i32.wrap (v * 16)) x
          exact ⟨⟨j + 1, bits .or .i32 (IntKind.i32.wrap (v * 16)) x, rfl, by rw [w32], by go_num, by omega, hbd.1, hbd.2, Lib.hid HG2.out, trivial⟩, by simp [RowKit.intOf]; go_num⟩
      · obtain rfl : j = 2 := by omega
        have hg := HG.out
        have hg2 : H = some (v, t.data.toList.drop 2) := by rw [← hg]; rfl
        have HN := Lib.hid hg2; clear hg hg2
        have j1 : (2 : Int) ≤ (t.size : Int) := by omega
        go_wp2_with fail
        refine bodyPost_ret (v := .tuple #[.int .i32 v, .bool false, .string (t.extract 2 t.size), .nilIface]) (by simp [results, Tryz.results74, go_sem]; try rfl) rfl ?_
        exact ⟨by rw [HN.out, HX.out]; rfl, Below.refl _ _⟩
  · go_enter Tryz.func74, Tryz.ntmps74
    go_upto_region 15 with fail
    clear ht
    by_cases hl : t.size < 4
    · have l1 : (t.size : Int) < 4 := by omega
      have HN := Lib.hid (HSH.out hl)
      go_wp2_with fail
      refine bodyPost_ret (v := .tuple #[.int .i32 0, .bool false, .string ⟨#[]⟩, .iface tE xE]) (by simp [results, Tryz.results74, go_sem]; try rfl) rfl ?_
      exact ⟨by rw [HN.out]; exact ⟨_, _, _, _, _, rfl⟩, Below.refl _ _⟩
    have l1 : ¬ (t.size : Int) < 4 := by omega
    go_wp2_with fail
    go_loopw [7, 13, 14] (fun v7 v13 v14 wr => ∃ (j : Nat) (v : Int), v7 = .nilIface ∧ v13 = .int .i32 v ∧ v14 = .int .i64 j ∧ j ≤ 4 ∧ -2147483648 ≤ v ∧ v ≤ 2147483647 ∧ Hid (hexGo (4 - j) (t.data.toList.drop j) v = H) ∧ w = wr) (fun _ _ v14 _ => 4 - (RowKit.intOf v14).toNat)
    case atStart => exact ⟨0, 0, rfl, rfl, rfl, by omega, by omega, by omega, Lib.hid HH.out, rfl⟩
    case round =>
      obtain ⟨j, v, rfl, rfl, rfl, hj, v0, v1, HG, rfl⟩ := hrel
      by_cases hlt : j < 4
      · have j1 : (j : Int) < 4 := by omega
        have j2 : (0 : Int) ≤ (j : Int) := by omega
        have j3 : (j : Int) < (t.size : Int) := by omega
        have hg := HG.out
        rw [HGI.out j (by omega), show 4 - j = (4 - (j + 1)) + 1 by omega, hexGo] at hg
        have hcb : ((t[j]'(by omega)).toNat : Int) < 256 := by have := (t[j]'(by omega)).toNat_lt; omega
        have hun := fun W => unhex_any ((t[j]'(by omega)).toNat : Int) (by omega) hcb W
        cases hu : uhx ((t[j]'(by omega)).toNat : Int) with
        | none =>
          rw [hu] at hg hun
          have HUN := Lib.hid hun; have HN := Lib.hid hg.symm
          clear hun hg hu
          go_wp2_with (first | (go_at_call 104; refine (HUN.out _).mono ?_; rintro e w1 ⟨rfl, rfl⟩) | fail)
          refine bodyPost_ret (v := .tuple #[.int .i32 0, .bool false, .string ⟨#[]⟩, .iface tE xE]) (by simp [results, Tryz.results74, go_sem]; try rfl) rfl ?_
          exact ⟨by rw [HN.out]; exact ⟨_, _, _, _, _, rfl⟩, Below.refl _ _⟩
        | some x =>
          rw [hu] at hg hun
          have HUN := Lib.hid hun; have HG2 := Lib.hid hg
          clear hun hg hu
          go_wp2_with (first | (go_at_call 104; refine (HUN.out _).mono ?_; rintro e w1 ⟨rfl, rfl⟩) | fail)
          have hbd := or_i32_bd (IntKind.i32.wrap (v * 16)) x
          exact ⟨⟨j + 1, bits .or .i32 (IntKind.i32.wrap (v * 16)) x, rfl, by rw [w32], by go_num, by omega, hbd.1, hbd.2, Lib.hid HG2.out, trivial⟩, by simp [RowKit.intOf]; go_num⟩
      · obtain rfl : j = 4 := by omega
        have hg := HG.out
        have hg2 : H = some (v, t.data.toList.drop 4) := by rw [← hg]; rfl
        have HN := Lib.hid hg2; clear hg hg2
        have j1 : (4 : Int) ≤ (t.size : Int) := by omega
        cases hvr : Lib.validRune v
        · go_wp2_with (first | (go_at_call 105; refine (Tryz.utf8_ValidRune _ _).mono ?_; rintro e w1 ⟨rfl, rfl⟩; rw [hvr]) | fail)
          refine bodyPost_ret (v := .tuple #[.int .i32 0, .bool false, .string ⟨#[]⟩, .iface tE xE]) (by simp [results, Tryz.results74, go_sem]; try rfl) rfl ?_
          exact ⟨by rw [HN.out]; unfold hexR; simp only; rw [if_neg (by decide), hvr]; exact ⟨_, _, _, _, _, rfl⟩, Below.refl _ _⟩
        · go_wp2_with (first | (go_at_call 105; refine (Tryz.utf8_ValidRune _ _).mono ?_; rintro e w1 ⟨rfl, rfl⟩; rw [hvr]) | fail)
          refine bodyPost_ret (v := .tuple #[.int .i32 v, .bool true, .string (t.extract 4 t.size), .nilIface]) (by simp [results, Tryz.results74, go_sem]; try rfl) rfl ?_
          exact ⟨by rw [HN.out, HX.out]; unfold hexR; simp only; rw [if_neg (by decide), hvr]; rfl, Below.refl _ _⟩
  · go_enter Tryz.func74, Tryz.ntmps74
    go_upto_region 15 with fail
    clear ht
    by_cases hl : t.size < 8
    · have l1 : (t.size : Int) < 8 := by omega
      have HN := Lib.hid (HSH.out hl)
      go_wp2_with fail
      refine bodyPost_ret (v := .tuple #[.int .i32 0, .bool false, .string ⟨#[]⟩, .iface tE xE]) (by simp [results, Tryz.results74, go_sem]; try rfl) rfl ?_
      exact ⟨by rw [HN.out]; exact ⟨_, _, _, _, _, rfl⟩, Below.refl _ _⟩
    have l1 : ¬ (t.size : Int) < 8 := by omega
    go_wp2_with fail
    go_loopw [7, 13, 14] (fun v7 v13 v14 wr => ∃ (j : Nat) (v : Int), v7 = .nilIface ∧ v13 = .int .i32 v ∧ v14 = .int .i64 j ∧ j ≤ 8 ∧ -2147483648 ≤ v ∧ v ≤ 2147483647 ∧ Hid (hexGo (8 - j) (t.data.toList.drop j) v = H) ∧ w = wr) (fun _ _ v14 _ => 8 - (RowKit.intOf v14).toNat)
    case atStart => exact ⟨0, 0, rfl, rfl, rfl, by omega, by omega, by omega, Lib.hid HH.out, rfl⟩
    case round =>
      obtain ⟨j, v, rfl, rfl, rfl, hj, v0, v1, HG, rfl⟩ := hrel
      by_cases hlt : j < 8
      · have j1 : (j : Int) < 8 := by omega
        have j2 : (0 : Int) ≤ (j : Int) := by omega
        have j3 : (j : Int) < (t.size : Int) := by omega
        have hg := HG.out
        rw [HGI.out j (by omega), show 8 - j = (8 - (j + 1)) + 1 by omega, hexGo] at hg
        have hcb : ((t[j]'(by omega)).toNat : Int) < 256 := by have := (t[j]'(by omega)).toNat_lt; omega
        have hun := fun W => unhex_any ((t[j]'(by omega)).toNat : Int) (by omega) hcb W
        cases hu : uhx ((t[j]'(by omega)).toNat : Int) with
        | none =>
          rw [hu] at hg hun
          have HUN := Lib.hid hun; have HN := Lib.hid hg.symm
          clear hun hg hu
          go_wp2_with (first | (go_at_call 104; refine (HUN.out _).mono ?_; rintro e w1 ⟨rfl, rfl⟩) | fail)
          refine bodyPost_ret (v := .tuple #[.int .i32 0, .bool false, .string ⟨#[]⟩, .iface tE xE]) (by simp [results, Tryz.results74, go_sem]; try rfl) rfl ?_
          exact ⟨by rw [HN.out]; exact ⟨_, _, _, _, _, rfl⟩, Below.refl _ _⟩
        | some x =>
          rw [hu] at hg hun
          have HUN := Lib.hid hun; have HG2 := Lib.hid hg
          clear hun hg hu
          go_wp2_with (first | (go_at_call 104; refine (HUN.out _).mono ?_; rintro e w1 ⟨rfl, rfl⟩) | fail)
          have hbd := or_i32_bd (IntKind.i32.wrap (v * 16)) x
          exact ⟨⟨j + 1, bits .or .i32 (IntKind.i32.wrap (v * 16)) x, rfl, by rw [w32], by go_num, by omega, hbd.1, hbd.2, Lib.hid HG2.out, trivial⟩, by simp [RowKit.intOf]; go_num⟩
      · obtain rfl : j = 8 := by omega
        have hg := HG.out
        have hg2 : H = some (v, t.data.toList.drop 8) := by rw [← hg]; rfl
        have HN := Lib.hid hg2; clear hg hg2
        have j1 : (8 : Int) ≤ (t.size : Int) := by omega
        cases hvr : Lib.validRune v
        · go_wp2_with (first | (go_at_call 105; refine (Tryz.utf8_ValidRune _ _).mono ?_; rintro e w1 ⟨rfl, rfl⟩; rw [hvr]) | fail)
          refine bodyPost_ret (v := .tuple #[.int .i32 0, .bool false, .string ⟨#[]⟩, .iface tE xE]) (by simp [results, Tryz.results74, go_sem]; try rfl) rfl ?_
          exact ⟨by rw [HN.out]; unfold hexR; simp only; rw [if_neg (by decide), hvr]; exact ⟨_, _, _, _, _, rfl⟩, Below.refl _ _⟩
        · go_wp2_with (first | (go_at_call 105; refine (Tryz.utf8_ValidRune _ _).mono ?_; rintro e w1 ⟨rfl, rfl⟩; rw [hvr]) | fail)
          refine bodyPost_ret (v := .tuple #[.int .i32 v, .bool true, .string (t.extract 8 t.size), .nilIface]) (by simp [results, Tryz.results74, go_sem]; try rfl) rfl ?_
          exact ⟨by rw [HN.out, HX.out]; unfold hexR; simp only; rw [if_neg (by decide), hvr]; rfl, Below.refl _ _⟩
end Go.Proofs.YtnccpddjdgndcaaGreatDoor.Unq
