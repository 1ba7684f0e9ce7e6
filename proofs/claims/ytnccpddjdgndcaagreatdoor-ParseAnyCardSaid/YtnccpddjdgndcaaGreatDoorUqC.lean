/- THE WALK OF strconv.UnquoteChar AT ANY TEXT, ahead of a double quote (second part). -/
import Derived.Test.YtnccpddjdgndcaaGreatDoorUqB
namespace Go.Proofs.YtnccpddjdgndcaaGreatDoor.Unq
open Go.RowKit Go.Lib Go.Proofs.YtnccpddjdgndcaaGreatDoor.Quo
theorem uqc_at (s : ByteArray) (h : 0 < s.size) : s.data.toList = (s[0]'h) :: s.data.toList.drop 1 := by
  have h1 : 0 < s.data.toList.length := by rw [Array.length_toList]; exact h
  have := List.drop_eq_getElem_cons (l := s.data.toList) (i := 0) h1
  rw [List.drop_zero] at this
  rw [this, Array.getElem_toList]; rfl
theorem uqc_at1 (s : ByteArray) (h : 1 < s.size) : s.data.toList.drop 1 = (s[1]'h) :: s.data.toList.drop 2 := by
  have h1 : 1 < s.data.toList.length := by rw [Array.length_toList]; exact h
  have := List.drop_eq_getElem_cons (l := s.data.toList) (i := 1) h1
  rw [this, Array.getElem_toList]; rfl

set_option maxRecDepth 20000 in
set_option maxHeartbeats 2000000 in
theorem uq_nil (s : ByteArray) (h0 : s.size = 0) (w : World) (hE : ErrS w) : Calls Tryz.prog 74 #[.string s, .int .u8 34] w fun e w' => UqP none e ∧ Below w.heap.size w w' := by
  obtain ⟨t, x, hc⟩ := hE
  have i0 : (s.size : Int) = 0 := by omega
  have i1 : ((s.size : Int) == 0) = true := by rw [i0]; rfl
  clear i0
  go_enter Tryz.func74, Tryz.ntmps74
  go_wp2_with fail
  refine bodyPost_ret (v := .tuple #[.int .i32 0, .bool false, .string ⟨#[]⟩, .iface t x]) (by simp [results, Tryz.results74, go_sem]; try rfl) rfl ?_
  exact ⟨⟨_, _, _, _, _, rfl⟩, Below.refl _ _⟩
set_option maxRecDepth 20000 in
set_option maxHeartbeats 2000000 in
theorem uq_quote (s : ByteArray) (h0 : 0 < s.size) (hb : ((s[0]'h0).toNat : Int) = 34) (w : World) (hE : ErrS w) : Calls Tryz.prog 74 #[.string s, .int .u8 34] w fun e w' => UqP none e ∧ Below w.heap.size w w' := by
  obtain ⟨t, x, hc⟩ := hE
  have i0 : (0 : Int) < (s.size : Int) := by omega
  have i1 : ((s.size : Int) == 0) = false := beq_eq_false_iff_ne.2 (by omega)
  go_enter Tryz.func74, Tryz.ntmps74
  go_wp2_with fail
  refine bodyPost_ret (v := .tuple #[.int .i32 0, .bool false, .string ⟨#[]⟩, .iface t x]) (by simp [results, Tryz.results74, go_sem]; try rfl) rfl ?_
  exact ⟨⟨_, _, _, _, _, rfl⟩, Below.refl _ _⟩
set_option maxRecDepth 20000 in
set_option maxHeartbeats 2000000 in
theorem uq_plain (s : ByteArray) (h0 : 0 < s.size) (hb : ((s[0]'h0).toNat : Int) < 128) (h34 : ¬ ((s[0]'h0).toNat : Int) = 34) (h92 : ¬ ((s[0]'h0).toNat : Int) = 92) (hs : s.size ≤ 100000) (w : World) :
    Calls Tryz.prog 74 #[.string s, .int .u8 34] w fun e w' => UqP (some (((s[0]'h0).toNat : Int), false, s.data.toList.drop 1)) e ∧ Below w.heap.size w w' := by
  have hx := ext_end s 1
  have HX := Lib.hid hx; clear hx
  have i0 : (0 : Int) < (s.size : Int) := by omega
  have i1 : ((s.size : Int) == 0) = false := beq_eq_false_iff_ne.2 (by omega)
  have i2 : (1 : Int) ≤ (s.size : Int) := by omega
  have b1 : (((s[0]'h0).toNat : Int) == 34) = false := beq_eq_false_iff_ne.2 h34
  have b2 : (((s[0]'h0).toNat : Int) != 92) = true := by simpa using h92
  have b3 : ¬ (128 : Int) ≤ ((s[0]'h0).toNat : Int) := by omega
  go_enter Tryz.func74, Tryz.ntmps74
  go_wp2_with fail
  go_quiet (fail)
  go_wp2_with fail
  refine bodyPost_ret (v := .tuple #[.int .i32 ((s[0]'h0).toNat : Int), .bool false, .string (s.extract 1 s.size), .nilIface]) (by simp [results, Tryz.results74, go_sem]; try rfl) rfl ?_
  exact ⟨by rw [HX.out]; rfl, Val.bdrewN (Below.refl _ _) nq⟩
set_option maxRecDepth 20000 in
set_option maxHeartbeats 2000000 in
theorem uq_rune (s : ByteArray) (h0 : 0 < s.size) (hb : 128 ≤ ((s[0]'h0).toNat : Int)) (hs : s.size ≤ 100000) (r k : Nat) (hd : Utf8.decode s 0 = (r, k)) (hk : k ≤ s.size) (w : World) (hT : Tab.Tabs w) :
    Calls Tryz.prog 74 #[.string s, .int .u8 34] w fun e w' => UqP (some ((r : Int), true, s.data.toList.drop k)) e ∧ Below w.heap.size w w' := by
  have hx := ext_end s k
  have HX := Lib.hid hx; clear hx
  have hdc := Tryz.utf8_DecodeRuneInString s w hT.utf
  have hgo : Lib.decodeGo s = (r, k) := by
    unfold Lib.decodeGo
    rw [if_neg (by omega), hd]
  rw [hgo] at hdc
  have HDC := Lib.hid hdc
  clear hdc hgo hd
  have i0 : (0 : Int) < (s.size : Int) := by omega
  have i1 : ((s.size : Int) == 0) = false := beq_eq_false_iff_ne.2 (by omega)
  have i2 : (k : Int) ≤ (s.size : Int) := by omega
  have i3 : (0 : Int) ≤ (k : Int) := by omega
  have b1 : (((s[0]'h0).toNat : Int) == 34) = false := beq_eq_false_iff_ne.2 (by omega)
  go_enter Tryz.func74, Tryz.ntmps74
  go_wp2_with (first | (go_at_call 73; refine HDC.out.mono ?_; rintro e w1 ⟨rfl, hb1⟩) | fail)
  go_quiet (fail)
  go_wp2_with fail
  refine bodyPost_ret (v := .tuple #[.int .i32 (r : Int), .bool true, .string (s.extract k s.size), .nilIface]) (by simp [results, Tryz.results74, go_sem]; try rfl) rfl ?_
  exact ⟨by rw [HX.out]; rfl, Val.bdrewN hb1 nq⟩
set_option maxRecDepth 20000 in
set_option maxHeartbeats 2000000 in
theorem uq_last (s : ByteArray) (h0 : 0 < s.size) (hb : ((s[0]'h0).toNat : Int) = 92) (h1 : s.size = 1) (w : World) (hE : ErrS w) : Calls Tryz.prog 74 #[.string s, .int .u8 34] w fun e w' => UqP none e ∧ Below w.heap.size w w' := by
  obtain ⟨t, x, hc⟩ := hE
  have i0 : (0 : Int) < (s.size : Int) := by omega
  have i1 : ((s.size : Int) == 0) = false := beq_eq_false_iff_ne.2 (by omega)
  have i2 : (s.size : Int) ≤ 1 := by omega
  clear h1
  go_enter Tryz.func74, Tryz.ntmps74
  go_wp2_with fail
  refine bodyPost_ret (v := .tuple #[.int .i32 0, .bool false, .string ⟨#[]⟩, .iface t x]) (by simp [results, Tryz.results74, go_sem]; try rfl) rfl ?_
  exact ⟨⟨_, _, _, _, _, rfl⟩, Below.refl _ _⟩
set_option maxRecDepth 20000 in
set_option maxHeartbeats 2000000 in
theorem uq_esc (s : ByteArray) (h0 : 0 < s.size) (hb : ((s[0]'h0).toNat : Int) = 92) (h1 : 1 < s.size) (v : Int) (he : esc1 ((s[1]'h1).toNat : Int) = some v) (hs : s.size ≤ 100000) (w : World) :
    Calls Tryz.prog 74 #[.string s, .int .u8 34] w fun e w' => UqP (some (v, false, s.data.toList.drop 2)) e ∧ Below w.heap.size w w' := by
  have hx := ext_end s 2
  have HX := Lib.hid hx; clear hx
  have i0 : (0 : Int) < (s.size : Int) := by omega
  have i1 : ((s.size : Int) == 0) = false := beq_eq_false_iff_ne.2 (by omega)
  have i2 : ¬ (s.size : Int) ≤ 1 := by omega
  have i3 : (1 : Int) < (s.size : Int) := by omega
  have i4 : (2 : Int) ≤ (s.size : Int) := by omega
  have hE : (((s[1]'h1).toNat : Int) = 97 ∧ v = 7) ∨ (((s[1]'h1).toNat : Int) = 98 ∧ v = 8) ∨ (((s[1]'h1).toNat : Int) = 102 ∧ v = 12) ∨ (((s[1]'h1).toNat : Int) = 110 ∧ v = 10) ∨ (((s[1]'h1).toNat : Int) = 114 ∧ v = 13) ∨ (((s[1]'h1).toNat : Int) = 116 ∧ v = 9) ∨ (((s[1]'h1).toNat : Int) = 118 ∧ v = 11) ∨ (((s[1]'h1).toNat : Int) = 92 ∧ v = 92) ∨ (((s[1]'h1).toNat : Int) = 34 ∧ v = 34) := by
    unfold esc1 at he
    repeat' split at he
    all_goals first | (cases he; simp only [*, true_and, or_true, true_or]; done) | (simp_all; done) | omega
  clear he
  rcases hE with ⟨e1, rfl⟩ | ⟨e1, rfl⟩ | ⟨e1, rfl⟩ | ⟨e1, rfl⟩ | ⟨e1, rfl⟩ | ⟨e1, rfl⟩ | ⟨e1, rfl⟩ | ⟨e1, rfl⟩ | ⟨e1, rfl⟩
  all_goals
    go_enter Tryz.func74, Tryz.ntmps74
    go_wp2_with fail
    refine bodyPost_ret (v := .tuple #[.int .i32 _, .bool false, .string (s.extract 2 s.size), .nilIface]) (by simp [results, Tryz.results74, go_sem]; try rfl) rfl ?_
    exact ⟨by rw [HX.out]; rfl, Below.refl _ _⟩

end Go.Proofs.YtnccpddjdgndcaaGreatDoor.Unq
