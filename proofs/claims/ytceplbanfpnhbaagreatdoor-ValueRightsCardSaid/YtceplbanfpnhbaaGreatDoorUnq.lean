/- THE WALK OF strconv.Unquote AT A TEXT BETWEEN QUOTES that needs no escapes. -/
import Derived.Test.YtceplbanfpnhbaaGreatDoorPrint
import Derived.Test.YtceplbanfpnhbaaGreatDoorShelfV
import Derived.Handy
import Derived.BigQuiet
import Derived.Deep.QuietTactic
import Derived.Lib.PathFns
import Derived.Lib.ValidAsc
import Derived.BigGuardPart
namespace Go.Proofs.YtceplbanfpnhbaaGreatDoor.Unq
open Go.RowKit Go.Lib
theorem ibs_call (s : ByteArray) (c : Int) (w : World) : (callFunc 151 #[.string s, .int .u8 c]).run Tryz.prog w = .ok (.value (.int .i64 (Lib.indexByte s.data.toList c.toNat.toUInt8))) w := by
  rw [run_callFunc_extern Tryz.func151 (by kernel_rfl) (by kernel_rfl) (by kernel_rfl) (e := Extern.BytealgIndexByte.indexByte) (by kernel_rfl), Lib.run_indexByteString]
  rfl
set_option maxHeartbeats 400000 in
theorem index_any (s : ByteArray) (c : Int) (w : World) : Calls Tryz.prog 124 #[.string s, .int .u8 c] w fun e w' => e = .returned (.int .i64 (Lib.indexByte s.data.toList c.toNat.toUInt8)) ∧ w = w' := by
  go_enter Tryz.func124, Tryz.ntmps124
  go_wp2_with (first | (simp only [ibs_call]) | fail)
  go_ret
  exact ⟨rfl, rfl⟩
theorem contains_of (s : ByteArray) (c : Int) (b : Bool) (hb : (Lib.indexByte s.data.toList c.toNat.toUInt8 != -1) = b) (w : World) : Calls Tryz.prog 125 #[.string s, .int .u8 c] w fun e w' => e = .returned (.bool b) ∧ w = w' := by
  go_enter Tryz.func125, Tryz.ntmps125
  go_wp2_with (go_at_call 124; refine (index_any _ _ _).mono ?_; rintro e w' ⟨rfl, rfl⟩)
  go_ret
  exact ⟨rfl, rfl⟩
theorem ix_none : ∀ (l : List UInt8) (c : UInt8), c ∉ l → Lib.indexByte l c = -1
  | [], _, _ => rfl
  | a :: l, c, h => by
    have h1 : (a == c) = false := by rw [beq_eq_false_iff_ne]; exact fun e => h (by simp [e])
    unfold Lib.indexByte
    rw [h1, ix_none l c (fun m => h (by simp [m]))]; rfl
theorem ix_end : ∀ (l : List UInt8) (c : UInt8), c ∉ l → Lib.indexByte (l ++ [c]) c = (l.length : Int)
  | [], c, _ => by simp [Lib.indexByte]
  | a :: l, c, h => by
    have h1 : (a == c) = false := by rw [beq_eq_false_iff_ne]; exact fun e => h (by simp [e])
    have h2 : ((l.length : Int) == -1) = false := by rw [beq_eq_false_iff_ne]; omega
    rw [List.cons_append]
    unfold Lib.indexByte
    rw [h1, ix_end l c (fun m => h (by simp [m])), h2]; simp
theorem ext_list2 (l : List UInt8) (a b : Nat) : (⟨l.toArray⟩ : ByteArray).extract a b = ⟨((l.drop a).take (b - a)).toArray⟩ := by
  have h := Lib.extract_data (⟨l.toArray⟩ : ByteArray) a b
  apply ByteArray.ext
  rw [← Array.toArray_toList (xs := ((⟨l.toArray⟩ : ByteArray).extract a b).data), h]
set_option maxRecDepth 100000 in
set_option maxHeartbeats 4000000 in
/-- the quick road -/
theorem unquote_of (s t bd : ByteArray) (n : Nat) (w : World) (hn : n ≤ 1000000) (hz : s.size = n + 2) (h0 : (s[0]'(by omega)).toNat = 34)
    (e1 : s.extract 1 (n + 2) = t) (e2 : s.extract 0 (n + 2) = s) (e3 : s.extract 1 (n + 1) = bd)
    (hi : Lib.indexByte t.data.toList 34 = (n : Int)) (hb : Lib.indexByte s.data.toList 92 = -1) (hl : Lib.indexByte s.data.toList 10 = -1) (hv : Lib.validD bd.data.toList = true) (hbs : bd.size ≤ 1000000) (hT : Tab.Tabs w) :
    Calls Tryz.prog 104 #[.string s, .bool true] w fun e w' => e = .returned (.tuple #[.string bd, .string ⟨#[]⟩, .nilIface]) ∧ Below w.heap.size w w' := by
  have hu := fun W (hW : Lib.Utf8Tabs 4 5 W) => (Go.Proofs.Any.utf8_ValidString Tryz.lays196 bd W (by omega) hW)
  rw [hv] at hu
  have hc1 := fun W => contains_of s 92 false (by rw [show ((92 : Int).toNat.toUInt8) = 92 from rfl, hb]; rfl) W
  have hc2 := fun W => contains_of s 10 false (by rw [show ((10 : Int).toNat.toUInt8) = 10 from rfl, hl]; rfl) W
  have hix := fun W => index_any t 34 W
  rw [show ((34 : Int).toNat.toUInt8) = 34 from rfl, hi] at hix
  have HU := Lib.hid hu; have HC1 := Lib.hid hc1; have HC2 := Lib.hid hc2; have HI := Lib.hid hix; have HT := Lib.hid hT
  clear hu hc1 hc2 hix hT hi hb hl hv
  go_enter Tryz.func104, Tryz.ntmps104
  go_wp2_with (first
    | (go_at_call 124; refine (HI.out _).mono ?_; rintro e w' ⟨rfl, rfl⟩)
    | (go_at_call 125; ((with_reducible refine (HC1.out _).mono ?_); rintro e w' ⟨rfl, rfl⟩))
    | (go_at_call 125; ((with_reducible refine (HC2.out _).mono ?_); rintro e w' ⟨rfl, rfl⟩))
    | (go_at_call 126; refine (HU.out _ HT.out.utf).mono ?_; rintro e w1 ⟨rfl, hb1⟩) | fail)
  go_quiet (fail)
  go_wp2
  go_ret3
  refine ⟨?_, Val.bdrewN hb1 nq⟩
  simp
  exact ⟨e3, rfl⟩
set_option maxHeartbeats 1000000 in
theorem unq_any (body : List UInt8) (w : World) (h34 : 34 ∉ body) (h92 : 92 ∉ body) (h10 : 10 ∉ body) (hv : Lib.validD body = true) (hl : body.length ≤ 100000) (hT : Tab.Tabs w) :
    Calls Tryz.prog 74 #[.string ⟨(34 :: (body ++ [34])).toArray⟩] w fun e w' => e = .returned (.tuple #[.string ⟨body.toArray⟩, .nilIface]) ∧ Below w.heap.size w w' := by
  have hz : (⟨(34 :: (body ++ [34])).toArray⟩ : ByteArray).size = body.length + 2 := by show (34 :: (body ++ [34])).toArray.size = _; simp
  have hu := unquote_of ⟨(34 :: (body ++ [34])).toArray⟩ ⟨(body ++ [34]).toArray⟩ ⟨body.toArray⟩ body.length w (by omega) hz rfl
    (by rw [ext_list2, List.take_of_length_le (by simp)]; rfl) (by rw [ext_list2, List.take_of_length_le (by simp)]; rfl)
    (by rw [ext_list2, List.drop_succ_cons, List.drop_zero, show body.length + 1 - 1 = body.length by omega, List.take_left' rfl])
    (ix_end body 34 h34) (ix_none _ 92 (by simp [h92])) (ix_none _ 10 (by simp [h10])) hv (by show body.toArray.size ≤ _; simp; omega) hT
  have HU := Lib.hid hu
  clear hu hz h34 h92 h10 hv hT
  go_enter Tryz.func74, Tryz.ntmps74
  go_wp2_with (go_at_call 104; refine HU.out.mono ?_; rintro e w1 ⟨rfl, hb1⟩)
  go_ret2
  exact ⟨rfl, hb1⟩
end Go.Proofs.YtceplbanfpnhbaaGreatDoor.Unq
